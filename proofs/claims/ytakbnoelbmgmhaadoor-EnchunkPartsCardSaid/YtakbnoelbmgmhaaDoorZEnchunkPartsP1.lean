import Derived.Test.YtakbnoelbmgmhaaDoorZEnchunkPartsP0
import Derived.Test.YtakbnoelbmgmhaaDoorProg
import Derived.SizedLaws
import Derived.ChangeSlices
import Derived.Below
import Derived.Outline
import Derived.Shelf.Vars
import Derived.Test.YtakbnoelbmgmhaaDoorRows
import Derived.LaidSub
import Derived.MakeChecks
import Derived.ProofKit
import Derived.OpenShut
import Derived.LaidMore
import Derived.Laws.BitsLemmas
import Derived.Laws.Bits64b
import Derived.Laws.Slices
import Derived.Deep.CutBlock
import Derived.WalkKit
import Derived.RowKit3
import Derived.Shelf.Strings.Builder1
import Derived.Shelf.Strings.Trim
import Derived.Shelf.Small.Utf8
import Derived.Shelf.Small.Strs
import Derived.Shelf.Strconv.Itoa0
import Derived.Shelf.Strconv.Itoa1
import Derived.Shelf.LaysM
import Derived.Shelf.Strconv.Itoa2
import Derived.Shelf.Strings.Search1
import Derived.Shelf.Unicode.Decode
import Derived.Shelf.Strings.Runes
import Derived.Shelf.Strings.AsciiSet
import Derived.Shelf.Unicode.DecodeSlow
import Derived.Shelf.Unicode.DecodeAny
import Derived.Shelf.Unicode.DecodeLast
import Derived.Ground.SlbCloneProg
import Derived.Shelf.Bytes.SlClone
import Derived.Ground.SlbNamesProg
import Derived.Shelf.Bytes.SlJoin
import Derived.Lib.SlFresh
import Derived.Lib.SlParts
import Derived.Laws.BytesArg
import Derived.RangeFuncNested
import Derived.RangeFuncBound
import Derived.RangeFuncCalls
import Derived.RangeFuncBox
import Derived.Lib.Bytealg
import Derived.Shelf.Strings.SlTrimAscii
namespace Go.Proofs.YtakbnoelbmgmhaaDoorW.PrintWords
end Go.Proofs.YtakbnoelbmgmhaaDoorW.PrintWords
namespace Go.Proofs.YtakbnoelbmgmhaaDoorW.PrintLast
end Go.Proofs.YtakbnoelbmgmhaaDoorW.PrintLast
namespace Go.Proofs.YtakbnoelbmgmhaaDoorW.PrintMore
end Go.Proofs.YtakbnoelbmgmhaaDoorW.PrintMore
namespace Go.Proofs.YtakbnoelbmgmhaaDoorH
end Go.Proofs.YtakbnoelbmgmhaaDoorH
section
namespace Go.Proofs.YtakbnoelbmgmhaaDoorH
open Go.RowKit Go.Proofs.YtakbnoelbmgmhaaDoorW.PrintWords Go.Proofs.YtakbnoelbmgmhaaDoorW.PrintLast Go.Proofs.YtakbnoelbmgmhaaDoorW.PrintMore
def MxOk (w : World) : Prop := ∃ m : Int, w.cell? ⟨0, 0, none⟩ = some (.int .i64 m)
theorem MxOk.below {w w1 : World} (h : MxOk w) (hb : Below w.heap.size w w1) : MxOk w1 := by
  obtain ⟨m, hm⟩ := h
  exact ⟨m, pw_cell_below hb hm⟩
theorem MxOk.of_shaped {w : World} (h : w.ShapedOpen Tryd.prog) : MxOk w := by
  exact Go.Proofs.cell_of_shapedOpen_int (zero := #[.int .i64 0]) (t := 3) h (of_decide_eq_true (by kernel_rfl)) (by kernel_rfl) rfl (by kernel_rfl) (by kernel_rfl) Tryd.underlying3
structure TabOk (w : World) : Prop where
  c0 : w.cell? ⟨2, 0, none⟩ = some (.int .u8 48)
  c1 : w.cell? ⟨2, 1, none⟩ = some (.int .u8 57)
  c2 : w.cell? ⟨2, 2, none⟩ = some (.int .u8 65)
  c3 : w.cell? ⟨2, 3, none⟩ = some (.int .u8 90)
  c4 : w.cell? ⟨2, 4, none⟩ = some (.int .u8 97)
  c5 : w.cell? ⟨2, 5, none⟩ = some (.int .u8 122)
  mx : MxOk w
theorem TabOk.below {w w1 : World} (h : TabOk w) (hb : Below w.heap.size w w1) : TabOk w1 :=
  ⟨pw_cell_below hb h.c0, pw_cell_below hb h.c1, pw_cell_below hb h.c2, pw_cell_below hb h.c3, pw_cell_below hb h.c4, pw_cell_below hb h.c5, h.mx.below hb⟩
theorem TabOk.drawn {w w1 : World} (h : TabOk w) (hb : Drawn0 w w1) : TabOk w1 := h.below hb.below
theorem TabOk.drewN {w : World} (h : TabOk w) (n : Nat) : TabOk (w.drewN n) := h.drawn ⟨⟨n, rfl⟩⟩
theorem TabOk.lt {w : World} (h : TabOk w) : 2 < w.heap.size := World.block_lt_of_cell? w _ h.c0
end Go.Proofs.YtakbnoelbmgmhaaDoorH
end
section
namespace Go.Proofs.YtakbnoelbmgmhaaDoorH
open Go.RowKit Go.ChangeShapes Go.WideShapes Go.ChangeAt
theorem two_of {α : Type} {l : List α} (h : l.length = 2) : ∃ a b, l = [a, b] := by
  match l, h with
  | [a, b], _ => exact ⟨a, b, rfl⟩
theorem three_of {α : Type} {l : List α} (h : l.length = 3) : ∃ a b c, l = [a, b, c] := by
  match l, h with
  | [a, b, c], _ => exact ⟨a, b, c, rfl⟩
theorem six_of {α : Type} {l : List α} (h : l.length = 6) : ∃ a b c d e f, l = [a, b, c, d, e, f] := by
  match l, h with
  | [a, b, c, d, e, f], _ => exact ⟨a, b, c, d, e, f, rfl⟩
theorem cells_of_one {W : World} {cs : List Value} {y : DataW Unit × List MemPlace} {m : Nat} {x0 : Int}
    (hd : DataW.trod (fun _ => ()) Tryd.prog W 0 (fun _ => true) false m 5 cs = some y) (hy : y.1 = .lit (.int .u8 x0)) : cs = [.int .u8 x0] := by
  obtain ⟨n, e1, e2, _⟩ := DataW.trod_int Tryd.underlying5 hd
  rw [e2] at hy
  simp only [DataW.lit.injEq, Lit.int.injEq, true_and] at hy
  rw [e1, hy]
theorem cells_of_pair {W : World} {cs : List Value} {y : DataW Unit × List MemPlace} {m : Nat} {x0 x1 : Int}
    (hd : DataW.trod (fun _ => ()) Tryd.prog W 0 (fun _ => true) false m 127 cs = some y) (hy : y.1 = .agg [.lit (.int .u8 x0), .lit (.int .u8 x1)]) :
    cs = [.int .u8 x0, .int .u8 x1] := by
  have c5 : Tryd.prog.cellsOf 5 = 1 := by kernel_rfl
  have c2 : Tryd.prog.cellsOf 127 = 2 := by kernel_rfl
  obtain ⟨xs, m, _, ex, hn, hl, hel⟩ := DataW.trod_array Tryd.underlying127 hd
  rw [c2] at hn
  obtain ⟨a, b, rfl⟩ := two_of hn
  obtain ⟨u, v, rfl⟩ := two_of hl
  · rw [ex] at hy
    simp only [List.map_cons, List.map_nil, DataW.agg.injEq, List.cons.injEq, and_true] at hy
    have h0 := hel 0 (by omega)
    have h1 := hel 1 (by omega)
    simp only [c5] at h0 h1
    have e0 := cells_of_one (y := u) (by simpa using h0) hy.1
    have e1 := cells_of_one (y := v) (by simpa using h1) hy.2
    simp at e0 e1
    rw [e0, e1]
theorem cells_of_pairs {W : World} {cs : List Value} {y : DataW Unit × List MemPlace} {m : Nat} {x0 x1 x2 x3 x4 x5 : Int}
    (hd : DataW.trod (fun _ => ()) Tryd.prog W 0 (fun _ => true) false m 128 cs = some y)
    (hy : y.1 = .agg [.agg [.lit (.int .u8 x0), .lit (.int .u8 x1)], .agg [.lit (.int .u8 x2), .lit (.int .u8 x3)], .agg [.lit (.int .u8 x4), .lit (.int .u8 x5)]]) :
    cs = [.int .u8 x0, .int .u8 x1, .int .u8 x2, .int .u8 x3, .int .u8 x4, .int .u8 x5] := by
  have c2 : Tryd.prog.cellsOf 127 = 2 := by kernel_rfl
  have c6 : Tryd.prog.cellsOf 128 = 6 := by kernel_rfl
  obtain ⟨xs, m, _, ex, hn, hl, hel⟩ := DataW.trod_array Tryd.underlying128 hd
  rw [c6] at hn
  obtain ⟨a, b, c, d, e, f, rfl⟩ := six_of hn
  obtain ⟨u, v, z, rfl⟩ := three_of hl
  · rw [ex] at hy
    simp only [List.map_cons, List.map_nil, DataW.agg.injEq, List.cons.injEq, and_true] at hy
    have h0 := hel 0 (by omega)
    have h1 := hel 1 (by omega)
    have h2 := hel 2 (by omega)
    simp only [c2] at h0 h1 h2
    have e0 := cells_of_pair (y := u) (by simpa using h0) hy.1
    have e1 := cells_of_pair (y := v) (by simpa using h1) hy.2.1
    have e2 := cells_of_pair (y := z) (by simpa using h2) hy.2.2
    simp at e0 e1 e2
    rw [e0.1, e0.2, e1.1, e1.2, e2.1, e2.2]
theorem tabOk_of_laid {W : World} {L : List (String × DataW Unit)} (h : laidMetH Tryd.prog L W) (hp : (L.all fun x => x.2.handleName?.isNone) = true)
    (hf : L.filter (fun x => x.1 == "catchpit/octet.ends") = [("catchpit/octet.ends", Go.Proofs.YtakbnoelbmgmhaaDoor.Rows.laid_catchpit_octet_ends)]) (hs : W.ShapedOpen Tryd.prog) : TabOk W := by
  rw [MakeChecks.laidMetH_plain _ _ _ hp] at h
  have h2 := laidMet.filter (fun x => x.1 == "catchpit/octet.ends") h
  rw [hf] at h2
  obtain ⟨ps, ⟨g, t, cs, fuel, p, q, hg, ht, hv, hd, _, _⟩, _, _⟩ := h2
  obtain rfl := Option.some.inj ((show Tryd.prog.globalNamed "catchpit/octet.ends" = some 2 by kernel_rfl).symm.trans hg)
  obtain rfl := Option.some.inj ((show (Tryd.prog.globals[2]?).map (·.type) = some 128 by kernel_rfl).symm.trans ht)
  have e := cells_of_pairs hd rfl
  have hc := World.var?_cell hg hv
  have at_ : ∀ j, cs[j]? = cs.toList[j]? := fun j => (Array.getElem?_toList ..).symm
  rw [e] at at_
  exact ⟨(hc 0).trans (at_ 0), (hc 1).trans (at_ 1), (hc 2).trans (at_ 2), (hc 3).trans (at_ 3), (hc 4).trans (at_ 4), (hc 5).trans (at_ 5), MxOk.of_shaped hs⟩
end Go.Proofs.YtakbnoelbmgmhaaDoorH
end
section
namespace Go.Proofs.YtakbnoelbmgmhaaDoorH
open Go.RowKit Go.ChangeShapes Go.WideShapes Go.ChangeAt Go.Proofs.YtakbnoelbmgmhaaDoorW.PrintWords
def TabZ (w : World) : Prop := w.cell? ⟨5, 15, none⟩ = some (.int .u8 4)
theorem TabZ.below {w w1 : World} (h : TabZ w) (hb : Below w.heap.size w w1) : TabZ w1 := pw_cell_below hb h
def kidsOf : DataW Unit → List (DataW Unit)
  | .agg l => l
  | _ => []
theorem tabZ_of_laid {W : World} {L : List (String × DataW Unit)} (h : laidMetH Tryd.prog L W) (hp : (L.all fun x => x.2.handleName?.isNone) = true)
    (hf : L.filter (fun x => x.1 == "math/bits.deBruijn64tab") = [("math/bits.deBruijn64tab", Go.Proofs.YtakbnoelbmgmhaaDoor.Rows.laid_math_bits_deBruijn64tab)]) (_hs : W.ShapedOpen Tryd.prog) : TabZ W := by
  have c5 : Tryd.prog.cellsOf 5 = 1 := by kernel_rfl
  rw [MakeChecks.laidMetH_plain _ _ _ hp] at h
  have h2 := laidMet.filter (fun x => x.1 == "math/bits.deBruijn64tab") h
  rw [hf] at h2
  obtain ⟨ps, ⟨g, t, cs, fuel, p, q, hg, ht, hv, hd, _, _⟩, _, _⟩ := h2
  obtain rfl := Option.some.inj ((show Tryd.prog.globalNamed "math/bits.deBruijn64tab" = some 5 by kernel_rfl).symm.trans hg)
  obtain rfl := Option.some.inj ((show (Tryd.prog.globals[5]?).map (·.type) = some 136 by kernel_rfl).symm.trans ht)
  have hc := World.var?_cell hg hv
  have at_ : ∀ j, cs[j]? = cs.toList[j]? := fun j => (Array.getElem?_toList ..).symm
  obtain ⟨xs, m, _, ex, hn, hl, hel⟩ := DataW.trod_array Tryd.underlying136 hd
  have h15 := hel 15 (by omega)
  have e : kidsOf Go.Proofs.YtakbnoelbmgmhaaDoor.Rows.laid_math_bits_deBruijn64tab = xs.map (·.1) := congrArg (fun y => kidsOf y.1) ex
  have hx : (xs.map (·.1))[15]? = some (.lit (.int .u8 4)) := by
    rw [← e]
    rfl
  simp only [c5] at h15
  rw [List.getElem?_map] at hx
  obtain ⟨y, hy, hy2⟩ := Option.map_eq_some_iff.1 hx
  have e0 := cells_of_one (y := y) (h15.trans hy) hy2
  refine (hc 15).trans ((at_ 15).trans ?_)
  have := congrArg (fun l => l[0]?) e0
  simpa using this
end Go.Proofs.YtakbnoelbmgmhaaDoorH
end
section
namespace Go.Proofs.YtakbnoelbmgmhaaDoorH
open Go.RowKit Go.Proofs.YtakbnoelbmgmhaaDoorW.PrintWords Go.Proofs.YtakbnoelbmgmhaaDoorW.PrintLast Go.Proofs.YtakbnoelbmgmhaaDoorW.PrintMore
def hexD (n : Nat) : Int := if n < 10 then 48 + n else 87 + n
def hexL (n : Nat) : List Int := if _h : n < 16 then [hexD n] else hexL (n / 16) ++ [hexD (n % 16)]
termination_by n
decreasing_by omega
theorem hexL_lt {n : Nat} (h : n < 16) : hexL n = [hexD n] := by rw [hexL, dif_pos h]
theorem hexL_ge {n : Nat} (h : 16 ≤ n) : hexL n = hexL (n / 16) ++ [hexD (n % 16)] := by rw [hexL, dif_neg (by omega)]
theorem hexL_pos (n : Nat) : 1 ≤ (hexL n).length := by
  by_cases h : n < 16
  · rw [hexL_lt h]; exact Nat.le_refl _
  · rw [hexL_ge (by omega), List.length_append, List.length_singleton]; omega
theorem hexL_le : ∀ (k n : Nat), n < 16 ^ (k + 1) → (hexL n).length ≤ k + 1
  | 0, n, h => by
    rw [hexL_lt (by simpa using h)]
    exact Nat.le_refl _
  | k + 1, n, h => by
    by_cases h2 : n < 16
    · rw [hexL_lt h2]
      simp
    · rw [hexL_ge (by omega), List.length_append, List.length_singleton]
      have := hexL_le k (n / 16) (by
        rw [Nat.div_lt_iff_lt_mul (by decide)]
        calc n < 16 ^ (k + 1 + 1) := h
          _ = 16 ^ (k + 1) * 16 := Nat.pow_succ ..)
      omega
theorem hexL_le16 {n : Nat} (h : n < 18446744073709551616) : (hexL n).length ≤ 16 := hexL_le 15 n (by simpa using h)
theorem hexD_ok {n : Nat} (h : n < 16) : 0 ≤ hexD n ∧ hexD n ≤ 255 := by
  unfold hexD
  split <;> omega
end Go.Proofs.YtakbnoelbmgmhaaDoorH
end
section
namespace Go.Proofs.YtakbnoelbmgmhaaDoorH
open Go.RowKit Go.Proofs.YtakbnoelbmgmhaaDoorW.PrintWords Go.Proofs.YtakbnoelbmgmhaaDoorW.PrintLast Go.Proofs.YtakbnoelbmgmhaaDoorW.PrintMore
set_option maxHeartbeats 1600000 in
set_option maxRecDepth 100000 in
theorem tz64_calls (w : World) (hT : TabZ w) :
    Calls Tryd.prog 76 #[.int .u64 16] w fun e w' => e = .returned (.int .i64 4) ∧ w' = w := by
  unfold TabZ at hT
  have h1 : IntKind.u64.wrap (-16) = 18446744073709551600 := by decide +kernel
  have h2 : bits BinOp.and IntKind.u64 16 18446744073709551600 = 16 := by decide +kernel
  have h3 : IntKind.u64.wrap 4573923408821661840 = 4573923408821661840 := by decide +kernel
  go_enter Tryd.func76, Tryd.ntmps76
  go_wp2
  go_ret
  exact ⟨rfl, rfl⟩
set_option maxHeartbeats 1600000 in
set_option maxRecDepth 100000 in
theorem tz_calls (w : World) (hT : TabZ w) :
    Calls Tryd.prog 67 #[.int .u64 16] w fun e w' => e = .returned (.int .i64 4) ∧ w' = w := by
  have h1 := tz64_calls w hT
  clear hT
  go_enter Tryd.func67, Tryd.ntmps67
  go_wp2_with fail
  refine h1.mono ?_
  rintro e w' ⟨rfl, rfl⟩
  go_wp2
  go_ret
  exact ⟨rfl, rfl⟩
theorem add_plain2 (b o i : Nat) : (⟨b, o, none⟩ : Addr).add i = ⟨b, o + i, none⟩ := by unfold Addr.add; split <;> simp_all
def hexS (n : Nat) : ByteArray := strOfNums (hexL n)
abbrev digs : ByteArray := ⟨#[48, 49, 50, 51, 52, 53, 54, 55, 56, 57, 97, 98, 99, 100, 101, 102, 103, 104, 105, 106, 107, 108, 109, 110, 111, 112, 113, 114, 115, 116, 117, 118, 119, 120, 121, 122]⟩
def Tail (W : World) (b : Nat) (s : List Int) : Prop := ∃ (cs : Array Value) (T : TypeId), W.heap[b]? = some (.cells cs T (0, 0)) ∧ cs.size = 65 ∧ ∀ (j : Nat) (y : Int), s[j]? = some y → cs[65 - s.length + j]? = some (.int .u8 y)
theorem Tail.put {W : World} {b : Nat} {s : List Int} (h : Tail W b s) (hs : s.length < 65) (y : Int) : Tail (W.setCell ⟨b, 64 - s.length, none⟩ (.int .u8 y)) b (y :: s) := by
  obtain ⟨cs, T, hb, hz, hc⟩ := h
  refine ⟨cs.setIfInBounds (64 - s.length) (.int .u8 y), T, blk_put hb _ _ rfl, by simpa using hz, fun j x hx => ?_⟩
  rw [List.length_cons]
  cases j with
  | zero =>
    obtain rfl : y = x := by simpa using hx
    rw [show 65 - (s.length + 1) + 0 = 64 - s.length by omega, Array.getElem?_setIfInBounds_self_of_lt (by omega)]
  | succ j =>
    have hx : s[j]? = some x := by simpa using hx
    rw [show 65 - (s.length + 1) + (j + 1) = 65 - s.length + j by omega, Array.getElem?_setIfInBounds_ne (by omega)]
    exact hc j x hx
theorem Tail.reads {W : World} {b : Nat} {s : List Int} (h : Tail W b s) (hs : s.length ≤ 65) : Kd.C (Kd.int .u8) W (some ⟨b, 65 - s.length, none⟩) s.length s := by
  obtain ⟨cs, T, hb, hz, hc⟩ := h
  refine ⟨rfl, by omega, fun _ => ⟨_, rfl, fun j y hy => ⟨[.int .u8 y], rfl, rfl, fun i u hu => ?_⟩⟩⟩
  have : i = 0 ∧ .int .u8 y = u := by
    cases i with
    | zero => exact ⟨rfl, by simpa using hu⟩
    | succ i => simp at hu
  obtain ⟨rfl, rfl⟩ := this
  have hx := hc j y hy
  show W.cell? ((⟨b, 65 - s.length, none⟩ : Addr).add (j * 1 + 0)) = _
  rw [add_plain2, show 65 - s.length + (j * 1 + 0) = 65 - s.length + j by omega]
  exact (blk_cell hb _).trans hx
set_option maxHeartbeats 1600000 in
set_option maxRecDepth 100000 in
theorem pow2_calls (w : World) : Calls Tryd.prog 66 #[.int .i64 16] w fun e w' => e = .returned (.bool true) ∧ w' = w := by
  have h2 : bits BinOp.and IntKind.i64 16 15 = 0 := by decide +kernel
  go_enter Tryd.func66, Tryd.ntmps66
  go_wp2
  go_ret
  exact ⟨rfl, rfl⟩
theorem digs_at (d : Nat) (h : d < 16) (h2 : d < digs.size) : ((digs[d].toNat : Nat) : Int) = hexD d := by
  have : d = 0 ∨ d = 1 ∨ d = 2 ∨ d = 3 ∨ d = 4 ∨ d = 5 ∨ d = 6 ∨ d = 7 ∨ d = 8 ∨ d = 9 ∨ d = 10 ∨ d = 11 ∨ d = 12 ∨ d = 13 ∨ d = 14 ∨ d = 15 := by omega
  rcases this with rfl | rfl | rfl | rfl | rfl | rfl | rfl | rfl | rfl | rfl | rfl | rfl | rfl | rfl | rfl | rfl <;> rfl
theorem and15 (u : Nat) (h : u < 18446744073709551616) : bits BinOp.and IntKind.u64 (u : Int) 15 = ((u % 16 : Nat) : Int) := by
  have e := bits_and_u64_nat u 15 h (by decide)
  rw [Nat.and_two_pow_sub_one_eq_mod u 4] at e
  exact e
theorem Tail.new {W : World} (cs : Array Value) (T : TypeId) (h : cs.size = 65) : Tail (W.alloc (.cells cs T)) W.heap.size [] := ⟨cs, T, heap_alloc_new W _, h, fun j y hy => by simp at hy⟩
set_option maxHeartbeats 4000000 in
set_option maxRecDepth 100000 in
theorem formatBits_calls (n : Nat) (hn : n < 18446744073709551616) (w : World) (hT : TabZ w) :
    Calls Tryd.prog 56 #[.slice none 0 0, .int .u64 n, .int .i64 16, .bool false, .bool false] w fun e w' => e = .returned (.tuple #[.slice none 0 0, .string (hexS n)]) ∧ Below w.heap.size w w' := by
  have HTZ := Aside0.mk (fun W (h : Below w.heap.size w W) => (TabZ.below hT h : TabZ W))
  have HL := Aside0.mk (hexL_le16 hn)
  clear hT
  go_enter Tryd.func56, Tryd.ntmps56
  go_wp2_with fail
  refine (pow2_calls _).mono ?_
  rintro e w1 ⟨rfl, h1⟩
  have B1 := Aside0.mk (show Below w.heap.size w w1 by rw [h1]; exact (Below.refl _ _).alloc (Nat.le_refl _) _)
  have T1 := Aside0.mk (show Tail w1 w.heap.size [] by rw [h1]; exact Tail.new _ _ rfl)
  clear h1
  go_wp2_with fail
  refine (tz_calls w1 (HTZ.out _ B1.out)).mono ?_
  rintro e w2 ⟨rfl, rfl⟩
  go_wp2_with fail
  go_loopw [1, 13] (fun u1 u13 wr => ∃ (u k : Nat) (s : List Int), u1 = .int .u64 (u : Int) ∧ u13 = .int .i64 (65 - (k : Int)) ∧ k ≤ 15 ∧ u ≤ n ∧ Aside0 (s.length = k) ∧ Aside0 (hexL n = hexL u ++ s) ∧ Aside0 (Tail wr w.heap.size s) ∧ Aside0 (Below w.heap.size w wr)) (fun u1 _ _ => (intOf u1).toNat)
  case atStart => exact ⟨n, 0, [], rfl, rfl, by decide, Nat.le_refl _, ⟨rfl⟩, ⟨by simp⟩, T1, B1⟩
  case round =>
    obtain ⟨u, k, s, rfl, rfl, hk, hun, hs, he, ht, hb⟩ := hrel
    by_cases h16 : 16 ≤ u
    · have h16' : (16 : Int) ≤ (u : Int) := by omega
      have hw1 : IntKind.i64.wrap (65 - (k : Int) - 1) = 64 - (k : Int) := by
        unfold IntKind.wrap
        simp [IntKind.bits, IntKind.signed]
        omega
      obtain ⟨d, hd⟩ : ∃ d : Nat, u % 16 = d := ⟨_, rfl⟩
      have hd16 : d < 16 := by omega
      have ha := and15 u (by omega)
      rw [hd] at ha
      obtain ⟨cs, T, hb0, hz, hc⟩ := ht.out
      have cc := (blk_cell hb0 (64 - k)).trans (Array.getElem?_eq_getElem (show 64 - k < cs.size by omega))
      have fc := blk_frozen hb0 (64 - k)
      have hd0 : (0 : Int) ≤ (d : Int) := by omega
      have hd1 : (d : Int) < 36 := by omega
      go_wp2
      go_roundw
      case rel =>
        refine ⟨u / 16, k + 1, hexD d :: s, by simp, by simp; omega, ?_, by omega, ⟨by rw [List.length_cons, hs.out]⟩, ⟨?_⟩, ⟨?_⟩, ⟨Below.setCell hb.out (p := ⟨w.heap.size, _, none⟩) (Nat.le_refl _) _⟩⟩
        · have h1 := HL.out
          have h2 := hexL_pos (u / 16)
          have h3 := hs.out
          rw [he.out, hexL_ge h16, List.length_append, List.length_append, List.length_singleton] at h1
          omega
        · rw [he.out, hexL_ge h16, hd, List.append_assoc, List.singleton_append]
        · rw [digs_at d hd16]
          have h := ht.out.put (by rw [hs.out]; omega) (hexD d)
          rw [hs.out] at h
          exact h
      case measure =>
        simp [intOf]
        omega
    · have h16' : ¬ (16 : Int) ≤ (u : Int) := by omega
      have hw1 : IntKind.i64.wrap (65 - (k : Int) - 1) = 64 - (k : Int) := by
        unfold IntKind.wrap
        simp [IntKind.bits, IntKind.signed]
        omega
      obtain ⟨cs, T, hb0, hz, hc⟩ := ht.out
      have cc := (blk_cell hb0 (64 - k)).trans (Array.getElem?_eq_getElem (show 64 - k < cs.size by omega))
      have fc := blk_frozen hb0 (64 - k)
      have hd0 : (0 : Int) ≤ (u : Int) := by omega
      have hd1 : (u : Int) < 36 := by omega
      have ht2 := fun y => ht.out.put (by rw [hs.out]; omega) y
      have hcv : ∀ y : Int, (convert 25 9 (.slice (some ⟨w.heap.size, 64 - k, none⟩) (k + 1) (k + 1))).run Tryd.prog (wr.setCell ⟨w.heap.size, 64 - k, none⟩ (.int .u8 y)) = .ok (.string (strOfNums (y :: s))) (wr.setCell ⟨w.heap.size, 64 - k, none⟩ (.int .u8 y)) := fun y => by
        have h := Kd.C_string (P := Tryd.prog) Tryd.underlying25 Tryd.underlying5 Tryd.underlying9 (n := (y :: s).length) (c := (y :: s).length) ((ht2 y).reads (by rw [List.length_cons, hs.out]; omega))
        rw [List.length_cons, hs.out, show 65 - (k + 1) = 64 - k by omega] at h
        exact h
      clear ht2
      have hal : Tryd.prog.arrayLen 123 = 65 := by kernel_rfl
      have hel : Tryd.prog.elem 123 = 5 := by kernel_rfl
      have hsl : ∀ W, (Instr.sliceAt 123 (.pointer (some ⟨w.heap.size, 0, none⟩)) (some (.int .i64 (64 - (k : Int)))) none none).run Tryd.prog W = .ok (.slice (some ⟨w.heap.size, 64 - k, none⟩) (k + 1) (k + 1)) W := fun W => by
        rw [run_sliceAt_array_l W 123 ⟨w.heap.size, 0, none⟩ (by rw [hal, hel]; exact Tryd.underlying123) .i64 (64 - (k : Int)) (by omega) (by rw [hal]; omega), hal, hel]
        have hsz : (Go.sizeOf 5).run Tryd.prog W = .ok 1 W := by kernel_rfl
        rw [hsz]
        simp [Result.andThen, slicedAt, add_plain2]
        omega
      clear hal hel
      go_wp2
      rw [digs_at u (by omega)]
      go_ret2
      refine ⟨?_, Below.setCell hb.out (p := ⟨w.heap.size, _, none⟩) (Nat.le_refl _) _⟩
      rw [show hexS n = strOfNums (hexD u :: s) by unfold hexS; rw [he.out, hexL_lt (by omega), List.singleton_append]]
      rfl
set_option maxHeartbeats 1600000 in
set_option maxRecDepth 100000 in
theorem iformat_calls (n : Nat) (hn : n < 18446744073709551616) (w : World) (hT : TabZ w) :
    Calls Tryd.prog 46 #[.int .u64 n, .int .i64 16] w fun e w' => e = .returned (.string (hexS n)) ∧ Below w.heap.size w w' := by
  have h1 := formatBits_calls n hn w hT
  clear hT
  go_enter Tryd.func46, Tryd.ntmps46
  go_wp2_with fail
  refine h1.mono ?_
  rintro e w' ⟨rfl, hb⟩
  clear h1
  go_wp2
  go_ret
  exact ⟨rfl, hb⟩
set_option maxHeartbeats 1600000 in
set_option maxRecDepth 100000 in
theorem sformat_calls (n : Nat) (hn : n < 18446744073709551616) (w : World) (hT : TabZ w) :
    Calls Tryd.prog 37 #[.int .u64 n, .int .i64 16] w fun e w' => e = .returned (.string (hexS n)) ∧ Below w.heap.size w w' := by
  have h1 := iformat_calls n hn w hT
  clear hT
  go_enter Tryd.func37, Tryd.ntmps37
  go_wp2_with fail
  refine h1.mono ?_
  rintro e w' ⟨rfl, hb⟩
  clear h1
  go_wp2
  go_ret
  exact ⟨rfl, hb⟩
set_option maxHeartbeats 1600000 in
set_option maxRecDepth 100000 in
theorem hput_calls (n : Nat) (hn : n < 18446744073709551616) (w : World) (hT : TabZ w) :
    Calls Tryd.prog 29 #[.int .u64 n] w fun e w' => e = .returned (.string (hexS n)) ∧ Below w.heap.size w w' := by
  have h1 := sformat_calls n hn w hT
  clear hT
  go_enter Tryd.func29, Tryd.ntmps29
  go_wp2_with fail
  refine h1.mono ?_
  rintro e w' ⟨rfl, hb⟩
  clear h1
  go_wp2
  go_ret
  exact ⟨rfl, hb⟩
theorem hexS_size (n : Nat) : (hexS n).size = (hexL n).length := strOfNums_size _
end Go.Proofs.YtakbnoelbmgmhaaDoorH
end
section
namespace Go.Proofs
open Go.Shelf
def Tryd.lays169_ren : Go.Shelf.Ren := ⟨fun | 169 => 40 | n => n, fun | 70 => 91 | 9 => 9 | 0 => 0 | 72 => 93 | 37 => 25 | 127 => 104 | 3 => 3 | 5 => 5 | n => n, fun | n => n⟩
theorem Tryd.lays169 : Go.Proofs.Lays.n169 Tryd.prog Tryd.lays169_ren := {
  mixed := by kernel_rfl
  f169 := Tryd.func40.trans (congrArg some (by kernel_rfl))
  t0 := Tryd.underlying0
  a0 := Tryd.isAgg0
  z0 := Tryd.sizeOf0
  v0 := Tryd.zeroValue0
  t3 := Tryd.underlying3
  a3 := Tryd.isAgg3
  z3 := Tryd.sizeOf3
  v3 := Tryd.zeroValue3
  t9 := Tryd.underlying9
  a9 := Tryd.isAgg9
  z9 := Tryd.sizeOf9
  v9 := Tryd.zeroValue9
  t37 := Tryd.underlying25
  a37 := Tryd.isAgg25
  z37 := Tryd.sizeOf25
  v37 := Tryd.zeroValue25
  t70 := Tryd.underlying91
  a70 := Tryd.isAgg91
  z70 := Tryd.sizeOf91
  v70 := Tryd.zeroValue91
  t72 := Tryd.underlying93
  a72 := Tryd.isAgg93
  z72 := Tryd.sizeOf93
  v72 := Tryd.zeroValue93
  t127 := Tryd.underlying104
  a127 := Tryd.isAgg104
  z127 := Tryd.sizeOf104
  v127 := Tryd.zeroValue104 }
theorem Tryd.Builder_Extra_169 : Builder.Extra Tryd.prog Tryd.lays169_ren := {
  sizeBuilder := by kernel_rfl
  liesBuilder := by kernel_rfl
  t5 := Tryd.underlying5
  a5 := Tryd.isAgg5
  z5 := Tryd.sizeOf5
  v5 := Tryd.zeroValue5
  infoByte := by kernel_rfl
  cellsByte := by kernel_rfl
  sizeByte := by kernel_rfl
  neB5 := by decide }
open Go.RowKit in
theorem Tryd.Builder_String_any (B b : Nat) (l : List UInt8) (w : World) (h : Lib.IsBuilder 93 5 B b (Lib.byteCells l) w) (hBw : B ≤ w.heap.size) :
    Calls Tryd.prog 40 #[.pointer (some ⟨b, 0, none⟩)] w fun e w' => e = .returned (.string ⟨l.toArray⟩) ∧ Below B w w' := Any.Builder_String_any Tryd.lays169 Tryd.Builder_Extra_169 B b l w h hBw
def Tryd.lays160_ren : Go.Shelf.Ren := ⟨fun | 160 => 80 | 232 => 84 | 231 => 83 | 227 => 85 | 234 => 87 | 233 => 86 | 236 => 89 | 235 => 88 | 228 => 90 | 271 => 93 | 151 => 92 | 197 => 91 | 120 => 96 | 152 => 95 | 260 => 94 | 137 => 70 | 119 => 97 | 224 => 98 | 225 => 99 | 217 => 77 | 266 => 82 | n => n, fun | 9 => 9 | 4 => 4 | 3 => 3 | 5 => 5 | 117 => 140 | 116 => 139 | 0 => 0 | 124 => 143 | 21 => 21 | 105 => 144 | 46 => 124 | 119 => 148 | 139 => 151 | 138 => 150 | n => n, fun | 3 => 6 | 4 => 7 | n => n⟩
theorem Tryd.lays160 : Go.Proofs.Lays.n160 Tryd.prog Tryd.lays160_ren := {
  mixed := by kernel_rfl
  f119 := Tryd.func97.trans (congrArg some (by kernel_rfl))
  f120 := Tryd.func96.trans (congrArg some (by kernel_rfl))
  f137 := Tryd.func70.trans (congrArg some (by kernel_rfl))
  f151 := Tryd.func92.trans (congrArg some (by kernel_rfl))
  f152 := Tryd.func95.trans (congrArg some (by kernel_rfl))
  f160 := Tryd.func80.trans (congrArg some (by kernel_rfl))
  f197 := Tryd.func91.trans (congrArg some (by kernel_rfl))
  f217 := Tryd.func77.trans (congrArg some (by kernel_rfl))
  f224 := Tryd.func98.trans (congrArg some (by kernel_rfl))
  f225 := Tryd.func99.trans (congrArg some (by kernel_rfl))
  f227 := Tryd.func85.trans (congrArg some (by kernel_rfl))
  f228 := Tryd.func90.trans (congrArg some (by kernel_rfl))
  f231 := Tryd.func83.trans (congrArg some (by kernel_rfl))
  f232 := Tryd.func84.trans (congrArg some (by kernel_rfl))
  f233 := Tryd.func86.trans (congrArg some (by kernel_rfl))
  f234 := Tryd.func87.trans (congrArg some (by kernel_rfl))
  f235 := Tryd.func88.trans (congrArg some (by kernel_rfl))
  f236 := Tryd.func89.trans (congrArg some (by kernel_rfl))
  f260 := Tryd.func94.trans (congrArg some (by kernel_rfl))
  f266 := Tryd.func82.trans (congrArg some (by kernel_rfl))
  f271 := Tryd.func93.trans (congrArg some (by kernel_rfl))
  t0 := Tryd.underlying0
  a0 := Tryd.isAgg0
  z0 := Tryd.sizeOf0
  v0 := Tryd.zeroValue0
  t3 := Tryd.underlying3
  a3 := Tryd.isAgg3
  z3 := Tryd.sizeOf3
  v3 := Tryd.zeroValue3
  t4 := Tryd.underlying4
  a4 := Tryd.isAgg4
  z4 := Tryd.sizeOf4
  v4 := Tryd.zeroValue4
  t5 := Tryd.underlying5
  a5 := Tryd.isAgg5
  z5 := Tryd.sizeOf5
  v5 := Tryd.zeroValue5
  t9 := Tryd.underlying9
  a9 := Tryd.isAgg9
  z9 := Tryd.sizeOf9
  v9 := Tryd.zeroValue9
  t21 := Tryd.underlying21
  a21 := Tryd.isAgg21
  z21 := Tryd.sizeOf21
  v21 := Tryd.zeroValue21
  t46 := Tryd.underlying124
  a46 := Tryd.isAgg124
  z46 := Tryd.sizeOf124
  v46 := Tryd.zeroValue124
  t105 := Tryd.underlying144
  a105 := Tryd.isAgg144
  z105 := Tryd.sizeOf144
  v105 := Tryd.zeroValue144
  t116 := Tryd.underlying139
  a116 := Tryd.isAgg139
  z116 := Tryd.sizeOf139
  t117 := Tryd.underlying140
  a117 := Tryd.isAgg140
  z117 := Tryd.sizeOf140
  v117 := Tryd.zeroValue140
  t119 := Tryd.underlying148
  a119 := Tryd.isAgg148
  z119 := Tryd.sizeOf148
  t124 := Tryd.underlying143
  a124 := Tryd.isAgg143
  z124 := Tryd.sizeOf143
  v124 := Tryd.zeroValue143
  t138 := Tryd.underlying150
  a138 := Tryd.isAgg150
  z138 := Tryd.sizeOf150
  v138 := Tryd.zeroValue150
  t139 := Tryd.underlying151
  a139 := Tryd.isAgg151
  z139 := Tryd.sizeOf151
  v139 := Tryd.zeroValue151
  g3 := by kernel_rfl
  g4 := by kernel_rfl }
def Tryd.laysSlJ14_ren : Go.Shelf.Ren := ⟨fun | 14 => 32 | 15 => 42 | n => n, fun | 26 => 36 | 22 => 25 | 3 => 3 | 4 => 4 | 0 => 0 | 9 => 9 | 20 => 20 | 5 => 5 | n => n, fun | n => n⟩
theorem Tryd.laysSlJ14 : Go.Proofs.SlLaysJ.n14 Tryd.prog Tryd.laysSlJ14_ren := {
  mixed := by kernel_rfl
  f14 := Tryd.func32.trans (congrArg some (by kernel_rfl))
  f15 := Tryd.func42.trans (congrArg some (by kernel_rfl))
  t0 := Tryd.underlying0
  a0 := Tryd.isAgg0
  z0 := Tryd.sizeOf0
  v0 := Tryd.zeroValue0
  t3 := Tryd.underlying3
  a3 := Tryd.isAgg3
  z3 := Tryd.sizeOf3
  v3 := Tryd.zeroValue3
  t4 := Tryd.underlying4
  a4 := Tryd.isAgg4
  z4 := Tryd.sizeOf4
  v4 := Tryd.zeroValue4
  t9 := Tryd.underlying9
  a9 := Tryd.isAgg9
  z9 := Tryd.sizeOf9
  v9 := Tryd.zeroValue9
  t20 := Tryd.underlying20
  a20 := Tryd.isAgg20
  z20 := Tryd.sizeOf20
  v20 := Tryd.zeroValue20
  t22 := Tryd.underlying25
  a22 := Tryd.isAgg25
  z22 := Tryd.sizeOf25
  v22 := Tryd.zeroValue25
  t26 := Tryd.underlying36
  a26 := Tryd.isAgg36
  z26 := Tryd.sizeOf36
  v26 := Tryd.zeroValue36
  t5 := Tryd.underlying5
  z5 := Tryd.sizeOf5
  i5 := by kernel_rfl }
open Go.RowKit Go.Lib in
theorem Tryd.bytes_Join_many (b o n c : Nat) (vs : List Value) (ls : List (List UInt8)) (sv : Value) (sep : List UInt8) (w : World) (hn : ls.length = n) (h2 : 2 ≤ n) (hP : Lib.PartsAt w ⟨b, o, none⟩ vs ls) (hcap : n ≤ c) (hS : Lib.HoldsBytes w sv sep) (hn47 : n ≤ 140737488355328) (hlen : Lib.lens ls + sep.length * (n - 1) ≤ 140737488355328) :
    Calls Tryd.prog 32 #[.slice (some ⟨b, o, none⟩) n c, sv] w fun e w' => ∃ v', e = .returned v' ∧ Lib.FreshBytes w.heap.size w' v' (Lib.join ls sep) ∧ Below w.heap.size w w' := Any.bytes_Join_many Tryd.laysSlJ14 b o n c vs ls sv sep w hn h2 hP hcap hS hn47 hlen
end Go.Proofs
end
section
namespace Go.Proofs.YtakbnoelbmgmhaaDoorH
open Go Go.RowKit Go.Proofs.YtakbnoelbmgmhaaDoorW.PrintWords Go.Proofs.YtakbnoelbmgmhaaDoorW.PrintLast Go.Proofs.YtakbnoelbmgmhaaDoorW.PrintMore
def ByteL (l : List Int) : Prop := ∀ x ∈ l, 0 ≤ x ∧ x ≤ 255
def u8s (l : List Int) : List UInt8 := l.map fun x => UInt8.ofNat x.toNat
theorem u8s_length (l : List Int) : (u8s l).length = l.length := List.length_map ..
theorem u8_back {x : Int} (h : 0 ≤ x ∧ x ≤ 255) : ((UInt8.ofNat x.toNat).toNat : Int) = x := by
  rw [UInt8.toNat_ofNat']
  omega
def ofU8 (l : List UInt8) : List Int := l.map fun x => (x.toNat : Int)
theorem ofU8_u8s {l : List Int} (h : ByteL l) : ofU8 (u8s l) = l := by
  unfold ofU8 u8s
  rw [List.map_map]
  conv => rhs; rw [← List.map_id l]
  exact List.map_congr_left fun x hx => u8_back (h x hx)
theorem ofU8_append (a b : List UInt8) : ofU8 (a ++ b) = ofU8 a ++ ofU8 b := List.map_append ..
theorem ofU8_length (l : List UInt8) : (ofU8 l).length = l.length := List.length_map ..
def RowB (W : World) (v : Value) (l : List Int) : Prop := ∃ A c, v = .slice A l.length c ∧ l.length ≤ c ∧ Kd.C (Kd.int .u8) W A l.length l
theorem RowB.below {W W1 : World} {v : Value} {l : List Int} (h : RowB W v l) (hb : Below W.heap.size W W1) : RowB W1 v l := by
  obtain ⟨A, c, e, hc, hC⟩ := h
  exact ⟨A, c, e, hc, Kd.C_below hC hb⟩
theorem RowB.nil (W : World) : RowB W (.slice none 0 0) [] := ⟨none, 0, rfl, Nat.le_refl _, rfl, by decide, fun h => by cases h⟩
theorem holds_of_C {w : World} {A : Option Addr} {c : Nat} {l : List Int} (h : Kd.C (Kd.int .u8) w A l.length l) (hb : ByteL l) : Lib.HoldsBytes w (.slice A l.length c) (u8s l) := by
  refine ⟨A, c, by rw [u8s_length], fun hA => ?_, fun a ha i x hx => ?_⟩
  · subst hA
    rcases l with _ | ⟨y, l⟩
    · rfl
    · obtain ⟨_, e, _⟩ := h.2.2 (Nat.succ_pos _)
      cases e
  · subst ha
    unfold u8s at hx
    rw [List.getElem?_map] at hx
    obtain ⟨y, hy, rfl⟩ := Option.map_eq_some_iff.1 hx
    obtain ⟨ad, e, hc⟩ := h.2.2 (by have := (List.getElem?_eq_some_iff.1 hy).1; omega)
    cases e
    obtain ⟨cs, _, hK, hcs⟩ := hc i y hy
    have hK : cs = [.int .u8 y] := hK
    have := hcs 0 (.int .u8 y) (by rw [hK]; rfl)
    rw [u8_back (hb y (List.mem_of_getElem? hy))]
    rw [show i * (Kd.int .u8).sz + 0 = i by show i * 1 + 0 = i; omega] at this
    exact this
theorem row_of_fresh {B : Nat} {w : World} {v : Value} {l : List UInt8} (h : Lib.FreshBytes B w v l) : RowB w v (ofU8 l) := by
  obtain ⟨g, cap, zs, rfl, _, hl, hmx, hz, hr, hb, hc, _⟩ := h
  refine ⟨some ⟨g, 0, none⟩, cap, by rw [ofU8_length], by rw [ofU8_length]; exact hl, rfl, by rw [ofU8_length]; unfold maxLen at hmx; omega, fun _ => ⟨_, rfl, fun j y hy => ⟨[.int .u8 y], rfl, rfl, fun i u hu => ?_⟩⟩⟩
  have : i = 0 ∧ .int .u8 y = u := by
    cases i with
    | zero => exact ⟨rfl, by simpa using hu⟩
    | succ i => simp at hu
  obtain ⟨rfl, rfl⟩ := this
  have hj : j < l.length := by
    have := (List.getElem?_eq_some_iff.1 hy).1
    rwa [ofU8_length] at this
  have e : y = zs.getD j 0 := by
    have hz2 : (zs.take l.length)[j]? = some (zs.getD j 0) := by
      rw [List.getElem?_take_of_lt hj, List.getD_eq_getElem?_getD, List.getElem?_eq_getElem (by omega)]
      rfl
    have hy2 := hy
    rw [← hb] at hy2
    unfold ofU8 Lib.bytesOf at hy2
    rw [List.map_map, List.getElem?_map, hz2] at hy2
    have hm := hr (zs.getD j 0) (List.mem_of_getElem? (by rw [List.getD_eq_getElem?_getD, List.getElem?_eq_getElem (by omega)]; rfl : zs[j]? = some (zs.getD j 0)))
    have := Option.some.inj hy2
    rw [← this]
    exact u8_back ⟨hm.1, by omega⟩
  have h := hc j (by omega)
  rw [e]
  show w.cell? ((⟨g, 0, none⟩ : Addr).add (j * 1 + 0)) = _
  rw [add_plain, show j * 1 + 0 = j by omega]
  exact h
end Go.Proofs.YtakbnoelbmgmhaaDoorH
end
section
namespace Go.Proofs.YtakbnoelbmgmhaaDoorH
open Go.RowKit Go.Proofs.YtakbnoelbmgmhaaDoorW.PrintWords Go.Proofs.YtakbnoelbmgmhaaDoorW.PrintLast Go.Proofs.YtakbnoelbmgmhaaDoorW.PrintMore
def chunkL (l : List Int) : List Int := if l.length = 0 then [] else hexL l.length ++ ([13, 10] ++ (l ++ [13, 10]))
def costN (n : Nat) : Nat := if n = 0 then 0 else (hexL n).length + 4
theorem chunkL_length (l : List Int) : (chunkL l).length = l.length + costN l.length := by
  unfold chunkL costN
  by_cases h : l.length = 0
  · rw [if_pos h, if_pos h]; simp [h]
  · rw [if_neg h, if_neg h]; simp; omega
theorem hexL_bytes (n : Nat) : ByteL (hexL n) := by
  induction n using Nat.strongRecOn with
  | ind n ih =>
    by_cases h : n < 16
    · rw [hexL_lt h]
      intro x hx
      rw [List.mem_singleton.1 hx]
      exact hexD_ok h
    · rw [hexL_ge (by omega)]
      intro x hx
      rcases List.mem_append.1 hx with hx | hx
      · exact ih (n / 16) (by omega) x hx
      · rw [List.mem_singleton.1 hx]
        exact hexD_ok (Nat.mod_lt _ (by decide))
set_option maxHeartbeats 4000000 in
set_option maxRecDepth 100000 in
theorem cost_calls (n : Int) (hn : n ≤ 9223372036854775807) (w : World) (hT : TabZ w) :
    Calls Tryd.prog 9 #[.int .i64 n] w fun e w' => e = .returned (.int .i64 (costN n.toNat)) ∧ Below w.heap.size w w' := by
  by_cases h : n < 1
  · have e : costN n.toNat = 0 := by unfold costN; rw [if_pos (by omega)]
    rw [e]
    go_enter Tryd.func9, Tryd.ntmps9
    go_wp2
    go_ret
    exact ⟨rfl, Below.refl _ _⟩
  · obtain ⟨m, rfl⟩ := Int.eq_ofNat_of_zero_le (show 0 ≤ n by omega)
    have h1 := hput_calls m (by omega) w hT
    have hle := hexL_le16 (n := m) (by omega)
    have hz := hexS_size m
    have e : costN (m : Int).toNat = (hexL m).length + 4 := by unfold costN; rw [if_neg (by omega), Int.toNat_natCast]
    have hw0 : IntKind.u64.wrap (m : Int) = m := by
      unfold IntKind.wrap
      simp [IntKind.bits, IntKind.signed]
      omega
    rw [e]
    clear hT e
    generalize hexS m = s at *
    rw [← hz] at hle
    rw [← hz]
    clear hz
    have hw1 : IntKind.i64.wrap ((s.size : Int) + 4) = (s.size : Int) + 4 := by
      unfold IntKind.wrap
      simp [IntKind.bits, IntKind.signed]
      omega
    have hlt : ¬ ((m : Int) < 1) := h
    go_enter Tryd.func9, Tryd.ntmps9
    go_wp2_with fail
    refine h1.mono ?_
    rintro e w' ⟨rfl, hb⟩
    clear h1
    go_wp2
    go_ret
    exact ⟨by simp, hb⟩
theorem strBytes (n : Nat) : ofU8 (hexS n).data.toList = hexL n := ofU8_u8s (hexL_bytes n)
theorem bytesOf_hexS (n : Nat) : bytesOf (hexS n) = hexL n := strBytes n
theorem join3 (a l : List UInt8) : Lib.join [a, l, []] [13, 10] = a ++ ([13, 10] ++ (l ++ [13, 10])) := by
  simp [Lib.join, List.intercalate]
set_option maxHeartbeats 4000000 in
set_option maxRecDepth 100000 in
theorem chunk_calls (A : Option Addr) (c : Nat) (l : List Int) (w : World) (hr : Kd.C (Kd.int .u8) w A l.length l) (hc : l.length ≤ c) (hb : ByteL l) (hl : l.length ≤ 1073741824) (hT : TabZ w) :
    Calls Tryd.prog 13 #[.slice A l.length c] w fun e w' => ∃ v, e = .returned v ∧ RowB w' v (chunkL l) ∧ Below w.heap.size w w' := by
  by_cases h0 : l.length = 0
  · have e : chunkL l = [] := by unfold chunkL; rw [if_pos h0]
    have h0' : ((l.length : Nat) : Int) = 0 := by omega
    rw [e]
    generalize l.length = n at *
    subst h0
    go_enter Tryd.func13, Tryd.ntmps13
    go_wp2
    go_ret
    exact ⟨_, rfl, RowB.nil _, Below.refl _ _⟩
  · have e : chunkL l = hexL l.length ++ ([13, 10] ++ (l ++ [13, 10])) := by unfold chunkL; rw [if_neg h0]
    have hne : ((l.length : Int) == 0) = false := by rw [beq_eq_false_iff_ne]; omega
    have h1 := hput_calls l.length (by omega) w hT
    have hw0 : IntKind.u64.wrap (l.length : Int) = l.length := by
      unfold IntKind.wrap
      simp [IntKind.bits, IntKind.signed]
      omega
    have hhs := hexS_size l.length
    have hh16 := hexL_le16 (n := l.length) (by omega)
    have HR := Aside0.mk hr
    have HB := Aside0.mk hb
    have HE := Aside0.mk e
    have HS := Aside0.mk (show ofU8 (hexS l.length).data.toList = hexL l.length from strBytes _)
    have kb := fun W => print_bytes (P := Tryd.prog) 9 25 5 Tryd.underlying9 Tryd.underlying25 Tryd.underlying5 (hexS l.length) W
    clear hr hb e hT
    have HZ := Aside0.mk (show (hexS l.length).size ≤ 16 by rw [hhs]; exact hh16)
    have HL := Aside0.mk hl
    clear hhs hh16
    have HN := Aside0.mk (show ∃ n, l.length = n ∧ hexS l.length = hexS l.length from ⟨_, rfl, rfl⟩)
    go_enter Tryd.func13, Tryd.ntmps13
    go_wp2_with fail
    refine h1.mono ?_
    rintro e w1 ⟨rfl, b1⟩
    clear h1
    have HC1 := Aside0.mk (Kd.C_below HR.out b1)
    have B1 := Aside0.mk b1
    clear b1
    generalize hexS l.length = s at *
    obtain ⟨g, hg⟩ : ∃ g, grownCap w1 s.size 0 5 = g := ⟨_, rfl⟩
    have B2 := Aside0.mk (bytes_below B1.out B1.out.size 5 s)
    have R2 := Aside0.mk (show ∀ j, j < s.size → (Lib.bytesWorld w1 5 s).cell? ⟨w1.heap.size, j, none⟩ = some (.int .u8 (s.data.toList.getD j 0).toNat) from Lib.bytesWorld_cell w1 5 s)
    have C2 := Aside0.mk (Kd.C_below HC1.out (bytes_below (Below.refl w1.heap.size w1) (Nat.le_refl _) 5 s))
    have hcc := Lib.run_convert_bytes_const (P := Tryd.prog) ((Lib.bytesWorld w1 5 s).alloc (.cells #[.slice (some ⟨w1.heap.size, 0, none⟩) s.size g, .slice A l.length c, .slice none 0 0] 25)) 25 5 #[.int .u8 13, .int .u8 10] 2 2 Tryd.underlying25 Tryd.underlying5
    rw [World.size_alloc] at hcc
    go_wp2_with fail
    generalize Lib.bytesWorld w1 5 s = W2 at *
    obtain ⟨W4, hW4⟩ : ∃ W4, (W2.alloc (.cells #[.slice (some ⟨w1.heap.size, 0, none⟩) s.size g, .slice A l.length c, .slice none 0 0] 25)).alloc (.cells #[.int .u8 13, .int .u8 10] 5 (2, 3)) = W4 := ⟨_, rfl⟩
    have B4 := Aside0.mk (show Below w.heap.size w W4 by rw [← hW4]; exact (B2.out.alloc B2.out.size _).alloc (by rw [World.size_alloc]; have := B2.out.size; omega) _)
    have hb24 : Below W2.heap.size W2 W4 := by rw [← hW4]; exact ((Below.refl _ W2).alloc (Nat.le_refl _) _).alloc (by rw [World.size_alloc]; omega) _
    have P4 : W4.heap[W2.heap.size]? = some (.cells #[.slice (some ⟨w1.heap.size, 0, none⟩) s.size g, .slice A l.length c, .slice none 0 0] 25 (0, 0)) := by rw [← hW4]; exact blk_alloc (heap_alloc_new W2 _) _
    have S4 : W4.heap[W2.heap.size + 1]? = some (.cells #[.int .u8 13, .int .u8 10] 5 (2, 3)) := by
      rw [← hW4]
      have h := heap_alloc_new (W2.alloc (.cells #[.slice (some ⟨w1.heap.size, 0, none⟩) s.size g, .slice A l.length c, .slice none 0 0] 25)) (.cells #[.int .u8 13, .int .u8 10] 5 (2, 3))
      rw [World.size_alloc] at h
      exact h
    rw [hW4]
    have HP : Lib.PartsAt W4 ⟨W2.heap.size, 0, none⟩ [.slice (some ⟨w1.heap.size, 0, none⟩) s.size g, .slice A l.length c, .slice none 0 0] [s.data.toList, u8s l, []] := by
      refine ⟨rfl, fun i v hv => ?_, fun i v x hv hx => ?_⟩
      · match i, hv with
        | 0, hv => cases hv; exact (blk_cell P4 0).trans rfl
        | 1, hv => cases hv; exact (blk_cell P4 1).trans rfl
        | 2, hv => cases hv; exact (blk_cell P4 2).trans rfl
        | (i + 3), hv => simp at hv
      · match i, hv, hx with
        | 0, hv, hx =>
          cases hv; cases hx
          refine ⟨some ⟨w1.heap.size, 0, none⟩, g, by rw [data_length], (fun h => by cases h), fun a ha i x hx => ?_⟩
          cases ha
          have hi : i < s.size := by
            have := (List.getElem?_eq_some_iff.1 hx).1
            rwa [data_length] at this
          have h := pw_cell_below hb24 (R2.out i hi)
          rw [List.getD_eq_getElem?_getD, hx] at h
          rw [add_plain]
          exact h
        | 1, hv, hx =>
          cases hv; cases hx
          exact holds_of_C (Kd.C_below C2.out hb24) HB.out
        | 2, hv, hx =>
          cases hv; cases hx
          exact ⟨none, 0, rfl, fun _ => rfl, fun a h => by cases h⟩
        | (i + 3), hv, hx => simp at hv
    have HS4 : Lib.HoldsBytes W4 (.slice (some ⟨W2.heap.size + 1, 0, none⟩) 2 2) [13, 10] := by
      refine ⟨some ⟨W2.heap.size + 1, 0, none⟩, 2, rfl, (fun h => by cases h), fun a ha i x hx => ?_⟩
      cases ha
      match i, hx with
      | 0, hx => cases hx; exact World.news_of_block S4 0 _ rfl
      | 1, hx => cases hx; exact World.news_of_block S4 1 _ rfl
      | (i + 2), hx => simp at hx
    refine (Tryd.bytes_Join_many W2.heap.size 0 3 3 _ _ (.slice (some ⟨W2.heap.size + 1, 0, none⟩) 2 2) [13, 10] W4 rfl (by decide) HP (by decide) HS4 (by decide) ?_).mono ?_
    · have h1 := HZ.out
      have h2 := HL.out
      simp [Lib.lens, u8s_length]
      omega
    · rintro e w5 ⟨v, rfl, hf, b5⟩
      have hrow := row_of_fresh hf
      rw [join3, ofU8_append, ofU8_append, ofU8_append, HS.out, ofU8_u8s HB.out, show ofU8 [13, 10] = [13, 10] from rfl, ← show chunkL l = _ from HE.out] at hrow
      go_wp2
      go_ret
      exact ⟨_, rfl, hrow, below_step B4.out b5⟩
end Go.Proofs.YtakbnoelbmgmhaaDoorH
end
section
namespace Go.Proofs.YtakbnoelbmgmhaaDoor.Pe
open Go.RowKit Go.Proofs.YtakbnoelbmgmhaaDoorH Go.Proofs.YtakbnoelbmgmhaaDoorW.PrintWords Go.Proofs.YtakbnoelbmgmhaaDoorW.PrintLast Go.Proofs.YtakbnoelbmgmhaaDoorW.PrintMore
set_option maxHeartbeats 1600000 in
set_option maxRecDepth 100000 in
theorem wakes10_calls (w : World) (hT : TabZ w) :
    Calls Tryd.prog 8 #[] w fun e w' => e = .returned (.bool true) ∧ Below w.heap.size w w' := by
  have hcc := Lib.run_convert_bytes_const (P := Tryd.prog) w 25 5 #[.int .u8 97, .int .u8 98, .int .u8 99] 3 3 Tryd.underlying25 Tryd.underlying5
  have HT := Aside0.mk hT
  clear hT
  go_enter Tryd.func8, Tryd.ntmps8
  go_wp2_with fail
  obtain ⟨w1, hw1⟩ : ∃ w1, w.alloc (.cells #[.int .u8 97, .int .u8 98, .int .u8 99] 5 (3, 4)) = w1 := ⟨_, rfl⟩
  have hb1 : Below w.heap.size w w1 := by rw [← hw1]; exact (Below.refl _ w).alloc (Nat.le_refl _) _
  have hrow : Kd.C (Kd.int .u8) w1 (some ⟨w.heap.size, 0, none⟩) ([97, 98, 99] : List Int).length [97, 98, 99] := by
    have hh : w1.heap[w.heap.size]? = some (.cells #[.int .u8 97, .int .u8 98, .int .u8 99] 5 (3, 4)) := by rw [← hw1]; exact heap_alloc_new w _
    refine ⟨rfl, by decide, fun _ => ⟨_, rfl, fun j y hy => ⟨[.int .u8 y], rfl, rfl, fun i u hu => ?_⟩⟩⟩
    have : i = 0 ∧ .int .u8 y = u := by
      cases i with
      | zero => exact ⟨rfl, by simpa using hu⟩
      | succ i => simp at hu
    obtain ⟨rfl, rfl⟩ := this
    show w1.cell? ((⟨w.heap.size, 0, none⟩ : Addr).add (j * 1 + 0)) = _
    rw [show j * 1 + 0 = j by omega]
    match j, hy with
    | 0, hy => cases hy; exact World.news_of_block hh 0 _ rfl
    | 1, hy => cases hy; exact World.news_of_block hh 1 _ rfl
    | 2, hy => cases hy; exact World.news_of_block hh 2 _ rfl
    | (j + 3), hy => simp at hy
  rw [hw1]
  have B1 := Aside0.mk hb1
  clear hcc
  refine (chunk_calls _ 3 [97, 98, 99] w1 hrow (by decide) (by intro x hx; simp at hx; omega) (by decide) (HT.out.below hb1)).mono ?_
  rintro e w2 ⟨v, rfl, hr, b2⟩
  obtain ⟨A2, c2, rfl, hc2, hC2⟩ := hr
  have hcv := Kd.C_string (P := Tryd.prog) (c := c2) Tryd.underlying25 Tryd.underlying5 Tryd.underlying9 hC2
  have hch : chunkL [97, 98, 99] = [51, 13, 10, 97, 98, 99, 13, 10] := by
    unfold chunkL
    rw [if_neg (by decide), hexL_lt (by decide)]
    rfl
  rw [hch] at hcv
  rw [hch]
  have hst : strOfNums [51, 13, 10, 97, 98, 99, 13, 10] = ⟨#[51, 13, 10, 97, 98, 99, 13, 10]⟩ := by decide
  rw [hst] at hcv
  have B2 := Aside0.mk (below_step hb1 b2)
  have HT2 := Aside0.mk (HT.out.below B2.out)
  clear hst hch hC2 hrow hb1 b2 hc2 hw1
  simp only [List.length_cons, List.length_nil] at hcv
  go_wp2_with fail
  refine (cost_calls 16 (by decide) w2 HT2.out).mono ?_
  rintro e w3 ⟨rfl, b3⟩
  have hco : costN (16 : Int).toNat = 6 := by
    show costN 16 = 6
    unfold costN
    rw [if_neg (by decide), hexL_ge (by decide), hexL_lt (by decide)]
    rfl
  rw [hco]
  clear hcv hco
  go_wp2
  go_ret
  exact ⟨rfl, below_step B2.out b3⟩
end Go.Proofs.YtakbnoelbmgmhaaDoor.Pe
end
section
namespace Go.Proofs.YtakbnoelbmgmhaaDoorH
open Go.RowKit Go.Proofs.YtakbnoelbmgmhaaDoorW.PrintWords Go.Proofs.YtakbnoelbmgmhaaDoorW.PrintLast Go.Proofs.YtakbnoelbmgmhaaDoorW.PrintMore
def strings_Cut.f (a0 a1 : ByteArray) : Option (ByteArray × ByteArray × Bool) := if a0.size < 4294967281 then some (⟨(Lib.cut a0.data.toList a1.data.toList).1.toArray⟩, ⟨(Lib.cut a0.data.toList a1.data.toList).2.1.toArray⟩, (Lib.cut a0.data.toList a1.data.toList).2.2) else none
end Go.Proofs.YtakbnoelbmgmhaaDoorH
end
section
namespace Go.Proofs.YtakbnoelbmgmhaaDoorH
open Go Go.RowKit
def Abd {β : Type} (Z : Nat → Prop) (B : Nat) (J : β → Option Nat → World → Prop) : Prop :=
  ∀ s g A C row, J s g A → A.grownBy C row → (∀ r, row = some r → (B ≤ r ∧ some r ≠ g) ∨ Z r) → J s g C
structure Spares (K : Nat → Prop) (g g' : Option Nat) (W W' : World) : Prop where
  size : W.heap.size ≤ W'.heap.size
  own : g' = g ∨ ∃ b, g' = some b ∧ W.heap.size ≤ b ∧ b < W'.heap.size
  same : ∀ k, K k → k < W.heap.size → some k ≠ g → W'.heap[k]? = W.heap[k]?
theorem Spares.refl (K : Nat → Prop) (g : Option Nat) (W : World) : Spares K g g W W := ⟨Nat.le_refl _, .inl rfl, fun _ _ _ _ => rfl⟩
theorem Spares.trans {K : Nat → Prop} {g g' g'' : Option Nat} {A B C : World} (h : Spares K g g' A B) (h' : Spares K g' g'' B C) : Spares K g g'' A C := by
  refine ⟨Nat.le_trans h.size h'.size, ?_, fun k hk hlt hne => ?_⟩
  · rcases h'.own with e | ⟨b, e, hb, hb2⟩
    · rcases h.own with e2 | ⟨b, e2, hb, hb2⟩
      · exact .inl (e.trans e2)
      · exact .inr ⟨b, e.trans e2, hb, Nat.lt_of_lt_of_le hb2 h'.size⟩
    · exact .inr ⟨b, e, Nat.le_trans h.size hb, hb2⟩
  · refine (h'.same k hk (Nat.lt_of_lt_of_le hlt h.size) ?_).trans (h.same k hk hlt hne)
    rcases h.own with e | ⟨b, e, hb, _⟩
    · rw [e]; exact hne
    · rw [e]; intro h; cases h; omega
theorem Spares.below {K : Nat → Prop} {g : Option Nat} {W W' : World} (h : Below W.heap.size W W') : Spares K g g W W' := ⟨h.size, .inl rfl, fun k _ hk _ => h.block k hk⟩
theorem Abd.step {β : Type} {Z : Nat → Prop} {B : Nat} {I : β → Option Nat → World → Prop} (h : Abd Z B I) {s : β} {g : Option Nat} {W W' : World} (hs : I s g W) (hb : W.grownBy W' none) : I s g W' := h s g W _ none hs hb (fun r e => by cases e)
theorem Abd.alloc {β : Type} {Z : Nat → Prop} {B : Nat} {I : β → Option Nat → World → Prop} (h : Abd Z B I) {s : β} {g : Option Nat} {W : World} (o : Obj) (hs : I s g W) : I s g (W.alloc o) :=
  h.step hs (World.grownBy_alloc W o none)
theorem Abd.and {β : Type} {Z : Nat → Prop} {B : Nat} {I I' : β → Option Nat → World → Prop} (h : Abd Z B I) (h' : Abd Z B I') : Abd Z B (fun s g W => I s g W ∧ I' s g W) := fun s g A C row hs hg hr => ⟨h s g A C row hs.1 hg hr, h' s g A C row hs.2 hg hr⟩
theorem Abd.pure {β : Type} {Z : Nat → Prop} {B : Nat} (p : β → Option Nat → Prop) : Abd Z B (fun s g (_ : World) => p s g) := fun _ _ _ _ _ hs _ _ => hs
theorem Abd.low {β : Type} {Z : Nat → Prop} {B n₀ : Nat} {w : World} (hB : n₀ ≤ B) (hw : n₀ ≤ w.heap.size) (hZ : ∀ r, Z r → n₀ ≤ r) : Abd Z B (fun (_ : β) _ W => Below n₀ w W) := fun _ _ _ _ _ hs hg hr =>
  hs.grown hg (Nat.le_trans hw hs.size) (fun k e => (hr k e).elim (fun h => Nat.le_trans hB h.1) (fun h => hZ k h))
theorem Abd.block {β : Type} {Z : Nat → Prop} {B b : Nat} (f : β → Obj) (hB : b < B) (hZ : ¬ Z b) : Abd Z B (fun (s : β) _ W => W.heap[b]? = some (f s)) := fun _ _ _ _ _ hs hg hr =>
  (hg.block b (Array.getElem?_eq_some_iff.1 hs).1 (fun e => (hr b e.symm).elim (fun h => by omega) (fun h => hZ h))).trans hs
structure Lies (K : Nat → Prop) (W W' : World) : Prop where
  size : W.heap.size ≤ W'.heap.size
  same : ∀ k, K k → k < W.heap.size → W'.heap[k]? = W.heap[k]?
theorem Lies.refl (K : Nat → Prop) (W : World) : Lies K W W := ⟨Nat.le_refl _, fun _ _ _ => rfl⟩
theorem Lies.trans {K : Nat → Prop} {A B C : World} (h : Lies K A B) (h' : Lies K B C) : Lies K A C := ⟨Nat.le_trans h.size h'.size, fun k hk hlt => (h'.same k hk (Nat.lt_of_lt_of_le hlt h.size)).trans (h.same k hk hlt)⟩
theorem Lies.below {K : Nat → Prop} {A B : World} (h : Below A.heap.size A B) : Lies K A B := ⟨h.size, fun k _ hk => h.block k hk⟩
theorem Lies.grown {K : Nat → Prop} {A B : World} {row : Option Nat} (h : A.grownBy B row) (hr : ∀ r, row = some r → ¬ K r) : Lies K A B := ⟨h.size, fun k hk hlt => h.block k hlt (fun e => hr k e.symm hk)⟩
theorem Lies.cell {K : Nat → Prop} {A B : World} (h : Lies K A B) {p : Addr} {v : Value} (hk : K p.block) (hc : A.cell? p = some v) : B.cell? p = some v :=
  (World.cell?_of_block (h.same p.block hk (World.block_lt_of_cell? A p hc))).trans hc
theorem Spares.lt {K : Nat → Prop} {g g' : Option Nat} {A B : World} (h : Spares K g g' A B) (hg : ∀ q, g = some q → q < A.heap.size) : ∀ q, g' = some q → q < B.heap.size := by
  intro q e
  rcases h.own with e' | ⟨b, e', hb, hb2⟩
  · exact Nat.lt_of_lt_of_le (hg q (e' ▸ e)) h.size
  · rw [e] at e'; cases e'; exact hb2
end Go.Proofs.YtakbnoelbmgmhaaDoorH
end
section
namespace Go.Proofs.YtakbnoelbmgmhaaDoorH
open Go.RowKit Go.Proofs.YtakbnoelbmgmhaaDoorW.PrintWords Go.Proofs.YtakbnoelbmgmhaaDoorW.PrintLast Go.Proofs.YtakbnoelbmgmhaaDoorW.PrintMore
def allB (p : Int → Bool) (s : ByteArray) : Bool := s.data.toList.all fun c => p c.toNat
theorem bt_nat (s : ByteArray) (k : Nat) (h : k < s.size) : bt s (k : Int) = ((s.data.toList.getD k 0).toNat : Int) := by
  have h' : k < s.data.toList.length := by rw [data_length]; exact h
  rw [← rd_bytesOf]
  simp [rd, bytesOf, List.getD_eq_getElem?_getD, List.getElem?_eq_getElem h']
theorem allB_of (p : Int → Bool) (s : ByteArray) (h : ∀ k : Nat, k < s.size → p (bt s k) = true) : allB p s = true := by
  unfold allB
  rw [List.all_eq_true]
  intro c hc
  obtain ⟨k, hk, rfl⟩ := List.mem_iff_getElem.1 hc
  have hk' : k < s.size := by rw [data_length] at hk; exact hk
  have := h k hk'
  rw [bt_nat s k hk'] at this
  rw [List.getD_eq_getElem?_getD, List.getElem?_eq_getElem hk] at this
  exact this
theorem allB_not (p : Int → Bool) (s : ByteArray) (k : Nat) (hk : k < s.size) (h : p (bt s k) = false) : allB p s = false := by
  unfold allB
  rw [List.all_eq_false]
  have hk' : k < s.data.toList.length := by rw [data_length]; exact hk
  refine ⟨s.data.toList[k], List.getElem_mem hk', ?_⟩
  rw [bt_nat s k hk, List.getD_eq_getElem?_getD, List.getElem?_eq_getElem hk'] at h
  simpa using h
theorem bytes_cell (w : World) (e : TypeId) (s : ByteArray) (k : Nat) (hk : k < s.size) {wr : World} (hb : Below (Lib.bytesWorld w e s).heap.size (Lib.bytesWorld w e s) wr) :
    wr.cell? ⟨w.heap.size, k, none⟩ = some (.int .u8 (bt s k)) := by
  rw [hb.cell (p := ⟨w.heap.size, k, none⟩) (by rw [Lib.bytesWorld_size]; simp), Lib.bytesWorld_cell w e s k hk, bt_nat s k hk]
theorem all_step {s : ByteArray} {p : Int → Bool} {k : Nat} (h : ∀ j : Nat, j < k → p (bt s j) = true) (hk : p (bt s k) = true) : ∀ j : Nat, j < k + 1 → p (bt s j) = true := by
  intro j hj
  rcases Nat.lt_succ_iff_lt_or_eq.1 hj with h1 | h1
  · exact h j h1
  · subst h1
    exact hk
set_option maxHeartbeats 800000 in
set_option maxRecDepth 100000 in
theorem all_calls (F : Nat) (p : Int → Bool) (s : ByteArray) (w : World) (hs : s.size ≤ 140737488355328) (hG : TabOk w)
    (eg : ∀ args w, (callFunc F args).run Tryd.prog w = .ok (.enter F args) w)
    (hF : ∀ (c : Int) (w : World), TabOk w → 0 ≤ c → c ≤ 255 → Calls Tryd.prog F #[.int .u8 c] w fun e w' => e = .returned (.bool (p c)) ∧ Below w.heap.size w w') :
    Calls Tryd.prog 68 #[.string s, .func (.func F) #[] #[]] w fun e w' => e = .returned (.bool (allB p s)) ∧ Below w.heap.size w w' := by
  have kb := fun W => print_bytes (P := Tryd.prog) 9 25 5 Tryd.underlying9 Tryd.underlying25 Tryd.underlying5 s W
  have HB0 := Aside0.mk (bytes_below (Below.refl w.heap.size w) (Nat.le_refl _) 5 s)
  have HF := Aside0.mk hF
  have HG := Aside0.mk hG
  clear hF hG
  go_enter Tryd.func68, Tryd.ntmps68
  go_wp2
  clear kb
  go_loopw [10] (fun i wr => ∃ k : Nat, k ≤ s.size ∧ i = .int .i64 k ∧ Aside0 (∀ j : Nat, j < k → p (bt s j) = true) ∧ Aside0 (Below (Lib.bytesWorld w 5 s).heap.size (Lib.bytesWorld w 5 s) wr)) (fun i _ => s.size - (intOf i).toNat)
  case atStart => exact ⟨0, Nat.zero_le _, rfl, ⟨fun j h => by omega⟩, ⟨Below.refl _ _⟩⟩
  case round =>
    obtain ⟨k, hk, rfl, hall, hb⟩ := hrel
    by_cases hlt : k < s.size
    · have hc := bytes_cell w 5 s k hlt hb.out
      have hr := bt_range s k
      have hGr := Aside0.mk ((HG.out.below HB0.out).below hb.out)
      go_wp2_with fail
      refine (HF.out _ _ hGr.out (by omega) (by omega)).mono ?_
      rintro e w' ⟨rfl, hb'⟩
      have HB' := Aside0.mk hb'
      clear hb'
      cases hp : p (bt s k) with
      | true =>
        go_wp2
        go_roundw
        case rel => exact ⟨k + 1, by omega, by go_num, ⟨all_step hall.out hp⟩, ⟨hb.out.trans (HB'.out.mono hb.out.size)⟩⟩
        case measure => simp [intOf]; omega
      | false =>
        go_wp2
        go_ret
        exact ⟨by rw [allB_not p s k hlt hp]; rfl, HB0.out.trans ((hb.out.trans (HB'.out.mono hb.out.size)).mono HB0.out.size)⟩
    · go_wp2
      go_ret
      exact ⟨by rw [allB_of p s (fun j hj => hall.out j (by omega))]; rfl, HB0.out.trans (hb.out.mono HB0.out.size)⟩
def blankI (c : Int) : Bool := (c == 32) || (c == 9)
def textI (c : Int) : Bool := blankI c || (decide (c > 32) && (c != 127))
set_option maxHeartbeats 800000 in
set_option maxRecDepth 100000 in
theorem blank_calls (c : Int) (w : World) (h0 : 0 ≤ c) (h1 : c ≤ 255) :
    Calls Tryd.prog 79 #[.int .u8 c] w fun e w' => e = .returned (.bool (blankI c)) ∧ Below w.heap.size w w' := by
  have hb : blankI c = ((c == 32) || (c == 9)) := rfl
  by_cases h32 : c = 32
  · subst h32
    go_enter Tryd.func79, Tryd.ntmps79
    go_wp2
    go_ret
    exact ⟨rfl, Below.refl _ _⟩
  · have hx : (c == 32) = false := beq_eq_false_iff_ne.mpr h32
    rw [hx, Bool.false_or] at hb
    have HB := Aside0.mk hb
    clear hb
    go_enter Tryd.func79, Tryd.ntmps79
    go_wp2
    go_ret
    exact ⟨by rw [HB.out]; rfl, Below.refl _ _⟩
set_option maxHeartbeats 800000 in
set_option maxRecDepth 100000 in
theorem text1_calls (c : Int) (w : World) (h0 : 0 ≤ c) (h1 : c ≤ 255) :
    Calls Tryd.prog 78 #[.int .u8 c] w fun e w' => e = .returned (.bool (textI c)) ∧ Below w.heap.size w w' := by
  have hb : textI c = (blankI c || (decide (c > 32) && (c != 127))) := rfl
  have HB := Aside0.mk hb
  clear hb
  have hbl := Aside0.mk (fun w => blank_calls c w h0 h1)
  go_enter Tryd.func78, Tryd.ntmps78
  go_wp2_with fail
  refine (hbl.out _).mono ?_
  rintro e w' ⟨rfl, hw⟩
  have HW := Aside0.mk hw
  clear hw
  cases hp : blankI c with
  | true =>
    go_wp2
    go_ret
    exact ⟨by rw [HB.out, hp]; rfl, HW.out⟩
  | false =>
    rw [hp, Bool.false_or] at HB
    go_wp2
    all_goals go_ret
    all_goals (refine ⟨?_, HW.out⟩; rw [HB.out]; first | (simp [*]; done) | (simp; omega))
def otherL : List Int := [33, 35, 36, 37, 38, 39, 42, 43, 45, 46, 94, 95, 96, 124, 126]
def alnumI (c : Int) : Bool := decide (48 ≤ c ∧ c ≤ 57) || decide (65 ≤ c ∧ c ≤ 90) || decide (97 ≤ c ∧ c ≤ 122)
def tokI (c : Int) : Bool := alnumI c || otherL.contains c
theorem alnumI_1 {c : Int} (h : 48 ≤ c ∧ c ≤ 57) : tokI c = true := by simp [tokI, alnumI, h]
theorem alnumI_2 {c : Int} (h : 65 ≤ c ∧ c ≤ 90) : tokI c = true := by simp [tokI, alnumI, h]
theorem alnumI_3 {c : Int} (h : 97 ≤ c ∧ c ≤ 122) : tokI c = true := by simp [tokI, alnumI, h]
theorem alnumI_4 {c : Int} (h : ¬ (48 ≤ c ∧ c ≤ 57)) (h2 : ¬ (65 ≤ c ∧ c ≤ 90)) (h3 : ¬ (97 ≤ c ∧ c ≤ 122)) : tokI c = otherL.contains c := by simp [tokI, alnumI, h, h2, h3]
theorem indexByte_nonneg (l : List UInt8) (c : UInt8) : decide (0 ≤ Lib.indexByte l c) = l.contains c := by
  induction l with
  | nil => rfl
  | cons b l ih =>
    unfold Lib.indexByte
    by_cases h : b == c
    · rw [if_pos h]
      have : (b :: l).contains c = true := by simp at h; simp [h]
      rw [this]; rfl
    · rw [if_neg h]
      have hc : (b :: l).contains c = l.contains c := by
        have h' : ¬ c = b := by intro e; apply h; simp [e]
        simp [h']
      rw [hc, ← ih]
      have := Lib.indexByte_ge l c
      by_cases h2 : Lib.indexByte l c == -1
      · rw [if_pos h2]
        have h2' : Lib.indexByte l c = -1 := by simpa using h2
        rw [h2']
      · rw [if_neg h2]
        have h2' : Lib.indexByte l c ≠ -1 := by simpa using h2
        rw [decide_eq_decide]
        omega
set_option maxHeartbeats 800000 in
set_option maxRecDepth 100000 in
theorem sliteIndexByte_calls (s : ByteArray) (c : Int) (w : World) :
    Calls Tryd.prog 77 #[.string s, .int .u8 c] w fun e w' => e = .returned (.int .i64 (Lib.indexByte s.data.toList c.toNat.toUInt8)) ∧ w' = w := by
  go_enter Tryd.func77, Tryd.ntmps77
  go_wp2
  rw [run_callFunc_extern Tryd.func82 (by kernel_rfl) (by kernel_rfl) (by kernel_rfl) (e := Extern.BytealgIndexByte.indexByte) (by kernel_rfl), Lib.run_indexByteString]
  simp only [Result.andThen]
  rw [Oper.upon_value]
  go_wp2
  go_ret
  exact ⟨rfl, rfl⟩
set_option maxHeartbeats 800000 in
set_option maxRecDepth 100000 in
theorem stringsIndexByte_calls (s : ByteArray) (c : Int) (w : World) :
    Calls Tryd.prog 70 #[.string s, .int .u8 c] w fun e w' => e = .returned (.int .i64 (Lib.indexByte s.data.toList c.toNat.toUInt8)) ∧ w' = w := by
  have H := Aside0.mk (sliteIndexByte_calls s c)
  go_enter Tryd.func70, Tryd.ntmps70
  go_wp2_with fail
  refine (H.out _).mono ?_
  rintro e w' ⟨rfl, rfl⟩
  go_wp2
  go_ret
  exact ⟨rfl, rfl⟩
theorem other_contains (c : Int) (h0 : 0 ≤ c) (h1 : c ≤ 255) : decide (0 ≤ Lib.indexByte (⟨#[33, 35, 36, 37, 38, 39, 42, 43, 45, 46, 94, 95, 96, 124, 126]⟩ : ByteArray).data.toList c.toNat.toUInt8) = otherL.contains c := by
  rw [indexByte_nonneg]
  obtain ⟨n, rfl⟩ := Int.eq_ofNat_of_zero_le h0
  have hn : n < 256 := by omega
  rw [Int.toNat_natCast]
  unfold otherL
  have : ∀ n : Fin 256, [33, 35, 36, 37, 38, 39, 42, 43, 45, 46, 94, 95, 96, 124, 126].contains n.val.toUInt8 = ([33, 35, 36, 37, 38, 39, 42, 43, 45, 46, 94, 95, 96, 124, 126] : List Int).contains (n.val : Int) := by decide +kernel
  exact this ⟨n, hn⟩
set_option maxHeartbeats 800000 in
set_option maxRecDepth 100000 in
theorem token1_calls (c : Int) (w : World) (hG : TabOk w) (h0 : 0 ≤ c) (h1 : c ≤ 255) :
    Calls Tryd.prog 69 #[.int .u8 c] w fun e w' => e = .returned (.bool (tokI c)) ∧ Below w.heap.size w w' := by
  obtain ⟨g0, g1, g2, g3, g4, g5⟩ := hG
  go_enter Tryd.func69, Tryd.ntmps69
  go_wp2
  clear g0 g1 g2 g3 g4 g5
  have i0 : ∀ w, (Instr.index 128 (.agg #[.int .u8 48, .int .u8 57, .int .u8 65, .int .u8 90, .int .u8 97, .int .u8 122]) (.int .i64 0)).run Tryd.prog w = .ok (.agg #[.int .u8 48, .int .u8 57]) w := fun _ => by kernel_rfl
  have i1 : ∀ w, (Instr.index 128 (.agg #[.int .u8 48, .int .u8 57, .int .u8 65, .int .u8 90, .int .u8 97, .int .u8 122]) (.int .i64 1)).run Tryd.prog w = .ok (.agg #[.int .u8 65, .int .u8 90]) w := fun _ => by kernel_rfl
  have i2 : ∀ w, (Instr.index 128 (.agg #[.int .u8 48, .int .u8 57, .int .u8 65, .int .u8 90, .int .u8 97, .int .u8 122]) (.int .i64 2)).run Tryd.prog w = .ok (.agg #[.int .u8 97, .int .u8 122]) w := fun _ => by kernel_rfl
  go_loopw [6] (fun i wr => ∃ k : Nat, k ≤ 3 ∧ i = .int .i64 k ∧ Aside0 ((0 < k → ¬ (48 ≤ c ∧ c ≤ 57)) ∧ (1 < k → ¬ (65 ≤ c ∧ c ≤ 90)) ∧ (2 < k → ¬ (97 ≤ c ∧ c ≤ 122))) ∧ Aside0 (Below w.heap.size w wr)) (fun i _ => 3 - (intOf i).toNat)
  case atStart => exact ⟨0, by omega, rfl, ⟨by omega⟩, ⟨Below.refl _ _⟩⟩
  case round =>
    obtain ⟨k, hk, rfl, hall, hb⟩ := hrel
    have hk' : k = 0 ∨ k = 1 ∨ k = 2 ∨ k = 3 := by omega
    rcases hk' with rfl | rfl | rfl | rfl
    · by_cases hc : 48 ≤ c ∧ c ≤ 57
      · obtain ⟨ha, hb1⟩ := hc
        go_wp2
        go_ret
        exact ⟨by rw [alnumI_1 ⟨ha, hb1⟩]; rfl, hb.out.alloc hb.out.size _⟩
      · have HC := Aside0.mk hc
        by_cases ha : 48 ≤ c
        · have hb1 : 57 < c := by omega
          clear hc
          go_wp2
          go_roundw
          case rel => exact ⟨1, by omega, by go_num, ⟨⟨fun _ => HC.out, by omega⟩⟩, ⟨hb.out.alloc hb.out.size _⟩⟩
          case measure => simp [intOf]
        · have hb1 : c < 48 := by omega
          clear hc ha
          go_wp2
          go_roundw
          case rel => exact ⟨1, by omega, by go_num, ⟨⟨fun _ => HC.out, by omega⟩⟩, ⟨hb.out.alloc hb.out.size _⟩⟩
          case measure => simp [intOf]
    · by_cases hc : 65 ≤ c ∧ c ≤ 90
      · obtain ⟨ha, hb1⟩ := hc
        go_wp2
        go_ret
        exact ⟨by rw [alnumI_2 ⟨ha, hb1⟩]; rfl, hb.out.alloc hb.out.size _⟩
      · have HC := Aside0.mk hc
        by_cases ha : 65 ≤ c
        · have hb1 : 90 < c := by omega
          clear hc
          go_wp2
          go_roundw
          case rel => exact ⟨2, by omega, by go_num, ⟨⟨fun _ => hall.out.1 (by omega), fun _ => HC.out, by omega⟩⟩, ⟨hb.out.alloc hb.out.size _⟩⟩
          case measure => simp [intOf]
        · have hb1 : c < 65 := by omega
          clear hc ha
          go_wp2
          go_roundw
          case rel => exact ⟨2, by omega, by go_num, ⟨⟨fun _ => hall.out.1 (by omega), fun _ => HC.out, by omega⟩⟩, ⟨hb.out.alloc hb.out.size _⟩⟩
          case measure => simp [intOf]
    · by_cases hc : 97 ≤ c ∧ c ≤ 122
      · obtain ⟨ha, hb1⟩ := hc
        go_wp2
        go_ret
        exact ⟨by rw [alnumI_3 ⟨ha, hb1⟩]; rfl, hb.out.alloc hb.out.size _⟩
      · have HC := Aside0.mk hc
        by_cases ha : 97 ≤ c
        · have hb1 : 122 < c := by omega
          clear hc
          go_wp2
          go_roundw
          case rel => exact ⟨3, by omega, by go_num, ⟨⟨fun _ => hall.out.1 (by omega), fun _ => hall.out.2.1 (by omega), fun _ => HC.out⟩⟩, ⟨hb.out.alloc hb.out.size _⟩⟩
          case measure => simp [intOf]
        · have hb1 : c < 97 := by omega
          clear hc ha
          go_wp2
          go_roundw
          case rel => exact ⟨3, by omega, by go_num, ⟨⟨fun _ => hall.out.1 (by omega), fun _ => hall.out.2.1 (by omega), fun _ => HC.out⟩⟩, ⟨hb.out.alloc hb.out.size _⟩⟩
          case measure => simp [intOf]
    · have H := Aside0.mk (stringsIndexByte_calls)
      have HO := Aside0.mk (other_contains c h0 h1)
      go_wp2_with fail
      refine (H.out _ _ _).mono ?_
      rintro e w' ⟨rfl, rfl⟩
      go_wp2
      go_ret
      refine ⟨?_, hb.out⟩
      rw [alnumI_4 (hall.out.1 (by omega)) (hall.out.2.1 (by omega)) (hall.out.2.2 (by omega)), ← HO.out]
      rfl
set_option maxHeartbeats 800000 in
set_option maxRecDepth 100000 in
theorem text_calls (s : ByteArray) (w : World) (hs : s.size ≤ 140737488355328) (hG : TabOk w) :
    Calls Tryd.prog 71 #[.string s] w fun e w' => e = .returned (.bool (allB textI s)) ∧ Below w.heap.size w w' := by
  have H := Aside0.mk (all_calls 78 textI s w hs hG (enters_ Tryd.func78 (by kernel_rfl) rfl) (fun c w _ h0 h1 => text1_calls c w h0 h1))
  go_enter Tryd.func71, Tryd.ntmps71
  go_wp2_with fail
  refine H.out.mono ?_
  rintro e w' ⟨rfl, hb⟩
  have HB := Aside0.mk hb
  clear hb
  go_wp2
  go_ret
  exact ⟨rfl, HB.out⟩
def tokB (s : ByteArray) : Bool := !(s.data.toList.isEmpty) && allB tokI s
set_option maxHeartbeats 800000 in
set_option maxRecDepth 100000 in
theorem token_calls (s : ByteArray) (w : World) (hs : s.size ≤ 140737488355328) (hG : TabOk w) :
    Calls Tryd.prog 57 #[.string s] w fun e w' => e = .returned (.bool (tokB s)) ∧ Below w.heap.size w w' := by
  have H := Aside0.mk (all_calls 69 tokI s w hs hG (enters_ Tryd.func69 (by kernel_rfl) rfl) (fun c w hG h0 h1 => token1_calls c w hG h0 h1))
  have HT := Aside0.mk (show tokB s = (!(s.data.toList.isEmpty) && allB tokI s) from rfl)
  clear hG
  rw [← ByteArray.toList_eq] at HT
  cases hE : s.toList.isEmpty with
  | true =>
    rw [hE] at HT
    have hE' : s.toList = [] := by simpa using hE
    go_enter Tryd.func57, Tryd.ntmps57
    go_wp2
    go_ret
    exact ⟨by rw [HT.out]; rfl, Below.refl _ _⟩
  | false =>
    rw [hE] at HT
    have hE' : ¬ s.toList = [] := by simpa using hE
    go_enter Tryd.func57, Tryd.ntmps57
    go_wp2_with fail
    refine H.out.mono ?_
    rintro e w' ⟨rfl, hb⟩
    have HB := Aside0.mk hb
    clear hb
    go_wp2
    go_ret
    exact ⟨by rw [HT.out]; rfl, HB.out⟩
end Go.Proofs.YtakbnoelbmgmhaaDoorH
end
section
namespace Go.Proofs.YtakbnoelbmgmhaaDoorH
open Go.RowKit Go.Proofs.YtakbnoelbmgmhaaDoorW.PrintWords Go.Proofs.YtakbnoelbmgmhaaDoorW.PrintLast Go.Proofs.YtakbnoelbmgmhaaDoorW.PrintMore
def smallI (c : Int) : Int := if 65 ≤ c ∧ c ≤ 90 then c + 32 else c
def smallL (s : ByteArray) : List Int := (bytesOf s).map smallI
def smallS (s : ByteArray) : ByteArray := strOfNums (smallL s)
structure SmallAt (w : World) (s : ByteArray) (k : Nat) (wr : World) : Prop where
  below : Below w.heap.size w wr
  size : w.heap.size < wr.heap.size
  low : ∀ j : Nat, j < k → wr.cell? ⟨w.heap.size, j, none⟩ = some (.int .u8 (smallI (bt s j)))
  high : ∀ j : Nat, k ≤ j → j < s.size → wr.cell? ⟨w.heap.size, j, none⟩ = some (.int .u8 (bt s j))
  free : ∀ j : Nat, j < s.size → wr.frozen? ⟨w.heap.size, j, none⟩ = false
theorem SmallAt.same {w : World} {s : ByteArray} {k : Nat} {wr : World} (h : SmallAt w s k wr) (hk : k < s.size) (hs : smallI (bt s k) = bt s k) : SmallAt w s (k + 1) wr := by
  refine ⟨h.below, h.size, fun j hj => ?_, fun j h1 h2 => h.high j (by omega) h2, h.free⟩
  rcases Nat.lt_succ_iff_lt_or_eq.1 hj with h1 | h1
  · exact h.low j h1
  · subst h1; rw [hs]; exact h.high j (Nat.le_refl _) hk
theorem SmallAt.put {w : World} {s : ByteArray} {k : Nat} {wr : World} (h : SmallAt w s k wr) (hk : k < s.size) {v : Int} (hv : v = smallI (bt s k)) : SmallAt w s (k + 1) (wr.setCell ⟨w.heap.size, k, none⟩ (.int .u8 v)) := by
  subst hv
  have hc := h.high k (Nat.le_refl _) hk
  refine ⟨h.below.setCell (p := ⟨w.heap.size, k, none⟩) (Nat.le_refl _) _, by simpa using h.size, fun j hj => ?_, fun j h1 h2 => ?_, fun j hj => by rw [World.frozen?_setCell]; exact h.free j hj⟩
  · rcases Nat.lt_succ_iff_lt_or_eq.1 hj with h1 | h1
    · rw [World.cell?_setCell_other _ _ _ _ (by intro e; injection e with _ e2; omega)]
      exact h.low j h1
    · subst h1
      exact World.cell?_setCell_same' _ _ _ (by rw [hc]; rfl)
  · rw [World.cell?_setCell_other _ _ _ _ (by intro e; injection e with _ e2; omega)]
    exact h.high j (by omega) h2
end Go.Proofs.YtakbnoelbmgmhaaDoorH
end
section
namespace Go.Proofs.YtakbnoelbmgmhaaDoorH
open Go.RowKit Go.Proofs.YtakbnoelbmgmhaaDoorW.PrintWords Go.Proofs.YtakbnoelbmgmhaaDoorW.PrintLast Go.Proofs.YtakbnoelbmgmhaaDoorW.PrintMore
def trimL (l : List UInt8) : List UInt8 := Lib.trimS l [32, 9]
def trimS (s : ByteArray) : ByteArray := ⟨(trimL s.data.toList).toArray⟩
set_option maxHeartbeats 800000 in
set_option maxRecDepth 100000 in
theorem trim_calls (s : ByteArray) (w : World) (hs : s.size ≤ 140737488355328) :
    Calls Tryd.prog 72 #[.string s] w fun e w' => e = .returned (.string (trimS s)) ∧ Below w.heap.size w w' := by
  have H := Aside0.mk (Any.strings_Trim_laid Tryd.lays160 (by kernel_rfl) s ⟨#[32, 9]⟩ w (by omega) (by decide) (ascii_of_all (by decide)))
  go_enter Tryd.func72, Tryd.ntmps72
  go_wp2_with fail
  refine H.out.mono ?_
  rintro e w' ⟨rfl, hb⟩
  have HB := Aside0.mk hb
  clear hb
  go_wp2
  go_ret
  exact ⟨rfl, HB.out⟩
def octet_Text.f (a0 : ByteArray) : Option Bool := if a0.size ≤ 140737488355328 then some (allB textI a0) else none
theorem octet_Text.calls (a0 : ByteArray) (r : Bool) (w : World) (hG : TabOk w) (h : octet_Text.f a0 = some r) :
    Calls Tryd.prog 71 #[.string a0] w fun e w' => e = .returned (.bool r) ∧ Below w.heap.size w w' := by
  unfold octet_Text.f at h
  split at h
  · injection h with h; subst h; exact text_calls a0 w (by assumption) hG
  · cases h
def octet_Token.f (a0 : ByteArray) : Option Bool := if a0.size ≤ 140737488355328 then some (tokB a0) else none
theorem octet_Token.calls (a0 : ByteArray) (r : Bool) (w : World) (hG : TabOk w) (h : octet_Token.f a0 = some r) :
    Calls Tryd.prog 57 #[.string a0] w fun e w' => e = .returned (.bool r) ∧ Below w.heap.size w w' := by
  unfold octet_Token.f at h
  split at h
  · injection h with h; subst h; exact token_calls a0 w (by assumption) hG
  · cases h
def octet_Small.f (a0 : ByteArray) : Option ByteArray := if a0.size ≤ 140737488355328 then some (smallS a0) else none
def octet_Trim.f (a0 : ByteArray) : Option ByteArray := if a0.size ≤ 140737488355328 then some (trimS a0) else none
theorem octet_Trim.calls (a0 : ByteArray) (r : ByteArray) (w : World) (_hG : TabOk w) (h : octet_Trim.f a0 = some r) :
    Calls Tryd.prog 72 #[.string a0] w fun e w' => e = .returned (.string r) ∧ Below w.heap.size w w' := by
  unfold octet_Trim.f at h
  split at h
  · injection h with h; subst h; exact trim_calls a0 w (by assumption)
  · cases h
end Go.Proofs.YtakbnoelbmgmhaaDoorH
end
section
namespace Go.Proofs.YtakbnoelbmgmhaaDoorH
open Go.RowKit Go.Proofs.YtakbnoelbmgmhaaDoorW.PrintWords Go.Proofs.YtakbnoelbmgmhaaDoorW.PrintLast Go.Proofs.YtakbnoelbmgmhaaDoorW.PrintMore
theorem wrap_up {i : Int} {n : Nat} (h0 : 0 ≤ i) (h : i < (n : Int)) (hn : n ≤ 140737488355328) : wrap64 (i + 1) = i + 1 := by
  unfold wrap64
  omega
theorem wrap_down {n : Nat} (h : 0 < n) (hn : n ≤ 140737488355328) : wrap64 ((n : Int) - 1) = (n : Int) - 1 := by
  unfold wrap64
  omega
def allFrom (p : Int → Bool) (s : ByteArray) (i : Nat) : Bool := (s.data.toList.drop i).all fun c => p c.toNat
theorem allFrom_zero (p : Int → Bool) (s : ByteArray) : allFrom p s 0 = allB p s := rfl
theorem allFrom_end (p : Int → Bool) (s : ByteArray) (i : Nat) (h : s.size ≤ i) : allFrom p s i = true := by
  unfold allFrom
  rw [List.drop_eq_nil_of_le (by rw [data_length]; exact h)]
  rfl
theorem allFrom_step (p : Int → Bool) (s : ByteArray) (i : Nat) (h : i < s.size) : allFrom p s i = (p (bt s i) && allFrom p s (i + 1)) := by
  unfold allFrom
  have h' : i < s.data.toList.length := by rw [data_length]; exact h
  rw [List.drop_eq_getElem_cons h', List.all_cons, bt_nat s i h, List.getD_eq_getElem?_getD, List.getElem?_eq_getElem h']
  rfl
theorem bytes_ext {a b : ByteArray} (h : a.data.toList = b.data.toList) : a = b := by
  cases a; cases b
  congr 1
  exact Array.toList_inj.1 h
theorem beq_toList (a b : ByteArray) : (a.toList == b.toList) = decide (a = b) := by
  rw [ByteArray.toList_eq, ByteArray.toList_eq, Bool.eq_iff_iff]
  simp only [beq_iff_eq, decide_eq_true_eq]
  exact ⟨bytes_ext, fun h => by rw [h]⟩
theorem append_data (a b : ByteArray) : (a ++ b).data.toList = a.data.toList ++ b.data.toList := by
  rw [ByteArray.data_append, Array.toList_append]
theorem size_eq_length (s : ByteArray) : s.size = s.data.toList.length := (data_length s).symm
theorem isEmpty_size (s : ByteArray) : s.data.toList.isEmpty = decide (s.size = 0) := by
  rw [size_eq_length]
  cases s.data.toList <;> simp
def rtrim (p : UInt8 → Bool) (l : List UInt8) : List UInt8 := (l.reverse.dropWhile p).reverse
theorem rtrim_cons (p : UInt8 → Bool) (a : UInt8) (t : List UInt8) : rtrim p (a :: t) = if (rtrim p t).isEmpty then (if p a then [] else [a]) else a :: rtrim p t := by
  unfold rtrim
  rw [List.reverse_cons, List.dropWhile_append]
  by_cases h : (t.reverse.dropWhile p).isEmpty
  · rw [if_pos h]
    have h' : t.reverse.dropWhile p = [] := by simpa using h
    rw [h']
    cases hp : p a <;> simp [List.dropWhile, hp]
  · rw [if_neg h, if_neg (by simpa using h)]
    simp
theorem rtrim_left (p : UInt8 → Bool) (l : List UInt8) : (rtrim p l).dropWhile p = rtrim p (l.dropWhile p) := by
  induction l with
  | nil => rfl
  | cons a t ih =>
    rw [rtrim_cons]
    cases hp : p a with
    | true =>
      rw [List.dropWhile_cons_of_pos hp, ← ih]
      by_cases h : (rtrim p t).isEmpty
      · have h' : rtrim p t = [] := by simpa using h
        rw [if_pos h, if_pos rfl, h']
      · rw [if_neg h, List.dropWhile_cons_of_pos hp]
    | false =>
      rw [List.dropWhile_cons_of_neg (by simp [hp]), rtrim_cons, hp]
      by_cases h : (rtrim p t).isEmpty
      · rw [if_pos h]
        exact List.dropWhile_cons_of_neg (by simp [hp])
      · rw [if_neg h]
        exact List.dropWhile_cons_of_neg (by simp [hp])
def blankU (c : UInt8) : Bool := ([32, 9] : List UInt8).contains c
theorem blankU_int (c : UInt8) : blankI (c.toNat : Int) = blankU c := by
  have : ∀ n : Fin 256, blankI (n.val : Int) = blankU (UInt8.ofNat n.val) := by decide +kernel
  have h := this ⟨c.toNat, c.toNat_lt⟩
  simpa using h
theorem trimL_eq (l : List UInt8) : trimL l = (rtrim blankU l).dropWhile blankU := rfl
theorem trimL_eq' (l : List UInt8) : trimL l = rtrim blankU (l.dropWhile blankU) := by rw [trimL_eq, rtrim_left]
theorem rtrim_snoc (p : UInt8 → Bool) (l : List UInt8) (a : UInt8) : rtrim p (l ++ [a]) = if p a then rtrim p l else l ++ [a] := by
  unfold rtrim
  rw [List.reverse_append]
  cases hp : p a <;> simp [hp]
theorem trimS_data (s : ByteArray) : (trimS s).data.toList = trimL s.data.toList := rfl
theorem rtrim_length (p : UInt8 → Bool) (l : List UInt8) : (rtrim p l).length ≤ l.length := by
  unfold rtrim
  have := (List.dropWhile_sublist p (l := l.reverse)).length_le
  simpa using this
theorem first_of (s : ByteArray) (h : 0 < s.size) : ∃ c t, s.data.toList = c :: t ∧ bt s 0 = (c.toNat : Int) := by
  have hb := bt_nat s 0 h
  cases hl : s.data.toList with
  | nil => rw [size_eq_length, hl] at h; simp at h
  | cons c t => exact ⟨c, t, rfl, by rw [hl] at hb; exact hb⟩
theorem last_of (s : ByteArray) (h : 0 < s.size) : ∃ t c, s.data.toList = t ++ [c] ∧ bt s ((s.size : Int) - 1) = (c.toNat : Int) := by
  have hne : s.data.toList ≠ [] := by intro e; rw [size_eq_length, e] at h; simp at h
  have hb := bt_nat s (s.size - 1) (by omega)
  refine ⟨s.data.toList.dropLast, s.data.toList.getLast hne, (List.dropLast_concat_getLast hne).symm, ?_⟩
  rw [show ((s.size : Int) - 1) = ((s.size - 1 : Nat) : Int) by omega, hb, List.getLast_eq_getElem, List.getD_eq_getElem?_getD, List.getElem?_eq_getElem (by rw [data_length]; omega)]
  simp only [Option.getD_some, data_length]
end Go.Proofs.YtakbnoelbmgmhaaDoorH
end
section
namespace Go.Proofs.YtakbnoelbmgmhaaDoorH
open Go.RowKit Go.Proofs.YtakbnoelbmgmhaaDoorW.PrintWords Go.Proofs.YtakbnoelbmgmhaaDoorW.PrintLast Go.Proofs.YtakbnoelbmgmhaaDoorW.PrintMore
theorem take_one {α : Type} (l : List α) (d : α) (k : Nat) (h : k < l.length) : l.take (k + 1) = l.take k ++ [l.getD k d] := by
  rw [List.take_succ_eq_append_getElem h]
  simp [List.getD_eq_getElem?_getD, h]
theorem mem_getD {α : Type} (l : List α) (d : α) (k : Nat) (h : k < l.length) : l.getD k d ∈ l := by
  rw [List.getD_eq_getElem?_getD, List.getElem?_eq_getElem h]
  exact List.getElem_mem h
end Go.Proofs.YtakbnoelbmgmhaaDoorH
end
