import Derived.Test.YtakbnoelbmgmhaaDoorZEnchunkCostsP0
import Derived.Test.YtakbnoelbmgmhaaDoorProg
import Derived.SizedLaws
import Derived.ChangeSlices
import Derived.Below
import Derived.Outline
import Derived.Shelf.Vars
import Derived.Test.YtakbnoelbmgmhaaDoorRows
import Derived.LaidSub
import Derived.MakeChecks
import Derived.ProofKit
import Derived.OpenShut
import Derived.LaidMore
import Derived.Laws.BitsLemmas
import Derived.Laws.Bits64b
import Derived.Laws.Slices
import Derived.Deep.CutBlock
import Derived.WalkKit
import Derived.RowKit3
import Derived.Shelf.Strings.Builder1
import Derived.Shelf.Strings.Trim
import Derived.Shelf.Small.Utf8
import Derived.Shelf.Small.Strs
import Derived.Shelf.Strconv.Itoa0
import Derived.Shelf.Strconv.Itoa1
import Derived.Shelf.LaysM
import Derived.Shelf.Strconv.Itoa2
import Derived.Shelf.Strings.Search1
import Derived.Shelf.Unicode.Decode
import Derived.Shelf.Strings.Runes
import Derived.Shelf.Strings.AsciiSet
import Derived.Shelf.Unicode.DecodeSlow
import Derived.Shelf.Unicode.DecodeAny
import Derived.Shelf.Unicode.DecodeLast
import Derived.Ground.SlbCloneProg
import Derived.Shelf.Bytes.SlClone
import Derived.Ground.SlbNamesProg
import Derived.Shelf.Bytes.SlJoin
import Derived.Lib.SlFresh
import Derived.Lib.SlParts
import Derived.Laws.BytesArg
import Derived.Deep.Slices
import Derived.HandedShaped
import Derived.Handed
namespace Go.Proofs.YtakbnoelbmgmhaaDoorW.PrintWords
end Go.Proofs.YtakbnoelbmgmhaaDoorW.PrintWords
namespace Go.Proofs.YtakbnoelbmgmhaaDoorW.PrintLast
end Go.Proofs.YtakbnoelbmgmhaaDoorW.PrintLast
namespace Go.Proofs.YtakbnoelbmgmhaaDoorW.PrintMore
end Go.Proofs.YtakbnoelbmgmhaaDoorW.PrintMore
namespace Go.Proofs.YtakbnoelbmgmhaaDoorH
end Go.Proofs.YtakbnoelbmgmhaaDoorH
namespace Go.Proofs.YtakbnoelbmgmhaaDoor.Pe
end Go.Proofs.YtakbnoelbmgmhaaDoor.Pe
section
namespace Go.Proofs.YtakbnoelbmgmhaaDoorH
open Go.RowKit Go.Proofs.YtakbnoelbmgmhaaDoorW.PrintWords Go.Proofs.YtakbnoelbmgmhaaDoorW.PrintLast Go.Proofs.YtakbnoelbmgmhaaDoorW.PrintMore
def MxOk (w : World) : Prop := ∃ m : Int, w.cell? ⟨0, 0, none⟩ = some (.int .i64 m)
theorem MxOk.below {w w1 : World} (h : MxOk w) (hb : Below w.heap.size w w1) : MxOk w1 := by
  obtain ⟨m, hm⟩ := h
  exact ⟨m, pw_cell_below hb hm⟩
structure TabOk (w : World) : Prop where
  c0 : w.cell? ⟨2, 0, none⟩ = some (.int .u8 48)
  c1 : w.cell? ⟨2, 1, none⟩ = some (.int .u8 57)
  c2 : w.cell? ⟨2, 2, none⟩ = some (.int .u8 65)
  c3 : w.cell? ⟨2, 3, none⟩ = some (.int .u8 90)
  c4 : w.cell? ⟨2, 4, none⟩ = some (.int .u8 97)
  c5 : w.cell? ⟨2, 5, none⟩ = some (.int .u8 122)
  mx : MxOk w
theorem TabOk.below {w w1 : World} (h : TabOk w) (hb : Below w.heap.size w w1) : TabOk w1 :=
  ⟨pw_cell_below hb h.c0, pw_cell_below hb h.c1, pw_cell_below hb h.c2, pw_cell_below hb h.c3, pw_cell_below hb h.c4, pw_cell_below hb h.c5, h.mx.below hb⟩
theorem TabOk.drawn {w w1 : World} (h : TabOk w) (hb : Drawn0 w w1) : TabOk w1 := h.below hb.below
theorem TabOk.drewN {w : World} (h : TabOk w) (n : Nat) : TabOk (w.drewN n) := h.drawn ⟨⟨n, rfl⟩⟩
end Go.Proofs.YtakbnoelbmgmhaaDoorH
end
section
namespace Go.Proofs.YtakbnoelbmgmhaaDoorH
open Go.RowKit Go.ChangeShapes Go.WideShapes Go.ChangeAt
theorem cells_of_one {W : World} {cs : List Value} {y : DataW Unit × List MemPlace} {m : Nat} {x0 : Int}
    (hd : DataW.trod (fun _ => ()) Tryd.prog W 0 (fun _ => true) false m 5 cs = some y) (hy : y.1 = .lit (.int .u8 x0)) : cs = [.int .u8 x0] := by
  obtain ⟨n, e1, e2, _⟩ := DataW.trod_int Tryd.underlying5 hd
  rw [e2] at hy
  simp only [DataW.lit.injEq, Lit.int.injEq, true_and] at hy
  rw [e1, hy]
end Go.Proofs.YtakbnoelbmgmhaaDoorH
end
section
namespace Go.Proofs.YtakbnoelbmgmhaaDoorH
open Go.RowKit Go.ChangeShapes Go.WideShapes Go.ChangeAt Go.Proofs.YtakbnoelbmgmhaaDoorW.PrintWords
def TabZ (w : World) : Prop := w.cell? ⟨5, 15, none⟩ = some (.int .u8 4)
theorem TabZ.below {w w1 : World} (h : TabZ w) (hb : Below w.heap.size w w1) : TabZ w1 := pw_cell_below hb h
def kidsOf : DataW Unit → List (DataW Unit)
  | .agg l => l
  | _ => []
theorem tabZ_of_laid {W : World} {L : List (String × DataW Unit)} (h : laidMetH Tryd.prog L W) (hp : (L.all fun x => x.2.handleName?.isNone) = true)
    (hf : L.filter (fun x => x.1 == "math/bits.deBruijn64tab") = [("math/bits.deBruijn64tab", Go.Proofs.YtakbnoelbmgmhaaDoor.Rows.laid_math_bits_deBruijn64tab)]) (_hs : W.ShapedOpen Tryd.prog) : TabZ W := by
  have c5 : Tryd.prog.cellsOf 5 = 1 := by kernel_rfl
  rw [MakeChecks.laidMetH_plain _ _ _ hp] at h
  have h2 := laidMet.filter (fun x => x.1 == "math/bits.deBruijn64tab") h
  rw [hf] at h2
  obtain ⟨ps, ⟨g, t, cs, fuel, p, q, hg, ht, hv, hd, _, _⟩, _, _⟩ := h2
  obtain rfl := Option.some.inj ((show Tryd.prog.globalNamed "math/bits.deBruijn64tab" = some 5 by kernel_rfl).symm.trans hg)
  obtain rfl := Option.some.inj ((show (Tryd.prog.globals[5]?).map (·.type) = some 136 by kernel_rfl).symm.trans ht)
  have hc := World.var?_cell hg hv
  have at_ : ∀ j, cs[j]? = cs.toList[j]? := fun j => (Array.getElem?_toList ..).symm
  obtain ⟨xs, m, _, ex, hn, hl, hel⟩ := DataW.trod_array Tryd.underlying136 hd
  have h15 := hel 15 (by omega)
  have e : kidsOf Go.Proofs.YtakbnoelbmgmhaaDoor.Rows.laid_math_bits_deBruijn64tab = xs.map (·.1) := congrArg (fun y => kidsOf y.1) ex
  have hx : (xs.map (·.1))[15]? = some (.lit (.int .u8 4)) := by
    rw [← e]
    rfl
  simp only [c5] at h15
  rw [List.getElem?_map] at hx
  obtain ⟨y, hy, hy2⟩ := Option.map_eq_some_iff.1 hx
  have e0 := cells_of_one (y := y) (h15.trans hy) hy2
  refine (hc 15).trans ((at_ 15).trans ?_)
  have := congrArg (fun l => l[0]?) e0
  simpa using this
end Go.Proofs.YtakbnoelbmgmhaaDoorH
end
section
namespace Go.Proofs.YtakbnoelbmgmhaaDoorH
open Go.RowKit Go.Proofs.YtakbnoelbmgmhaaDoorW.PrintWords Go.Proofs.YtakbnoelbmgmhaaDoorW.PrintLast Go.Proofs.YtakbnoelbmgmhaaDoorW.PrintMore
def hexD (n : Nat) : Int := if n < 10 then 48 + n else 87 + n
def hexL (n : Nat) : List Int := if _h : n < 16 then [hexD n] else hexL (n / 16) ++ [hexD (n % 16)]
termination_by n
decreasing_by omega
theorem hexL_lt {n : Nat} (h : n < 16) : hexL n = [hexD n] := by rw [hexL, dif_pos h]
theorem hexL_ge {n : Nat} (h : 16 ≤ n) : hexL n = hexL (n / 16) ++ [hexD (n % 16)] := by rw [hexL, dif_neg (by omega)]
theorem hexL_pos (n : Nat) : 1 ≤ (hexL n).length := by
  by_cases h : n < 16
  · rw [hexL_lt h]; exact Nat.le_refl _
  · rw [hexL_ge (by omega), List.length_append, List.length_singleton]; omega
theorem hexL_le : ∀ (k n : Nat), n < 16 ^ (k + 1) → (hexL n).length ≤ k + 1
  | 0, n, h => by
    rw [hexL_lt (by simpa using h)]
    exact Nat.le_refl _
  | k + 1, n, h => by
    by_cases h2 : n < 16
    · rw [hexL_lt h2]
      simp
    · rw [hexL_ge (by omega), List.length_append, List.length_singleton]
      have := hexL_le k (n / 16) (by
        rw [Nat.div_lt_iff_lt_mul (by decide)]
        calc n < 16 ^ (k + 1 + 1) := h
          _ = 16 ^ (k + 1) * 16 := Nat.pow_succ ..)
      omega
theorem hexL_le16 {n : Nat} (h : n < 18446744073709551616) : (hexL n).length ≤ 16 := hexL_le 15 n (by simpa using h)
theorem hexD_ok {n : Nat} (h : n < 16) : 0 ≤ hexD n ∧ hexD n ≤ 255 := by
  unfold hexD
  split <;> omega
end Go.Proofs.YtakbnoelbmgmhaaDoorH
end
section
namespace Go.Proofs.YtakbnoelbmgmhaaDoorH
open Go.RowKit Go.Proofs.YtakbnoelbmgmhaaDoorW.PrintWords Go.Proofs.YtakbnoelbmgmhaaDoorW.PrintLast Go.Proofs.YtakbnoelbmgmhaaDoorW.PrintMore
set_option maxHeartbeats 1600000 in
set_option maxRecDepth 100000 in
theorem tz64_calls (w : World) (hT : TabZ w) :
    Calls Tryd.prog 76 #[.int .u64 16] w fun e w' => e = .returned (.int .i64 4) ∧ w' = w := by
  unfold TabZ at hT
  have h1 : IntKind.u64.wrap (-16) = 18446744073709551600 := by decide +kernel
  have h2 : bits BinOp.and IntKind.u64 16 18446744073709551600 = 16 := by decide +kernel
  have h3 : IntKind.u64.wrap 4573923408821661840 = 4573923408821661840 := by decide +kernel
  go_enter Tryd.func76, Tryd.ntmps76
  go_wp2
  go_ret
  exact ⟨rfl, rfl⟩
set_option maxHeartbeats 1600000 in
set_option maxRecDepth 100000 in
theorem tz_calls (w : World) (hT : TabZ w) :
    Calls Tryd.prog 67 #[.int .u64 16] w fun e w' => e = .returned (.int .i64 4) ∧ w' = w := by
  have h1 := tz64_calls w hT
  clear hT
  go_enter Tryd.func67, Tryd.ntmps67
  go_wp2_with fail
  refine h1.mono ?_
  rintro e w' ⟨rfl, rfl⟩
  go_wp2
  go_ret
  exact ⟨rfl, rfl⟩
theorem add_plain2 (b o i : Nat) : (⟨b, o, none⟩ : Addr).add i = ⟨b, o + i, none⟩ := by unfold Addr.add; split <;> simp_all
def hexS (n : Nat) : ByteArray := strOfNums (hexL n)
abbrev digs : ByteArray := ⟨#[48, 49, 50, 51, 52, 53, 54, 55, 56, 57, 97, 98, 99, 100, 101, 102, 103, 104, 105, 106, 107, 108, 109, 110, 111, 112, 113, 114, 115, 116, 117, 118, 119, 120, 121, 122]⟩
def Tail (W : World) (b : Nat) (s : List Int) : Prop := ∃ (cs : Array Value) (T : TypeId), W.heap[b]? = some (.cells cs T (0, 0)) ∧ cs.size = 65 ∧ ∀ (j : Nat) (y : Int), s[j]? = some y → cs[65 - s.length + j]? = some (.int .u8 y)
theorem Tail.put {W : World} {b : Nat} {s : List Int} (h : Tail W b s) (hs : s.length < 65) (y : Int) : Tail (W.setCell ⟨b, 64 - s.length, none⟩ (.int .u8 y)) b (y :: s) := by
  obtain ⟨cs, T, hb, hz, hc⟩ := h
  refine ⟨cs.setIfInBounds (64 - s.length) (.int .u8 y), T, blk_put hb _ _ rfl, by simpa using hz, fun j x hx => ?_⟩
  rw [List.length_cons]
  cases j with
  | zero =>
    obtain rfl : y = x := by simpa using hx
    rw [show 65 - (s.length + 1) + 0 = 64 - s.length by omega, Array.getElem?_setIfInBounds_self_of_lt (by omega)]
  | succ j =>
    have hx : s[j]? = some x := by simpa using hx
    rw [show 65 - (s.length + 1) + (j + 1) = 65 - s.length + j by omega, Array.getElem?_setIfInBounds_ne (by omega)]
    exact hc j x hx
theorem Tail.reads {W : World} {b : Nat} {s : List Int} (h : Tail W b s) (hs : s.length ≤ 65) : Kd.C (Kd.int .u8) W (some ⟨b, 65 - s.length, none⟩) s.length s := by
  obtain ⟨cs, T, hb, hz, hc⟩ := h
  refine ⟨rfl, by omega, fun _ => ⟨_, rfl, fun j y hy => ⟨[.int .u8 y], rfl, rfl, fun i u hu => ?_⟩⟩⟩
  have : i = 0 ∧ .int .u8 y = u := by
    cases i with
    | zero => exact ⟨rfl, by simpa using hu⟩
    | succ i => simp at hu
  obtain ⟨rfl, rfl⟩ := this
  have hx := hc j y hy
  show W.cell? ((⟨b, 65 - s.length, none⟩ : Addr).add (j * 1 + 0)) = _
  rw [add_plain2, show 65 - s.length + (j * 1 + 0) = 65 - s.length + j by omega]
  exact (blk_cell hb _).trans hx
set_option maxHeartbeats 1600000 in
set_option maxRecDepth 100000 in
theorem pow2_calls (w : World) : Calls Tryd.prog 66 #[.int .i64 16] w fun e w' => e = .returned (.bool true) ∧ w' = w := by
  have h2 : bits BinOp.and IntKind.i64 16 15 = 0 := by decide +kernel
  go_enter Tryd.func66, Tryd.ntmps66
  go_wp2
  go_ret
  exact ⟨rfl, rfl⟩
theorem digs_at (d : Nat) (h : d < 16) (h2 : d < digs.size) : ((digs[d].toNat : Nat) : Int) = hexD d := by
  have : d = 0 ∨ d = 1 ∨ d = 2 ∨ d = 3 ∨ d = 4 ∨ d = 5 ∨ d = 6 ∨ d = 7 ∨ d = 8 ∨ d = 9 ∨ d = 10 ∨ d = 11 ∨ d = 12 ∨ d = 13 ∨ d = 14 ∨ d = 15 := by omega
  rcases this with rfl | rfl | rfl | rfl | rfl | rfl | rfl | rfl | rfl | rfl | rfl | rfl | rfl | rfl | rfl | rfl <;> rfl
theorem and15 (u : Nat) (h : u < 18446744073709551616) : bits BinOp.and IntKind.u64 (u : Int) 15 = ((u % 16 : Nat) : Int) := by
  have e := bits_and_u64_nat u 15 h (by decide)
  rw [Nat.and_two_pow_sub_one_eq_mod u 4] at e
  exact e
theorem Tail.new {W : World} (cs : Array Value) (T : TypeId) (h : cs.size = 65) : Tail (W.alloc (.cells cs T)) W.heap.size [] := ⟨cs, T, heap_alloc_new W _, h, fun j y hy => by simp at hy⟩
set_option maxHeartbeats 4000000 in
set_option maxRecDepth 100000 in
theorem formatBits_calls (n : Nat) (hn : n < 18446744073709551616) (w : World) (hT : TabZ w) :
    Calls Tryd.prog 56 #[.slice none 0 0, .int .u64 n, .int .i64 16, .bool false, .bool false] w fun e w' => e = .returned (.tuple #[.slice none 0 0, .string (hexS n)]) ∧ Below w.heap.size w w' := by
  have HTZ := Aside0.mk (fun W (h : Below w.heap.size w W) => (TabZ.below hT h : TabZ W))
  have HL := Aside0.mk (hexL_le16 hn)
  clear hT
  go_enter Tryd.func56, Tryd.ntmps56
  go_wp2_with fail
  refine (pow2_calls _).mono ?_
  rintro e w1 ⟨rfl, h1⟩
  have B1 := Aside0.mk (show Below w.heap.size w w1 by rw [h1]; exact (Below.refl _ _).alloc (Nat.le_refl _) _)
  have T1 := Aside0.mk (show Tail w1 w.heap.size [] by rw [h1]; exact Tail.new _ _ rfl)
  clear h1
  go_wp2_with fail
  refine (tz_calls w1 (HTZ.out _ B1.out)).mono ?_
  rintro e w2 ⟨rfl, rfl⟩
  go_wp2_with fail
  go_loopw [1, 13] (fun u1 u13 wr => ∃ (u k : Nat) (s : List Int), u1 = .int .u64 (u : Int) ∧ u13 = .int .i64 (65 - (k : Int)) ∧ k ≤ 15 ∧ u ≤ n ∧ Aside0 (s.length = k) ∧ Aside0 (hexL n = hexL u ++ s) ∧ Aside0 (Tail wr w.heap.size s) ∧ Aside0 (Below w.heap.size w wr)) (fun u1 _ _ => (intOf u1).toNat)
  case atStart => exact ⟨n, 0, [], rfl, rfl, by decide, Nat.le_refl _, ⟨rfl⟩, ⟨by simp⟩, T1, B1⟩
  case round =>
    obtain ⟨u, k, s, rfl, rfl, hk, hun, hs, he, ht, hb⟩ := hrel
    by_cases h16 : 16 ≤ u
    · have h16' : (16 : Int) ≤ (u : Int) := by omega
      have hw1 : IntKind.i64.wrap (65 - (k : Int) - 1) = 64 - (k : Int) := by
        unfold IntKind.wrap
        simp [IntKind.bits, IntKind.signed]
        omega
      obtain ⟨d, hd⟩ : ∃ d : Nat, u % 16 = d := ⟨_, rfl⟩
      have hd16 : d < 16 := by omega
      have ha := and15 u (by omega)
      rw [hd] at ha
      obtain ⟨cs, T, hb0, hz, hc⟩ := ht.out
      have cc := (blk_cell hb0 (64 - k)).trans (Array.getElem?_eq_getElem (show 64 - k < cs.size by omega))
      have fc := blk_frozen hb0 (64 - k)
      have hd0 : (0 : Int) ≤ (d : Int) := by omega
      have hd1 : (d : Int) < 36 := by omega
      go_wp2
      go_roundw
      case rel =>
        refine ⟨u / 16, k + 1, hexD d :: s, by simp, by simp; omega, ?_, by omega, ⟨by rw [List.length_cons, hs.out]⟩, ⟨?_⟩, ⟨?_⟩, ⟨Below.setCell hb.out (p := ⟨w.heap.size, _, none⟩) (Nat.le_refl _) _⟩⟩
        · have h1 := HL.out
          have h2 := hexL_pos (u / 16)
          have h3 := hs.out
          rw [he.out, hexL_ge h16, List.length_append, List.length_append, List.length_singleton] at h1
          omega
        · rw [he.out, hexL_ge h16, hd, List.append_assoc, List.singleton_append]
        · rw [digs_at d hd16]
          have h := ht.out.put (by rw [hs.out]; omega) (hexD d)
          rw [hs.out] at h
          exact h
      case measure =>
        simp [intOf]
        omega
    · have h16' : ¬ (16 : Int) ≤ (u : Int) := by omega
      have hw1 : IntKind.i64.wrap (65 - (k : Int) - 1) = 64 - (k : Int) := by
        unfold IntKind.wrap
        simp [IntKind.bits, IntKind.signed]
        omega
      obtain ⟨cs, T, hb0, hz, hc⟩ := ht.out
      have cc := (blk_cell hb0 (64 - k)).trans (Array.getElem?_eq_getElem (show 64 - k < cs.size by omega))
      have fc := blk_frozen hb0 (64 - k)
      have hd0 : (0 : Int) ≤ (u : Int) := by omega
      have hd1 : (u : Int) < 36 := by omega
      have ht2 := fun y => ht.out.put (by rw [hs.out]; omega) y
      have hcv : ∀ y : Int, (convert 25 9 (.slice (some ⟨w.heap.size, 64 - k, none⟩) (k + 1) (k + 1))).run Tryd.prog (wr.setCell ⟨w.heap.size, 64 - k, none⟩ (.int .u8 y)) = .ok (.string (strOfNums (y :: s))) (wr.setCell ⟨w.heap.size, 64 - k, none⟩ (.int .u8 y)) := fun y => by
        have h := Kd.C_string (P := Tryd.prog) Tryd.underlying25 Tryd.underlying5 Tryd.underlying9 (n := (y :: s).length) (c := (y :: s).length) ((ht2 y).reads (by rw [List.length_cons, hs.out]; omega))
        rw [List.length_cons, hs.out, show 65 - (k + 1) = 64 - k by omega] at h
        exact h
      clear ht2
      have hal : Tryd.prog.arrayLen 123 = 65 := by kernel_rfl
      have hel : Tryd.prog.elem 123 = 5 := by kernel_rfl
      have hsl : ∀ W, (Instr.sliceAt 123 (.pointer (some ⟨w.heap.size, 0, none⟩)) (some (.int .i64 (64 - (k : Int)))) none none).run Tryd.prog W = .ok (.slice (some ⟨w.heap.size, 64 - k, none⟩) (k + 1) (k + 1)) W := fun W => by
        rw [run_sliceAt_array_l W 123 ⟨w.heap.size, 0, none⟩ (by rw [hal, hel]; exact Tryd.underlying123) .i64 (64 - (k : Int)) (by omega) (by rw [hal]; omega), hal, hel]
        have hsz : (Go.sizeOf 5).run Tryd.prog W = .ok 1 W := by kernel_rfl
        rw [hsz]
        simp [Result.andThen, slicedAt, add_plain2]
        omega
      clear hal hel
      go_wp2
      rw [digs_at u (by omega)]
      go_ret2
      refine ⟨?_, Below.setCell hb.out (p := ⟨w.heap.size, _, none⟩) (Nat.le_refl _) _⟩
      rw [show hexS n = strOfNums (hexD u :: s) by unfold hexS; rw [he.out, hexL_lt (by omega), List.singleton_append]]
      rfl
set_option maxHeartbeats 1600000 in
set_option maxRecDepth 100000 in
theorem iformat_calls (n : Nat) (hn : n < 18446744073709551616) (w : World) (hT : TabZ w) :
    Calls Tryd.prog 46 #[.int .u64 n, .int .i64 16] w fun e w' => e = .returned (.string (hexS n)) ∧ Below w.heap.size w w' := by
  have h1 := formatBits_calls n hn w hT
  clear hT
  go_enter Tryd.func46, Tryd.ntmps46
  go_wp2_with fail
  refine h1.mono ?_
  rintro e w' ⟨rfl, hb⟩
  clear h1
  go_wp2
  go_ret
  exact ⟨rfl, hb⟩
set_option maxHeartbeats 1600000 in
set_option maxRecDepth 100000 in
theorem sformat_calls (n : Nat) (hn : n < 18446744073709551616) (w : World) (hT : TabZ w) :
    Calls Tryd.prog 37 #[.int .u64 n, .int .i64 16] w fun e w' => e = .returned (.string (hexS n)) ∧ Below w.heap.size w w' := by
  have h1 := iformat_calls n hn w hT
  clear hT
  go_enter Tryd.func37, Tryd.ntmps37
  go_wp2_with fail
  refine h1.mono ?_
  rintro e w' ⟨rfl, hb⟩
  clear h1
  go_wp2
  go_ret
  exact ⟨rfl, hb⟩
set_option maxHeartbeats 1600000 in
set_option maxRecDepth 100000 in
theorem hput_calls (n : Nat) (hn : n < 18446744073709551616) (w : World) (hT : TabZ w) :
    Calls Tryd.prog 29 #[.int .u64 n] w fun e w' => e = .returned (.string (hexS n)) ∧ Below w.heap.size w w' := by
  have h1 := sformat_calls n hn w hT
  clear hT
  go_enter Tryd.func29, Tryd.ntmps29
  go_wp2_with fail
  refine h1.mono ?_
  rintro e w' ⟨rfl, hb⟩
  clear h1
  go_wp2
  go_ret
  exact ⟨rfl, hb⟩
theorem hexS_size (n : Nat) : (hexS n).size = (hexL n).length := strOfNums_size _
end Go.Proofs.YtakbnoelbmgmhaaDoorH
end
section
namespace Go.Proofs
open Go.Shelf
def Tryd.laysSlJ14_ren : Go.Shelf.Ren := ⟨fun | 14 => 32 | 15 => 42 | n => n, fun | 26 => 36 | 22 => 25 | 3 => 3 | 4 => 4 | 0 => 0 | 9 => 9 | 20 => 20 | 5 => 5 | n => n, fun | n => n⟩
theorem Tryd.laysSlJ14 : Go.Proofs.SlLaysJ.n14 Tryd.prog Tryd.laysSlJ14_ren := {
  mixed := by kernel_rfl
  f14 := Tryd.func32.trans (congrArg some (by kernel_rfl))
  f15 := Tryd.func42.trans (congrArg some (by kernel_rfl))
  t0 := Tryd.underlying0
  a0 := Tryd.isAgg0
  z0 := Tryd.sizeOf0
  v0 := Tryd.zeroValue0
  t3 := Tryd.underlying3
  a3 := Tryd.isAgg3
  z3 := Tryd.sizeOf3
  v3 := Tryd.zeroValue3
  t4 := Tryd.underlying4
  a4 := Tryd.isAgg4
  z4 := Tryd.sizeOf4
  v4 := Tryd.zeroValue4
  t9 := Tryd.underlying9
  a9 := Tryd.isAgg9
  z9 := Tryd.sizeOf9
  v9 := Tryd.zeroValue9
  t20 := Tryd.underlying20
  a20 := Tryd.isAgg20
  z20 := Tryd.sizeOf20
  v20 := Tryd.zeroValue20
  t22 := Tryd.underlying25
  a22 := Tryd.isAgg25
  z22 := Tryd.sizeOf25
  v22 := Tryd.zeroValue25
  t26 := Tryd.underlying36
  a26 := Tryd.isAgg36
  z26 := Tryd.sizeOf36
  v26 := Tryd.zeroValue36
  t5 := Tryd.underlying5
  z5 := Tryd.sizeOf5
  i5 := by kernel_rfl }
open Go.RowKit Go.Lib in
theorem Tryd.bytes_Join_many (b o n c : Nat) (vs : List Value) (ls : List (List UInt8)) (sv : Value) (sep : List UInt8) (w : World) (hn : ls.length = n) (h2 : 2 ≤ n) (hP : Lib.PartsAt w ⟨b, o, none⟩ vs ls) (hcap : n ≤ c) (hS : Lib.HoldsBytes w sv sep) (hn47 : n ≤ 140737488355328) (hlen : Lib.lens ls + sep.length * (n - 1) ≤ 140737488355328) :
    Calls Tryd.prog 32 #[.slice (some ⟨b, o, none⟩) n c, sv] w fun e w' => ∃ v', e = .returned v' ∧ Lib.FreshBytes w.heap.size w' v' (Lib.join ls sep) ∧ Below w.heap.size w w' := Any.bytes_Join_many Tryd.laysSlJ14 b o n c vs ls sv sep w hn h2 hP hcap hS hn47 hlen
end Go.Proofs
end
section
namespace Go.Proofs.YtakbnoelbmgmhaaDoorH
open Go Go.RowKit Go.Proofs.YtakbnoelbmgmhaaDoorW.PrintWords Go.Proofs.YtakbnoelbmgmhaaDoorW.PrintLast Go.Proofs.YtakbnoelbmgmhaaDoorW.PrintMore
def ByteL (l : List Int) : Prop := ∀ x ∈ l, 0 ≤ x ∧ x ≤ 255
def u8s (l : List Int) : List UInt8 := l.map fun x => UInt8.ofNat x.toNat
theorem u8s_length (l : List Int) : (u8s l).length = l.length := List.length_map ..
theorem u8_back {x : Int} (h : 0 ≤ x ∧ x ≤ 255) : ((UInt8.ofNat x.toNat).toNat : Int) = x := by
  rw [UInt8.toNat_ofNat']
  omega
def ofU8 (l : List UInt8) : List Int := l.map fun x => (x.toNat : Int)
theorem ofU8_u8s {l : List Int} (h : ByteL l) : ofU8 (u8s l) = l := by
  unfold ofU8 u8s
  rw [List.map_map]
  conv => rhs; rw [← List.map_id l]
  exact List.map_congr_left fun x hx => u8_back (h x hx)
theorem ofU8_append (a b : List UInt8) : ofU8 (a ++ b) = ofU8 a ++ ofU8 b := List.map_append ..
theorem ofU8_length (l : List UInt8) : (ofU8 l).length = l.length := List.length_map ..
def RowB (W : World) (v : Value) (l : List Int) : Prop := ∃ A c, v = .slice A l.length c ∧ l.length ≤ c ∧ Kd.C (Kd.int .u8) W A l.length l
theorem RowB.below {W W1 : World} {v : Value} {l : List Int} (h : RowB W v l) (hb : Below W.heap.size W W1) : RowB W1 v l := by
  obtain ⟨A, c, e, hc, hC⟩ := h
  exact ⟨A, c, e, hc, Kd.C_below hC hb⟩
theorem RowB.nil (W : World) : RowB W (.slice none 0 0) [] := ⟨none, 0, rfl, Nat.le_refl _, rfl, by decide, fun h => by cases h⟩
theorem holds_of_C {w : World} {A : Option Addr} {c : Nat} {l : List Int} (h : Kd.C (Kd.int .u8) w A l.length l) (hb : ByteL l) : Lib.HoldsBytes w (.slice A l.length c) (u8s l) := by
  refine ⟨A, c, by rw [u8s_length], fun hA => ?_, fun a ha i x hx => ?_⟩
  · subst hA
    rcases l with _ | ⟨y, l⟩
    · rfl
    · obtain ⟨_, e, _⟩ := h.2.2 (Nat.succ_pos _)
      cases e
  · subst ha
    unfold u8s at hx
    rw [List.getElem?_map] at hx
    obtain ⟨y, hy, rfl⟩ := Option.map_eq_some_iff.1 hx
    obtain ⟨ad, e, hc⟩ := h.2.2 (by have := (List.getElem?_eq_some_iff.1 hy).1; omega)
    cases e
    obtain ⟨cs, _, hK, hcs⟩ := hc i y hy
    have hK : cs = [.int .u8 y] := hK
    have := hcs 0 (.int .u8 y) (by rw [hK]; rfl)
    rw [u8_back (hb y (List.mem_of_getElem? hy))]
    rw [show i * (Kd.int .u8).sz + 0 = i by show i * 1 + 0 = i; omega] at this
    exact this
theorem row_of_fresh {B : Nat} {w : World} {v : Value} {l : List UInt8} (h : Lib.FreshBytes B w v l) : RowB w v (ofU8 l) := by
  obtain ⟨g, cap, zs, rfl, _, hl, hmx, hz, hr, hb, hc, _⟩ := h
  refine ⟨some ⟨g, 0, none⟩, cap, by rw [ofU8_length], by rw [ofU8_length]; exact hl, rfl, by rw [ofU8_length]; unfold maxLen at hmx; omega, fun _ => ⟨_, rfl, fun j y hy => ⟨[.int .u8 y], rfl, rfl, fun i u hu => ?_⟩⟩⟩
  have : i = 0 ∧ .int .u8 y = u := by
    cases i with
    | zero => exact ⟨rfl, by simpa using hu⟩
    | succ i => simp at hu
  obtain ⟨rfl, rfl⟩ := this
  have hj : j < l.length := by
    have := (List.getElem?_eq_some_iff.1 hy).1
    rwa [ofU8_length] at this
  have e : y = zs.getD j 0 := by
    have hz2 : (zs.take l.length)[j]? = some (zs.getD j 0) := by
      rw [List.getElem?_take_of_lt hj, List.getD_eq_getElem?_getD, List.getElem?_eq_getElem (by omega)]
      rfl
    have hy2 := hy
    rw [← hb] at hy2
    unfold ofU8 Lib.bytesOf at hy2
    rw [List.map_map, List.getElem?_map, hz2] at hy2
    have hm := hr (zs.getD j 0) (List.mem_of_getElem? (by rw [List.getD_eq_getElem?_getD, List.getElem?_eq_getElem (by omega)]; rfl : zs[j]? = some (zs.getD j 0)))
    have := Option.some.inj hy2
    rw [← this]
    exact u8_back ⟨hm.1, by omega⟩
  have h := hc j (by omega)
  rw [e]
  show w.cell? ((⟨g, 0, none⟩ : Addr).add (j * 1 + 0)) = _
  rw [add_plain, show j * 1 + 0 = j by omega]
  exact h
end Go.Proofs.YtakbnoelbmgmhaaDoorH
end
section
namespace Go.Proofs.YtakbnoelbmgmhaaDoorH
open Go.RowKit Go.Proofs.YtakbnoelbmgmhaaDoorW.PrintWords Go.Proofs.YtakbnoelbmgmhaaDoorW.PrintLast Go.Proofs.YtakbnoelbmgmhaaDoorW.PrintMore
def chunkL (l : List Int) : List Int := if l.length = 0 then [] else hexL l.length ++ ([13, 10] ++ (l ++ [13, 10]))
def costN (n : Nat) : Nat := if n = 0 then 0 else (hexL n).length + 4
theorem hexL_bytes (n : Nat) : ByteL (hexL n) := by
  induction n using Nat.strongRecOn with
  | ind n ih =>
    by_cases h : n < 16
    · rw [hexL_lt h]
      intro x hx
      rw [List.mem_singleton.1 hx]
      exact hexD_ok h
    · rw [hexL_ge (by omega)]
      intro x hx
      rcases List.mem_append.1 hx with hx | hx
      · exact ih (n / 16) (by omega) x hx
      · rw [List.mem_singleton.1 hx]
        exact hexD_ok (Nat.mod_lt _ (by decide))
set_option maxHeartbeats 4000000 in
set_option maxRecDepth 100000 in
theorem cost_calls (n : Int) (hn : n ≤ 9223372036854775807) (w : World) (hT : TabZ w) :
    Calls Tryd.prog 9 #[.int .i64 n] w fun e w' => e = .returned (.int .i64 (costN n.toNat)) ∧ Below w.heap.size w w' := by
  by_cases h : n < 1
  · have e : costN n.toNat = 0 := by unfold costN; rw [if_pos (by omega)]
    rw [e]
    go_enter Tryd.func9, Tryd.ntmps9
    go_wp2
    go_ret
    exact ⟨rfl, Below.refl _ _⟩
  · obtain ⟨m, rfl⟩ := Int.eq_ofNat_of_zero_le (show 0 ≤ n by omega)
    have h1 := hput_calls m (by omega) w hT
    have hle := hexL_le16 (n := m) (by omega)
    have hz := hexS_size m
    have e : costN (m : Int).toNat = (hexL m).length + 4 := by unfold costN; rw [if_neg (by omega), Int.toNat_natCast]
    have hw0 : IntKind.u64.wrap (m : Int) = m := by
      unfold IntKind.wrap
      simp [IntKind.bits, IntKind.signed]
      omega
    rw [e]
    clear hT e
    generalize hexS m = s at *
    rw [← hz] at hle
    rw [← hz]
    clear hz
    have hw1 : IntKind.i64.wrap ((s.size : Int) + 4) = (s.size : Int) + 4 := by
      unfold IntKind.wrap
      simp [IntKind.bits, IntKind.signed]
      omega
    have hlt : ¬ ((m : Int) < 1) := h
    go_enter Tryd.func9, Tryd.ntmps9
    go_wp2_with fail
    refine h1.mono ?_
    rintro e w' ⟨rfl, hb⟩
    clear h1
    go_wp2
    go_ret
    exact ⟨by simp, hb⟩
theorem strBytes (n : Nat) : ofU8 (hexS n).data.toList = hexL n := ofU8_u8s (hexL_bytes n)
theorem join3 (a l : List UInt8) : Lib.join [a, l, []] [13, 10] = a ++ ([13, 10] ++ (l ++ [13, 10])) := by
  simp [Lib.join, List.intercalate]
set_option maxHeartbeats 4000000 in
set_option maxRecDepth 100000 in
theorem chunk_calls (A : Option Addr) (c : Nat) (l : List Int) (w : World) (hr : Kd.C (Kd.int .u8) w A l.length l) (hc : l.length ≤ c) (hb : ByteL l) (hl : l.length ≤ 1073741824) (hT : TabZ w) :
    Calls Tryd.prog 13 #[.slice A l.length c] w fun e w' => ∃ v, e = .returned v ∧ RowB w' v (chunkL l) ∧ Below w.heap.size w w' := by
  by_cases h0 : l.length = 0
  · have e : chunkL l = [] := by unfold chunkL; rw [if_pos h0]
    have h0' : ((l.length : Nat) : Int) = 0 := by omega
    rw [e]
    generalize l.length = n at *
    subst h0
    go_enter Tryd.func13, Tryd.ntmps13
    go_wp2
    go_ret
    exact ⟨_, rfl, RowB.nil _, Below.refl _ _⟩
  · have e : chunkL l = hexL l.length ++ ([13, 10] ++ (l ++ [13, 10])) := by unfold chunkL; rw [if_neg h0]
    have hne : ((l.length : Int) == 0) = false := by rw [beq_eq_false_iff_ne]; omega
    have h1 := hput_calls l.length (by omega) w hT
    have hw0 : IntKind.u64.wrap (l.length : Int) = l.length := by
      unfold IntKind.wrap
      simp [IntKind.bits, IntKind.signed]
      omega
    have hhs := hexS_size l.length
    have hh16 := hexL_le16 (n := l.length) (by omega)
    have HR := Aside0.mk hr
    have HB := Aside0.mk hb
    have HE := Aside0.mk e
    have HS := Aside0.mk (show ofU8 (hexS l.length).data.toList = hexL l.length from strBytes _)
    have kb := fun W => print_bytes (P := Tryd.prog) 9 25 5 Tryd.underlying9 Tryd.underlying25 Tryd.underlying5 (hexS l.length) W
    clear hr hb e hT
    have HZ := Aside0.mk (show (hexS l.length).size ≤ 16 by rw [hhs]; exact hh16)
    have HL := Aside0.mk hl
    clear hhs hh16
    have HN := Aside0.mk (show ∃ n, l.length = n ∧ hexS l.length = hexS l.length from ⟨_, rfl, rfl⟩)
    go_enter Tryd.func13, Tryd.ntmps13
    go_wp2_with fail
    refine h1.mono ?_
    rintro e w1 ⟨rfl, b1⟩
    clear h1
    have HC1 := Aside0.mk (Kd.C_below HR.out b1)
    have B1 := Aside0.mk b1
    clear b1
    generalize hexS l.length = s at *
    obtain ⟨g, hg⟩ : ∃ g, grownCap w1 s.size 0 5 = g := ⟨_, rfl⟩
    have B2 := Aside0.mk (bytes_below B1.out B1.out.size 5 s)
    have R2 := Aside0.mk (show ∀ j, j < s.size → (Lib.bytesWorld w1 5 s).cell? ⟨w1.heap.size, j, none⟩ = some (.int .u8 (s.data.toList.getD j 0).toNat) from Lib.bytesWorld_cell w1 5 s)
    have C2 := Aside0.mk (Kd.C_below HC1.out (bytes_below (Below.refl w1.heap.size w1) (Nat.le_refl _) 5 s))
    have hcc := Lib.run_convert_bytes_const (P := Tryd.prog) ((Lib.bytesWorld w1 5 s).alloc (.cells #[.slice (some ⟨w1.heap.size, 0, none⟩) s.size g, .slice A l.length c, .slice none 0 0] 25)) 25 5 #[.int .u8 13, .int .u8 10] 2 2 Tryd.underlying25 Tryd.underlying5
    rw [World.size_alloc] at hcc
    go_wp2_with fail
    generalize Lib.bytesWorld w1 5 s = W2 at *
    obtain ⟨W4, hW4⟩ : ∃ W4, (W2.alloc (.cells #[.slice (some ⟨w1.heap.size, 0, none⟩) s.size g, .slice A l.length c, .slice none 0 0] 25)).alloc (.cells #[.int .u8 13, .int .u8 10] 5 (2, 3)) = W4 := ⟨_, rfl⟩
    have B4 := Aside0.mk (show Below w.heap.size w W4 by rw [← hW4]; exact (B2.out.alloc B2.out.size _).alloc (by rw [World.size_alloc]; have := B2.out.size; omega) _)
    have hb24 : Below W2.heap.size W2 W4 := by rw [← hW4]; exact ((Below.refl _ W2).alloc (Nat.le_refl _) _).alloc (by rw [World.size_alloc]; omega) _
    have P4 : W4.heap[W2.heap.size]? = some (.cells #[.slice (some ⟨w1.heap.size, 0, none⟩) s.size g, .slice A l.length c, .slice none 0 0] 25 (0, 0)) := by rw [← hW4]; exact blk_alloc (heap_alloc_new W2 _) _
    have S4 : W4.heap[W2.heap.size + 1]? = some (.cells #[.int .u8 13, .int .u8 10] 5 (2, 3)) := by
      rw [← hW4]
      have h := heap_alloc_new (W2.alloc (.cells #[.slice (some ⟨w1.heap.size, 0, none⟩) s.size g, .slice A l.length c, .slice none 0 0] 25)) (.cells #[.int .u8 13, .int .u8 10] 5 (2, 3))
      rw [World.size_alloc] at h
      exact h
    rw [hW4]
    have HP : Lib.PartsAt W4 ⟨W2.heap.size, 0, none⟩ [.slice (some ⟨w1.heap.size, 0, none⟩) s.size g, .slice A l.length c, .slice none 0 0] [s.data.toList, u8s l, []] := by
      refine ⟨rfl, fun i v hv => ?_, fun i v x hv hx => ?_⟩
      · match i, hv with
        | 0, hv => cases hv; exact (blk_cell P4 0).trans rfl
        | 1, hv => cases hv; exact (blk_cell P4 1).trans rfl
        | 2, hv => cases hv; exact (blk_cell P4 2).trans rfl
        | (i + 3), hv => simp at hv
      · match i, hv, hx with
        | 0, hv, hx =>
          cases hv; cases hx
          refine ⟨some ⟨w1.heap.size, 0, none⟩, g, by rw [data_length], (fun h => by cases h), fun a ha i x hx => ?_⟩
          cases ha
          have hi : i < s.size := by
            have := (List.getElem?_eq_some_iff.1 hx).1
            rwa [data_length] at this
          have h := pw_cell_below hb24 (R2.out i hi)
          rw [List.getD_eq_getElem?_getD, hx] at h
          rw [add_plain]
          exact h
        | 1, hv, hx =>
          cases hv; cases hx
          exact holds_of_C (Kd.C_below C2.out hb24) HB.out
        | 2, hv, hx =>
          cases hv; cases hx
          exact ⟨none, 0, rfl, fun _ => rfl, fun a h => by cases h⟩
        | (i + 3), hv, hx => simp at hv
    have HS4 : Lib.HoldsBytes W4 (.slice (some ⟨W2.heap.size + 1, 0, none⟩) 2 2) [13, 10] := by
      refine ⟨some ⟨W2.heap.size + 1, 0, none⟩, 2, rfl, (fun h => by cases h), fun a ha i x hx => ?_⟩
      cases ha
      match i, hx with
      | 0, hx => cases hx; exact World.news_of_block S4 0 _ rfl
      | 1, hx => cases hx; exact World.news_of_block S4 1 _ rfl
      | (i + 2), hx => simp at hx
    refine (Tryd.bytes_Join_many W2.heap.size 0 3 3 _ _ (.slice (some ⟨W2.heap.size + 1, 0, none⟩) 2 2) [13, 10] W4 rfl (by decide) HP (by decide) HS4 (by decide) ?_).mono ?_
    · have h1 := HZ.out
      have h2 := HL.out
      simp [Lib.lens, u8s_length]
      omega
    · rintro e w5 ⟨v, rfl, hf, b5⟩
      have hrow := row_of_fresh hf
      rw [join3, ofU8_append, ofU8_append, ofU8_append, HS.out, ofU8_u8s HB.out, show ofU8 [13, 10] = [13, 10] from rfl, ← show chunkL l = _ from HE.out] at hrow
      go_wp2
      go_ret
      exact ⟨_, rfl, hrow, below_step B4.out b5⟩
end Go.Proofs.YtakbnoelbmgmhaaDoorH
end
section
namespace Go.Proofs.YtakbnoelbmgmhaaDoor.Pe
open Go.RowKit Go.Proofs.YtakbnoelbmgmhaaDoorH Go.Proofs.YtakbnoelbmgmhaaDoorW.PrintWords Go.Proofs.YtakbnoelbmgmhaaDoorW.PrintLast Go.Proofs.YtakbnoelbmgmhaaDoorW.PrintMore
set_option maxHeartbeats 1600000 in
set_option maxRecDepth 100000 in
theorem wakes10_calls (w : World) (hT : TabZ w) :
    Calls Tryd.prog 8 #[] w fun e w' => e = .returned (.bool true) ∧ Below w.heap.size w w' := by
  have hcc := Lib.run_convert_bytes_const (P := Tryd.prog) w 25 5 #[.int .u8 97, .int .u8 98, .int .u8 99] 3 3 Tryd.underlying25 Tryd.underlying5
  have HT := Aside0.mk hT
  clear hT
  go_enter Tryd.func8, Tryd.ntmps8
  go_wp2_with fail
  obtain ⟨w1, hw1⟩ : ∃ w1, w.alloc (.cells #[.int .u8 97, .int .u8 98, .int .u8 99] 5 (3, 4)) = w1 := ⟨_, rfl⟩
  have hb1 : Below w.heap.size w w1 := by rw [← hw1]; exact (Below.refl _ w).alloc (Nat.le_refl _) _
  have hrow : Kd.C (Kd.int .u8) w1 (some ⟨w.heap.size, 0, none⟩) ([97, 98, 99] : List Int).length [97, 98, 99] := by
    have hh : w1.heap[w.heap.size]? = some (.cells #[.int .u8 97, .int .u8 98, .int .u8 99] 5 (3, 4)) := by rw [← hw1]; exact heap_alloc_new w _
    refine ⟨rfl, by decide, fun _ => ⟨_, rfl, fun j y hy => ⟨[.int .u8 y], rfl, rfl, fun i u hu => ?_⟩⟩⟩
    have : i = 0 ∧ .int .u8 y = u := by
      cases i with
      | zero => exact ⟨rfl, by simpa using hu⟩
      | succ i => simp at hu
    obtain ⟨rfl, rfl⟩ := this
    show w1.cell? ((⟨w.heap.size, 0, none⟩ : Addr).add (j * 1 + 0)) = _
    rw [show j * 1 + 0 = j by omega]
    match j, hy with
    | 0, hy => cases hy; exact World.news_of_block hh 0 _ rfl
    | 1, hy => cases hy; exact World.news_of_block hh 1 _ rfl
    | 2, hy => cases hy; exact World.news_of_block hh 2 _ rfl
    | (j + 3), hy => simp at hy
  rw [hw1]
  have B1 := Aside0.mk hb1
  clear hcc
  refine (chunk_calls _ 3 [97, 98, 99] w1 hrow (by decide) (by intro x hx; simp at hx; omega) (by decide) (HT.out.below hb1)).mono ?_
  rintro e w2 ⟨v, rfl, hr, b2⟩
  obtain ⟨A2, c2, rfl, hc2, hC2⟩ := hr
  have hcv := Kd.C_string (P := Tryd.prog) (c := c2) Tryd.underlying25 Tryd.underlying5 Tryd.underlying9 hC2
  have hch : chunkL [97, 98, 99] = [51, 13, 10, 97, 98, 99, 13, 10] := by
    unfold chunkL
    rw [if_neg (by decide), hexL_lt (by decide)]
    rfl
  rw [hch] at hcv
  rw [hch]
  have hst : strOfNums [51, 13, 10, 97, 98, 99, 13, 10] = ⟨#[51, 13, 10, 97, 98, 99, 13, 10]⟩ := by decide
  rw [hst] at hcv
  have B2 := Aside0.mk (below_step hb1 b2)
  have HT2 := Aside0.mk (HT.out.below B2.out)
  clear hst hch hC2 hrow hb1 b2 hc2 hw1
  simp only [List.length_cons, List.length_nil] at hcv
  go_wp2_with fail
  refine (cost_calls 16 (by decide) w2 HT2.out).mono ?_
  rintro e w3 ⟨rfl, b3⟩
  have hco : costN (16 : Int).toNat = 6 := by
    show costN 16 = 6
    unfold costN
    rw [if_neg (by decide), hexL_ge (by decide), hexL_lt (by decide)]
    rfl
  rw [hco]
  clear hcv hco
  go_wp2
  go_ret
  exact ⟨rfl, below_step B2.out b3⟩
end Go.Proofs.YtakbnoelbmgmhaaDoor.Pe
end
section
namespace Go.Proofs.YtakbnoelbmgmhaaDoor.Pe
open Go.RowKit Go.Proofs.YtakbnoelbmgmhaaDoorH Go.Proofs.YtakbnoelbmgmhaaDoorW.PrintWords Go.Proofs.YtakbnoelbmgmhaaDoorW.PrintLast Go.Proofs.YtakbnoelbmgmhaaDoorW.PrintMore
def moreN (k : Nat) : Nat := if k = 0 then 0 else (hexL k).length
theorem moreN_step {k : Nat} (h : 0 < k) : moreN k = moreN (k / 16) + 1 := by
  unfold moreN
  rw [if_neg (by omega)]
  by_cases h16 : k < 16
  · rw [if_pos (by omega), hexL_lt h16]; rfl
  · rw [if_neg (by omega), hexL_ge (by omega), List.length_append]; rfl
theorem moreN_le {k : Nat} (h : k < 18446744073709551616) : moreN k ≤ 16 := by
  unfold moreN
  split
  · omega
  · exact hexL_le16 h
def catchpitlaw10_EnchunkCosts.f (n : Int) : Option Bool := if n ≤ 9223372036854775807 then some true else none
set_option maxHeartbeats 4000000 in
set_option maxRecDepth 100000 in
theorem catchpitlaw10_EnchunkCosts.calls (n : Int) (r : Bool) (w : World) (hT : TabZ w) (h : catchpitlaw10_EnchunkCosts.f n = some r) :
    Calls Tryd.prog 3 #[.int .i64 n] w fun e w' => e = .returned (.bool r) ∧ Below w.heap.size w w' := by
  unfold catchpitlaw10_EnchunkCosts.f at h
  split at h
  case isFalse => cases h
  rename_i hn
  injection h with h
  subst h
  have HT := Aside0.mk hT
  clear hT
  by_cases h1 : 1 ≤ n
  · obtain ⟨m, rfl⟩ := Int.eq_ofNat_of_zero_le (show 0 ≤ n by omega)
    have HM := Aside0.mk (moreN_le (k := m) (by omega))
    have HC := Aside0.mk (show costN (m : Int).toNat = moreN m + 4 by
      unfold costN moreN
      rw [Int.toNat_natCast, if_neg (by omega), if_neg (by omega)])
    have HST := Aside0.mk (moreN_step (k := m) (by omega))
    go_enter Tryd.func3, Tryd.ntmps3
    go_wp2_with fail
    refine (wakes10_calls w HT.out).mono ?_
    rintro e w1 ⟨rfl, b1⟩
    have B1 := Aside0.mk b1
    have HT1 := Aside0.mk (HT.out.below b1)
    clear b1
    go_wp2_with fail
    go_loopw [3, 4] (fun u3 u4 wr => ∃ k : Nat, ∃ x : Nat, u3 = .int .i64 (x : Int) ∧ u4 = .int .i64 (k : Int) ∧ k ≤ m ∧ Aside0 (x + moreN k = moreN m + 4) ∧ wr = w1) (fun _ u4 _ => (intOf u4).toNat)
    case atStart =>
      refine ⟨m / 16, 5, rfl, ?_, by omega, ⟨by have := HST.out; omega⟩, by trivial⟩
      simp
    case round =>
      obtain ⟨k, x, rfl, rfl, hk, hx, rfl⟩ := hrel
      by_cases hk0 : 0 < k
      · have hk0' : (0 : Int) < (k : Int) := by omega
        have hw1 : IntKind.i64.wrap ((x : Int) + 1) = (x : Int) + 1 := by
          have := hx.out
          have := HM.out
          unfold IntKind.wrap
          simp [IntKind.bits, IntKind.signed]
          omega
        go_wp2
        go_roundw
        case rel =>
          refine ⟨k / 16, x + 1, by simp, by simp, by omega, ⟨?_⟩, by trivial⟩
          have := hx.out
          rw [moreN_step hk0] at this
          omega
        case measure =>
          simp [intOf]
          omega
      · obtain rfl : k = 0 := by omega
        have hc := cost_calls (m : Int) hn _ HT1.out
        have hx2 : x = moreN m + 4 := by
          have := hx.out
          have e : moreN 0 = 0 := rfl
          omega
        rw [HC.out, ← hx2] at hc
        clear hx2
        go_wp2_with fail
        refine hc.mono ?_
        rintro e w2 ⟨rfl, b2⟩
        clear hc
        go_wp2
        go_ret
        exact ⟨by simp, below_step B1.out b2⟩
  · have h1' : n < 1 := by omega
    have hc : costN n.toNat = 0 := by unfold costN; rw [if_pos (by omega)]
    have HC := Aside0.mk hc
    clear hc h1
    go_enter Tryd.func3, Tryd.ntmps3
    go_wp2_with fail
    refine (wakes10_calls w HT.out).mono ?_
    rintro e w1 ⟨rfl, b1⟩
    have B1 := Aside0.mk b1
    have hc := cost_calls n hn w1 (HT.out.below b1)
    rw [HC.out] at hc
    clear b1
    go_wp2_with fail
    refine hc.mono ?_
    rintro e w2 ⟨rfl, b2⟩
    clear hc
    go_wp2
    go_ret
    exact ⟨rfl, below_step B1.out b2⟩
end Go.Proofs.YtakbnoelbmgmhaaDoor.Pe
end
section
namespace Go.Proofs.YtakbnoelbmgmhaaDoor.Pure
open Go.RowKit Go.Proofs.YtakbnoelbmgmhaaDoorH Go.Proofs.YtakbnoelbmgmhaaDoor.Pe Go.Proofs.YtakbnoelbmgmhaaDoorW.PrintWords Go.Proofs.YtakbnoelbmgmhaaDoorW.PrintLast
theorem EnchunkCosts (n : Int) (h : (Lit.int .i64 n).wf = true) : catchpitlaw10_EnchunkCosts.f n = some true := by
  refine if_pos ?_
  have m2 : IntKind.i64.max = 9223372036854775807 := rfl
  simp [Lit.wf, m2] at h
  omega
end Go.Proofs.YtakbnoelbmgmhaaDoor.Pure
end
section
namespace Go.Proofs.YtakbnoelbmgmhaaDoorH
open Go.RowKit Go.ChangeShapes Go.WideShapes Go.ChangeAt Go.Proofs.YtakbnoelbmgmhaaDoorW.PrintWords
def Light {H : Type} (P : Program) (t : TypeId) (d : DataW H) : Prop := ∀ x ∈ DataW.weights P t d, x ≤ reachBytes
structure Opens (P : Program) {α : Type} (d : Kd α) (t : TypeId) (G : α → Prop) : Prop where
  cells : P.cellsOf t = d.sz
  open_ : ∀ {H : Type} {enc : TypeId × Value → H} {W : World} {fuel : Nat} {cs : List Value} {x : DataW H × List MemPlace},
    DataW.trod enc P W 0 (fun _ => true) true fuel t cs = some x → Light P t x.1 → ∃ y, d.K W y cs ∧ G y
theorem Opens.int {P : Program} {t : TypeId} {k : IntKind} (hu : P.underlying t = some (.int k)) (hc : P.cellsOf t = 1) : Opens P (Kd.int k) t (fun n => (Lit.int k n).wf = true) := by
  refine ⟨hc, fun h _ => ?_⟩
  obtain ⟨n, e1, e2, wf⟩ := DataW.trod_int hu h
  exact ⟨n, e1, wf⟩
theorem Opens.bool {P : Program} {t : TypeId} (hu : P.underlying t = some .bool) (hc : P.cellsOf t = 1) : Opens P Kd.bool t (fun _ => True) := by
  refine ⟨hc, fun {_ _ _ fuel cs _} h _ => ?_⟩
  cases fuel with
  | zero => simp [DataW.trod] at h
  | succ m =>
    unfold DataW.trod at h
    rw [hu] at h
    match cs, h with
    | [.bool b], _ => exact ⟨b, rfl, trivial⟩
theorem Opens.string {P : Program} {t : TypeId} (hu : P.underlying t = some .string) (hc : P.cellsOf t = 1) : Opens P Kd.string t (fun s => s.size ≤ 140737488351232) := by
  refine ⟨hc, fun h hl => ?_⟩
  obtain ⟨s, e1, e2, _⟩ := DataW.trod_string hu h
  refine ⟨s, e1, ?_⟩
  subst e2
  have := hl s.data.toList.length (by simp [DataW.weights])
  rw [data_length] at this
  exact this
theorem weightsAll_mem {H : Type} (P : Program) (e : TypeId) : ∀ (l : List (DataW H)) (d : DataW H), d ∈ l → ∀ x ∈ DataW.weights P e d, x ∈ DataW.weightsAll P e l
  | [], d, h, _, _ => by cases h
  | a :: l, d, h, x, hx => by
    rw [DataW.weightsAll]
    rcases List.mem_cons.1 h with rfl | h
    · exact List.mem_append_left _ hx
    · exact List.mem_append_right _ (weightsAll_mem P e l d h x hx)
theorem list_of {α : Type} {p : Nat → α → Prop} : ∀ n : Nat, (∀ i, i < n → ∃ y, p i y) → ∃ l : List α, l.length = n ∧ ∀ i y, l[i]? = some y → p i y
  | 0, _ => ⟨[], rfl, fun i y h => by simp at h⟩
  | n + 1, h => by
    obtain ⟨l, hl, hp⟩ := list_of n (fun i hi => h i (by omega))
    obtain ⟨y, hy⟩ := h n (by omega)
    refine ⟨l ++ [y], by simp [hl], fun i z hz => ?_⟩
    rcases Nat.lt_or_ge i n with hi | hi
    · rw [List.getElem?_append_left (by omega)] at hz
      exact hp i z hz
    · rw [List.getElem?_append_right (by omega), hl] at hz
      rcases Nat.eq_zero_or_pos (i - n) with h0 | h0
      · rw [h0] at hz
        obtain rfl : i = n := by omega
        obtain rfl : y = z := by simpa using hz
        exact hy
      · rw [List.getElem?_eq_none (by simp; omega)] at hz
        cases hz
theorem add_add (a : Addr) (i j : Nat) : (a.add i).add j = a.add (i + j) := by
  unfold Addr.add
  by_cases h1 : i = 0
  · subst h1; simp
  · by_cases h2 : j = 0
    · subst h2; simp [h1]
    · simp [h1, h2, Nat.add_assoc]
theorem cells_at {W : World} {base : Nat} {a : Addr} {n : Nat} {cs : List Value} (h : W.cells? base a n = some cs) : cs.length = n ∧ ∀ (i : Nat) u, cs[i]? = some u → W.cell? (a.add i) = some u := by
  obtain ⟨_, hn, hc⟩ := World.cells?_some h
  refine ⟨hn, fun i u hu => ?_⟩
  have hi : i < n := by
    rcases Nat.lt_or_ge i n with hi | hi
    · exact hi
    · rw [List.getElem?_eq_none (by omega)] at hu; cases hu
  rw [hc i hi, hu]
theorem Opens.slice {P : Program} {α : Type} {d : Kd α} {t e : TypeId} {G : α → Prop} (h : Opens P d e G) (hu : P.underlying t = some (.slice e)) (hc : P.cellsOf t = 1) {B : Nat} (hB : P.bytesOf e = B) :
    Opens P (Kd.slice e d) t (fun l => l.length * B ≤ 140737488351232 ∧ ∀ y ∈ l, G y) := by
  refine ⟨hc, fun {H enc W fuel cs x} hx hl => ?_⟩
  rcases Deep.open_slice hu hx with ⟨rfl, rfl⟩ | ⟨a, len, cap, m, n, D, Pl, rfl, _, hle, hm, hmm, rfl, hel⟩
  · exact ⟨[], ⟨none, 0, rfl, Nat.le_refl _, rfl, by simp, fun h => by simp at h⟩, by simp, fun y hy => by cases hy⟩
  · simp only [if_true] at hmm
    subst hmm
    have hw : (len + (m - len)) * B ≤ 140737488351232 := by
      have := hl ((len + (m - len)) * B) (by
        unfold DataW.weights
        simp only [hu, hB]
        simp)
      exact this
    have hget : ∀ i, i < len → ∃ y, (∃ c, c.length = d.sz ∧ d.K W y c ∧ ∀ j u, c[j]? = some u → W.cell? (a.add (i * d.sz + j)) = some u) ∧ G y := by
      intro i hi
      obtain ⟨cs', h1, h2⟩ := hel i (by omega)
      obtain ⟨y, hy, hg⟩ := h.open_ h2 (fun x hx => hl x (by
        unfold DataW.weights
        simp only [hu]
        refine List.mem_cons_of_mem _ (List.mem_append_left _ (weightsAll_mem P e _ (D i) ?_ x hx))
        exact List.mem_map.2 ⟨i, List.mem_range.2 hi, rfl⟩))
      obtain ⟨hn, hcell⟩ := cells_at h1
      refine ⟨y, ⟨cs', by rw [hn, h.cells], hy, fun j u hj => ?_⟩, hg⟩
      have := hcell j u hj
      rw [add_add, h.cells] at this
      exact this
    obtain ⟨l, hll, hat⟩ := list_of len hget
    refine ⟨l, ⟨some a, m, by rw [hll], by omega, rfl, by rw [hll]; unfold maxLen at hm; omega, fun _ => ⟨a, rfl, fun j p hj => (hat j p hj).1⟩⟩, ?_, fun y hy => ?_⟩
    · rw [hll]
      exact Nat.le_trans (Nat.mul_le_mul_right _ (by omega)) hw
    · obtain ⟨i, hi, rfl⟩ := List.mem_iff_getElem.1 hy
      exact (hat i _ (List.getElem?_eq_getElem hi)).2
end Go.Proofs.YtakbnoelbmgmhaaDoorH
end
section
namespace Go.Proofs.YtakbnoelbmgmhaaDoorH
open Go
variable {H : Type} {enc : TypeId × Value → H}
theorem returns_and_shaped {a : Assume} {C : Checked} {os : Os} {f : FuncId} {fn : Func} {s : ChangeSpec} {conds : List PathCond} {apart fresh handsOn again : Bool} {X : World → Array Value → Prop}
    (hX : ∀ (w w' : World) (args : Array Value), w.heap = w'.heap → X w args → X w' args)
    (own : ownKnob C.prog.godebug = none) (started : os.Started) (noInit : C.prog.inits.idxOf? f = none) (hfn : C.prog.funcs[f]? = some fn)
    (witness : ∃ (w : World) (tape : Tape) (i : Input), w.os = os ∧ (w.forCall tape i).Shaped C.prog ∧ i.vars = [] ∧ Input.okWide C.prog (w.forCall tape i) .any w.heap.size f i ∧
      ((s.pre enc C.prog fn conds apart (w.forCall tape i).memory i.args ∧ X (w.forCall tape i).memory i.args) ∧ sizedMet enc C.prog fn (OpenSpec.ofChange s) apart (w.forCall tape i).memory i.args) ∧ a.holds C.prog (lone (Frame.enter C.prog f i.args .normal) [] (w.forCall tape i)))
    (contract : ∀ (W : World) (base : Nat) (args : Array Value) (ds gs : List (DataW H)) (before : List MemPlace),
      (∀ (j : Nat) t v, fn.params[j]? = some t → args[j]? = some v → Value.okWide C.prog W .any base t v) →
      DataW.Whole enc C.prog fn.params.toList s.vars apart W args.toList ds gs before →
      conds.all (PathCond.test C.prog ⟨fn.params.toList, ds, s.plain.varTypes C.prog, gs⟩) = true →
      (DataW.weightsEach C.prog (fn.params.toList ++ s.plain.varTypes C.prog) (ds ++ gs)).all (· ≤ reachBytes) = true → X W args →
      W.ShapedOpen C.prog →
      a.holds C.prog (lone (Frame.enter C.prog f args .normal) [] W) →
      Calls C.prog f args W fun e W' => ∃ v, e = .returned v ∧ s.post enc C.prog fn apart fresh handsOn again W args v W') :
    ReturnsInHanded a C os f .any (fun w args => (s.pre enc C.prog fn conds apart w args ∧ X w args) ∧ sizedMet enc C.prog fn (OpenSpec.ofChange s) apart w args) (s.post enc C.prog fn apart fresh handsOn again) := by
  refine returnsInHanded_of_calls own started noInit witness ?_
  intro w tape i _ hsh _ hok hpre hholds
  obtain ⟨_, _, _, fn', hfn', _, _, _, _, hval⟩ := hok
  have e : fn' = fn := Option.some.inj (hfn'.symm.trans hfn)
  subst e
  obtain ⟨⟨⟨ds, gs, before, hw, hc⟩, hx⟩, hz⟩ := hpre
  have hw' := DataW.Whole.of_heap (w' := w.forCall tape i) (by rfl) hw
  refine (contract (w.forCall tape i) w.heap.size i.args ds gs before hval hw' hc (hz.weights hw) (hX _ _ _ (by rfl) hx) hsh hholds).mono fun e W' ⟨v, he, hp⟩ => ?_
  subst he
  exact ChangeSpec.post_blind hp
end Go.Proofs.YtakbnoelbmgmhaaDoorH
end
