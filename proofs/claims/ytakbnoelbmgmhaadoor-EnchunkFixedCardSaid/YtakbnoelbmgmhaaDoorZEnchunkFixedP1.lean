import Derived.Test.YtakbnoelbmgmhaaDoorZEnchunkFixedP0
import Derived.Test.YtakbnoelbmgmhaaDoorProg
import Derived.SizedLaws
import Derived.ChangeSlices
import Derived.Below
import Derived.Outline
import Derived.Shelf.Vars
import Derived.Test.YtakbnoelbmgmhaaDoorRows
import Derived.LaidSub
import Derived.MakeChecks
import Derived.ProofKit
import Derived.OpenShut
import Derived.LaidMore
import Derived.Laws.BitsLemmas
import Derived.Laws.Bits64b
import Derived.Laws.Slices
import Derived.Deep.CutBlock
import Derived.WalkKit
import Derived.RowKit3
import Derived.Shelf.Strings.Builder1
import Derived.Shelf.Strings.Trim
import Derived.Shelf.Small.Utf8
import Derived.Shelf.Small.Strs
import Derived.Shelf.Strconv.Itoa0
import Derived.Shelf.Strconv.Itoa1
import Derived.Shelf.LaysM
import Derived.Shelf.Strconv.Itoa2
import Derived.Shelf.Strings.Search1
import Derived.Shelf.Unicode.Decode
import Derived.Shelf.Strings.Runes
import Derived.Shelf.Strings.AsciiSet
import Derived.Shelf.Unicode.DecodeSlow
import Derived.Shelf.Unicode.DecodeAny
import Derived.Shelf.Unicode.DecodeLast
import Derived.Ground.SlbCloneProg
import Derived.Shelf.Bytes.SlClone
import Derived.Ground.SlbNamesProg
import Derived.Shelf.Bytes.SlJoin
import Derived.Lib.SlFresh
import Derived.Lib.SlParts
import Derived.Laws.BytesArg
import Derived.Laws.Pointers
import Derived.Laws.NewBlocks
import Derived.Deep.RegionHeld3
namespace Go.Proofs.YtakbnoelbmgmhaaDoorW.PrintWords
end Go.Proofs.YtakbnoelbmgmhaaDoorW.PrintWords
namespace Go.Proofs.YtakbnoelbmgmhaaDoorW.PrintLast
end Go.Proofs.YtakbnoelbmgmhaaDoorW.PrintLast
namespace Go.Proofs.YtakbnoelbmgmhaaDoorW.PrintMore
end Go.Proofs.YtakbnoelbmgmhaaDoorW.PrintMore
namespace Go.Proofs.YtakbnoelbmgmhaaDoorH
end Go.Proofs.YtakbnoelbmgmhaaDoorH
section
namespace Go.Proofs.YtakbnoelbmgmhaaDoorH
open Go.RowKit Go.Proofs.YtakbnoelbmgmhaaDoorW.PrintWords Go.Proofs.YtakbnoelbmgmhaaDoorW.PrintLast Go.Proofs.YtakbnoelbmgmhaaDoorW.PrintMore
def MxOk (w : World) : Prop := ∃ m : Int, w.cell? ⟨0, 0, none⟩ = some (.int .i64 m)
theorem MxOk.below {w w1 : World} (h : MxOk w) (hb : Below w.heap.size w w1) : MxOk w1 := by
  obtain ⟨m, hm⟩ := h
  exact ⟨m, pw_cell_below hb hm⟩
structure TabOk (w : World) : Prop where
  c0 : w.cell? ⟨2, 0, none⟩ = some (.int .u8 48)
  c1 : w.cell? ⟨2, 1, none⟩ = some (.int .u8 57)
  c2 : w.cell? ⟨2, 2, none⟩ = some (.int .u8 65)
  c3 : w.cell? ⟨2, 3, none⟩ = some (.int .u8 90)
  c4 : w.cell? ⟨2, 4, none⟩ = some (.int .u8 97)
  c5 : w.cell? ⟨2, 5, none⟩ = some (.int .u8 122)
  mx : MxOk w
theorem TabOk.below {w w1 : World} (h : TabOk w) (hb : Below w.heap.size w w1) : TabOk w1 :=
  ⟨pw_cell_below hb h.c0, pw_cell_below hb h.c1, pw_cell_below hb h.c2, pw_cell_below hb h.c3, pw_cell_below hb h.c4, pw_cell_below hb h.c5, h.mx.below hb⟩
theorem TabOk.drawn {w w1 : World} (h : TabOk w) (hb : Drawn0 w w1) : TabOk w1 := h.below hb.below
theorem TabOk.drewN {w : World} (h : TabOk w) (n : Nat) : TabOk (w.drewN n) := h.drawn ⟨⟨n, rfl⟩⟩
end Go.Proofs.YtakbnoelbmgmhaaDoorH
end
section
namespace Go.Proofs.YtakbnoelbmgmhaaDoorH
open Go.RowKit Go.ChangeShapes Go.WideShapes Go.ChangeAt
theorem cells_of_one {W : World} {cs : List Value} {y : DataW Unit × List MemPlace} {m : Nat} {x0 : Int}
    (hd : DataW.trod (fun _ => ()) Tryd.prog W 0 (fun _ => true) false m 5 cs = some y) (hy : y.1 = .lit (.int .u8 x0)) : cs = [.int .u8 x0] := by
  obtain ⟨n, e1, e2, _⟩ := DataW.trod_int Tryd.underlying5 hd
  rw [e2] at hy
  simp only [DataW.lit.injEq, Lit.int.injEq, true_and] at hy
  rw [e1, hy]
end Go.Proofs.YtakbnoelbmgmhaaDoorH
end
section
namespace Go.Proofs.YtakbnoelbmgmhaaDoorH
open Go.RowKit Go.ChangeShapes Go.WideShapes Go.ChangeAt Go.Proofs.YtakbnoelbmgmhaaDoorW.PrintWords
def TabZ (w : World) : Prop := w.cell? ⟨5, 15, none⟩ = some (.int .u8 4)
theorem TabZ.below {w w1 : World} (h : TabZ w) (hb : Below w.heap.size w w1) : TabZ w1 := pw_cell_below hb h
def kidsOf : DataW Unit → List (DataW Unit)
  | .agg l => l
  | _ => []
theorem tabZ_of_laid {W : World} {L : List (String × DataW Unit)} (h : laidMetH Tryd.prog L W) (hp : (L.all fun x => x.2.handleName?.isNone) = true)
    (hf : L.filter (fun x => x.1 == "math/bits.deBruijn64tab") = [("math/bits.deBruijn64tab", Go.Proofs.YtakbnoelbmgmhaaDoor.Rows.laid_math_bits_deBruijn64tab)]) (_hs : W.ShapedOpen Tryd.prog) : TabZ W := by
  have c5 : Tryd.prog.cellsOf 5 = 1 := by kernel_rfl
  rw [MakeChecks.laidMetH_plain _ _ _ hp] at h
  have h2 := laidMet.filter (fun x => x.1 == "math/bits.deBruijn64tab") h
  rw [hf] at h2
  obtain ⟨ps, ⟨g, t, cs, fuel, p, q, hg, ht, hv, hd, _, _⟩, _, _⟩ := h2
  obtain rfl := Option.some.inj ((show Tryd.prog.globalNamed "math/bits.deBruijn64tab" = some 5 by kernel_rfl).symm.trans hg)
  obtain rfl := Option.some.inj ((show (Tryd.prog.globals[5]?).map (·.type) = some 136 by kernel_rfl).symm.trans ht)
  have hc := World.var?_cell hg hv
  have at_ : ∀ j, cs[j]? = cs.toList[j]? := fun j => (Array.getElem?_toList ..).symm
  obtain ⟨xs, m, _, ex, hn, hl, hel⟩ := DataW.trod_array Tryd.underlying136 hd
  have h15 := hel 15 (by omega)
  have e : kidsOf Go.Proofs.YtakbnoelbmgmhaaDoor.Rows.laid_math_bits_deBruijn64tab = xs.map (·.1) := congrArg (fun y => kidsOf y.1) ex
  have hx : (xs.map (·.1))[15]? = some (.lit (.int .u8 4)) := by
    rw [← e]
    rfl
  simp only [c5] at h15
  rw [List.getElem?_map] at hx
  obtain ⟨y, hy, hy2⟩ := Option.map_eq_some_iff.1 hx
  have e0 := cells_of_one (y := y) (h15.trans hy) hy2
  refine (hc 15).trans ((at_ 15).trans ?_)
  have := congrArg (fun l => l[0]?) e0
  simpa using this
end Go.Proofs.YtakbnoelbmgmhaaDoorH
end
section
namespace Go.Proofs.YtakbnoelbmgmhaaDoorH
open Go.RowKit Go.Proofs.YtakbnoelbmgmhaaDoorW.PrintWords Go.Proofs.YtakbnoelbmgmhaaDoorW.PrintLast Go.Proofs.YtakbnoelbmgmhaaDoorW.PrintMore
def hexD (n : Nat) : Int := if n < 10 then 48 + n else 87 + n
def hexL (n : Nat) : List Int := if _h : n < 16 then [hexD n] else hexL (n / 16) ++ [hexD (n % 16)]
termination_by n
decreasing_by omega
theorem hexL_lt {n : Nat} (h : n < 16) : hexL n = [hexD n] := by rw [hexL, dif_pos h]
theorem hexL_ge {n : Nat} (h : 16 ≤ n) : hexL n = hexL (n / 16) ++ [hexD (n % 16)] := by rw [hexL, dif_neg (by omega)]
theorem hexL_pos (n : Nat) : 1 ≤ (hexL n).length := by
  by_cases h : n < 16
  · rw [hexL_lt h]; exact Nat.le_refl _
  · rw [hexL_ge (by omega), List.length_append, List.length_singleton]; omega
theorem hexL_le : ∀ (k n : Nat), n < 16 ^ (k + 1) → (hexL n).length ≤ k + 1
  | 0, n, h => by
    rw [hexL_lt (by simpa using h)]
    exact Nat.le_refl _
  | k + 1, n, h => by
    by_cases h2 : n < 16
    · rw [hexL_lt h2]
      simp
    · rw [hexL_ge (by omega), List.length_append, List.length_singleton]
      have := hexL_le k (n / 16) (by
        rw [Nat.div_lt_iff_lt_mul (by decide)]
        calc n < 16 ^ (k + 1 + 1) := h
          _ = 16 ^ (k + 1) * 16 := Nat.pow_succ ..)
      omega
theorem hexL_le16 {n : Nat} (h : n < 18446744073709551616) : (hexL n).length ≤ 16 := hexL_le 15 n (by simpa using h)
theorem hexD_ok {n : Nat} (h : n < 16) : 0 ≤ hexD n ∧ hexD n ≤ 255 := by
  unfold hexD
  split <;> omega
end Go.Proofs.YtakbnoelbmgmhaaDoorH
end
section
namespace Go.Proofs.YtakbnoelbmgmhaaDoorH
open Go.RowKit Go.Proofs.YtakbnoelbmgmhaaDoorW.PrintWords Go.Proofs.YtakbnoelbmgmhaaDoorW.PrintLast Go.Proofs.YtakbnoelbmgmhaaDoorW.PrintMore
set_option maxHeartbeats 1600000 in
set_option maxRecDepth 100000 in
theorem tz64_calls (w : World) (hT : TabZ w) :
    Calls Tryd.prog 76 #[.int .u64 16] w fun e w' => e = .returned (.int .i64 4) ∧ w' = w := by
  unfold TabZ at hT
  have h1 : IntKind.u64.wrap (-16) = 18446744073709551600 := by decide +kernel
  have h2 : bits BinOp.and IntKind.u64 16 18446744073709551600 = 16 := by decide +kernel
  have h3 : IntKind.u64.wrap 4573923408821661840 = 4573923408821661840 := by decide +kernel
  go_enter Tryd.func76, Tryd.ntmps76
  go_wp2
  go_ret
  exact ⟨rfl, rfl⟩
set_option maxHeartbeats 1600000 in
set_option maxRecDepth 100000 in
theorem tz_calls (w : World) (hT : TabZ w) :
    Calls Tryd.prog 67 #[.int .u64 16] w fun e w' => e = .returned (.int .i64 4) ∧ w' = w := by
  have h1 := tz64_calls w hT
  clear hT
  go_enter Tryd.func67, Tryd.ntmps67
  go_wp2_with fail
  refine h1.mono ?_
  rintro e w' ⟨rfl, rfl⟩
  go_wp2
  go_ret
  exact ⟨rfl, rfl⟩
theorem add_plain2 (b o i : Nat) : (⟨b, o, none⟩ : Addr).add i = ⟨b, o + i, none⟩ := by unfold Addr.add; split <;> simp_all
def hexS (n : Nat) : ByteArray := strOfNums (hexL n)
abbrev digs : ByteArray := ⟨#[48, 49, 50, 51, 52, 53, 54, 55, 56, 57, 97, 98, 99, 100, 101, 102, 103, 104, 105, 106, 107, 108, 109, 110, 111, 112, 113, 114, 115, 116, 117, 118, 119, 120, 121, 122]⟩
def Tail (W : World) (b : Nat) (s : List Int) : Prop := ∃ (cs : Array Value) (T : TypeId), W.heap[b]? = some (.cells cs T (0, 0)) ∧ cs.size = 65 ∧ ∀ (j : Nat) (y : Int), s[j]? = some y → cs[65 - s.length + j]? = some (.int .u8 y)
theorem Tail.put {W : World} {b : Nat} {s : List Int} (h : Tail W b s) (hs : s.length < 65) (y : Int) : Tail (W.setCell ⟨b, 64 - s.length, none⟩ (.int .u8 y)) b (y :: s) := by
  obtain ⟨cs, T, hb, hz, hc⟩ := h
  refine ⟨cs.setIfInBounds (64 - s.length) (.int .u8 y), T, blk_put hb _ _ rfl, by simpa using hz, fun j x hx => ?_⟩
  rw [List.length_cons]
  cases j with
  | zero =>
    obtain rfl : y = x := by simpa using hx
    rw [show 65 - (s.length + 1) + 0 = 64 - s.length by omega, Array.getElem?_setIfInBounds_self_of_lt (by omega)]
  | succ j =>
    have hx : s[j]? = some x := by simpa using hx
    rw [show 65 - (s.length + 1) + (j + 1) = 65 - s.length + j by omega, Array.getElem?_setIfInBounds_ne (by omega)]
    exact hc j x hx
theorem Tail.reads {W : World} {b : Nat} {s : List Int} (h : Tail W b s) (hs : s.length ≤ 65) : Kd.C (Kd.int .u8) W (some ⟨b, 65 - s.length, none⟩) s.length s := by
  obtain ⟨cs, T, hb, hz, hc⟩ := h
  refine ⟨rfl, by omega, fun _ => ⟨_, rfl, fun j y hy => ⟨[.int .u8 y], rfl, rfl, fun i u hu => ?_⟩⟩⟩
  have : i = 0 ∧ .int .u8 y = u := by
    cases i with
    | zero => exact ⟨rfl, by simpa using hu⟩
    | succ i => simp at hu
  obtain ⟨rfl, rfl⟩ := this
  have hx := hc j y hy
  show W.cell? ((⟨b, 65 - s.length, none⟩ : Addr).add (j * 1 + 0)) = _
  rw [add_plain2, show 65 - s.length + (j * 1 + 0) = 65 - s.length + j by omega]
  exact (blk_cell hb _).trans hx
set_option maxHeartbeats 1600000 in
set_option maxRecDepth 100000 in
theorem pow2_calls (w : World) : Calls Tryd.prog 66 #[.int .i64 16] w fun e w' => e = .returned (.bool true) ∧ w' = w := by
  have h2 : bits BinOp.and IntKind.i64 16 15 = 0 := by decide +kernel
  go_enter Tryd.func66, Tryd.ntmps66
  go_wp2
  go_ret
  exact ⟨rfl, rfl⟩
theorem digs_at (d : Nat) (h : d < 16) (h2 : d < digs.size) : ((digs[d].toNat : Nat) : Int) = hexD d := by
  have : d = 0 ∨ d = 1 ∨ d = 2 ∨ d = 3 ∨ d = 4 ∨ d = 5 ∨ d = 6 ∨ d = 7 ∨ d = 8 ∨ d = 9 ∨ d = 10 ∨ d = 11 ∨ d = 12 ∨ d = 13 ∨ d = 14 ∨ d = 15 := by omega
  rcases this with rfl | rfl | rfl | rfl | rfl | rfl | rfl | rfl | rfl | rfl | rfl | rfl | rfl | rfl | rfl | rfl <;> rfl
theorem and15 (u : Nat) (h : u < 18446744073709551616) : bits BinOp.and IntKind.u64 (u : Int) 15 = ((u % 16 : Nat) : Int) := by
  have e := bits_and_u64_nat u 15 h (by decide)
  rw [Nat.and_two_pow_sub_one_eq_mod u 4] at e
  exact e
theorem Tail.new {W : World} (cs : Array Value) (T : TypeId) (h : cs.size = 65) : Tail (W.alloc (.cells cs T)) W.heap.size [] := ⟨cs, T, heap_alloc_new W _, h, fun j y hy => by simp at hy⟩
set_option maxHeartbeats 4000000 in
set_option maxRecDepth 100000 in
theorem formatBits_calls (n : Nat) (hn : n < 18446744073709551616) (w : World) (hT : TabZ w) :
    Calls Tryd.prog 56 #[.slice none 0 0, .int .u64 n, .int .i64 16, .bool false, .bool false] w fun e w' => e = .returned (.tuple #[.slice none 0 0, .string (hexS n)]) ∧ Below w.heap.size w w' := by
  have HTZ := Aside0.mk (fun W (h : Below w.heap.size w W) => (TabZ.below hT h : TabZ W))
  have HL := Aside0.mk (hexL_le16 hn)
  clear hT
  go_enter Tryd.func56, Tryd.ntmps56
  go_wp2_with fail
  refine (pow2_calls _).mono ?_
  rintro e w1 ⟨rfl, h1⟩
  have B1 := Aside0.mk (show Below w.heap.size w w1 by rw [h1]; exact (Below.refl _ _).alloc (Nat.le_refl _) _)
  have T1 := Aside0.mk (show Tail w1 w.heap.size [] by rw [h1]; exact Tail.new _ _ rfl)
  clear h1
  go_wp2_with fail
  refine (tz_calls w1 (HTZ.out _ B1.out)).mono ?_
  rintro e w2 ⟨rfl, rfl⟩
  go_wp2_with fail
  go_loopw [1, 13] (fun u1 u13 wr => ∃ (u k : Nat) (s : List Int), u1 = .int .u64 (u : Int) ∧ u13 = .int .i64 (65 - (k : Int)) ∧ k ≤ 15 ∧ u ≤ n ∧ Aside0 (s.length = k) ∧ Aside0 (hexL n = hexL u ++ s) ∧ Aside0 (Tail wr w.heap.size s) ∧ Aside0 (Below w.heap.size w wr)) (fun u1 _ _ => (intOf u1).toNat)
  case atStart => exact ⟨n, 0, [], rfl, rfl, by decide, Nat.le_refl _, ⟨rfl⟩, ⟨by simp⟩, T1, B1⟩
  case round =>
    obtain ⟨u, k, s, rfl, rfl, hk, hun, hs, he, ht, hb⟩ := hrel
    by_cases h16 : 16 ≤ u
    · have h16' : (16 : Int) ≤ (u : Int) := by omega
      have hw1 : IntKind.i64.wrap (65 - (k : Int) - 1) = 64 - (k : Int) := by
        unfold IntKind.wrap
        simp [IntKind.bits, IntKind.signed]
        omega
      obtain ⟨d, hd⟩ : ∃ d : Nat, u % 16 = d := ⟨_, rfl⟩
      have hd16 : d < 16 := by omega
      have ha := and15 u (by omega)
      rw [hd] at ha
      obtain ⟨cs, T, hb0, hz, hc⟩ := ht.out
      have cc := (blk_cell hb0 (64 - k)).trans (Array.getElem?_eq_getElem (show 64 - k < cs.size by omega))
      have fc := blk_frozen hb0 (64 - k)
      have hd0 : (0 : Int) ≤ (d : Int) := by omega
      have hd1 : (d : Int) < 36 := by omega
      go_wp2
      go_roundw
      case rel =>
        refine ⟨u / 16, k + 1, hexD d :: s, by simp, by simp; omega, ?_, by omega, ⟨by rw [List.length_cons, hs.out]⟩, ⟨?_⟩, ⟨?_⟩, ⟨Below.setCell hb.out (p := ⟨w.heap.size, _, none⟩) (Nat.le_refl _) _⟩⟩
        · have h1 := HL.out
          have h2 := hexL_pos (u / 16)
          have h3 := hs.out
          rw [he.out, hexL_ge h16, List.length_append, List.length_append, List.length_singleton] at h1
          omega
        · rw [he.out, hexL_ge h16, hd, List.append_assoc, List.singleton_append]
        · rw [digs_at d hd16]
          have h := ht.out.put (by rw [hs.out]; omega) (hexD d)
          rw [hs.out] at h
          exact h
      case measure =>
        simp [intOf]
        omega
    · have h16' : ¬ (16 : Int) ≤ (u : Int) := by omega
      have hw1 : IntKind.i64.wrap (65 - (k : Int) - 1) = 64 - (k : Int) := by
        unfold IntKind.wrap
        simp [IntKind.bits, IntKind.signed]
        omega
      obtain ⟨cs, T, hb0, hz, hc⟩ := ht.out
      have cc := (blk_cell hb0 (64 - k)).trans (Array.getElem?_eq_getElem (show 64 - k < cs.size by omega))
      have fc := blk_frozen hb0 (64 - k)
      have hd0 : (0 : Int) ≤ (u : Int) := by omega
      have hd1 : (u : Int) < 36 := by omega
      have ht2 := fun y => ht.out.put (by rw [hs.out]; omega) y
      have hcv : ∀ y : Int, (convert 25 9 (.slice (some ⟨w.heap.size, 64 - k, none⟩) (k + 1) (k + 1))).run Tryd.prog (wr.setCell ⟨w.heap.size, 64 - k, none⟩ (.int .u8 y)) = .ok (.string (strOfNums (y :: s))) (wr.setCell ⟨w.heap.size, 64 - k, none⟩ (.int .u8 y)) := fun y => by
        have h := Kd.C_string (P := Tryd.prog) Tryd.underlying25 Tryd.underlying5 Tryd.underlying9 (n := (y :: s).length) (c := (y :: s).length) ((ht2 y).reads (by rw [List.length_cons, hs.out]; omega))
        rw [List.length_cons, hs.out, show 65 - (k + 1) = 64 - k by omega] at h
        exact h
      clear ht2
      have hal : Tryd.prog.arrayLen 123 = 65 := by kernel_rfl
      have hel : Tryd.prog.elem 123 = 5 := by kernel_rfl
      have hsl : ∀ W, (Instr.sliceAt 123 (.pointer (some ⟨w.heap.size, 0, none⟩)) (some (.int .i64 (64 - (k : Int)))) none none).run Tryd.prog W = .ok (.slice (some ⟨w.heap.size, 64 - k, none⟩) (k + 1) (k + 1)) W := fun W => by
        rw [run_sliceAt_array_l W 123 ⟨w.heap.size, 0, none⟩ (by rw [hal, hel]; exact Tryd.underlying123) .i64 (64 - (k : Int)) (by omega) (by rw [hal]; omega), hal, hel]
        have hsz : (Go.sizeOf 5).run Tryd.prog W = .ok 1 W := by kernel_rfl
        rw [hsz]
        simp [Result.andThen, slicedAt, add_plain2]
        omega
      clear hal hel
      go_wp2
      rw [digs_at u (by omega)]
      go_ret2
      refine ⟨?_, Below.setCell hb.out (p := ⟨w.heap.size, _, none⟩) (Nat.le_refl _) _⟩
      rw [show hexS n = strOfNums (hexD u :: s) by unfold hexS; rw [he.out, hexL_lt (by omega), List.singleton_append]]
      rfl
set_option maxHeartbeats 1600000 in
set_option maxRecDepth 100000 in
theorem iformat_calls (n : Nat) (hn : n < 18446744073709551616) (w : World) (hT : TabZ w) :
    Calls Tryd.prog 46 #[.int .u64 n, .int .i64 16] w fun e w' => e = .returned (.string (hexS n)) ∧ Below w.heap.size w w' := by
  have h1 := formatBits_calls n hn w hT
  clear hT
  go_enter Tryd.func46, Tryd.ntmps46
  go_wp2_with fail
  refine h1.mono ?_
  rintro e w' ⟨rfl, hb⟩
  clear h1
  go_wp2
  go_ret
  exact ⟨rfl, hb⟩
set_option maxHeartbeats 1600000 in
set_option maxRecDepth 100000 in
theorem sformat_calls (n : Nat) (hn : n < 18446744073709551616) (w : World) (hT : TabZ w) :
    Calls Tryd.prog 37 #[.int .u64 n, .int .i64 16] w fun e w' => e = .returned (.string (hexS n)) ∧ Below w.heap.size w w' := by
  have h1 := iformat_calls n hn w hT
  clear hT
  go_enter Tryd.func37, Tryd.ntmps37
  go_wp2_with fail
  refine h1.mono ?_
  rintro e w' ⟨rfl, hb⟩
  clear h1
  go_wp2
  go_ret
  exact ⟨rfl, hb⟩
set_option maxHeartbeats 1600000 in
set_option maxRecDepth 100000 in
theorem hput_calls (n : Nat) (hn : n < 18446744073709551616) (w : World) (hT : TabZ w) :
    Calls Tryd.prog 29 #[.int .u64 n] w fun e w' => e = .returned (.string (hexS n)) ∧ Below w.heap.size w w' := by
  have h1 := sformat_calls n hn w hT
  clear hT
  go_enter Tryd.func29, Tryd.ntmps29
  go_wp2_with fail
  refine h1.mono ?_
  rintro e w' ⟨rfl, hb⟩
  clear h1
  go_wp2
  go_ret
  exact ⟨rfl, hb⟩
theorem hexS_size (n : Nat) : (hexS n).size = (hexL n).length := strOfNums_size _
end Go.Proofs.YtakbnoelbmgmhaaDoorH
end
section
namespace Go.Proofs
open Go.Shelf
def Tryd.laysSlK4_ren : Go.Shelf.Ren := ⟨fun | 4 => 123 | n => n, fun | 22 => 25 | 4 => 4 | 5 => 5 | n => n, fun | n => n⟩
theorem Tryd.laysSlK4 : Go.Proofs.SlLaysK.n4 Tryd.prog Tryd.laysSlK4_ren := {
  mixed := by kernel_rfl
  f4 := Tryd.func123.trans (congrArg some (by kernel_rfl))
  t4 := Tryd.underlying4
  a4 := Tryd.isAgg4
  z4 := Tryd.sizeOf4
  v4 := Tryd.zeroValue4
  t22 := Tryd.underlying25
  a22 := Tryd.isAgg25
  z22 := Tryd.sizeOf25
  v22 := Tryd.zeroValue25
  t5 := Tryd.underlying5
  i5 := by kernel_rfl }
open Go.RowKit Go.Lib in
theorem Tryd.bytes_Clone_at (a : Addr) (n c : Nat) (xs : List Int) (w : World) (hx : xs.length = n) (hbig : n ≤ 140737488355328) (hc : ∀ i, i < n → w.cell? (a.add i) = some (.int .u8 (xs.getD i 0))) :
    Calls Tryd.prog 123 #[.slice (some a) n c] w fun e w' => ∃ v', e = .returned v' ∧ w'.ownsRow w.heap.size 5 1 v' n (xs.map (Value.int .u8)) ∧ v' ≠ .slice none 0 0 ∧ Below w.heap.size w w' := Any.bytes_Clone_at Tryd.laysSlK4 a n c xs w hx hbig hc
open Go.RowKit Go.Lib in
theorem Tryd.bytes_Clone_nil (n c : Nat) (w : World) :
    Calls Tryd.prog 123 #[.slice none n c] w fun e w' => e = .returned (.slice none 0 0) ∧ w' = w := Any.bytes_Clone_nil Tryd.laysSlK4 n c w
def Tryd.laysSlJ14_ren : Go.Shelf.Ren := ⟨fun | 14 => 32 | 15 => 42 | n => n, fun | 26 => 36 | 22 => 25 | 3 => 3 | 4 => 4 | 0 => 0 | 9 => 9 | 20 => 20 | 5 => 5 | n => n, fun | n => n⟩
theorem Tryd.laysSlJ14 : Go.Proofs.SlLaysJ.n14 Tryd.prog Tryd.laysSlJ14_ren := {
  mixed := by kernel_rfl
  f14 := Tryd.func32.trans (congrArg some (by kernel_rfl))
  f15 := Tryd.func42.trans (congrArg some (by kernel_rfl))
  t0 := Tryd.underlying0
  a0 := Tryd.isAgg0
  z0 := Tryd.sizeOf0
  v0 := Tryd.zeroValue0
  t3 := Tryd.underlying3
  a3 := Tryd.isAgg3
  z3 := Tryd.sizeOf3
  v3 := Tryd.zeroValue3
  t4 := Tryd.underlying4
  a4 := Tryd.isAgg4
  z4 := Tryd.sizeOf4
  v4 := Tryd.zeroValue4
  t9 := Tryd.underlying9
  a9 := Tryd.isAgg9
  z9 := Tryd.sizeOf9
  v9 := Tryd.zeroValue9
  t20 := Tryd.underlying20
  a20 := Tryd.isAgg20
  z20 := Tryd.sizeOf20
  v20 := Tryd.zeroValue20
  t22 := Tryd.underlying25
  a22 := Tryd.isAgg25
  z22 := Tryd.sizeOf25
  v22 := Tryd.zeroValue25
  t26 := Tryd.underlying36
  a26 := Tryd.isAgg36
  z26 := Tryd.sizeOf36
  v26 := Tryd.zeroValue36
  t5 := Tryd.underlying5
  z5 := Tryd.sizeOf5
  i5 := by kernel_rfl }
open Go.RowKit Go.Lib in
theorem Tryd.bytes_Join_many (b o n c : Nat) (vs : List Value) (ls : List (List UInt8)) (sv : Value) (sep : List UInt8) (w : World) (hn : ls.length = n) (h2 : 2 ≤ n) (hP : Lib.PartsAt w ⟨b, o, none⟩ vs ls) (hcap : n ≤ c) (hS : Lib.HoldsBytes w sv sep) (hn47 : n ≤ 140737488355328) (hlen : Lib.lens ls + sep.length * (n - 1) ≤ 140737488355328) :
    Calls Tryd.prog 32 #[.slice (some ⟨b, o, none⟩) n c, sv] w fun e w' => ∃ v', e = .returned v' ∧ Lib.FreshBytes w.heap.size w' v' (Lib.join ls sep) ∧ Below w.heap.size w w' := Any.bytes_Join_many Tryd.laysSlJ14 b o n c vs ls sv sep w hn h2 hP hcap hS hn47 hlen
end Go.Proofs
end
section
namespace Go.Proofs.YtakbnoelbmgmhaaDoorH
open Go Go.RowKit Go.Proofs.YtakbnoelbmgmhaaDoorW.PrintWords Go.Proofs.YtakbnoelbmgmhaaDoorW.PrintLast Go.Proofs.YtakbnoelbmgmhaaDoorW.PrintMore
def ByteL (l : List Int) : Prop := ∀ x ∈ l, 0 ≤ x ∧ x ≤ 255
def u8s (l : List Int) : List UInt8 := l.map fun x => UInt8.ofNat x.toNat
theorem u8s_length (l : List Int) : (u8s l).length = l.length := List.length_map ..
theorem u8_back {x : Int} (h : 0 ≤ x ∧ x ≤ 255) : ((UInt8.ofNat x.toNat).toNat : Int) = x := by
  rw [UInt8.toNat_ofNat']
  omega
def ofU8 (l : List UInt8) : List Int := l.map fun x => (x.toNat : Int)
theorem ofU8_u8s {l : List Int} (h : ByteL l) : ofU8 (u8s l) = l := by
  unfold ofU8 u8s
  rw [List.map_map]
  conv => rhs; rw [← List.map_id l]
  exact List.map_congr_left fun x hx => u8_back (h x hx)
theorem ofU8_append (a b : List UInt8) : ofU8 (a ++ b) = ofU8 a ++ ofU8 b := List.map_append ..
theorem ofU8_length (l : List UInt8) : (ofU8 l).length = l.length := List.length_map ..
def RowB (W : World) (v : Value) (l : List Int) : Prop := ∃ A c, v = .slice A l.length c ∧ l.length ≤ c ∧ Kd.C (Kd.int .u8) W A l.length l
theorem RowB.below {W W1 : World} {v : Value} {l : List Int} (h : RowB W v l) (hb : Below W.heap.size W W1) : RowB W1 v l := by
  obtain ⟨A, c, e, hc, hC⟩ := h
  exact ⟨A, c, e, hc, Kd.C_below hC hb⟩
theorem RowB.nil (W : World) : RowB W (.slice none 0 0) [] := ⟨none, 0, rfl, Nat.le_refl _, rfl, by decide, fun h => by cases h⟩
theorem holds_of_C {w : World} {A : Option Addr} {c : Nat} {l : List Int} (h : Kd.C (Kd.int .u8) w A l.length l) (hb : ByteL l) : Lib.HoldsBytes w (.slice A l.length c) (u8s l) := by
  refine ⟨A, c, by rw [u8s_length], fun hA => ?_, fun a ha i x hx => ?_⟩
  · subst hA
    rcases l with _ | ⟨y, l⟩
    · rfl
    · obtain ⟨_, e, _⟩ := h.2.2 (Nat.succ_pos _)
      cases e
  · subst ha
    unfold u8s at hx
    rw [List.getElem?_map] at hx
    obtain ⟨y, hy, rfl⟩ := Option.map_eq_some_iff.1 hx
    obtain ⟨ad, e, hc⟩ := h.2.2 (by have := (List.getElem?_eq_some_iff.1 hy).1; omega)
    cases e
    obtain ⟨cs, _, hK, hcs⟩ := hc i y hy
    have hK : cs = [.int .u8 y] := hK
    have := hcs 0 (.int .u8 y) (by rw [hK]; rfl)
    rw [u8_back (hb y (List.mem_of_getElem? hy))]
    rw [show i * (Kd.int .u8).sz + 0 = i by show i * 1 + 0 = i; omega] at this
    exact this
theorem row_of_fresh {B : Nat} {w : World} {v : Value} {l : List UInt8} (h : Lib.FreshBytes B w v l) : RowB w v (ofU8 l) := by
  obtain ⟨g, cap, zs, rfl, _, hl, hmx, hz, hr, hb, hc, _⟩ := h
  refine ⟨some ⟨g, 0, none⟩, cap, by rw [ofU8_length], by rw [ofU8_length]; exact hl, rfl, by rw [ofU8_length]; unfold maxLen at hmx; omega, fun _ => ⟨_, rfl, fun j y hy => ⟨[.int .u8 y], rfl, rfl, fun i u hu => ?_⟩⟩⟩
  have : i = 0 ∧ .int .u8 y = u := by
    cases i with
    | zero => exact ⟨rfl, by simpa using hu⟩
    | succ i => simp at hu
  obtain ⟨rfl, rfl⟩ := this
  have hj : j < l.length := by
    have := (List.getElem?_eq_some_iff.1 hy).1
    rwa [ofU8_length] at this
  have e : y = zs.getD j 0 := by
    have hz2 : (zs.take l.length)[j]? = some (zs.getD j 0) := by
      rw [List.getElem?_take_of_lt hj, List.getD_eq_getElem?_getD, List.getElem?_eq_getElem (by omega)]
      rfl
    have hy2 := hy
    rw [← hb] at hy2
    unfold ofU8 Lib.bytesOf at hy2
    rw [List.map_map, List.getElem?_map, hz2] at hy2
    have hm := hr (zs.getD j 0) (List.mem_of_getElem? (by rw [List.getD_eq_getElem?_getD, List.getElem?_eq_getElem (by omega)]; rfl : zs[j]? = some (zs.getD j 0)))
    have := Option.some.inj hy2
    rw [← this]
    exact u8_back ⟨hm.1, by omega⟩
  have h := hc j (by omega)
  rw [e]
  show w.cell? ((⟨g, 0, none⟩ : Addr).add (j * 1 + 0)) = _
  rw [add_plain, show j * 1 + 0 = j by omega]
  exact h
end Go.Proofs.YtakbnoelbmgmhaaDoorH
end
section
namespace Go.Proofs.YtakbnoelbmgmhaaDoorH
open Go.RowKit Go.Proofs.YtakbnoelbmgmhaaDoorW.PrintWords Go.Proofs.YtakbnoelbmgmhaaDoorW.PrintLast Go.Proofs.YtakbnoelbmgmhaaDoorW.PrintMore
def chunkL (l : List Int) : List Int := if l.length = 0 then [] else hexL l.length ++ ([13, 10] ++ (l ++ [13, 10]))
def costN (n : Nat) : Nat := if n = 0 then 0 else (hexL n).length + 4
theorem hexL_bytes (n : Nat) : ByteL (hexL n) := by
  induction n using Nat.strongRecOn with
  | ind n ih =>
    by_cases h : n < 16
    · rw [hexL_lt h]
      intro x hx
      rw [List.mem_singleton.1 hx]
      exact hexD_ok h
    · rw [hexL_ge (by omega)]
      intro x hx
      rcases List.mem_append.1 hx with hx | hx
      · exact ih (n / 16) (by omega) x hx
      · rw [List.mem_singleton.1 hx]
        exact hexD_ok (Nat.mod_lt _ (by decide))
set_option maxHeartbeats 4000000 in
set_option maxRecDepth 100000 in
theorem cost_calls (n : Int) (hn : n ≤ 9223372036854775807) (w : World) (hT : TabZ w) :
    Calls Tryd.prog 9 #[.int .i64 n] w fun e w' => e = .returned (.int .i64 (costN n.toNat)) ∧ Below w.heap.size w w' := by
  by_cases h : n < 1
  · have e : costN n.toNat = 0 := by unfold costN; rw [if_pos (by omega)]
    rw [e]
    go_enter Tryd.func9, Tryd.ntmps9
    go_wp2
    go_ret
    exact ⟨rfl, Below.refl _ _⟩
  · obtain ⟨m, rfl⟩ := Int.eq_ofNat_of_zero_le (show 0 ≤ n by omega)
    have h1 := hput_calls m (by omega) w hT
    have hle := hexL_le16 (n := m) (by omega)
    have hz := hexS_size m
    have e : costN (m : Int).toNat = (hexL m).length + 4 := by unfold costN; rw [if_neg (by omega), Int.toNat_natCast]
    have hw0 : IntKind.u64.wrap (m : Int) = m := by
      unfold IntKind.wrap
      simp [IntKind.bits, IntKind.signed]
      omega
    rw [e]
    clear hT e
    generalize hexS m = s at *
    rw [← hz] at hle
    rw [← hz]
    clear hz
    have hw1 : IntKind.i64.wrap ((s.size : Int) + 4) = (s.size : Int) + 4 := by
      unfold IntKind.wrap
      simp [IntKind.bits, IntKind.signed]
      omega
    have hlt : ¬ ((m : Int) < 1) := h
    go_enter Tryd.func9, Tryd.ntmps9
    go_wp2_with fail
    refine h1.mono ?_
    rintro e w' ⟨rfl, hb⟩
    clear h1
    go_wp2
    go_ret
    exact ⟨by simp, hb⟩
theorem strBytes (n : Nat) : ofU8 (hexS n).data.toList = hexL n := ofU8_u8s (hexL_bytes n)
theorem join3 (a l : List UInt8) : Lib.join [a, l, []] [13, 10] = a ++ ([13, 10] ++ (l ++ [13, 10])) := by
  simp [Lib.join, List.intercalate]
set_option maxHeartbeats 4000000 in
set_option maxRecDepth 100000 in
theorem chunk_calls (A : Option Addr) (c : Nat) (l : List Int) (w : World) (hr : Kd.C (Kd.int .u8) w A l.length l) (hc : l.length ≤ c) (hb : ByteL l) (hl : l.length ≤ 1073741824) (hT : TabZ w) :
    Calls Tryd.prog 13 #[.slice A l.length c] w fun e w' => ∃ v, e = .returned v ∧ RowB w' v (chunkL l) ∧ Below w.heap.size w w' := by
  by_cases h0 : l.length = 0
  · have e : chunkL l = [] := by unfold chunkL; rw [if_pos h0]
    have h0' : ((l.length : Nat) : Int) = 0 := by omega
    rw [e]
    generalize l.length = n at *
    subst h0
    go_enter Tryd.func13, Tryd.ntmps13
    go_wp2
    go_ret
    exact ⟨_, rfl, RowB.nil _, Below.refl _ _⟩
  · have e : chunkL l = hexL l.length ++ ([13, 10] ++ (l ++ [13, 10])) := by unfold chunkL; rw [if_neg h0]
    have hne : ((l.length : Int) == 0) = false := by rw [beq_eq_false_iff_ne]; omega
    have h1 := hput_calls l.length (by omega) w hT
    have hw0 : IntKind.u64.wrap (l.length : Int) = l.length := by
      unfold IntKind.wrap
      simp [IntKind.bits, IntKind.signed]
      omega
    have hhs := hexS_size l.length
    have hh16 := hexL_le16 (n := l.length) (by omega)
    have HR := Aside0.mk hr
    have HB := Aside0.mk hb
    have HE := Aside0.mk e
    have HS := Aside0.mk (show ofU8 (hexS l.length).data.toList = hexL l.length from strBytes _)
    have kb := fun W => print_bytes (P := Tryd.prog) 9 25 5 Tryd.underlying9 Tryd.underlying25 Tryd.underlying5 (hexS l.length) W
    clear hr hb e hT
    have HZ := Aside0.mk (show (hexS l.length).size ≤ 16 by rw [hhs]; exact hh16)
    have HL := Aside0.mk hl
    clear hhs hh16
    have HN := Aside0.mk (show ∃ n, l.length = n ∧ hexS l.length = hexS l.length from ⟨_, rfl, rfl⟩)
    go_enter Tryd.func13, Tryd.ntmps13
    go_wp2_with fail
    refine h1.mono ?_
    rintro e w1 ⟨rfl, b1⟩
    clear h1
    have HC1 := Aside0.mk (Kd.C_below HR.out b1)
    have B1 := Aside0.mk b1
    clear b1
    generalize hexS l.length = s at *
    obtain ⟨g, hg⟩ : ∃ g, grownCap w1 s.size 0 5 = g := ⟨_, rfl⟩
    have B2 := Aside0.mk (bytes_below B1.out B1.out.size 5 s)
    have R2 := Aside0.mk (show ∀ j, j < s.size → (Lib.bytesWorld w1 5 s).cell? ⟨w1.heap.size, j, none⟩ = some (.int .u8 (s.data.toList.getD j 0).toNat) from Lib.bytesWorld_cell w1 5 s)
    have C2 := Aside0.mk (Kd.C_below HC1.out (bytes_below (Below.refl w1.heap.size w1) (Nat.le_refl _) 5 s))
    have hcc := Lib.run_convert_bytes_const (P := Tryd.prog) ((Lib.bytesWorld w1 5 s).alloc (.cells #[.slice (some ⟨w1.heap.size, 0, none⟩) s.size g, .slice A l.length c, .slice none 0 0] 25)) 25 5 #[.int .u8 13, .int .u8 10] 2 2 Tryd.underlying25 Tryd.underlying5
    rw [World.size_alloc] at hcc
    go_wp2_with fail
    generalize Lib.bytesWorld w1 5 s = W2 at *
    obtain ⟨W4, hW4⟩ : ∃ W4, (W2.alloc (.cells #[.slice (some ⟨w1.heap.size, 0, none⟩) s.size g, .slice A l.length c, .slice none 0 0] 25)).alloc (.cells #[.int .u8 13, .int .u8 10] 5 (2, 3)) = W4 := ⟨_, rfl⟩
    have B4 := Aside0.mk (show Below w.heap.size w W4 by rw [← hW4]; exact (B2.out.alloc B2.out.size _).alloc (by rw [World.size_alloc]; have := B2.out.size; omega) _)
    have hb24 : Below W2.heap.size W2 W4 := by rw [← hW4]; exact ((Below.refl _ W2).alloc (Nat.le_refl _) _).alloc (by rw [World.size_alloc]; omega) _
    have P4 : W4.heap[W2.heap.size]? = some (.cells #[.slice (some ⟨w1.heap.size, 0, none⟩) s.size g, .slice A l.length c, .slice none 0 0] 25 (0, 0)) := by rw [← hW4]; exact blk_alloc (heap_alloc_new W2 _) _
    have S4 : W4.heap[W2.heap.size + 1]? = some (.cells #[.int .u8 13, .int .u8 10] 5 (2, 3)) := by
      rw [← hW4]
      have h := heap_alloc_new (W2.alloc (.cells #[.slice (some ⟨w1.heap.size, 0, none⟩) s.size g, .slice A l.length c, .slice none 0 0] 25)) (.cells #[.int .u8 13, .int .u8 10] 5 (2, 3))
      rw [World.size_alloc] at h
      exact h
    rw [hW4]
    have HP : Lib.PartsAt W4 ⟨W2.heap.size, 0, none⟩ [.slice (some ⟨w1.heap.size, 0, none⟩) s.size g, .slice A l.length c, .slice none 0 0] [s.data.toList, u8s l, []] := by
      refine ⟨rfl, fun i v hv => ?_, fun i v x hv hx => ?_⟩
      · match i, hv with
        | 0, hv => cases hv; exact (blk_cell P4 0).trans rfl
        | 1, hv => cases hv; exact (blk_cell P4 1).trans rfl
        | 2, hv => cases hv; exact (blk_cell P4 2).trans rfl
        | (i + 3), hv => simp at hv
      · match i, hv, hx with
        | 0, hv, hx =>
          cases hv; cases hx
          refine ⟨some ⟨w1.heap.size, 0, none⟩, g, by rw [data_length], (fun h => by cases h), fun a ha i x hx => ?_⟩
          cases ha
          have hi : i < s.size := by
            have := (List.getElem?_eq_some_iff.1 hx).1
            rwa [data_length] at this
          have h := pw_cell_below hb24 (R2.out i hi)
          rw [List.getD_eq_getElem?_getD, hx] at h
          rw [add_plain]
          exact h
        | 1, hv, hx =>
          cases hv; cases hx
          exact holds_of_C (Kd.C_below C2.out hb24) HB.out
        | 2, hv, hx =>
          cases hv; cases hx
          exact ⟨none, 0, rfl, fun _ => rfl, fun a h => by cases h⟩
        | (i + 3), hv, hx => simp at hv
    have HS4 : Lib.HoldsBytes W4 (.slice (some ⟨W2.heap.size + 1, 0, none⟩) 2 2) [13, 10] := by
      refine ⟨some ⟨W2.heap.size + 1, 0, none⟩, 2, rfl, (fun h => by cases h), fun a ha i x hx => ?_⟩
      cases ha
      match i, hx with
      | 0, hx => cases hx; exact World.news_of_block S4 0 _ rfl
      | 1, hx => cases hx; exact World.news_of_block S4 1 _ rfl
      | (i + 2), hx => simp at hx
    refine (Tryd.bytes_Join_many W2.heap.size 0 3 3 _ _ (.slice (some ⟨W2.heap.size + 1, 0, none⟩) 2 2) [13, 10] W4 rfl (by decide) HP (by decide) HS4 (by decide) ?_).mono ?_
    · have h1 := HZ.out
      have h2 := HL.out
      simp [Lib.lens, u8s_length]
      omega
    · rintro e w5 ⟨v, rfl, hf, b5⟩
      have hrow := row_of_fresh hf
      rw [join3, ofU8_append, ofU8_append, ofU8_append, HS.out, ofU8_u8s HB.out, show ofU8 [13, 10] = [13, 10] from rfl, ← show chunkL l = _ from HE.out] at hrow
      go_wp2
      go_ret
      exact ⟨_, rfl, hrow, below_step B4.out b5⟩
end Go.Proofs.YtakbnoelbmgmhaaDoorH
end
section
namespace Go.Proofs.YtakbnoelbmgmhaaDoor.Pe
open Go.RowKit Go.Proofs.YtakbnoelbmgmhaaDoorH Go.Proofs.YtakbnoelbmgmhaaDoorW.PrintWords Go.Proofs.YtakbnoelbmgmhaaDoorW.PrintLast Go.Proofs.YtakbnoelbmgmhaaDoorW.PrintMore
set_option maxHeartbeats 1600000 in
set_option maxRecDepth 100000 in
theorem wakes10_calls (w : World) (hT : TabZ w) :
    Calls Tryd.prog 8 #[] w fun e w' => e = .returned (.bool true) ∧ Below w.heap.size w w' := by
  have hcc := Lib.run_convert_bytes_const (P := Tryd.prog) w 25 5 #[.int .u8 97, .int .u8 98, .int .u8 99] 3 3 Tryd.underlying25 Tryd.underlying5
  have HT := Aside0.mk hT
  clear hT
  go_enter Tryd.func8, Tryd.ntmps8
  go_wp2_with fail
  obtain ⟨w1, hw1⟩ : ∃ w1, w.alloc (.cells #[.int .u8 97, .int .u8 98, .int .u8 99] 5 (3, 4)) = w1 := ⟨_, rfl⟩
  have hb1 : Below w.heap.size w w1 := by rw [← hw1]; exact (Below.refl _ w).alloc (Nat.le_refl _) _
  have hrow : Kd.C (Kd.int .u8) w1 (some ⟨w.heap.size, 0, none⟩) ([97, 98, 99] : List Int).length [97, 98, 99] := by
    have hh : w1.heap[w.heap.size]? = some (.cells #[.int .u8 97, .int .u8 98, .int .u8 99] 5 (3, 4)) := by rw [← hw1]; exact heap_alloc_new w _
    refine ⟨rfl, by decide, fun _ => ⟨_, rfl, fun j y hy => ⟨[.int .u8 y], rfl, rfl, fun i u hu => ?_⟩⟩⟩
    have : i = 0 ∧ .int .u8 y = u := by
      cases i with
      | zero => exact ⟨rfl, by simpa using hu⟩
      | succ i => simp at hu
    obtain ⟨rfl, rfl⟩ := this
    show w1.cell? ((⟨w.heap.size, 0, none⟩ : Addr).add (j * 1 + 0)) = _
    rw [show j * 1 + 0 = j by omega]
    match j, hy with
    | 0, hy => cases hy; exact World.news_of_block hh 0 _ rfl
    | 1, hy => cases hy; exact World.news_of_block hh 1 _ rfl
    | 2, hy => cases hy; exact World.news_of_block hh 2 _ rfl
    | (j + 3), hy => simp at hy
  rw [hw1]
  have B1 := Aside0.mk hb1
  clear hcc
  refine (chunk_calls _ 3 [97, 98, 99] w1 hrow (by decide) (by intro x hx; simp at hx; omega) (by decide) (HT.out.below hb1)).mono ?_
  rintro e w2 ⟨v, rfl, hr, b2⟩
  obtain ⟨A2, c2, rfl, hc2, hC2⟩ := hr
  have hcv := Kd.C_string (P := Tryd.prog) (c := c2) Tryd.underlying25 Tryd.underlying5 Tryd.underlying9 hC2
  have hch : chunkL [97, 98, 99] = [51, 13, 10, 97, 98, 99, 13, 10] := by
    unfold chunkL
    rw [if_neg (by decide), hexL_lt (by decide)]
    rfl
  rw [hch] at hcv
  rw [hch]
  have hst : strOfNums [51, 13, 10, 97, 98, 99, 13, 10] = ⟨#[51, 13, 10, 97, 98, 99, 13, 10]⟩ := by decide
  rw [hst] at hcv
  have B2 := Aside0.mk (below_step hb1 b2)
  have HT2 := Aside0.mk (HT.out.below B2.out)
  clear hst hch hC2 hrow hb1 b2 hc2 hw1
  simp only [List.length_cons, List.length_nil] at hcv
  go_wp2_with fail
  refine (cost_calls 16 (by decide) w2 HT2.out).mono ?_
  rintro e w3 ⟨rfl, b3⟩
  have hco : costN (16 : Int).toNat = 6 := by
    show costN 16 = 6
    unfold costN
    rw [if_neg (by decide), hexL_ge (by decide), hexL_lt (by decide)]
    rfl
  rw [hco]
  clear hcv hco
  go_wp2
  go_ret
  exact ⟨rfl, below_step B2.out b3⟩
end Go.Proofs.YtakbnoelbmgmhaaDoor.Pe
end
section
namespace Go.Proofs.YtakbnoelbmgmhaaDoorH
open Go.RowKit Go.Proofs.YtakbnoelbmgmhaaDoorW.PrintWords Go.Proofs.YtakbnoelbmgmhaaDoorW.PrintLast Go.Proofs.YtakbnoelbmgmhaaDoorW.PrintMore
def Keeps (B : Nat) (w : World) (p : World → Prop) : Prop := ∀ W, Below B w W → p W
theorem Keeps.then {B : Nat} {w w1 : World} {p : World → Prop} (h : Keeps B w p) (hb : Below B w w1) : Keeps B w1 p := fun W hW => h W (hb.trans hW)
def kindT (k : Nat) : TypeId := if k = 1 then 74 else if k = 2 then 85 else 87
def kindO (k : Nat) (n sz : Nat) : Obj := if k = 1 then .cells #[.int .i64 n, .int .u64 sz] 80 (0, 0) else if k = 2 then .cells #[.int .i64 n] 86 (0, 0) else .cells #[.int .i64 n] 78 (0, 0)
def EncAt (W : World) (B b k n sz : Nat) (en : Bool) : Prop :=
  ∃ bk, B ≤ b ∧ B ≤ bk ∧ b ≠ bk ∧ (k = 1 ∨ k = 2 ∨ k = 3) ∧ W.heap[b]? = some (.cells #[.iface (kindT k) (.pointer (some ⟨bk, 0, none⟩)), .bool en] 84 (0, 0)) ∧ W.heap[bk]? = some (kindO k n sz)
theorem EncAt.below {W W' : World} {B b k n sz : Nat} {en : Bool} (h : EncAt W B b k n sz en) (hb : Below W.heap.size W W') : EncAt W' B b k n sz en := by
  obtain ⟨bk, h1, h2, h3, h4, h5, h6⟩ := h
  exact ⟨bk, h1, h2, h3, h4, blk_below h5 hb, (hb.block bk (Array.getElem?_eq_some_iff.1 h6).1).trans h6⟩
def Only (b : Nat) (w w' : World) : Prop := Below b w w' ∧ KeepBut w w' b none
theorem Only.refl (b : Nat) (w : World) : Only b w w := ⟨Below.refl _ _, KeepBut.refl _ _ _⟩
theorem Only.of_below {b : Nat} {w w' : World} (h : Below w.heap.size w w') (hb : b ≤ w.heap.size) : Only b w w' := ⟨h.mono hb, KeepBut.of_below h b none⟩
theorem Only.trans {b : Nat} {w w1 w2 : World} (h : Only b w w1) (k : Only b w1 w2) : Only b w w2 := ⟨h.1.trans k.1, KeepBut.trans h.2 k.2 (.inl rfl)⟩
theorem Only.set {b : Nat} (w : World) (j : Nat) (v : Value) : Only b w (w.setCell ⟨b, j, none⟩ v) := ⟨(Below.refl _ _).setCell (p := ⟨b, j, none⟩) (Nat.le_refl _) v, KeepBut.set_ (KeepBut.refl _ _ _) j v⟩
theorem Only.blk {b c : Nat} {w w1 : World} (h : Only b w w1) {o : Obj} (hc : w.heap[c]? = some o) (hne : c ≠ b) : w1.heap[c]? = some o := KeepBut.blk h.2 hc hne (by simp)
theorem only_set {bk : Nat} {w w' : World} (hk : bk < w.heap.size) (v : Value) (hb : Below (w.setCell ⟨bk, 0, none⟩ v).heap.size (w.setCell ⟨bk, 0, none⟩ v) w') : Only bk w w' :=
  (Only.set w 0 v).trans (Only.of_below hb (Nat.le_trans (Nat.le_of_lt hk) (Only.set w 0 v).1.size))
set_option maxHeartbeats 1600000 in
set_option maxRecDepth 100000 in
theorem add_calls (bk n : Nat) (A : Option Addr) (m c : Nat) (w : World) (hc : w.cell? ⟨bk, 0, none⟩ = some (.int .i64 n)) (hf : w.frozen? ⟨bk, 0, none⟩ = false) (hn : n + m ≤ 4611686018427387904) :
    Calls Tryd.prog 122 #[.pointer (some ⟨bk, 0, none⟩), .slice A m c] w fun e w' => e = .returned (.tuple #[]) ∧ w' = w.setCell ⟨bk, 0, none⟩ (.int .i64 ((n + m : Nat) : Int)) := by
  obtain ⟨x, hx⟩ : ∃ x, n + m = x := ⟨_, rfl⟩
  have hw1 : IntKind.i64.wrap ((n : Int) + (m : Int)) = (x : Int) := by
    unfold IntKind.wrap
    simp [IntKind.bits, IntKind.signed]
    omega
  rw [hx]
  go_enter Tryd.func122, Tryd.ntmps122
  go_wp2
  go_end0
  exact ⟨rfl, rfl⟩
theorem clone_calls (A : Option Addr) (c : Nat) (l : List Int) (w : World) (hr : Kd.C (Kd.int .u8) w A l.length l) (hl : l.length ≤ 140737488355328) :
    Calls Tryd.prog 123 #[.slice A l.length c] w fun e w' => ∃ v, e = .returned v ∧ RowB w' v l ∧ Below w.heap.size w w' := by
  cases A with
  | none =>
    have hn : l = [] := by
      rcases l with _ | ⟨y, l⟩
      · rfl
      · obtain ⟨_, e, _⟩ := hr.2.2 (Nat.succ_pos _)
        cases e
    subst hn
    refine (Tryd.bytes_Clone_nil _ _ w).mono ?_
    rintro e w' ⟨rfl, rfl⟩
    exact ⟨_, rfl, RowB.nil _, Below.refl _ _⟩
  | some ad =>
    refine (Tryd.bytes_Clone_at ad l.length c l w rfl hl (fun i hi => ?_)).mono ?_
    · obtain ⟨ad', e, hc⟩ := hr.2.2 (by omega)
      cases e
      obtain ⟨cs, _, hK, hcs⟩ := hc i l[i] (List.getElem?_eq_getElem hi)
      have hK : cs = [.int .u8 l[i]] := hK
      have := hcs 0 (.int .u8 l[i]) (by rw [hK]; rfl)
      rw [show i * (Kd.int .u8).sz + 0 = i by show i * 1 + 0 = i; omega] at this
      rw [this, List.getD_eq_getElem?_getD, List.getElem?_eq_getElem hi]
      rfl
    · rintro e w' ⟨v, rfl, ho, _, hb⟩
      have hR : Kd.R (Kd.int .u8) 5 w' w.heap.size (fun _ => True) v l := Kd.R_of_own ho (fun _ _ => trivial)
      exact ⟨v, rfl, Kd.R_reads hR, hb⟩
set_option maxHeartbeats 1600000 in
set_option maxRecDepth 100000 in
theorem plain_put (B bk n : Nat) (A : Option Addr) (c : Nat) (l : List Int) (w : World) (hB : B ≤ bk) (hcell : w.cell? ⟨bk, 0, none⟩ = some (.int .i64 n)) (hf : w.frozen? ⟨bk, 0, none⟩ = false)
    (hr : Keeps B w fun W => Kd.C (Kd.int .u8) W A l.length l) (hl : n + l.length ≤ 4611686018427387904) (hl2 : l.length ≤ 1073741824) :
    Calls Tryd.prog 121 #[.pointer (some ⟨bk, 0, none⟩), .slice A l.length c] w fun e w' =>
      ∃ v, e = .returned (.tuple #[v, .int .i64 0]) ∧ RowB w' v l ∧ Below (w.setCell ⟨bk, 0, none⟩ (.int .i64 ((n + l.length : Nat) : Int))).heap.size (w.setCell ⟨bk, 0, none⟩ (.int .i64 ((n + l.length : Nat) : Int))) w' := by
  have ha := add_calls bk n A l.length c w hcell hf hl
  have HC := Aside0.mk (hr _ ((Below.refl B w).setCell (p := ⟨bk, 0, none⟩) hB (.int .i64 ((n + l.length : Nat) : Int))))
  clear hr hcell hf
  generalize w.setCell ⟨bk, 0, none⟩ (.int .i64 ((n + l.length : Nat) : Int)) = w1 at *
  have hcl := clone_calls A c l w1 HC.out (by omega)
  clear HC
  go_enter Tryd.func121, Tryd.ntmps121
  go_wp2_with fail
  refine ha.mono ?_
  rintro e w2 ⟨rfl, rfl⟩
  clear ha
  go_wp2_with fail
  refine hcl.mono ?_
  rintro e w3 ⟨v, rfl, hrow, b3⟩
  obtain ⟨A3, c3, rfl, hc3, hC3⟩ := hrow
  have HC3 := Aside0.mk hC3
  clear hcl hC3
  go_wp2
  go_ret2
  exact ⟨_, rfl, ⟨_, _, rfl, hc3, HC3.out⟩, b3⟩
set_option maxHeartbeats 1600000 in
set_option maxRecDepth 100000 in
theorem fixed_left (bk n sz : Nat) (w : World) (h : w.heap[bk]? = some (.cells #[.int .i64 n, .int .u64 sz] 80 (0, 0))) (hle : n ≤ sz) (hsz : sz ≤ 4611686018427387903) :
    Calls Tryd.prog 118 #[.pointer (some ⟨bk, 0, none⟩)] w fun e w' => e = .returned (.int .u64 ((sz - n : Nat) : Int)) ∧ Drawn0 w w' := by
  have c0 : w.cell? ⟨bk, 0, none⟩ = some (.int .i64 n) := (blk_cell h 0).trans rfl
  have c1 : w.cell? ⟨bk, 1, none⟩ = some (.int .u64 sz) := (blk_cell h 1).trans rfl
  obtain ⟨x, hx⟩ : ∃ x, sz - n = x := ⟨_, rfl⟩
  have hw0 : IntKind.u64.wrap (n : Int) = n := by
    unfold IntKind.wrap
    simp [IntKind.bits, IntKind.signed]
    omega
  have hw1 : IntKind.u64.wrap ((sz : Int) - (n : Int)) = (x : Int) := by
    unfold IntKind.wrap
    simp [IntKind.bits, IntKind.signed]
    omega
  rw [hx]
  clear h hx
  go_enter Tryd.func118, Tryd.ntmps118
  go_wp2_with fail
  go_region_held3 (fun W => W.cell? ⟨bk, 0, none⟩ = some (.int .i64 n) ∧ W.cell? ⟨bk, 1, none⟩ = some (.int .u64 sz)) (exact ⟨c0, c1⟩) (fail)
  go_wp2
  go_ret
  exact ⟨rfl, ⟨⟨1, rfl⟩⟩⟩
set_option maxHeartbeats 1600000 in
set_option maxRecDepth 100000 in
theorem fixed_full (bk n sz : Nat) (A : Option Addr) (m c : Nat) (w : World) (h : w.heap[bk]? = some (.cells #[.int .i64 n, .int .u64 sz] 80 (0, 0))) (hle : n ≤ sz) (hsz : sz ≤ 4611686018427387903)
    (hm : m ≤ 1073741824) (hlt : sz - n < m) :
    Calls Tryd.prog 119 #[.pointer (some ⟨bk, 0, none⟩), .slice A m c] w fun e w' => e = .returned (.tuple #[.slice none 0 0, .int .i64 6]) ∧ Drawn0 w w' := by
  have hlf := fixed_left bk n sz w h hle hsz
  have hw0 : IntKind.u64.wrap (m : Int) = m := by
    unfold IntKind.wrap
    simp [IntKind.bits, IntKind.signed]
    omega
  generalize sz - n = x at *
  have hlt' : (x : Int) < (m : Int) := by omega
  clear h
  go_enter Tryd.func119, Tryd.ntmps119
  go_wp2_with fail
  refine hlf.mono ?_
  rintro e w2 ⟨rfl, hd⟩
  clear hlf
  go_wp2
  go_ret2
  exact ⟨rfl, hd⟩
set_option maxHeartbeats 1600000 in
set_option maxRecDepth 100000 in
theorem fixed_put (B bk n sz : Nat) (A : Option Addr) (c : Nat) (l : List Int) (w : World) (hB : B ≤ bk) (h : w.heap[bk]? = some (.cells #[.int .i64 n, .int .u64 sz] 80 (0, 0))) (hle : n ≤ sz) (hsz : sz ≤ 4611686018427387903)
    (hr : Keeps B w fun W => Kd.C (Kd.int .u8) W A l.length l) (hl2 : l.length ≤ 1073741824) (hlt : ¬ sz - n < l.length) :
    Calls Tryd.prog 119 #[.pointer (some ⟨bk, 0, none⟩), .slice A l.length c] w fun e w' =>
      ∃ v, e = .returned (.tuple #[v, .int .i64 0]) ∧ RowB w' v l ∧ w'.heap[bk]? = some (.cells #[.int .i64 ((n + l.length : Nat) : Int), .int .u64 sz] 80 (0, 0)) ∧ Only bk w w' := by
  have hlf := fixed_left bk n sz w h hle hsz
  have hw0 : IntKind.u64.wrap (l.length : Int) = l.length := by
    unfold IntKind.wrap
    simp [IntKind.bits, IntKind.signed]
    omega
  have hlt' : ¬ ((sz - n : Nat) : Int) < (l.length : Int) := by omega
  have HH := Aside0.mk h
  have HR := Aside0.mk hr
  have HP := Aside0.mk (fun w1 (hd : Drawn0 w w1) => by
    have hb := hd.below
    have h1 := blk_below h hb
    have c0 : w1.cell? ⟨bk, 0, none⟩ = some (.int .i64 n) := (blk_cell h1 0).trans rfl
    exact plain_put B bk n A c l w1 hB c0 (blk_frozen h1 0) (hr.then (hb.mono (Nat.le_trans hB (Nat.le_of_lt (blk_lt h))))) (by omega) hl2)
  generalize sz - n = x at *
  clear hr h hlt
  obtain ⟨m, hm⟩ : ∃ m, n + l.length = m := ⟨_, rfl⟩
  rw [hm] at HP ⊢
  clear hm
  go_enter Tryd.func119, Tryd.ntmps119
  go_wp2_with fail
  refine hlf.mono ?_
  rintro e w2 ⟨rfl, hd⟩
  have HD := Aside0.mk hd
  clear hlf hd
  go_wp2_with fail
  refine (HP.out w2 HD.out).mono ?_
  rintro e w3 ⟨v, rfl, hrow, b3⟩
  obtain ⟨A3, c3, rfl, hc3, hC3⟩ := hrow
  have HC3 := Aside0.mk hC3
  have HB3 := Aside0.mk b3
  clear hC3 b3
  go_wp2
  go_ret2
  have h2 := blk_below HH.out HD.out.below
  have hs := blk_set h2 0 (.int .i64 (m : Int))
  exact ⟨_, rfl, ⟨_, _, rfl, hc3, HC3.out⟩, by simpa using blk_below hs HB3.out, (Only.of_below HD.out.below (Nat.le_of_lt (blk_lt HH.out))).trans (only_set (blk_lt h2) _ HB3.out)⟩
set_option maxHeartbeats 1600000 in
set_option maxRecDepth 100000 in
theorem enc_full (B b n sz : Nat) (A : Option Addr) (m c : Nat) (w : World) (h : EncAt w B b 1 n sz false) (hle : n ≤ sz) (hsz : sz ≤ 4611686018427387903) (hm : m ≤ 1073741824) (hlt : sz - n < m) :
    Calls Tryd.prog 17 #[.pointer (some ⟨b, 0, none⟩), .slice A m c] w fun e w' => e = .returned (.tuple #[.slice none 0 0, .int .i64 6]) ∧ Drawn0 w w' := by
  obtain ⟨bk, h1, h2, h3, h4, h5, h6⟩ := h
  have c1 : w.cell? ⟨b, 1, none⟩ = some (.bool false) := (blk_cell h5 1).trans rfl
  have c0 : w.cell? ⟨b, 0, none⟩ = some (.iface 74 (.pointer (some ⟨bk, 0, none⟩))) := (blk_cell h5 0).trans rfl
  have hf := fixed_full bk n sz A m c w h6 hle hsz hm hlt
  have hmt : ∀ (q : Nat) (W : World), (method (q + 1) 74 (.pointer (some ⟨bk, 0, none⟩)) "catchpit/enchunk.put").run Tryd.prog W = .ok (119, .pointer (some ⟨bk, 0, none⟩)) W := fun _ _ => by kernel_rfl
  clear h5 h6
  go_enter Tryd.func17, Tryd.ntmps17
  go_wp2_with fail
  refine hf.mono ?_
  rintro e w2 ⟨rfl, hd⟩
  clear hf
  go_wp2
  go_ret2
  exact ⟨rfl, hd⟩
set_option maxHeartbeats 1600000 in
set_option maxRecDepth 100000 in
theorem enc_put1 (B b n sz : Nat) (A : Option Addr) (c : Nat) (l : List Int) (w : World) (h : EncAt w B b 1 n sz false) (hr : Keeps B w fun W => Kd.C (Kd.int .u8) W A l.length l) (hl2 : l.length ≤ 1073741824) (hle : n ≤ sz) (hsz : sz ≤ 4611686018427387903) (hlt : ¬ sz - n < l.length) :
    Calls Tryd.prog 17 #[.pointer (some ⟨b, 0, none⟩), .slice A l.length c] w fun e w' => ∃ v, e = .returned (.tuple #[v, .int .i64 0]) ∧ RowB w' v l ∧ EncAt w' B b 1 (n + l.length) sz false ∧ Below B w w' := by
  obtain ⟨bk, h1, h2, h3, h4, h5, h6⟩ := h
  have c1 : w.cell? ⟨b, 1, none⟩ = some (.bool false) := (blk_cell h5 1).trans rfl
  have c0 : w.cell? ⟨b, 0, none⟩ = some (.iface 74 (.pointer (some ⟨bk, 0, none⟩))) := (blk_cell h5 0).trans rfl
  have hp := fixed_put B bk n sz A c l w h2 h6 hle hsz hr hl2 hlt
  have hmt : ∀ (q : Nat) (W : World), (method (q + 1) 74 (.pointer (some ⟨bk, 0, none⟩)) "catchpit/enchunk.put").run Tryd.prog W = .ok (119, .pointer (some ⟨bk, 0, none⟩)) W := fun _ _ => by kernel_rfl
  have H5 := Aside0.mk h5
  have H6 := Aside0.mk h6
  clear h5 h6 hr
  obtain ⟨m, hm⟩ : ∃ m, n + l.length = m := ⟨_, rfl⟩
  rw [hm] at hp
  rw [hm]
  clear hm
  go_enter Tryd.func17, Tryd.ntmps17
  go_wp2_with fail
  refine hp.mono ?_
  rintro e w2 ⟨v, rfl, hrow, hk, ho⟩
  obtain ⟨A3, c3, rfl, hc3, hC3⟩ := hrow
  have HC3 := Aside0.mk hC3
  have HK := Aside0.mk hk
  have HO := Aside0.mk ho
  clear hp hC3 hk ho
  go_wp2
  go_ret2
  exact ⟨_, rfl, ⟨_, _, rfl, hc3, HC3.out⟩, ⟨bk, h1, h2, h3, by decide, HO.out.blk H5.out h3, HK.out⟩, HO.out.1.mono h2⟩
set_option maxHeartbeats 1600000 in
set_option maxRecDepth 100000 in
theorem enc_left1 (B b n sz : Nat) (en : Bool) (w : World) (h : EncAt w B b 1 n sz en) (hle : n ≤ sz) (hsz : sz ≤ 4611686018427387903) :
    Calls Tryd.prog 18 #[.pointer (some ⟨b, 0, none⟩)] w fun e w' => e = .returned (.int .u64 ((sz - n : Nat) : Int)) ∧ Drawn0 w w' := by
  obtain ⟨bk, h1, h2, h3, h4, h5, h6⟩ := h
  have c0 : w.cell? ⟨b, 0, none⟩ = some (.iface 74 (.pointer (some ⟨bk, 0, none⟩))) := (blk_cell h5 0).trans rfl
  have hl := fixed_left bk n sz w h6 hle hsz
  have hmt : ∀ (q : Nat) (W : World), (method (q + 1) 74 (.pointer (some ⟨bk, 0, none⟩)) "catchpit/enchunk.left").run Tryd.prog W = .ok (118, .pointer (some ⟨bk, 0, none⟩)) W := fun _ _ => by kernel_rfl
  generalize sz - n = x at *
  clear h5 h6
  go_enter Tryd.func18, Tryd.ntmps18
  go_wp2_with fail
  refine hl.mono ?_
  rintro e w2 ⟨rfl, hd⟩
  clear hl
  go_wp2
  go_ret
  exact ⟨rfl, hd⟩
set_option maxHeartbeats 1600000 in
set_option maxRecDepth 100000 in
theorem enc_new1 (sz : Nat) (hsz : sz ≤ 4611686018427387903) (w : World) :
    Calls Tryd.prog 16 #[.agg #[.int .i64 1, .int .u64 sz]] w fun e w' => ∃ b, e = .returned (.tuple #[.pointer (some ⟨b, 0, none⟩), .int .i64 0]) ∧ EncAt w' w.heap.size b 1 0 sz false ∧ Below w.heap.size w w' := by
  have hb1 : ∀ W : World, (Instr.build 80 #[(1, .int .u64 sz)]).run Tryd.prog W = .ok (.agg #[.int .i64 0, .int .u64 sz]) W := fun _ => by kernel_rfl
  have hb2 : ∀ (bk : Nat) (W : World), (Instr.build 84 #[(0, .iface 74 (.pointer (some ⟨bk, 0, none⟩)))]).run Tryd.prog W = .ok (.agg #[.iface 74 (.pointer (some ⟨bk, 0, none⟩)), .bool false]) W := fun _ _ => by kernel_rfl
  have hsz' : (sz : Int) ≤ 4611686018427387903 := by omega
  go_enter Tryd.func16, Tryd.ntmps16
  go_wp2
  go_ret2
  refine ⟨_, rfl, ⟨w.heap.size + 1, by omega, by omega, by omega, by decide, ?_, ?_⟩, below_alloc (below_alloc (below_alloc (Below.refl _ _) _) _) _⟩
  · have h := heap_alloc_new ((w.alloc (.cells #[.int .i64 1, .int .u64 sz] 42)).alloc (.cells #[.int .i64 0, .int .u64 sz] 80)) (.cells #[.iface 74 (.pointer (some ⟨w.heap.size + 1, 0, none⟩)), .bool false] 84)
    rw [World.size_alloc, World.size_alloc] at h
    exact h
  · have h := heap_alloc_new (w.alloc (.cells #[.int .i64 1, .int .u64 sz] 42)) (.cells #[.int .i64 0, .int .u64 sz] 80)
    rw [World.size_alloc] at h
    exact blk_alloc h _
set_option maxHeartbeats 1600000 in
set_option maxRecDepth 100000 in
theorem right_nil (c : Nat) (w : World) : Calls Tryd.prog 120 #[.slice none 0 c] w fun e w' => e = .returned (.int .i64 0) ∧ w' = w := by
  go_enter Tryd.func120, Tryd.ntmps120
  go_wp2_with fail
  go_loopw [7] (fun u7 wr => u7 = .int .i64 0 ∧ wr = w) (fun _ _ => 0)
  case atStart => exact ⟨rfl, by trivial⟩
  case round =>
    obtain ⟨rfl, rfl⟩ := hrel
    go_wp2
    go_ret
    exact ⟨rfl, rfl⟩
set_option maxHeartbeats 1600000 in
set_option maxRecDepth 100000 in
theorem fixed_end_more (bk n sz : Nat) (v : Value) (w : World) (h : w.heap[bk]? = some (.cells #[.int .i64 n, .int .u64 sz] 80 (0, 0))) (hlt : n < sz) (hsz : sz ≤ 4611686018427387903) :
    Calls Tryd.prog 116 #[.pointer (some ⟨bk, 0, none⟩), v] w fun e w' => e = .returned (.tuple #[.slice none 0 0, .int .i64 4]) ∧ Drawn0 w w' := by
  have hl := fixed_left bk n sz w h (by omega) hsz
  obtain ⟨x, hx⟩ : ∃ x, sz - n = x := ⟨_, rfl⟩
  rw [hx] at hl
  have hx0 : (0 : Int) < (x : Int) := by omega
  clear h hx
  go_enter Tryd.func116, Tryd.ntmps116
  go_wp2_with fail
  refine hl.mono ?_
  rintro e w2 ⟨rfl, hd⟩
  clear hl
  go_wp2
  go_ret2
  exact ⟨rfl, hd⟩
set_option maxHeartbeats 1600000 in
set_option maxRecDepth 100000 in
theorem fixed_end_nil (bk n : Nat) (c : Nat) (w : World) (h : w.heap[bk]? = some (.cells #[.int .i64 n, .int .u64 n] 80 (0, 0))) (hsz : n ≤ 4611686018427387903) :
    Calls Tryd.prog 116 #[.pointer (some ⟨bk, 0, none⟩), .slice none 0 c] w fun e w' => e = .returned (.tuple #[.slice none 0 0, .int .i64 0]) ∧ Drawn0 w w' := by
  have hl := fixed_left bk n n w h (by omega) hsz
  have HRN := Aside0.mk (right_nil c)
  rw [Nat.sub_self] at hl
  clear h
  go_enter Tryd.func116, Tryd.ntmps116
  go_wp2_with fail
  refine hl.mono ?_
  rintro e w2 ⟨rfl, hd⟩
  clear hl
  go_wp2_with fail
  refine (HRN.out w2).mono ?_
  rintro e w3 ⟨rfl, rfl⟩
  go_wp2
  go_ret2
  exact ⟨rfl, hd⟩
theorem EncAt.set_ended {W : World} {B b k n sz : Nat} {en : Bool} (h : EncAt W B b k n sz en) (x : Bool) : EncAt (W.setCell ⟨b, 1, none⟩ (.bool x)) B b k n sz x := by
  obtain ⟨bk, h1, h2, h3, h4, h5, h6⟩ := h
  refine ⟨bk, h1, h2, h3, h4, ?_, (Below.heap_setCell W _ _ bk (fun e => h3 e.symm)).trans h6⟩
  simpa using blk_set h5 1 (.bool x)
set_option maxHeartbeats 1600000 in
set_option maxRecDepth 100000 in
theorem enc_end1_more (B b n sz : Nat) (A : Option Addr) (m c : Nat) (w : World) (h : EncAt w B b 1 n sz false) (hlt : n < sz) (hsz : sz ≤ 4611686018427387903) :
    Calls Tryd.prog 19 #[.pointer (some ⟨b, 0, none⟩), .slice A m c] w fun e w' => e = .returned (.tuple #[.slice none 0 0, .int .i64 4]) ∧ EncAt w' B b 1 n sz false ∧ Below B w w' := by
  have HE := Aside0.mk h
  obtain ⟨bk, h1, h2, h3, h4, h5, h6⟩ := h
  have c1 : w.cell? ⟨b, 1, none⟩ = some (.bool false) := (blk_cell h5 1).trans rfl
  have c0 : w.cell? ⟨b, 0, none⟩ = some (.iface 74 (.pointer (some ⟨bk, 0, none⟩))) := (blk_cell h5 0).trans rfl
  have f1 := fun w2 (hd : Drawn0 w w2) => blk_frozen (blk_below h5 hd.below) 1
  have hl := fixed_end_more bk n sz (.slice A m c) w h6 hlt hsz
  have hmt : ∀ (q : Nat) (W : World), (method (q + 1) 74 (.pointer (some ⟨bk, 0, none⟩)) "catchpit/enchunk.end").run Tryd.prog W = .ok (116, .pointer (some ⟨bk, 0, none⟩)) W := fun _ _ => by kernel_rfl
  have HF := Aside0.mk (fun w2 (hd : Drawn0 w w2) => (⟨(blk_cell (blk_below h5 hd.below) 1).trans rfl, blk_frozen (blk_below h5 hd.below) 1⟩ : w2.cell? ⟨b, 1, none⟩ = some (.bool false) ∧ w2.frozen? ⟨b, 1, none⟩ = false))
  have HLT := Aside0.mk (blk_lt h5)
  clear h5 h6 f1
  go_enter Tryd.func19, Tryd.ntmps19
  go_wp2_with fail
  refine hl.mono ?_
  rintro e w2 ⟨rfl, hd⟩
  have d1 := (HF.out w2 hd).1
  have e1 := (HF.out w2 hd).2
  have HD := Aside0.mk hd
  clear hl hd
  go_wp2
  go_ret2
  exact ⟨rfl, (HE.out.below HD.out.below).set_ended false, ((HD.out.below).mono (Nat.le_trans h1 (Nat.le_of_lt HLT.out))).setCell (p := ⟨b, 1, none⟩) h1 _⟩
set_option maxHeartbeats 1600000 in
set_option maxRecDepth 100000 in
theorem enc_end1_nil (B b n sz : Nat) (c : Nat) (w : World) (h : EncAt w B b 1 n sz false) (hsn : n = sz) (hsz : sz ≤ 4611686018427387903) :
    Calls Tryd.prog 19 #[.pointer (some ⟨b, 0, none⟩), .slice none 0 c] w fun e w' => e = .returned (.tuple #[.slice none 0 0, .int .i64 0]) ∧ EncAt w' B b 1 n sz true ∧ Below B w w' := by
  subst hsn
  have HE := Aside0.mk h
  obtain ⟨bk, h1, h2, h3, h4, h5, h6⟩ := h
  have c1 : w.cell? ⟨b, 1, none⟩ = some (.bool false) := (blk_cell h5 1).trans rfl
  have c0 : w.cell? ⟨b, 0, none⟩ = some (.iface 74 (.pointer (some ⟨bk, 0, none⟩))) := (blk_cell h5 0).trans rfl
  have f1 := fun w2 (hd : Drawn0 w w2) => blk_frozen (blk_below h5 hd.below) 1
  have hl := fixed_end_nil bk n c w h6 hsz
  have hmt : ∀ (q : Nat) (W : World), (method (q + 1) 74 (.pointer (some ⟨bk, 0, none⟩)) "catchpit/enchunk.end").run Tryd.prog W = .ok (116, .pointer (some ⟨bk, 0, none⟩)) W := fun _ _ => by kernel_rfl
  have HF := Aside0.mk (fun w2 (hd : Drawn0 w w2) => (⟨(blk_cell (blk_below h5 hd.below) 1).trans rfl, blk_frozen (blk_below h5 hd.below) 1⟩ : w2.cell? ⟨b, 1, none⟩ = some (.bool false) ∧ w2.frozen? ⟨b, 1, none⟩ = false))
  have HLT := Aside0.mk (blk_lt h5)
  clear h5 h6 f1
  go_enter Tryd.func19, Tryd.ntmps19
  go_wp2_with fail
  refine hl.mono ?_
  rintro e w2 ⟨rfl, hd⟩
  have d1 := (HF.out w2 hd).1
  have e1 := (HF.out w2 hd).2
  have HD := Aside0.mk hd
  clear hl hd
  go_wp2
  go_ret2
  exact ⟨rfl, (HE.out.below HD.out.below).set_ended true, ((HD.out.below).mono (Nat.le_trans h1 (Nat.le_of_lt HLT.out))).setCell (p := ⟨b, 1, none⟩) h1 _⟩
end Go.Proofs.YtakbnoelbmgmhaaDoorH
end
