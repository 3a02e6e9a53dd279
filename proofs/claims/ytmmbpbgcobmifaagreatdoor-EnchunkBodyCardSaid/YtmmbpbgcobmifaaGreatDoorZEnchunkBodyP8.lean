import Derived.Test.YtmmbpbgcobmifaaGreatDoorZEnchunkBodyP7
import Derived.Test.YtmmbpbgcobmifaaGreatDoorZEnchunkBodyP1
import Derived.Test.YtmmbpbgcobmifaaGreatDoorZEnchunkBodyP3
import Derived.Test.YtmmbpbgcobmifaaGreatDoorZEnchunkBodyP5
import Derived.Test.YtmmbpbgcobmifaaGreatDoorZEnchunkBodyP6
import Derived.SizedLaws
import Derived.ChangeSlices
import Derived.Outline
import Derived.Laws.BitsLemmas
import Derived.Laws.Bits64b
import Derived.Laws.Slices
import Derived.Deep.CutBlock
import Derived.WalkKit
import Derived.RowKit3
import Derived.Lib.SlBytesConst
import Derived.Laws.Pointers
import Derived.Laws.NewBlocks
import Derived.Deep.RegionHeld3
import Derived.Shelf.Strings.Builder1
import Derived.Laws.EntriesVeiled
import Derived.HandedShaped
import Derived.Handed
namespace Go.Proofs.YtmmbpbgcobmifaaGreatDoorW.PrintWords
end Go.Proofs.YtmmbpbgcobmifaaGreatDoorW.PrintWords
namespace Go.Proofs.YtmmbpbgcobmifaaGreatDoorW.PrintLast
end Go.Proofs.YtmmbpbgcobmifaaGreatDoorW.PrintLast
namespace Go.Proofs.YtmmbpbgcobmifaaGreatDoorW.PrintMore
end Go.Proofs.YtmmbpbgcobmifaaGreatDoorW.PrintMore
namespace Go.Proofs.YtmmbpbgcobmifaaGreatDoorH
end Go.Proofs.YtmmbpbgcobmifaaGreatDoorH
namespace Go.Proofs.YtmmbpbgcobmifaaGreatDoor.Pr
end Go.Proofs.YtmmbpbgcobmifaaGreatDoor.Pr
namespace Go.Proofs.YtmmbpbgcobmifaaGreatDoorM
end Go.Proofs.YtmmbpbgcobmifaaGreatDoorM
namespace Go.Proofs.YtmmbpbgcobmifaaGreatDoor.Pe
end Go.Proofs.YtmmbpbgcobmifaaGreatDoor.Pe
namespace Go.Proofs.YtmmbpbgcobmifaaGreatDoor.Pf
end Go.Proofs.YtmmbpbgcobmifaaGreatDoor.Pf
section
namespace Go.Proofs.YtmmbpbgcobmifaaGreatDoorH
open Go.RowKit Go.Proofs.YtmmbpbgcobmifaaGreatDoorW.PrintWords Go.Proofs.YtmmbpbgcobmifaaGreatDoorW.PrintLast Go.Proofs.YtmmbpbgcobmifaaGreatDoorW.PrintMore
set_option maxHeartbeats 1600000 in
set_option maxRecDepth 100000 in
theorem tz64_calls (w : World) (hT : TabZ w) :
    Calls Tryz.prog 99 #[.int .u64 16] w fun e w' => e = .returned (.int .i64 4) ∧ w' = w := by
  unfold TabZ at hT
  have h1 : IntKind.u64.wrap (-16) = 18446744073709551600 := by decide +kernel
  have h2 : bits BinOp.and IntKind.u64 16 18446744073709551600 = 16 := by decide +kernel
  have h3 : IntKind.u64.wrap 4573923408821661840 = 4573923408821661840 := by decide +kernel
  go_enter Tryz.func99, Tryz.ntmps99
  go_wp2
  go_ret
  exact ⟨rfl, rfl⟩
set_option maxHeartbeats 1600000 in
set_option maxRecDepth 100000 in
theorem tz_calls (w : World) (hT : TabZ w) :
    Calls Tryz.prog 90 #[.int .u64 16] w fun e w' => e = .returned (.int .i64 4) ∧ w' = w := by
  have h1 := tz64_calls w hT
  clear hT
  go_enter Tryz.func90, Tryz.ntmps90
  go_wp2_with fail
  refine h1.mono ?_
  rintro e w' ⟨rfl, rfl⟩
  go_wp2
  go_ret
  exact ⟨rfl, rfl⟩
theorem add_plain2 (b o i : Nat) : (⟨b, o, none⟩ : Addr).add i = ⟨b, o + i, none⟩ := by unfold Addr.add; split <;> simp_all
abbrev digs : ByteArray := ⟨#[48, 49, 50, 51, 52, 53, 54, 55, 56, 57, 97, 98, 99, 100, 101, 102, 103, 104, 105, 106, 107, 108, 109, 110, 111, 112, 113, 114, 115, 116, 117, 118, 119, 120, 121, 122]⟩
def Tail (W : World) (b : Nat) (s : List Int) : Prop := ∃ (cs : Array Value) (T : TypeId), W.heap[b]? = some (.cells cs T (0, 0)) ∧ cs.size = 65 ∧ ∀ (j : Nat) (y : Int), s[j]? = some y → cs[65 - s.length + j]? = some (.int .u8 y)
theorem Tail.put {W : World} {b : Nat} {s : List Int} (h : Tail W b s) (hs : s.length < 65) (y : Int) : Tail (W.setCell ⟨b, 64 - s.length, none⟩ (.int .u8 y)) b (y :: s) := by
  obtain ⟨cs, T, hb, hz, hc⟩ := h
  refine ⟨cs.setIfInBounds (64 - s.length) (.int .u8 y), T, blk_put hb _ _ rfl, by simpa using hz, fun j x hx => ?_⟩
  rw [List.length_cons]
  cases j with
  | zero =>
    obtain rfl : y = x := by simpa using hx
    rw [show 65 - (s.length + 1) + 0 = 64 - s.length by omega, Array.getElem?_setIfInBounds_self_of_lt (by omega)]
  | succ j =>
    have hx : s[j]? = some x := by simpa using hx
    rw [show 65 - (s.length + 1) + (j + 1) = 65 - s.length + j by omega, Array.getElem?_setIfInBounds_ne (by omega)]
    exact hc j x hx
theorem Tail.reads {W : World} {b : Nat} {s : List Int} (h : Tail W b s) (hs : s.length ≤ 65) : Kd.C (Kd.int .u8) W (some ⟨b, 65 - s.length, none⟩) s.length s := by
  obtain ⟨cs, T, hb, hz, hc⟩ := h
  refine ⟨rfl, by omega, fun _ => ⟨_, rfl, fun j y hy => ⟨[.int .u8 y], rfl, rfl, fun i u hu => ?_⟩⟩⟩
  have : i = 0 ∧ .int .u8 y = u := by
    cases i with
    | zero => exact ⟨rfl, by simpa using hu⟩
    | succ i => simp at hu
  obtain ⟨rfl, rfl⟩ := this
  have hx := hc j y hy
  show W.cell? ((⟨b, 65 - s.length, none⟩ : Addr).add (j * 1 + 0)) = _
  rw [add_plain2, show 65 - s.length + (j * 1 + 0) = 65 - s.length + j by omega]
  exact (blk_cell hb _).trans hx
set_option maxHeartbeats 1600000 in
set_option maxRecDepth 100000 in
theorem pow2_calls (w : World) : Calls Tryz.prog 89 #[.int .i64 16] w fun e w' => e = .returned (.bool true) ∧ w' = w := by
  have h2 : bits BinOp.and IntKind.i64 16 15 = 0 := by decide +kernel
  go_enter Tryz.func89, Tryz.ntmps89
  go_wp2
  go_ret
  exact ⟨rfl, rfl⟩
theorem digs_at (d : Nat) (h : d < 16) (h2 : d < digs.size) : ((digs[d].toNat : Nat) : Int) = hexD d := by
  have : d = 0 ∨ d = 1 ∨ d = 2 ∨ d = 3 ∨ d = 4 ∨ d = 5 ∨ d = 6 ∨ d = 7 ∨ d = 8 ∨ d = 9 ∨ d = 10 ∨ d = 11 ∨ d = 12 ∨ d = 13 ∨ d = 14 ∨ d = 15 := by omega
  rcases this with rfl | rfl | rfl | rfl | rfl | rfl | rfl | rfl | rfl | rfl | rfl | rfl | rfl | rfl | rfl | rfl <;> rfl
theorem and15 (u : Nat) (h : u < 18446744073709551616) : bits BinOp.and IntKind.u64 (u : Int) 15 = ((u % 16 : Nat) : Int) := by
  have e := bits_and_u64_nat u 15 h (by decide)
  rw [Nat.and_two_pow_sub_one_eq_mod u 4] at e
  exact e
theorem Tail.new {W : World} (cs : Array Value) (T : TypeId) (h : cs.size = 65) : Tail (W.alloc (.cells cs T)) W.heap.size [] := ⟨cs, T, heap_alloc_new W _, h, fun j y hy => by simp at hy⟩
set_option maxHeartbeats 4000000 in
set_option maxRecDepth 100000 in
theorem formatBits_calls (n : Nat) (hn : n < 18446744073709551616) (w : World) (hT : TabZ w) :
    Calls Tryz.prog 72 #[.slice none 0 0, .int .u64 n, .int .i64 16, .bool false, .bool false] w fun e w' => e = .returned (.tuple #[.slice none 0 0, .string (hexS n)]) ∧ Below w.heap.size w w' := by
  have HTZ := Aside0.mk (fun W (h : Below w.heap.size w W) => (TabZ.below hT h : TabZ W))
  have HL := Aside0.mk (hexL_le16 hn)
  clear hT
  go_enter Tryz.func72, Tryz.ntmps72
  go_wp2_with fail
  refine (pow2_calls _).mono ?_
  rintro e w1 ⟨rfl, h1⟩
  have B1 := Aside0.mk (show Below w.heap.size w w1 by rw [h1]; exact (Below.refl _ _).alloc (Nat.le_refl _) _)
  have T1 := Aside0.mk (show Tail w1 w.heap.size [] by rw [h1]; exact Tail.new _ _ rfl)
  clear h1
  go_wp2_with fail
  refine (tz_calls w1 (HTZ.out _ B1.out)).mono ?_
  rintro e w2 ⟨rfl, rfl⟩
  go_wp2_with fail
  go_loopw [1, 13] (fun u1 u13 wr => ∃ (u k : Nat) (s : List Int), u1 = .int .u64 (u : Int) ∧ u13 = .int .i64 (65 - (k : Int)) ∧ k ≤ 15 ∧ u ≤ n ∧ Aside0 (s.length = k) ∧ Aside0 (hexL n = hexL u ++ s) ∧ Aside0 (Tail wr w.heap.size s) ∧ Aside0 (Below w.heap.size w wr)) (fun u1 _ _ => (intOf u1).toNat)
  case atStart => exact ⟨n, 0, [], rfl, rfl, by decide, Nat.le_refl _, ⟨rfl⟩, ⟨by simp⟩, T1, B1⟩
  case round =>
    obtain ⟨u, k, s, rfl, rfl, hk, hun, hs, he, ht, hb⟩ := hrel
    by_cases h16 : 16 ≤ u
    · have h16' : (16 : Int) ≤ (u : Int) := by omega
      have hw1 : IntKind.i64.wrap (65 - (k : Int) - 1) = 64 - (k : Int) := by
        unfold IntKind.wrap
        simp [IntKind.bits, IntKind.signed]
        omega
      obtain ⟨d, hd⟩ : ∃ d : Nat, u % 16 = d := ⟨_, rfl⟩
      have hd16 : d < 16 := by omega
      have ha := and15 u (by omega)
      rw [hd] at ha
      obtain ⟨cs, T, hb0, hz, hc⟩ := ht.out
      have cc := (blk_cell hb0 (64 - k)).trans (Array.getElem?_eq_getElem (show 64 - k < cs.size by omega))
      have fc := blk_frozen hb0 (64 - k)
      have hd0 : (0 : Int) ≤ (d : Int) := by omega
      have hd1 : (d : Int) < 36 := by omega
      go_wp2
      go_roundw
      case rel =>
        refine ⟨u / 16, k + 1, hexD d :: s, by simp, by simp; omega, ?_, by omega, ⟨by rw [List.length_cons, hs.out]⟩, ⟨?_⟩, ⟨?_⟩, ⟨Below.setCell hb.out (p := ⟨w.heap.size, _, none⟩) (Nat.le_refl _) _⟩⟩
        · have h1 := HL.out
          have h2 := hexL_pos (u / 16)
          have h3 := hs.out
          rw [he.out, hexL_ge h16, List.length_append, List.length_append, List.length_singleton] at h1
          omega
        · rw [he.out, hexL_ge h16, hd, List.append_assoc, List.singleton_append]
        · rw [digs_at d hd16]
          have h := ht.out.put (by rw [hs.out]; omega) (hexD d)
          rw [hs.out] at h
          exact h
      case measure =>
        simp [intOf]
        omega
    · have h16' : ¬ (16 : Int) ≤ (u : Int) := by omega
      have hw1 : IntKind.i64.wrap (65 - (k : Int) - 1) = 64 - (k : Int) := by
        unfold IntKind.wrap
        simp [IntKind.bits, IntKind.signed]
        omega
      obtain ⟨cs, T, hb0, hz, hc⟩ := ht.out
      have cc := (blk_cell hb0 (64 - k)).trans (Array.getElem?_eq_getElem (show 64 - k < cs.size by omega))
      have fc := blk_frozen hb0 (64 - k)
      have hd0 : (0 : Int) ≤ (u : Int) := by omega
      have hd1 : (u : Int) < 36 := by omega
      have ht2 := fun y => ht.out.put (by rw [hs.out]; omega) y
      have hcv : ∀ y : Int, (convert 25 9 (.slice (some ⟨w.heap.size, 64 - k, none⟩) (k + 1) (k + 1))).run Tryz.prog (wr.setCell ⟨w.heap.size, 64 - k, none⟩ (.int .u8 y)) = .ok (.string (strOfNums (y :: s))) (wr.setCell ⟨w.heap.size, 64 - k, none⟩ (.int .u8 y)) := fun y => by
        have h := Kd.C_string (P := Tryz.prog) Tryz.underlying25 Tryz.underlying5 Tryz.underlying9 (n := (y :: s).length) (c := (y :: s).length) ((ht2 y).reads (by rw [List.length_cons, hs.out]; omega))
        rw [List.length_cons, hs.out, show 65 - (k + 1) = 64 - k by omega] at h
        exact h
      clear ht2
      have hal : Tryz.prog.arrayLen 146 = 65 := by kernel_rfl
      have hel : Tryz.prog.elem 146 = 5 := by kernel_rfl
      have hsl : ∀ W, (Instr.sliceAt 146 (.pointer (some ⟨w.heap.size, 0, none⟩)) (some (.int .i64 (64 - (k : Int)))) none none).run Tryz.prog W = .ok (.slice (some ⟨w.heap.size, 64 - k, none⟩) (k + 1) (k + 1)) W := fun W => by
        rw [run_sliceAt_array_l W 146 ⟨w.heap.size, 0, none⟩ (by rw [hal, hel]; exact Tryz.underlying146) .i64 (64 - (k : Int)) (by omega) (by rw [hal]; omega), hal, hel]
        have hsz : (Go.sizeOf 5).run Tryz.prog W = .ok 1 W := by kernel_rfl
        rw [hsz]
        simp [Result.andThen, slicedAt, add_plain2]
        omega
      clear hal hel
      go_wp2
      rw [digs_at u (by omega)]
      go_ret2
      refine ⟨?_, Below.setCell hb.out (p := ⟨w.heap.size, _, none⟩) (Nat.le_refl _) _⟩
      rw [show hexS n = strOfNums (hexD u :: s) by unfold hexS; rw [he.out, hexL_lt (by omega), List.singleton_append]]
      rfl
set_option maxHeartbeats 1600000 in
set_option maxRecDepth 100000 in
theorem iformat_calls (n : Nat) (hn : n < 18446744073709551616) (w : World) (hT : TabZ w) :
    Calls Tryz.prog 56 #[.int .u64 n, .int .i64 16] w fun e w' => e = .returned (.string (hexS n)) ∧ Below w.heap.size w w' := by
  have h1 := formatBits_calls n hn w hT
  clear hT
  go_enter Tryz.func56, Tryz.ntmps56
  go_wp2_with fail
  refine h1.mono ?_
  rintro e w' ⟨rfl, hb⟩
  clear h1
  go_wp2
  go_ret
  exact ⟨rfl, hb⟩
set_option maxHeartbeats 1600000 in
set_option maxRecDepth 100000 in
theorem sformat_calls (n : Nat) (hn : n < 18446744073709551616) (w : World) (hT : TabZ w) :
    Calls Tryz.prog 45 #[.int .u64 n, .int .i64 16] w fun e w' => e = .returned (.string (hexS n)) ∧ Below w.heap.size w w' := by
  have h1 := iformat_calls n hn w hT
  clear hT
  go_enter Tryz.func45, Tryz.ntmps45
  go_wp2_with fail
  refine h1.mono ?_
  rintro e w' ⟨rfl, hb⟩
  clear h1
  go_wp2
  go_ret
  exact ⟨rfl, hb⟩
set_option maxHeartbeats 1600000 in
set_option maxRecDepth 100000 in
theorem hput_calls (n : Nat) (hn : n < 18446744073709551616) (w : World) (hT : TabZ w) :
    Calls Tryz.prog 31 #[.int .u64 n] w fun e w' => e = .returned (.string (hexS n)) ∧ Below w.heap.size w w' := by
  have h1 := sformat_calls n hn w hT
  clear hT
  go_enter Tryz.func31, Tryz.ntmps31
  go_wp2_with fail
  refine h1.mono ?_
  rintro e w' ⟨rfl, hb⟩
  clear h1
  go_wp2
  go_ret
  exact ⟨rfl, hb⟩
end Go.Proofs.YtmmbpbgcobmifaaGreatDoorH
end
section
namespace Go.Proofs.YtmmbpbgcobmifaaGreatDoorH
open Go.RowKit Go.Proofs.YtmmbpbgcobmifaaGreatDoorW.PrintWords Go.Proofs.YtmmbpbgcobmifaaGreatDoorW.PrintLast Go.Proofs.YtmmbpbgcobmifaaGreatDoorW.PrintMore
def chunkL (l : List Int) : List Int := if l.length = 0 then [] else hexL l.length ++ ([13, 10] ++ (l ++ [13, 10]))
def costN (n : Nat) : Nat := if n = 0 then 0 else (hexL n).length + 4
theorem chunkL_bytes {l : List Int} (h : ByteL l) : ByteL (chunkL l) := by
  unfold chunkL
  split
  · intro x hx; cases hx
  · intro x hx
    simp only [List.mem_append] at hx
    rcases hx with hx | hx | hx | hx
    · exact hexL_bytes _ x hx
    · simp at hx; omega
    · exact h x hx
    · simp at hx; omega
set_option maxHeartbeats 4000000 in
set_option maxRecDepth 100000 in
theorem cost_calls (n : Int) (hn : n ≤ 9223372036854775807) (w : World) (hT : TabZ w) :
    Calls Tryz.prog 19 #[.int .i64 n] w fun e w' => e = .returned (.int .i64 (costN n.toNat)) ∧ Below w.heap.size w w' := by
  by_cases h : n < 1
  · have e : costN n.toNat = 0 := by unfold costN; rw [if_pos (by omega)]
    rw [e]
    go_enter Tryz.func19, Tryz.ntmps19
    go_wp2
    go_ret
    exact ⟨rfl, Below.refl _ _⟩
  · obtain ⟨m, rfl⟩ := Int.eq_ofNat_of_zero_le (show 0 ≤ n by omega)
    have h1 := hput_calls m (by omega) w hT
    have hle := hexL_le16 (n := m) (by omega)
    have hz := hexS_size m
    have e : costN (m : Int).toNat = (hexL m).length + 4 := by unfold costN; rw [if_neg (by omega), Int.toNat_natCast]
    have hw0 : IntKind.u64.wrap (m : Int) = m := by
      unfold IntKind.wrap
      simp [IntKind.bits, IntKind.signed]
      omega
    rw [e]
    clear hT e
    generalize hexS m = s at *
    rw [← hz] at hle
    rw [← hz]
    clear hz
    have hw1 : IntKind.i64.wrap ((s.size : Int) + 4) = (s.size : Int) + 4 := by
      unfold IntKind.wrap
      simp [IntKind.bits, IntKind.signed]
      omega
    have hlt : ¬ ((m : Int) < 1) := h
    go_enter Tryz.func19, Tryz.ntmps19
    go_wp2_with fail
    refine h1.mono ?_
    rintro e w' ⟨rfl, hb⟩
    clear h1
    go_wp2
    go_ret
    exact ⟨by simp, hb⟩
theorem join3 (a l : List UInt8) : Lib.join [a, l, []] [13, 10] = a ++ ([13, 10] ++ (l ++ [13, 10])) := by
  simp [Lib.join, List.intercalate]
set_option maxHeartbeats 4000000 in
set_option maxRecDepth 100000 in
theorem chunk_calls (A : Option Addr) (c : Nat) (l : List Int) (w : World) (hr : Kd.C (Kd.int .u8) w A l.length l) (hc : l.length ≤ c) (hb : ByteL l) (hl : l.length ≤ 1073741824) (hT : TabZ w) :
    Calls Tryz.prog 18 #[.slice A l.length c] w fun e w' => ∃ v, e = .returned v ∧ RowB w' v (chunkL l) ∧ Below w.heap.size w w' := by
  by_cases h0 : l.length = 0
  · have e : chunkL l = [] := by unfold chunkL; rw [if_pos h0]
    have h0' : ((l.length : Nat) : Int) = 0 := by omega
    rw [e]
    generalize l.length = n at *
    subst h0
    go_enter Tryz.func18, Tryz.ntmps18
    go_wp2
    go_ret
    exact ⟨_, rfl, RowB.nil _, Below.refl _ _⟩
  · have e : chunkL l = hexL l.length ++ ([13, 10] ++ (l ++ [13, 10])) := by unfold chunkL; rw [if_neg h0]
    have hne : ((l.length : Int) == 0) = false := by rw [beq_eq_false_iff_ne]; omega
    have h1 := hput_calls l.length (by omega) w hT
    have hw0 : IntKind.u64.wrap (l.length : Int) = l.length := by
      unfold IntKind.wrap
      simp [IntKind.bits, IntKind.signed]
      omega
    have hhs := hexS_size l.length
    have hh16 := hexL_le16 (n := l.length) (by omega)
    have HR := Aside0.mk hr
    have HB := Aside0.mk hb
    have HE := Aside0.mk e
    have HS := Aside0.mk (show ofU8 (hexS l.length).data.toList = hexL l.length from strBytes _)
    have kb := fun W => print_bytes (P := Tryz.prog) 9 25 5 Tryz.underlying9 Tryz.underlying25 Tryz.underlying5 (hexS l.length) W
    clear hr hb e hT
    have HZ := Aside0.mk (show (hexS l.length).size ≤ 16 by rw [hhs]; exact hh16)
    have HL := Aside0.mk hl
    clear hhs hh16
    have HN := Aside0.mk (show ∃ n, l.length = n ∧ hexS l.length = hexS l.length from ⟨_, rfl, rfl⟩)
    go_enter Tryz.func18, Tryz.ntmps18
    go_wp2_with fail
    refine h1.mono ?_
    rintro e w1 ⟨rfl, b1⟩
    clear h1
    have HC1 := Aside0.mk (Kd.C_below HR.out b1)
    have B1 := Aside0.mk b1
    clear b1
    generalize hexS l.length = s at *
    obtain ⟨g, hg⟩ : ∃ g, grownCap w1 s.size 0 5 = g := ⟨_, rfl⟩
    have B2 := Aside0.mk (bytes_below B1.out B1.out.size 5 s)
    have R2 := Aside0.mk (show ∀ j, j < s.size → (Lib.bytesWorld w1 5 s).cell? ⟨w1.heap.size, j, none⟩ = some (.int .u8 (s.data.toList.getD j 0).toNat) from Lib.bytesWorld_cell w1 5 s)
    have C2 := Aside0.mk (Kd.C_below HC1.out (bytes_below (Below.refl w1.heap.size w1) (Nat.le_refl _) 5 s))
    have hcc := Lib.run_convert_bytes_const (P := Tryz.prog) ((Lib.bytesWorld w1 5 s).alloc (.cells #[.slice (some ⟨w1.heap.size, 0, none⟩) s.size g, .slice A l.length c, .slice none 0 0] 25)) 25 5 #[.int .u8 13, .int .u8 10] 2 2 Tryz.underlying25 Tryz.underlying5
    rw [World.size_alloc] at hcc
    go_wp2_with fail
    generalize Lib.bytesWorld w1 5 s = W2 at *
    obtain ⟨W4, hW4⟩ : ∃ W4, (W2.alloc (.cells #[.slice (some ⟨w1.heap.size, 0, none⟩) s.size g, .slice A l.length c, .slice none 0 0] 25)).alloc (.cells #[.int .u8 13, .int .u8 10] 5 (2, 3)) = W4 := ⟨_, rfl⟩
    have B4 := Aside0.mk (show Below w.heap.size w W4 by rw [← hW4]; exact (B2.out.alloc B2.out.size _).alloc (by rw [World.size_alloc]; have := B2.out.size; omega) _)
    have hb24 : Below W2.heap.size W2 W4 := by rw [← hW4]; exact ((Below.refl _ W2).alloc (Nat.le_refl _) _).alloc (by rw [World.size_alloc]; omega) _
    have P4 : W4.heap[W2.heap.size]? = some (.cells #[.slice (some ⟨w1.heap.size, 0, none⟩) s.size g, .slice A l.length c, .slice none 0 0] 25 (0, 0)) := by rw [← hW4]; exact blk_alloc (heap_alloc_new W2 _) _
    have S4 : W4.heap[W2.heap.size + 1]? = some (.cells #[.int .u8 13, .int .u8 10] 5 (2, 3)) := by
      rw [← hW4]
      have h := heap_alloc_new (W2.alloc (.cells #[.slice (some ⟨w1.heap.size, 0, none⟩) s.size g, .slice A l.length c, .slice none 0 0] 25)) (.cells #[.int .u8 13, .int .u8 10] 5 (2, 3))
      rw [World.size_alloc] at h
      exact h
    rw [hW4]
    have HP : Lib.PartsAt W4 ⟨W2.heap.size, 0, none⟩ [.slice (some ⟨w1.heap.size, 0, none⟩) s.size g, .slice A l.length c, .slice none 0 0] [s.data.toList, u8s l, []] := by
      refine ⟨rfl, fun i v hv => ?_, fun i v x hv hx => ?_⟩
      · match i, hv with
        | 0, hv => cases hv; exact (blk_cell P4 0).trans rfl
        | 1, hv => cases hv; exact (blk_cell P4 1).trans rfl
        | 2, hv => cases hv; exact (blk_cell P4 2).trans rfl
        | (i + 3), hv => simp at hv
      · match i, hv, hx with
        | 0, hv, hx =>
          cases hv; cases hx
          refine ⟨some ⟨w1.heap.size, 0, none⟩, g, by rw [data_length], (fun h => by cases h), fun a ha i x hx => ?_⟩
          cases ha
          have hi : i < s.size := by
            have := (List.getElem?_eq_some_iff.1 hx).1
            rwa [data_length] at this
          have h := pw_cell_below hb24 (R2.out i hi)
          rw [List.getD_eq_getElem?_getD, hx] at h
          rw [add_plain]
          exact h
        | 1, hv, hx =>
          cases hv; cases hx
          exact holds_of_C (Kd.C_below C2.out hb24) HB.out
        | 2, hv, hx =>
          cases hv; cases hx
          exact ⟨none, 0, rfl, fun _ => rfl, fun a h => by cases h⟩
        | (i + 3), hv, hx => simp at hv
    have HS4 : Lib.HoldsBytes W4 (.slice (some ⟨W2.heap.size + 1, 0, none⟩) 2 2) [13, 10] := by
      refine ⟨some ⟨W2.heap.size + 1, 0, none⟩, 2, rfl, (fun h => by cases h), fun a ha i x hx => ?_⟩
      cases ha
      match i, hx with
      | 0, hx => cases hx; exact World.news_of_block S4 0 _ rfl
      | 1, hx => cases hx; exact World.news_of_block S4 1 _ rfl
      | (i + 2), hx => simp at hx
    refine (Tryz.bytes_Join_many W2.heap.size 0 3 3 _ _ (.slice (some ⟨W2.heap.size + 1, 0, none⟩) 2 2) [13, 10] W4 rfl (by decide) HP (by decide) HS4 (by decide) ?_).mono ?_
    · have h1 := HZ.out
      have h2 := HL.out
      simp [Lib.lens, u8s_length]
      omega
    · rintro e w5 ⟨v, rfl, hf, b5⟩
      have hrow := row_of_fresh hf
      rw [join3, ofU8_append, ofU8_append, ofU8_append, HS.out, ofU8_u8s HB.out, show ofU8 [13, 10] = [13, 10] from rfl, ← show chunkL l = _ from HE.out] at hrow
      go_wp2
      go_ret
      exact ⟨_, rfl, hrow, below_step B4.out b5⟩
end Go.Proofs.YtmmbpbgcobmifaaGreatDoorH
end
section
namespace Go.Proofs.YtmmbpbgcobmifaaGreatDoorH
open Go.RowKit Go.Proofs.YtmmbpbgcobmifaaGreatDoorW.PrintWords Go.Proofs.YtmmbpbgcobmifaaGreatDoorW.PrintLast Go.Proofs.YtmmbpbgcobmifaaGreatDoorW.PrintMore
def kindT (k : Nat) : TypeId := if k = 1 then 54 else if k = 2 then 65 else 67
def kindO (k : Nat) (n sz : Nat) : Obj := if k = 1 then .cells #[.int .i64 n, .int .u64 sz] 60 (0, 0) else if k = 2 then .cells #[.int .i64 n] 66 (0, 0) else .cells #[.int .i64 n] 58 (0, 0)
def EncAt (W : World) (B b k n sz : Nat) (en : Bool) : Prop :=
  ∃ bk, B ≤ b ∧ B ≤ bk ∧ b ≠ bk ∧ (k = 1 ∨ k = 2 ∨ k = 3) ∧ W.heap[b]? = some (.cells #[.iface (kindT k) (.pointer (some ⟨bk, 0, none⟩)), .bool en] 64 (0, 0)) ∧ W.heap[bk]? = some (kindO k n sz)
theorem EncAt.below {W W' : World} {B b k n sz : Nat} {en : Bool} (h : EncAt W B b k n sz en) (hb : Below W.heap.size W W') : EncAt W' B b k n sz en := by
  obtain ⟨bk, h1, h2, h3, h4, h5, h6⟩ := h
  exact ⟨bk, h1, h2, h3, h4, blk_below h5 hb, (hb.block bk (Array.getElem?_eq_some_iff.1 h6).1).trans h6⟩
set_option maxHeartbeats 1600000 in
set_option maxRecDepth 100000 in
theorem add_calls (bk n : Nat) (A : Option Addr) (m c : Nat) (w : World) (hc : w.cell? ⟨bk, 0, none⟩ = some (.int .i64 n)) (hf : w.frozen? ⟨bk, 0, none⟩ = false) (hn : n + m ≤ 4611686018427387904) :
    Calls Tryz.prog 145 #[.pointer (some ⟨bk, 0, none⟩), .slice A m c] w fun e w' => e = .returned (.tuple #[]) ∧ w' = w.setCell ⟨bk, 0, none⟩ (.int .i64 ((n + m : Nat) : Int)) := by
  obtain ⟨x, hx⟩ : ∃ x, n + m = x := ⟨_, rfl⟩
  have hw1 : IntKind.i64.wrap ((n : Int) + (m : Int)) = (x : Int) := by
    unfold IntKind.wrap
    simp [IntKind.bits, IntKind.signed]
    omega
  rw [hx]
  go_enter Tryz.func145, Tryz.ntmps145
  go_wp2
  go_end0
  exact ⟨rfl, rfl⟩
theorem kind_cell {W : World} {bk k n sz : Nat} (h : W.heap[bk]? = some (kindO k n sz)) : W.cell? ⟨bk, 0, none⟩ = some (.int .i64 n) ∧ W.frozen? ⟨bk, 0, none⟩ = false ∧ bk < W.heap.size := by
  unfold kindO at h
  split at h
  · exact ⟨(blk_cell h 0).trans rfl, blk_frozen h 0, blk_lt h⟩
  · split at h
    · exact ⟨(blk_cell h 0).trans rfl, blk_frozen h 0, blk_lt h⟩
    · exact ⟨(blk_cell h 0).trans rfl, blk_frozen h 0, blk_lt h⟩
theorem kind_set {W : World} {bk k n sz : Nat} (h : W.heap[bk]? = some (kindO k n sz)) (m : Nat) : (W.setCell ⟨bk, 0, none⟩ (.int .i64 (m : Int))).heap[bk]? = some (kindO k m sz) := by
  unfold kindO at h ⊢
  by_cases h1 : k = 1
  · rw [if_pos h1] at h ⊢
    simpa using blk_set h 0 (.int .i64 (m : Int))
  · rw [if_neg h1] at h ⊢
    by_cases h2 : k = 2
    · rw [if_pos h2] at h ⊢
      simpa using blk_set h 0 (.int .i64 (m : Int))
    · rw [if_neg h2] at h ⊢
      simpa using blk_set h 0 (.int .i64 (m : Int))
set_option maxHeartbeats 1600000 in
set_option maxRecDepth 100000 in
theorem chunked_put (B bk n : Nat) (A : Option Addr) (c : Nat) (l : List Int) (w : World) (hB : B ≤ bk) (hcell : w.cell? ⟨bk, 0, none⟩ = some (.int .i64 n)) (hf : w.frozen? ⟨bk, 0, none⟩ = false)
    (hr : Keeps B w fun W => Kd.C (Kd.int .u8) W A l.length l ∧ TabZ W) (hc : l.length ≤ c) (hby : ByteL l) (hl : n + l.length ≤ 4611686018427387904) (hl2 : l.length ≤ 1073741824) :
    Calls Tryz.prog 149 #[.pointer (some ⟨bk, 0, none⟩), .slice A l.length c] w fun e w' =>
      ∃ v, e = .returned (.tuple #[v, .int .i64 0]) ∧ RowB w' v (chunkL l) ∧ Below (w.setCell ⟨bk, 0, none⟩ (.int .i64 ((n + l.length : Nat) : Int))).heap.size (w.setCell ⟨bk, 0, none⟩ (.int .i64 ((n + l.length : Nat) : Int))) w' := by
  have ha := add_calls bk n A l.length c w hcell hf hl
  have HC := Aside0.mk (hr _ ((Below.refl B w).setCell (p := ⟨bk, 0, none⟩) hB (.int .i64 ((n + l.length : Nat) : Int))))
  clear hr hcell hf
  generalize w.setCell ⟨bk, 0, none⟩ (.int .i64 ((n + l.length : Nat) : Int)) = w1 at *
  have hcl := chunk_calls A c l w1 HC.out.1 hc hby (by omega) HC.out.2
  clear HC hby
  generalize chunkL l = cl at *
  go_enter Tryz.func149, Tryz.ntmps149
  go_wp2_with fail
  refine ha.mono ?_
  rintro e w2 ⟨rfl, rfl⟩
  clear ha
  go_wp2_with fail
  refine hcl.mono ?_
  rintro e w3 ⟨v, rfl, hrow, b3⟩
  obtain ⟨A3, c3, rfl, hc3, hC3⟩ := hrow
  have HC3 := Aside0.mk hC3
  clear hcl hC3
  go_wp2
  go_ret2
  exact ⟨_, rfl, ⟨_, _, rfl, hc3, HC3.out⟩, b3⟩
end Go.Proofs.YtmmbpbgcobmifaaGreatDoorH
end
section
namespace Go.Proofs.YtmmbpbgcobmifaaGreatDoorH
open Go.RowKit Go.Proofs.YtmmbpbgcobmifaaGreatDoorW.PrintWords Go.Proofs.YtmmbpbgcobmifaaGreatDoorW.PrintLast Go.Proofs.YtmmbpbgcobmifaaGreatDoorW.PrintMore
theorem builder_size : (Tryz.prog.info? 199).map (·.size) = some 2 := by kernel_rfl
theorem byte_info : (Tryz.prog.info? 5).map (fun i => (i.zero, i.size, i.bytes)) = some (some (.int .u8 0), 1, 1) := by kernel_rfl
set_option maxHeartbeats 1000000 in
set_option maxRecDepth 100000 in
theorem copyCheck_used (b : Nat) (w : World) (h0 : w.cell? ⟨b, 0, none⟩ = some (.pointer (some ⟨b, 0, none⟩))) :
    Calls Tryz.prog 155 #[.pointer (some ⟨b, 0, none⟩)] w fun e w' => e = .returned (.tuple #[]) ∧ w' = w := by
  obtain ⟨j, hj, _⟩ := Option.map_eq_some_iff.1 builder_size
  go_enter Tryz.func155, Tryz.ntmps155
  go_wp2
  rw [Lib.run_neq_ptr_same w _ Tryz.underlying197 hj]
  go_wp2
  go_end0
  exact ⟨rfl, rfl⟩
set_option maxHeartbeats 1000000 in
set_option maxRecDepth 100000 in
theorem copyCheck_fresh (b : Nat) (w : World) (h0 : w.cell? ⟨b, 0, none⟩ = some (.pointer none)) (hsh : w.shape? b = some (199, 2)) (hfz : w.frozen? ⟨b, 0, none⟩ = false) :
    Calls Tryz.prog 155 #[.pointer (some ⟨b, 0, none⟩)] w fun e w' => e = .returned (.tuple #[]) ∧ w' = w.setCell ⟨b, 0, none⟩ (.pointer (some ⟨b, 0, none⟩)) := by
  obtain ⟨j, hj, hjs⟩ := Option.map_eq_some_iff.1 builder_size
  go_enter Tryz.func155, Tryz.ntmps155
  go_wp2
  rw [Lib.run_to_unsafe w ⟨b, 0, none⟩ Tryz.underlying197 Tryz.underlying205 hj (by rw [hjs]; decide) hsh (Nat.zero_lt_succ 1)]
  simp only [Result.andThen]
  rw [Oper.upon_value]
  go_wp2
  rw [run_callFunc_extern Tryz.func156 (by kernel_rfl) (by kernel_rfl) (by kernel_rfl) (e := Extern.AbiNoEscape.same) (by kernel_rfl)]
  rw [Lib.run_noEscape]
  simp only [Result.andThen]
  rw [Oper.upon_value]
  go_wp2
  rw [Lib.run_from_unsafe w ⟨b, 0, none⟩ Tryz.underlying205 Tryz.underlying197 hj hsh (by kernel_rfl)]
  simp only [Result.andThen]
  rw [Oper.upon_value]
  go_wp2
  go_end0
  exact ⟨rfl, rfl⟩
theorem copyCheck_calls (B b : Nat) (bs : List Value) (w : World) (h : Lib.IsBuilder 199 5 B b bs w) :
    Calls Tryz.prog 155 #[.pointer (some ⟨b, 0, none⟩)] w fun e w' => e = .returned (.tuple #[]) ∧ (Lib.BuilderAt 199 5 B b (.pointer (some ⟨b, 0, none⟩)) bs w' ∧ Below B w w') := by
  rcases h with h | h
  · refine (copyCheck_fresh b w h.cell0 h.shape h.frozen0).mono ?_
    rintro e w' ⟨rfl, rfl⟩
    exact ⟨rfl, h.used _, (Below.refl B w).setCell (p := ⟨b, 0, none⟩) h.1 _⟩
  · refine (copyCheck_used b w h.cell0).mono ?_
    rintro e w' ⟨rfl, rfl⟩
    exact ⟨rfl, h, Below.refl B _⟩
set_option maxHeartbeats 2000000 in
set_option maxRecDepth 100000 in
theorem writeString_calls (B b : Nat) (bs : List Value) (s : ByteArray) (w : World) (h : Lib.IsBuilder 199 5 B b bs w) (hlen : bs.length + s.size ≤ 140737488355328) (hBw : B ≤ w.heap.size) :
    Calls Tryz.prog 153 #[.pointer (some ⟨b, 0, none⟩), .string s] w fun e w' => e = .returned (.tuple #[.int .i64 s.size, .nilIface]) ∧ (Lib.BuilderAt 199 5 B b (.pointer (some ⟨b, 0, none⟩)) (bs ++ Lib.strCells s) w' ∧ Below B w w') := by
  obtain ⟨i0, hi, hz0, hz1, hz2⟩ := info_parts byte_info
  go_enter Tryz.func153, Tryz.ntmps153
  go_wp2_with fail
  refine (copyCheck_calls B b bs _ h).mono ?_
  rintro e w1 ⟨rfl, h1, hb1⟩
  obtain ⟨hB, v, hbk, hown, hne⟩ := h1
  have c0 : w1.cell? ⟨b, 0, none⟩ = some (.pointer (some ⟨b, 0, none⟩)) := by rw [Lib.cell_of_heap hbk]; rfl
  have c1 : w1.cell? ⟨b, 1, none⟩ = some v := by rw [Lib.cell_of_heap hbk]; rfl
  go_wp2_with (at_builtin; refine Lib.wpList_append_own_string _ rfl _ _ 25 9 rfl B 5 i0 Tryz.underlying25 Tryz.underlying9 hi hz0 hz1 hz2 _ _ _ rfl hown s rfl ?c3 ?c4 ?c5 ?_)
  case c3 => unfold maxLen; omega
  case c4 => omega
  case c5 => have := hb1.size; omega
  intro v' w2 hown' hgrow _
  have hlt : b < w1.heap.size := by
    rcases Nat.lt_or_ge b w1.heap.size with h' | h'
    · exact h'
    · simp [Array.getElem?_eq_none h'] at hbk
  have hb2 : w2.heap[b]? = some (.cells #[.pointer (some ⟨b, 0, none⟩), v] 199 (0, 0)) := by
    rw [hgrow.block b hlt (fun e => hne e.symm)]
    exact hbk
  have d0 : w2.cell? ⟨b, 0, none⟩ = some (.pointer (some ⟨b, 0, none⟩)) := by rw [Lib.cell_of_heap hb2]; rfl
  have d1 : w2.cell? ⟨b, 1, none⟩ = some v := by rw [Lib.cell_of_heap hb2]; rfl
  have f1 : w2.frozen? ⟨b, 1, none⟩ = false := Lib.frozen_of_heap hb2 1
  obtain ⟨ao, n', cap, rfl⟩ : ∃ ao n' cap, v' = .slice ao n' cap := by
    rcases hown'.2 with ⟨hv, _⟩ | ⟨g, cap, cur, hv, _⟩
    · exact ⟨_, _, _, hv⟩
    · exact ⟨_, _, _, hv⟩
  go_wp2
  go_ret2
  refine ⟨rfl, ?_, ?_⟩
  · exact Lib.BuilderAt.put (T := 199) (e := 5) hB hb2 (bs' := bs ++ Lib.strCells s) (by simpa [Lib.strCells_length] using hown') (by decide)
  · exact (hb1.grown hgrow (by have := hb1.size; omega) (fun k hk => (hown.lt k hk).1)).setCell (p := ⟨b, 1, none⟩) hB _
end Go.Proofs.YtmmbpbgcobmifaaGreatDoorH
end
section
namespace Go.Proofs.YtmmbpbgcobmifaaGreatDoor.Pr
open Go.RowKit Go.Proofs.YtmmbpbgcobmifaaGreatDoorH Go.Proofs.YtmmbpbgcobmifaaGreatDoorW.PrintWords Go.Proofs.YtmmbpbgcobmifaaGreatDoorW.PrintLast Go.Proofs.YtmmbpbgcobmifaaGreatDoorW.PrintMore
attribute [local go_sem] max2_int min2_int max_two min_two max_three min_three max_four min_four   -- for this text's walks alone
set_option linter.unusedVariables false
set_option linter.unusedSimpArgs false
def catchpitref05_Great.l0 : Nat → List (S28) → Int → Int → Option (Bool)
  | 0, _, _, _ => none
  | k + 1, x0, x3, x4 => if x4 < (x0.length : Int) then (if x3 ≤ 2000 then (if 0 ≤ x4 then (catchpitref05_Great.l0 k x0 (wrap64 ((wrap64 ((wrap64 (x3 + (((rd_T28 x0 x4).f0).size : Int))) + (((rd_T28 x0 x4).f1).size : Int))) + 1)) (wrap64 (x4 + 1))) else (none)) else (some (decide (x3 > 2000)))) else (some (decide (x3 > 2000)))
def catchpitref05_Great.f (k : Nat) (l0 : List (S28)) : Option (Bool) := catchpitref05_Great.l0 k l0 0 0
theorem catchpitref05_Great.mono_l : ∀ k, (∀ y0 y1 y2, LeO (catchpitref05_Great.l0 k y0 y1 y2) (catchpitref05_Great.l0 (k + 1) y0 y1 y2))
  | 0 => fun _ _ _ r h => by simp [catchpitref05_Great.l0] at h
  | k + 1 => by
    have ih0 := catchpitref05_Great.mono_l k
    · intro y0 y1 y2
      unfold catchpitref05_Great.l0
      repeat' first
      | (with_reducible exact ih0 _ _ _)
      | (with_reducible exact LeO.refl _)
      | (with_reducible exact LeO.none _)
      | (with_reducible refine LeO.ite ?_ ?_)
      | (with_reducible refine LeO.bind ?_ (fun _ => ?_))
      | exact ih0 _ _ _
      | exact LeO.none _
      | refine LeO.ite ?_ ?_
      | refine LeO.bind ?_ (fun _ => ?_)
theorem catchpitref05_Great.mono : ∀ a0 k, LeO (catchpitref05_Great.f k a0) (catchpitref05_Great.f (k + 1) a0) := by
  intro a0 k
  have ih0 := catchpitref05_Great.mono_l k
  unfold catchpitref05_Great.f
  repeat' first
      | (with_reducible exact ih0 _ _ _)
      | (with_reducible exact LeO.refl _)
      | (with_reducible exact LeO.none _)
      | (with_reducible refine LeO.ite ?_ ?_)
      | (with_reducible refine LeO.bind ?_ (fun _ => ?_))
      | exact ih0 _ _ _
      | exact LeO.none _
      | refine LeO.ite ?_ ?_
      | refine LeO.bind ?_ (fun _ => ?_)
set_option maxHeartbeats 8000000 in
set_option maxRecDepth 100000 in
theorem catchpitref05_Great.calls (k : Nat) (A0 : Option Addr) (c0 : Nat) (l0 : List (S28)) (r : Bool) (w : World) (hr0 : Kd.C k28 w A0 l0.length l0) (hc0 : l0.length ≤ c0) (hG : TabOk w) (h : catchpitref05_Great.f k l0 = some r) :
    Calls Tryz.prog 6 #[.slice A0 l0.length c0] w fun e w' => e = .returned (.bool r) ∧ Drawn0 w w' := by
  have HR0 := Aside0.mk hr0
  have HC0 := Aside0.mk hc0
  clear hr0 hc0
  have H : (catchpitref05_Great.l0 k l0 0 0) = some r := h
  clear h
  have H' := Aside0.mk H
  clear H
  go_enter Tryz.func6, Tryz.ntmps6
  go_wp2
  repeat (go_quiet (fail); try go_wp2)
  go_loopg [3, 4] k (fun kq v3 v4 w' => ∃ (x3_1 : Int) (x4_1 : Int), v3 = .int .i64 x3_1 ∧ v4 = .int .i64 x4_1 ∧ Aside0 (catchpitref05_Great.l0 kq l0 x3_1 x4_1 = some r) ∧ Aside0 (kq ≤ k) ∧ Drawn0 w w')
  case atStart => exact ⟨(0), (0), (by first | rfl | (simp; done) | (simp [*]; done)), (by first | rfl | (simp; done) | (simp [*]; done)), H', ⟨Nat.le_refl _⟩, by repeat (first | exact Drawn0.refl _ | apply Drawn0.step)⟩
  case round =>
    clear H'
    obtain ⟨x3_1, x4_1, rfl, rfl, HA, HK1, ⟨m1, rfl⟩⟩ := hrel
    cases gk with
    | zero => exact absurd HA.out (by simp [catchpitref05_Great.l0])
    | succ k1 =>
      have H := HA.out
      clear HA
      simp only [catchpitref05_Great.l0] at H
      by_cases c2 : x4_1 < (l0.length : Int)
      · rw [if_pos c2] at H
        have c2b0 : decide (x4_1 < (l0.length : Int)) = true := decide_eq_true c2
        clear c2
        by_cases c3 : x3_1 ≤ 2000
        · rw [if_pos c3] at H
          have c3b0 : decide (x3_1 ≤ 2000) = true := decide_eq_true c3
          clear c3
          by_cases c4 : 0 ≤ x4_1
          · rw [if_pos c4] at H
            have c4b0 : decide (0 ≤ x4_1) = true := decide_eq_true c4
            clear c4
            have H' := Aside0.mk H
            clear H
            have p104 : 0 ≤ (x4_1 : Int) := of_decide_eq_true (by first | (with_reducible assumption) | assumption)
            have q104 : x4_1 < (l0.length : Int) := of_decide_eq_true (by first | (with_reducible assumption) | assumption)
            obtain ⟨ad104, e104, hx104_0, hx104_1⟩ := at_T28 HR0.out x4_1 p104 q104
            cases e104
            replace p104 := eq_true p104
            replace q104 := eq_true q104
            have p105 : 0 ≤ (x4_1 : Int) := of_decide_eq_true (by first | (with_reducible assumption) | assumption)
            have q105 : x4_1 < (l0.length : Int) := of_decide_eq_true (by first | (with_reducible assumption) | assumption)
            obtain ⟨ad105, e105, hx105_0, hx105_1⟩ := at_T28 HR0.out x4_1 p105 q105
            obtain rfl : ad104 = ad105 := (by injection e105)
            replace p105 := eq_true p105
            replace q105 := eq_true q105
            go_wp2
            repeat (go_quiet (fail); try go_wp2)
            go_roundg k1
            case measure => have := HK1.out; omega
            case rel => exact ⟨(wrap64 ((wrap64 ((wrap64 (x3_1 + (((rd_T28 l0 x4_1).f0).size : Int))) + (((rd_T28 l0 x4_1).f1).size : Int))) + 1)), (wrap64 (x4_1 + 1)), (by first | rfl | (simp; done) | (simp [*]; done)), (by first | rfl | (simp; done) | (simp [*]; done)), H', ⟨by have := HK1.out; omega⟩, by repeat (first | exact Drawn0.refl _ | apply Drawn0.step)⟩
          · rw [if_neg c4] at H
            exact absurd H (by simp)
        · rw [if_neg c3] at H
          have c3b0 : decide (x3_1 ≤ 2000) = false := decide_eq_false c3
          clear c3
          obtain rfl := Option.some.inj H
          go_wp2
          repeat (go_quiet (fail); try go_wp2)
          go_ret
          exact ⟨by first | rfl | (simp; done) | (simp [*]; done), by repeat (first | exact Drawn0.refl _ | apply Drawn0.step)⟩
      · rw [if_neg c2] at H
        have c2b0 : decide (x4_1 < (l0.length : Int)) = false := decide_eq_false c2
        clear c2
        obtain rfl := Option.some.inj H
        go_wp2
        repeat (go_quiet (fail); try go_wp2)
        go_ret
        exact ⟨by first | rfl | (simp; done) | (simp [*]; done), by repeat (first | exact Drawn0.refl _ | apply Drawn0.step)⟩
end Go.Proofs.YtmmbpbgcobmifaaGreatDoor.Pr
end
section
namespace Go.Proofs.YtmmbpbgcobmifaaGreatDoor.Pr
end Go.Proofs.YtmmbpbgcobmifaaGreatDoor.Pr
namespace Go.Proofs.YtmmbpbgcobmifaaGreatDoorH
open Go.RowKit Go.Proofs.YtmmbpbgcobmifaaGreatDoorW.PrintWords Go.Proofs.YtmmbpbgcobmifaaGreatDoorW.PrintLast Go.Proofs.YtmmbpbgcobmifaaGreatDoorW.PrintMore Go.Proofs.YtmmbpbgcobmifaaGreatDoor.Pr
def bigF : Nat := 600000000000000
theorem ref05_Great_l0 (l : List Fld) (hl : Small1 l) (hn : l.length ≤ 140737488351232) (d : Nat) : ∀ (i n k : Nat), i ≤ l.length → l.length - i = d → d < k → n ≤ bigF →
    catchpitref05_Great.l0 k l (n : Int) (i : Int) = some (decide (2000 < n + sumF (l.drop i))) := by
  induction d with
  | zero =>
    intro i n k h1 h2 h3 h4
    obtain ⟨k, rfl⟩ : ∃ m, k = m + 1 := ⟨k - 1, by omega⟩
    rw [catchpitref05_Great.l0, if_neg (by omega), List.drop_eq_nil_of_le (by omega)]
    congr 1
    rw [decide_eq_decide]
    show _ ↔ 2000 < n + 0
    omega
  | succ d ih =>
    intro i n k h1 h2 h3 h4
    obtain ⟨k, rfl⟩ : ∃ m, k = m + 1 := ⟨k - 1, by omega⟩
    have hi : i < l.length := by omega
    rw [catchpitref05_Great.l0, if_pos (by omega), drop_cons l z28 i hi, sumF_cons, rd_nat]
    have hx := hl _ (mem_getD l z28 i hi)
    generalize l.getD i z28 = x at *
    by_cases h : n ≤ 2000
    · rw [if_pos (by omega), if_pos (by omega)]
      have a1 : i + 1 ≤ l.length := hi
      have a2 : l.length - (i + 1) = d := by omega
      have a3 : d < k := by omega
      have a4 : n + x.f0.size + x.f1.size + 1 ≤ bigF := by unfold bigF at *; omega
      have b1 : n + x.f0.size < 4611686018427387904 := by omega
      have b2 : n + x.f0.size + x.f1.size < 4611686018427387904 := by omega
      have b4 : i < 4611686018427387904 := by omega
      have e1 := wrapN n x.f0.size b1
      have e2 := wrapN (n + x.f0.size) x.f1.size b2
      have e3 := wrapS (n + x.f0.size + x.f1.size) b2
      have e4 := wrapS i b4
      have hh := ih (i + 1) (n + x.f0.size + x.f1.size + 1) k a1 a2 a3 a4
      rw [e1, e2, e3, e4, hh]
      clear e1 e2 e3 e4 hh ih
      congr 1
      rw [decide_eq_decide]
      omega
    · rw [if_neg (by omega)]
      congr 1
      rw [decide_eq_decide]
      omega
theorem ref05_Great (l : List Fld) (hl : Small1 l) (hn : l.length ≤ 140737488351232) : Ev (fun k => catchpitref05_Great.f k l) (decide (2000 < sumF l)) := by
  refine ⟨l.length + 1, fun k hk => ?_⟩
  have := ref05_Great_l0 l hl hn l.length 0 0 k (Nat.zero_le _) rfl (by omega) (Nat.zero_le _)
  rw [Nat.zero_add, List.drop_zero] at this
  exact this
end Go.Proofs.YtmmbpbgcobmifaaGreatDoorH
end
section
namespace Go.Proofs.YtmmbpbgcobmifaaGreatDoor.Pr
open Go.RowKit Go.Proofs.YtmmbpbgcobmifaaGreatDoorH Go.Proofs.YtmmbpbgcobmifaaGreatDoorW.PrintWords Go.Proofs.YtmmbpbgcobmifaaGreatDoorW.PrintLast Go.Proofs.YtmmbpbgcobmifaaGreatDoorW.PrintMore
attribute [local go_sem] max2_int min2_int max_two min_two max_three min_three max_four min_four   -- for this text's walks alone
set_option linter.unusedVariables false
set_option linter.unusedSimpArgs false
def octet_Alike.f (a0 : ByteArray) (a1 : ByteArray) : Option (Bool) := (octet_Small.f a0).bind fun t150 => ((octet_Small.f a1).bind fun t151 => (some (t150.toList == t151.toList)))
def field_Is.f (a0_0 : ByteArray) (a0_1 : ByteArray) (a1 : ByteArray) : Option (Bool) := (octet_Alike.f a0_0 a1).bind fun t153 => (some t153)
end Go.Proofs.YtmmbpbgcobmifaaGreatDoor.Pr
end
section
namespace Go.Proofs.YtmmbpbgcobmifaaGreatDoor.Pr
end Go.Proofs.YtmmbpbgcobmifaaGreatDoor.Pr
namespace Go.Proofs.YtmmbpbgcobmifaaGreatDoorH
open Go.RowKit Go.Proofs.YtmmbpbgcobmifaaGreatDoorW.PrintWords Go.Proofs.YtmmbpbgcobmifaaGreatDoorW.PrintLast Go.Proofs.YtmmbpbgcobmifaaGreatDoorW.PrintMore Go.Proofs.YtmmbpbgcobmifaaGreatDoor.Pr
theorem builder_below {T e : TypeId} {B b : Nat} {p : Value} {bs : List Value} {w w1 : World} (h : Lib.BuilderAt T e B b p bs w) (hb : Below w.heap.size w w1) : Lib.BuilderAt T e B b p bs w1 := by
  have hlt := h.lt
  obtain ⟨hB, v, hbk, hown, hne⟩ := h
  refine ⟨hB, v, (hb.block b hlt).trans hbk, ⟨hown.1, ?_⟩, hne⟩
  rcases hown.2 with hn | ⟨g, cap, cur, rfl, hg, hgg, rest⟩
  · exact .inl hn
  · exact .inr ⟨g, cap, cur, rfl, hg, (hb.block g (Array.getElem?_eq_some_iff.1 hgg).1).trans hgg, rest⟩
theorem isBuilder_below {T e : TypeId} {B b : Nat} {bs : List Value} {w w1 : World} (h : Lib.IsBuilder T e B b bs w) (hb : Below w.heap.size w w1) : Lib.IsBuilder T e B b bs w1 :=
  h.elim (fun h => .inl (builder_below h hb)) (fun h => .inr (builder_below h hb))
def linesL : List Fld → List UInt8
  | [] => []
  | x :: l => (putS x.f0 x.f1).data.toList ++ ([13, 10] ++ linesL l)
theorem linesL_append : ∀ a b : List Fld, linesL (a ++ b) = linesL a ++ linesL b
  | [], b => rfl
  | x :: a, b => by
    rw [List.cons_append, linesL, linesL_append a b, linesL]
    simp
theorem linesL_length : ∀ l : List Fld, (linesL l).length ≤ 4 * sumF l
  | [] => Nat.le_refl _
  | x :: l => by
    have h1 := linesL_length l
    have h2 := putS_size x.f0 x.f1
    rw [linesL, sumF_cons, List.length_append, List.length_append, ← size_eq_length]
    simp only [List.length_cons, List.length_nil]
    omega
def allRight (l : List Fld) : Bool := l.all fun x => rightB x.f0 x.f1
theorem allRight_step (l : List Fld) (k : Nat) (h : k < l.length) : allRight (l.take (k + 1)) = (allRight (l.take k) && rightB (l.getD k z28).f0 (l.getD k z28).f1) := by
  rw [take_one l z28 k h]
  unfold allRight
  rw [List.all_append]
  simp
theorem allRight_not (l : List Fld) (x : Fld) (h : x ∈ l) (hr : rightB x.f0 x.f1 = false) : allRight l = false := by
  unfold allRight
  rw [List.all_eq_false]
  exact ⟨x, h, by simp [hr]⟩
theorem sumF_take (l : List Fld) (k : Nat) : sumF (l.take k) ≤ sumF l := by
  have : sumF l = sumF (l.take k) + sumF (l.drop k) := by
    unfold sumF
    rw [← List.sum_append, ← List.map_append, List.take_append_drop]
  omega
def sectL (l : List Fld) : ByteArray := ⟨(linesL l ++ [13, 10]).toArray⟩
def putR (l : List Fld) : ByteArray × Int := if allRight l then (sectL l, 0) else (⟨#[]⟩, 1)
set_option maxHeartbeats 1600000 in
set_option maxRecDepth 100000 in
theorem put_calls (A0 : Option Addr) (c0 : Nat) (l : List Fld) (w : World) (hr : Kd.C k28 w A0 l.length l) (_hc : l.length ≤ c0) (hl : Small1 l) (hs : sumF l ≤ 1000000) (hG : TabOk w) :
    Calls Tryz.prog 151 #[.slice A0 l.length c0] w fun e w' => ∃ (r1 : ByteArray) (r2 : Int), e = .returned (.tuple #[.string r1, .int .i64 r2]) ∧ putR l = (r1, r2) ∧ Below w.heap.size w w' := by
  have HR := Aside0.mk hr
  have HG := Aside0.mk hG
  have HL := Aside0.mk hl
  have HLEN := Aside0.mk (sumF_length l)
  have HS := Aside0.mk hs
  have hn : l.length ≤ 1000000 := Nat.le_trans (sumF_length l) hs
  clear hr hG hl hs
  go_enter Tryz.func151, Tryz.ntmps151
  go_wp2
  go_loopw [11] (fun v11 wr => ∃ k : Nat, k ≤ l.length ∧ v11 = .int .i64 k ∧ Aside0 (allRight (l.take k) = true) ∧ Aside0 (Lib.IsBuilder 199 5 w.heap.size w.heap.size (Lib.byteCells (linesL (l.take k))) wr) ∧ Aside0 (Below w.heap.size w wr)) (fun v11 _ => l.length - (intOf v11).toNat)
  case atStart => exact ⟨0, Nat.zero_le _, rfl, ⟨rfl⟩, ⟨Lib.fresh_isBuilder _ _ w⟩, ⟨below_alloc (Below.refl _ _) _⟩⟩
  case round =>
    obtain ⟨k, hk, rfl, hrt, ho, hb⟩ := hrel
    by_cases hlt : k < l.length
    · obtain ⟨ad, e, hx0, hx1⟩ := at_T28 HR.out (k : Int) (by omega) (by omega)
      cases e
      have hx0 := (hb.out.cell (World.block_lt_of_cell? w _ hx0)).trans hx0
      have hx1 := (hb.out.cell (World.block_lt_of_cell? w _ hx1)).trans hx1
      have HX := Aside0.mk (mem_getD l z28 k hlt)
      have HT := Aside0.mk (take_one l z28 k hlt)
      have HST := Aside0.mk (allRight_step l k hlt)
      unfold rd_T28 at hx0 hx1
      rw [Int.toNat_natCast] at hx0 hx1
      generalize l.getD k z28 = x at *
      have HXS := Aside0.mk (HL.out x HX.out)
      have HB1 := Aside0.mk (show Lib.IsBuilder 199 5 w.heap.size w.heap.size (Lib.byteCells (linesL (l.take k))) (wr.alloc (.cells #[.string x.f0, .string x.f1] 28)) from isBuilder_below ho.out (below_alloc (Below.refl _ _) _))
      have HPS := Aside0.mk (Nat.le_trans (putS_size x.f0 x.f1) (show x.f0.size + 2 + x.f1.size ≤ 1000002 by have := sumF_at l x HX.out; have := HS.out; omega))
      have HLL := Aside0.mk (Nat.le_trans (linesL_length (l.take k)) (show 4 * sumF (l.take k) ≤ 4000000 by have := sumF_take l k; have := HS.out; omega))
      have HLS := Aside0.mk (show Lib.byteCells (linesL (l.take (k + 1))) = Lib.byteCells (linesL (l.take k)) ++ Lib.strCells (putS x.f0 x.f1 ++ (⟨#[13, 10]⟩ : ByteArray)) by
        rw [HT.out, linesL_append, Lib.strCells_eq, data_append]
        simp [Lib.byteCells, linesL])
      cases hrb : rightB x.f0 x.f1 with
      | false =>
        have HP := Aside0.mk (show field_Put.f x.f0 x.f1 = some (⟨#[]⟩, 1) by rw [field_Put_eq x.f0 x.f1 HXS.out.1 HXS.out.2, hrb]; rfl)
        have HAR := Aside0.mk (allRight_not l x HX.out hrb)
        clear hrb
        go_wp2_with fail
        refine (field_Put.calls x.f0 x.f1 _ _ _ (HG.out.below (hb.out.alloc hb.out.size _)) HP.out).mono ?_
        rintro e w1 ⟨rfl, b1⟩
        have B1 := Aside0.mk ((hb.out.alloc hb.out.size _).trans (b1.mono (Nat.le_trans hb.out.size (by simp))))
        clear b1
        go_wp2
        go_ret2
        exact ⟨_, _, rfl, by unfold putR; rw [HAR.out]; rfl, B1.out⟩
      | true =>
        have HP := Aside0.mk (show field_Put.f x.f0 x.f1 = some (putS x.f0 x.f1, 0) by rw [field_Put_eq x.f0 x.f1 HXS.out.1 HXS.out.2, hrb]; rfl)
        have HRB := Aside0.mk hrb
        clear hrb
        generalize putS x.f0 x.f1 = s at *
        go_wp2_with fail
        refine (field_Put.calls x.f0 x.f1 _ _ _ (HG.out.below (hb.out.alloc hb.out.size _)) HP.out).mono ?_
        rintro e w1 ⟨rfl, b1⟩
        have B1 := Aside0.mk ((hb.out.alloc hb.out.size _).trans (b1.mono (Nat.le_trans hb.out.size (by simp))))
        have O1 := Aside0.mk (isBuilder_below HB1.out b1)
        clear b1
        have c0 : s.size + 2 ≤ 9223372036854775807 := by have := HPS.out; omega
        have c1 := eq_true c0
        have c2 : decide (s.size + 2 ≤ 9223372036854775807) = true := decide_eq_true c0
        have c3 : (9223372036854775807 < s.size + 2) = False := eq_false (Nat.not_lt.2 c0)
        go_wp2_with fail
        refine (writeString_calls w.heap.size w.heap.size (Lib.byteCells (linesL (l.take k))) (s ++ (⟨#[13, 10]⟩ : ByteArray)) w1 O1.out (by have := HLL.out; have := HPS.out; rw [Lib.byteCells_length, ByteArray.size_append, show (⟨#[13, 10]⟩ : ByteArray).size = 2 from rfl]; omega) B1.out.size).mono ?_
        rintro e w2 ⟨rfl, h2, b2⟩
        have O2 := Aside0.mk (show Lib.IsBuilder 199 5 w.heap.size w.heap.size (Lib.byteCells (linesL (l.take (k + 1)))) w2 by rw [HLS.out]; exact .inr h2)
        have B2 := Aside0.mk (B1.out.trans b2)
        clear h2 b2
        go_wp2
        go_roundw
        case rel => exact ⟨k + 1, by omega, by go_num, ⟨by rw [HST.out, hrt.out, HRB.out]; rfl⟩, O2, B2⟩
        case measure => simp [intOf]; omega
    · have hke : k = l.length := by omega
      subst hke
      rw [List.take_length] at ho hrt
      have HLL := Aside0.mk (Nat.le_trans (linesL_length l) (show 4 * sumF l ≤ 4000000 by have := HS.out; omega))
      go_wp2_with fail
      refine (Tryz.Builder_String_any w.heap.size w.heap.size (linesL l) wr ho.out hb.out.size).mono ?_
      rintro e w1 ⟨rfl, b1⟩
      have B1 := Aside0.mk (hb.out.trans b1)
      have HE := Aside0.mk (show (⟨(linesL l).toArray⟩ : ByteArray) ++ (⟨#[13, 10]⟩ : ByteArray) = sectL l from bytes_ext (by rw [data_append]; rfl))
      have c0 : (⟨(linesL l).toArray⟩ : ByteArray).size + 2 ≤ 9223372036854775807 := by have := HLL.out; rw [size_eq_length]; show (linesL l).length + 2 ≤ _; omega
      clear b1
      generalize (⟨(linesL l).toArray⟩ : ByteArray) = s at *
      have c1 := eq_true c0
      have c2 : decide (s.size + 2 ≤ 9223372036854775807) = true := decide_eq_true c0
      have c3 : (9223372036854775807 < s.size + 2) = False := eq_false (Nat.not_lt.2 c0)
      go_wp2
      go_ret2
      exact ⟨_, _, rfl, by unfold putR; rw [hrt.out, if_pos rfl, ← HE.out], B1.out⟩
def block_Put.f (l0 : List Fld) : Option (ByteArray × Int) := if (l0.all fun x => decide (x.f0.size ≤ 140737488351232 ∧ x.f1.size ≤ 140737488351232)) && decide (sumF l0 ≤ 1000000) then some (putR l0) else none
theorem block_Put.calls (A0 : Option Addr) (c0 : Nat) (l0 : List Fld) (r1 : ByteArray) (r2 : Int) (w : World) (hr0 : Kd.C k28 w A0 l0.length l0) (hc0 : l0.length ≤ c0) (hG : TabOk w) (h : block_Put.f l0 = some (r1, r2)) :
    Calls Tryz.prog 151 #[.slice A0 l0.length c0] w fun e w' => e = .returned (.tuple #[.string r1, .int .i64 r2]) ∧ Below w.heap.size w w' := by
  unfold block_Put.f at h
  split at h
  · rename_i hh
    rw [Bool.and_eq_true, List.all_eq_true] at hh
    injection h with h
    refine (put_calls A0 c0 l0 w hr0 hc0 (fun y hy => of_decide_eq_true (hh.1 y hy)) (of_decide_eq_true hh.2) hG).mono ?_
    rintro e w' ⟨q1, q2, he, hq, hb⟩
    rw [h] at hq
    injection hq with e1 e2
    subst e1 e2
    exact ⟨he, hb⟩
  · cases h
end Go.Proofs.YtmmbpbgcobmifaaGreatDoorH
end
section
namespace Go.Proofs.YtmmbpbgcobmifaaGreatDoor.Pr
end Go.Proofs.YtmmbpbgcobmifaaGreatDoor.Pr
namespace Go.Proofs.YtmmbpbgcobmifaaGreatDoorH
open Go.RowKit Go.Proofs.YtmmbpbgcobmifaaGreatDoorW.PrintWords Go.Proofs.YtmmbpbgcobmifaaGreatDoorW.PrintLast Go.Proofs.YtmmbpbgcobmifaaGreatDoorW.PrintMore Go.Proofs.YtmmbpbgcobmifaaGreatDoor.Pr
theorem sectL_data (l : List Fld) : (sectL l).data.toList = linesL l ++ [13, 10] := rfl
theorem sectL_size (l : List Fld) : (sectL l).size = (linesL l).length + 2 := by rw [size_eq_length, sectL_data, List.length_append]; rfl
theorem block_Put_eq (l : List Fld) (hl : Small1 l) (hs : sumF l ≤ 1000000) : block_Put.f l = some (putR l) := by
  unfold block_Put.f
  rw [decide_eq_true hs, Bool.and_true, if_pos]
  rw [List.all_eq_true]
  exact fun x hx => decide_eq_true (hl x hx)
theorem sectL_le (l : List Fld) : (sectL l).size ≤ 4 * sumF l + 2 := by
  have := linesL_length l
  rw [sectL_size]
  omega
end Go.Proofs.YtmmbpbgcobmifaaGreatDoorH
end
section
namespace Go.Proofs.YtmmbpbgcobmifaaGreatDoorH
open Go
variable {H : Type} {enc : TypeId × Value → H}
theorem returns_and_shaped {a : Assume} {C : Checked} {os : Os} {f : FuncId} {fn : Func} {s : ChangeSpec} {conds : List PathCond} {apart fresh handsOn again : Bool} {X : World → Array Value → Prop}
    (hX : ∀ (w w' : World) (args : Array Value), w.heap = w'.heap → X w args → X w' args)
    (own : ownKnob C.prog.godebug = none) (started : os.Started) (noInit : C.prog.inits.idxOf? f = none) (hfn : C.prog.funcs[f]? = some fn)
    (witness : ∃ (w : World) (tape : Tape) (i : Input), w.os = os ∧ (w.forCall tape i).Shaped C.prog ∧ i.vars = [] ∧ Input.okWide C.prog (w.forCall tape i) .any w.heap.size f i ∧
      ((s.pre enc C.prog fn conds apart (w.forCall tape i).memory i.args ∧ X (w.forCall tape i).memory i.args) ∧ sizedMet enc C.prog fn (OpenSpec.ofChange s) apart (w.forCall tape i).memory i.args) ∧ a.holds C.prog (lone (Frame.enter C.prog f i.args .normal) [] (w.forCall tape i)))
    (contract : ∀ (W : World) (base : Nat) (args : Array Value) (ds gs : List (DataW H)) (before : List MemPlace),
      (∀ (j : Nat) t v, fn.params[j]? = some t → args[j]? = some v → Value.okWide C.prog W .any base t v) →
      DataW.Whole enc C.prog fn.params.toList s.vars apart W args.toList ds gs before →
      conds.all (PathCond.test C.prog ⟨fn.params.toList, ds, s.plain.varTypes C.prog, gs⟩) = true →
      (DataW.weightsEach C.prog (fn.params.toList ++ s.plain.varTypes C.prog) (ds ++ gs)).all (· ≤ reachBytes) = true → X W args →
      W.ShapedOpen C.prog →
      a.holds C.prog (lone (Frame.enter C.prog f args .normal) [] W) →
      Calls C.prog f args W fun e W' => ∃ v, e = .returned v ∧ s.post enc C.prog fn apart fresh handsOn again W args v W') :
    ReturnsInHanded a C os f .any (fun w args => (s.pre enc C.prog fn conds apart w args ∧ X w args) ∧ sizedMet enc C.prog fn (OpenSpec.ofChange s) apart w args) (s.post enc C.prog fn apart fresh handsOn again) := by
  refine returnsInHanded_of_calls own started noInit witness ?_
  intro w tape i _ hsh _ hok hpre hholds
  obtain ⟨_, _, _, fn', hfn', _, _, _, _, hval⟩ := hok
  have e : fn' = fn := Option.some.inj (hfn'.symm.trans hfn)
  subst e
  obtain ⟨⟨⟨ds, gs, before, hw, hc⟩, hx⟩, hz⟩ := hpre
  have hw' := DataW.Whole.of_heap (w' := w.forCall tape i) (by rfl) hw
  refine (contract (w.forCall tape i) w.heap.size i.args ds gs before hval hw' hc (hz.weights hw) (hX _ _ _ (by rfl) hx) hsh hholds).mono fun e W' ⟨v, he, hp⟩ => ?_
  subst he
  exact ChangeSpec.post_blind hp
end Go.Proofs.YtmmbpbgcobmifaaGreatDoorH
end
section
namespace Go.Proofs.YtmmbpbgcobmifaaGreatDoor.Pr
end Go.Proofs.YtmmbpbgcobmifaaGreatDoor.Pr
namespace Go.Proofs.YtmmbpbgcobmifaaGreatDoorH
open Go.RowKit Go.Proofs.YtmmbpbgcobmifaaGreatDoorW.PrintWords Go.Proofs.YtmmbpbgcobmifaaGreatDoorW.PrintLast Go.Proofs.YtmmbpbgcobmifaaGreatDoorW.PrintMore Go.Proofs.YtmmbpbgcobmifaaGreatDoor.Pr
theorem row_of_bytes (W : World) (s : ByteArray) (hs : s.size ≤ 9223372036854775807) : RowB (Lib.bytesWorld W 5 s) (.slice (some ⟨W.heap.size, 0, none⟩) s.size (grownCap W s.size 0 5)) (bytesOf s) := by
  have h := bytes_reads W 5 s hs
  refine ⟨some ⟨W.heap.size, 0, none⟩, grownCap W s.size 0 5, by rw [bytesOf_length], by rw [bytesOf_length]; exact grownCap_ge W s.size 0 _, ?_⟩
  rw [← bytesOf_length s] at h
  exact Kd.C_of_reads (d := (0 : Int)) h
def lastS (l : List Fld) : ByteArray := ⟨#[48, 13, 10]⟩ ++ sectL l
def lastL (l : List Fld) : List Int := bytesOf (lastS l)
theorem sectL_small (l : List Fld) (hs : sumF l ≤ 1000000) : (lastS l).size ≤ 4000100 := by
  have h := sectL_le l
  unfold lastS
  rw [ByteArray.size_append]
  have : (⟨#[48, 13, 10]⟩ : ByteArray).size = 3 := rfl
  omega
set_option maxHeartbeats 1600000 in
set_option maxRecDepth 100000 in
theorem last_calls (A : Option Addr) (c : Nat) (l : List Fld) (w : World) (hr : Kd.C k28 w A l.length l) (hc : l.length ≤ c) (hG : TabOk w) (hl : Small1 l) (hs : sumF l ≤ 1000000) :
    Calls Tryz.prog 150 #[.slice A l.length c] w fun e w' => ∃ v, e = .returned (.tuple #[v, .int .i64 (if allRight l = true then 0 else 1)]) ∧ RowB w' v (if allRight l = true then lastL l else []) ∧ Below w.heap.size w w' := by
  have hp := block_Put.calls A c l (putR l).1 (putR l).2 w hr hc hG (block_Put_eq l hl hs)
  have hz := sectL_small l hs
  unfold putR at hp
  cases hb : allRight l with
  | true =>
    rw [hb] at hp
    have hp : Calls Tryz.prog 151 #[.slice A l.length c] w fun e w' => e = .returned (.tuple #[.string (sectL l), .int .i64 0]) ∧ Below w.heap.size w w' := hp
    have kb := fun W => print_bytes (P := Tryz.prog) 9 25 5 Tryz.underlying9 Tryz.underlying25 Tryz.underlying5 (lastS l) W
    have HRB := Aside0.mk (fun W => row_of_bytes W (lastS l) (by omega))
    have hz2 : (⟨#[48, 13, 10]⟩ : ByteArray).size + (sectL l).size ≤ 9223372036854775807 := by
      unfold lastS at hz
      rw [ByteArray.size_append] at hz
      omega
    have HL := Aside0.mk (show lastL l = bytesOf (lastS l) from rfl)
    have hlast : (⟨#[48, 13, 10]⟩ : ByteArray) ++ sectL l = lastS l := rfl
    rw [if_pos rfl, if_pos rfl, HL.out]
    clear hr hG hz
    generalize lastS l = t at *
    generalize sectL l = s at *
    go_enter Tryz.func150, Tryz.ntmps150
    go_wp2_with fail
    refine hp.mono ?_
    rintro e w1 ⟨rfl, b1⟩
    have B1 := Aside0.mk b1
    clear hp b1
    go_wp2
    go_ret2
    exact ⟨_, rfl, HRB.out w1, bytes_below B1.out B1.out.size 5 t⟩
  | false =>
    rw [hb] at hp
    have hp : Calls Tryz.prog 151 #[.slice A l.length c] w fun e w' => e = .returned (.tuple #[.string ⟨#[]⟩, .int .i64 1]) ∧ Below w.heap.size w w' := hp
    rw [if_neg (by decide), if_neg (by decide)]
    clear hr hG hz
    go_enter Tryz.func150, Tryz.ntmps150
    go_wp2_with fail
    refine hp.mono ?_
    rintro e w1 ⟨rfl, b1⟩
    clear hp
    go_wp2
    go_ret2
    exact ⟨_, rfl, RowB.nil _, b1⟩
end Go.Proofs.YtmmbpbgcobmifaaGreatDoorH
end
section
namespace Go.Proofs.YtmmbpbgcobmifaaGreatDoorH
set_option linter.unusedVariables false
set_option linter.unusedSimpArgs false
open Go Go.RowKit Go.Proofs.YtmmbpbgcobmifaaGreatDoorW.PrintWords Go.Proofs.YtmmbpbgcobmifaaGreatDoorW.PrintLast Go.Proofs.YtmmbpbgcobmifaaGreatDoorW.PrintMore
theorem list_plusD {P : Program} {ops : Array Oper} {rest : List Oper} {o : Oper} {a : Act} {Q : Exit → Act → World → Prop} {W : World} (base : Nat) (hgd : o.guard = none) (s x : Operand) (t : TypeId) (z : Value)
    (ho : o.op = .call { callee := .builtin .append, args := #[s, x], argTypes := #[t, t] })
    (ht : P.underlying t = some (.slice 5)) (hinfo : (P.info? 5).map (fun i => (i.zero, i.size, i.bytes)) = some (some z, 1, 1)) (hz : z.cells.size = 1)
    (v : Value) (pre l : List Int) (A : Option Addr) (c : Nat) (hs : a.eval s = v) (hx : a.eval x = .slice A l.length c) (HO : RowD W base v pre) (HC : Kd.C (Kd.int .u8) W A l.length l) (hbase : base ≤ W.heap.size)
    (hl : pre.length + l.length ≤ 140737488355328)
    (h : ∀ v1 w1, RowD w1 base v1 (pre ++ l) → Below base W w1 → W.grownBy w1 v.ownBlock → (∀ k, v1.ownBlock = some k → v.ownBlock = some k ∨ W.heap.size ≤ k) → wpList P ops Q rest (a.put o.dst v1) w1) : wpList P ops Q (o :: rest) a W := by
  unfold wpList
  rw [if_pos (by simp [Region.wanted, hgd])]
  left
  obtain ⟨i0, hi, hzz⟩ := Option.map_eq_some_iff.1 hinfo
  simp only [Prod.mk.injEq] at hzz
  obtain ⟨hz0, hz1, hz2⟩ := hzz
  have hrow : ∀ k, v.ownBlock = some k → base ≤ k := own_base HO
  unfold Oper.wp
  simp only [execOp, ho, resolve, invoke, builtin, Sem.run_bind, Sem.run_pure, Result.andThen_ok, List.map_toArray, List.map_cons, List.map_nil, hs, hx]
  cases A with
  | some ad =>
    obtain ⟨v1, w1, hr, hown, hg, _, hat⟩ := run_append_own_at (P := P) W base t o.type 5 i0 z 1 1 ht hi hz0 hz1 hz2 hz (by decide) v pre.length _ HO ad l.length c (l.map (Value.int .u8)) (by rw [List.length_map]; omega)
      (fun j u hu => by
        rw [List.getElem?_map] at hu
        obtain ⟨y, hy, rfl⟩ := Option.map_eq_some_iff.1 hu
        obtain ⟨ad', e, hc⟩ := HC.2.2 (by have := (List.getElem?_eq_some_iff.1 hy).1; omega)
        cases e
        obtain ⟨cs, _, hK, hcs⟩ := hc j y hy
        have hK : cs = [.int .u8 y] := hK
        have := hcs 0 (.int .u8 y) (by rw [hK]; rfl)
        rwa [show j * (Kd.int .u8).sz + 0 = j by show j * 1 + 0 = j; omega] at this)
      (fun u hu => by
        obtain ⟨p, _, rfl⟩ := List.mem_map.1 hu
        rfl) (by simp only [maxLen]; omega) (by omega) hbase
    rw [hr]
    refine h v1 w1 ?_ ((Below.refl _ _).grown hg hbase hrow) hg (fun k hk => ?_)
    · unfold RowD
      rw [List.length_append, List.map_append]
      exact hown
    · rcases hat with e | e
      · exact .inl (e ▸ hk)
      · rw [hk] at e
        cases e
        exact .inr (Nat.le_refl _)
  | none =>
    have hn : l = [] := by
      rcases l with _ | ⟨y, l⟩
      · rfl
      · obtain ⟨_, e, _⟩ := HC.2.2 (Nat.succ_pos _)
        cases e
    subst hn
    have hv : (Builtin.append_ #[t, t] o.type #[v, .slice none 0 c]).run P W = .ok v W := by
      rcases HO.2 with ⟨rfl, hp⟩ | ⟨g, cap, cur, rfl, _, hg, hnc, _⟩
      · simp [Builtin.append_, run_underlying ht, sizeOf, typeInfo, hi, Builtin.lenOf, Builtin.firstCells]
      · simp [Builtin.append_, run_underlying ht, sizeOf, typeInfo, hi, Builtin.lenOf, Builtin.firstCells, hnc, storeCells]
    rw [show ([] : List Int).length = 0 from rfl, hv]
    exact h v W (by rw [List.append_nil]; exact HO) (Below.refl _ _) ⟨rfl, rfl, rfl, Nat.le_refl _, fun _ _ _ => rfl⟩ (fun k hk => .inl hk)
def KeepR (w w' : World) : Prop := ∀ (k : Nat) (cs : Array Value), w.heap[k]? = some (.cells cs 5 (0, 0)) → w'.heap[k]? = some (.cells cs 5 (0, 0))
theorem KeepR.refl (w : World) : KeepR w w := fun _ _ h => h
theorem KeepR.trans {w w1 w2 : World} (h : KeepR w w1) (g : KeepR w1 w2) : KeepR w w2 := fun k cs hk => g k cs (h k cs hk)
theorem KeepR.of_below {w w1 : World} (h : Below w.heap.size w w1) : KeepR w w1 := fun _ _ hk => blk_below hk h
theorem KeepR.of_only {b : Nat} {w w1 : World} (h : Only b w w1) (hb : ∀ cs : Array Value, w.heap[b]? ≠ some (Obj.cells cs 5 (0, 0))) : KeepR w w1 := fun _ cs hk => h.blk hk (fun e => hb cs (e ▸ hk))
theorem RowD.keep {w w1 : World} {base : Nat} {v : Value} {l : List Int} (h : RowD w base v l) (hk : KeepR w w1) : RowD w1 base v l := h.move fun k e => by
  obtain ⟨_, cs, hc⟩ := h.at k e
  rw [hc]
  exact hk k cs hc
theorem C_turn {w : World} {p : Addr} {u v : Value} {A : Option Addr} {n : Nat} {l : List Int} (hp : w.cell? p = some u) (hu : ∀ x, u ≠ .int .u8 x) (h : Kd.C (Kd.int .u8) w A n l) : Kd.C (Kd.int .u8) (w.setCell p v) A n l := by
  refine ⟨h.1, h.2.1, fun hn => ?_⟩
  obtain ⟨ad, e, hc⟩ := h.2.2 hn
  refine ⟨ad, e, fun i x hx => ?_⟩
  obtain ⟨cs, q, hK, hcs⟩ := hc i x hx
  have hK' : cs = [.int .u8 x] := hK
  refine ⟨cs, q, hK, fun j y hy => ?_⟩
  have hz := hcs j y hy
  rw [World.cell?_setCell_other]
  · exact hz
  · intro e2
    rw [← e2, hp] at hz
    cases hz
    subst hK'
    rcases j with _ | j
    · cases hy
      exact hu x rfl
    · simp at hy
end Go.Proofs.YtmmbpbgcobmifaaGreatDoorH
end
section
namespace Go.Proofs.YtmmbpbgcobmifaaGreatDoor.Pr
end Go.Proofs.YtmmbpbgcobmifaaGreatDoor.Pr
namespace Go.Proofs.YtmmbpbgcobmifaaGreatDoorH
set_option linter.unusedVariables false
set_option linter.unusedSimpArgs false
open Go Go.RowKit Go.Proofs.YtmmbpbgcobmifaaGreatDoorW.PrintWords Go.Proofs.YtmmbpbgcobmifaaGreatDoorW.PrintLast Go.Proofs.YtmmbpbgcobmifaaGreatDoorW.PrintMore Go.Proofs.YtmmbpbgcobmifaaGreatDoor.Pr
theorem EncAt.grow {W W1 : World} {B b k n sz : Nat} {en : Bool} {row : Option Nat} (h : EncAt W B b k n sz en) (hg : W.grownBy W1 row) (hr : ∀ j, row = some j → ∃ cs, W.heap[j]? = some (.cells cs 5 (0, 0))) : EncAt W1 B b k n sz en := by
  obtain ⟨bk, h1, h2, h3, h4, h5, h6⟩ := h
  refine ⟨bk, h1, h2, h3, h4, (hg.block b (blk_lt h5) (fun e => ?_)).trans h5, (hg.block bk (kind_cell h6).2.2 (fun e => ?_)).trans h6⟩
  · obtain ⟨cs, hc⟩ := hr b e.symm
    have := hc.symm.trans h5
    cases this
  · obtain ⟨cs, hc⟩ := hr bk e.symm
    have := hc.symm.trans h6
    unfold kindO at this
    split at this
    · cases this
    · split at this
      · cases this
      · cases this
set_option maxHeartbeats 1600000 in
set_option maxRecDepth 100000 in
theorem enc_put2R (B b n sz : Nat) (A : Option Addr) (c : Nat) (l : List Int) (w : World) (h : EncAt w B b 2 n sz false) (hr : Keeps B w fun W => Kd.C (Kd.int .u8) W A l.length l ∧ TabZ W) (hl2 : l.length ≤ 1073741824) (hc : l.length ≤ c) (hby : ByteL l) (hn : n + l.length ≤ 4611686018427387904) :
    Calls Tryz.prog 9 #[.pointer (some ⟨b, 0, none⟩), .slice A l.length c] w fun e w' => ∃ v, e = .returned (.tuple #[v, .int .i64 0]) ∧ RowB w' v (chunkL l) ∧ EncAt w' B b 2 (n + l.length) sz false ∧ Below B w w' ∧ KeepR w w' := by
  obtain ⟨bk, h1, h2, h3, h4, h5, h6⟩ := h
  have c1 : w.cell? ⟨b, 1, none⟩ = some (.bool false) := (blk_cell h5 1).trans rfl
  have c0 : w.cell? ⟨b, 0, none⟩ = some (.iface 65 (.pointer (some ⟨bk, 0, none⟩))) := (blk_cell h5 0).trans rfl
  have hp := chunked_put B bk n A c l w h2 (kind_cell h6).1 (kind_cell h6).2.1 hr hc hby hn hl2
  have hmt : ∀ (q : Nat) (W : World), (method (q + 1) 65 (.pointer (some ⟨bk, 0, none⟩)) "catchpit/enchunk.put").run Tryz.prog W = .ok (149, .pointer (some ⟨bk, 0, none⟩)) W := fun _ _ => by kernel_rfl
  have H5 := Aside0.mk h5
  have H6 := Aside0.mk h6
  clear h5 h6 hr
  clear hby
  generalize chunkL l = cl at *
  obtain ⟨m, hm⟩ : ∃ m, n + l.length = m := ⟨_, rfl⟩
  rw [hm] at hp hn
  rw [hm]
  clear hm
  go_enter Tryz.func9, Tryz.ntmps9
  go_wp2_with fail
  refine hp.mono ?_
  rintro e w2 ⟨v, rfl, hrow, hb2⟩
  have ho := only_set (kind_cell H6.out).2.2 _ hb2
  have hk := (hb2.block bk (kind_cell (kind_set H6.out m)).2.2).trans (kind_set H6.out m)
  clear hb2
  obtain ⟨A3, c3, rfl, hc3, hC3⟩ := hrow
  have HC3 := Aside0.mk hC3
  have HK := Aside0.mk hk
  have HO := Aside0.mk ho
  clear hp hC3 hk ho
  go_wp2
  go_ret2
  exact ⟨_, rfl, ⟨_, _, rfl, hc3, HC3.out⟩, ⟨bk, h1, h2, h3, by decide, HO.out.blk H5.out h3, HK.out⟩, HO.out.1.mono h2, KeepR.of_only HO.out (fun cs e => by
    have h6 : w.heap[bk]? = some (.cells #[.int .i64 n] 66 (0, 0)) := H6.out
    have := e.symm.trans h6
    cases this)⟩
set_option maxHeartbeats 1600000 in
set_option maxRecDepth 100000 in
theorem enc_new2 (w : World) :
    Calls Tryz.prog 8 #[.agg #[.int .i64 2, .int .u64 0]] w fun e w' => ∃ b, e = .returned (.tuple #[.pointer (some ⟨b, 0, none⟩), .int .i64 0]) ∧ EncAt w' w.heap.size b 2 0 0 false ∧ Below w.heap.size w w' := by
  have hb2 : ∀ (bk : Nat) (W : World), (Instr.build 64 #[(0, .iface 65 (.pointer (some ⟨bk, 0, none⟩)))]).run Tryz.prog W = .ok (.agg #[.iface 65 (.pointer (some ⟨bk, 0, none⟩)), .bool false]) W := fun _ _ => by kernel_rfl
  go_enter Tryz.func8, Tryz.ntmps8
  go_wp2
  go_ret2
  refine ⟨_, rfl, ⟨w.heap.size + 1, by omega, by omega, by omega, by decide, ?_, ?_⟩, below_alloc (below_alloc (below_alloc (Below.refl _ _) _) _) _⟩
  · have h := heap_alloc_new ((w.alloc (.cells #[.int .i64 2, .int .u64 0] 36)).alloc (.cells #[.int .i64 0] 66)) (.cells #[.iface 65 (.pointer (some ⟨w.heap.size + 1, 0, none⟩)), .bool false] 64)
    rw [World.size_alloc, World.size_alloc] at h
    exact h
  · have h := heap_alloc_new (w.alloc (.cells #[.int .i64 2, .int .u64 0] 36)) (.cells #[.int .i64 0] 66)
    rw [World.size_alloc] at h
    exact blk_alloc h _
set_option maxHeartbeats 1600000 in
set_option maxRecDepth 100000 in
theorem chunked_end (bk : Nat) (A : Option Addr) (c : Nat) (l : List Fld) (w : World) (hr : Kd.C k28 w A l.length l) (hc : l.length ≤ c) (hG : TabOk w) (hl : Small1 l) (hs : sumF l ≤ 1000000) (ha : allRight l = true) :
    Calls Tryz.prog 147 #[.pointer (some ⟨bk, 0, none⟩), .slice A l.length c] w fun e w' => ∃ v, e = .returned (.tuple #[v, .int .i64 0]) ∧ RowB w' v (lastL l) ∧ Below w.heap.size w w' := by
  have h := last_calls A c l w hr hc hG hl hs
  rw [if_pos ha, if_pos ha] at h
  clear hr hG hl
  generalize lastL l = L at *
  go_enter Tryz.func147, Tryz.ntmps147
  go_wp2_with fail
  refine h.mono ?_
  rintro e w2 ⟨v, rfl, hrow, hb⟩
  obtain ⟨A3, c3, rfl, hc3, hC3⟩ := hrow
  have HC3 := Aside0.mk hC3
  have HB := Aside0.mk hb
  clear h hC3 hb
  go_wp2
  go_ret2
  exact ⟨_, rfl, ⟨_, _, rfl, hc3, HC3.out⟩, HB.out⟩
set_option maxHeartbeats 1600000 in
set_option maxRecDepth 100000 in
theorem enc_end2 (B b n sz : Nat) (A : Option Addr) (c : Nat) (l : List Fld) (w : World) (h : EncAt w B b 2 n sz false) (hr : Kd.C k28 w A l.length l) (hc : l.length ≤ c) (hG : TabOk w) (hl : Small1 l) (hs : sumF l ≤ 1000000) (ha : allRight l = true) :
    Calls Tryz.prog 10 #[.pointer (some ⟨b, 0, none⟩), .slice A l.length c] w fun e w' => ∃ v, e = .returned (.tuple #[v, .int .i64 0]) ∧ RowB w' v (lastL l) ∧ Below B w w' ∧ KeepR w w' := by
  obtain ⟨bk, h1, h2, h3, h4, h5, h6⟩ := h
  have c1 : w.cell? ⟨b, 1, none⟩ = some (.bool false) := (blk_cell h5 1).trans rfl
  have c0 : w.cell? ⟨b, 0, none⟩ = some (.iface 65 (.pointer (some ⟨bk, 0, none⟩))) := (blk_cell h5 0).trans rfl
  have hp := chunked_end bk A c l w hr hc hG hl hs ha
  have hmt : ∀ (q : Nat) (W : World), (method (q + 1) 65 (.pointer (some ⟨bk, 0, none⟩)) "catchpit/enchunk.end").run Tryz.prog W = .ok (147, .pointer (some ⟨bk, 0, none⟩)) W := fun _ _ => by kernel_rfl
  have HF := Aside0.mk (fun w2 (hd : Below w.heap.size w w2) => (⟨(blk_cell (blk_below h5 hd) 1).trans rfl, blk_frozen (blk_below h5 hd) 1⟩ : w2.cell? ⟨b, 1, none⟩ = some (.bool false) ∧ w2.frozen? ⟨b, 1, none⟩ = false))
  have H5 := Aside0.mk h5
  clear h5 h6 hr hG hl
  generalize lastL l = L at *
  go_enter Tryz.func10, Tryz.ntmps10
  go_wp2_with fail
  refine hp.mono ?_
  rintro e w2 ⟨v, rfl, hrow, hb⟩
  obtain ⟨A3, c3, rfl, hc3, hC3⟩ := hrow
  have d1 := (HF.out w2 hb).1
  have e1 := (HF.out w2 hb).2
  have HC3 := Aside0.mk hC3
  have HB := Aside0.mk hb
  clear hp hC3 hb
  go_wp2
  go_ret2
  have hd1 := (HF.out w2 HB.out).1
  exact ⟨_, rfl, ⟨_, _, rfl, hc3, C_turn hd1 (fun _ e => by cases e) HC3.out⟩, (HB.out.mono (Nat.le_trans h1 (Nat.le_of_lt (blk_lt H5.out)))).setCell (p := ⟨b, 1, none⟩) h1 _, (KeepR.of_below HB.out).trans (KeepR.of_only (Only.set w2 1 _) (fun cs e => by
    have := e.symm.trans (blk_below H5.out HB.out)
    cases this))⟩
end Go.Proofs.YtmmbpbgcobmifaaGreatDoorH
end
section
namespace Go.Proofs.YtmmbpbgcobmifaaGreatDoor.Pr
open Go.RowKit Go.Proofs.YtmmbpbgcobmifaaGreatDoorH Go.Proofs.YtmmbpbgcobmifaaGreatDoorW.PrintWords Go.Proofs.YtmmbpbgcobmifaaGreatDoorW.PrintLast Go.Proofs.YtmmbpbgcobmifaaGreatDoorW.PrintMore
attribute [local go_sem] max2_int min2_int max_two min_two max_three min_three max_four min_four   -- for this text's walks alone
set_option linter.unusedVariables false
set_option linter.unusedSimpArgs false
def catchpitref08_Join.l0 : Nat → List (List Int) → List Int → Int → Option (List Int)
  | 0, _, _, _ => none
  | k + 1, x0, x3, x4 => if x4 < (x0.length : Int) then (if 0 ≤ x4 then (if x3.length + (rd_L3 x0 x4).length < 140737488355328 then (catchpitref08_Join.l0 k x0 (x3 ++ (rd_L3 x0 x4)) (wrap64 (x4 + 1))) else (none)) else (none)) else (some x3)
def catchpitref08_Join.f (k : Nat) (l0 : List (List Int)) : Option (List Int) := catchpitref08_Join.l0 k l0 ([] : List Int) 0
theorem catchpitref08_Join.mono_l : ∀ k, (∀ y0 y1 y2, LeO (catchpitref08_Join.l0 k y0 y1 y2) (catchpitref08_Join.l0 (k + 1) y0 y1 y2))
  | 0 => fun _ _ _ r h => by simp [catchpitref08_Join.l0] at h
  | k + 1 => by
    have ih0 := catchpitref08_Join.mono_l k
    · intro y0 y1 y2
      unfold catchpitref08_Join.l0
      repeat' first
      | (with_reducible exact ih0 _ _ _)
      | (with_reducible exact LeO.refl _)
      | (with_reducible exact LeO.none _)
      | (with_reducible refine LeO.ite ?_ ?_)
      | (with_reducible refine LeO.bind ?_ (fun _ => ?_))
      | exact ih0 _ _ _
      | exact LeO.none _
      | refine LeO.ite ?_ ?_
      | refine LeO.bind ?_ (fun _ => ?_)
theorem catchpitref08_Join.mono : ∀ a0 k, LeO (catchpitref08_Join.f k a0) (catchpitref08_Join.f (k + 1) a0) := by
  intro a0 k
  have ih0 := catchpitref08_Join.mono_l k
  unfold catchpitref08_Join.f
  repeat' first
      | (with_reducible exact ih0 _ _ _)
      | (with_reducible exact LeO.refl _)
      | (with_reducible exact LeO.none _)
      | (with_reducible refine LeO.ite ?_ ?_)
      | (with_reducible refine LeO.bind ?_ (fun _ => ?_))
      | exact ih0 _ _ _
      | exact LeO.none _
      | refine LeO.ite ?_ ?_
      | refine LeO.bind ?_ (fun _ => ?_)
set_option maxHeartbeats 8000000 in
set_option maxRecDepth 100000 in
theorem catchpitref08_Join.calls (k : Nat) (A0 : Option Addr) (c0 : Nat) (l0 : List (List Int)) (r : List Int) (w : World) (hr0 : Kd.C (Kd.slice 5 (Kd.int .u8)) w A0 l0.length l0) (hc0 : l0.length ≤ c0) (hG : TabOk w) (h : catchpitref08_Join.f k l0 = some r) :
    Calls Tryz.prog 11 #[.slice A0 l0.length c0] w fun e w' => ∃ v0_ : Value, e = .returned (v0_) ∧ Kd.R (Kd.int .u8) 5 w' w.heap.size (fun _ => True) v0_ r ∧ Below w.heap.size w w' := by
  have HR0 := Aside0.mk hr0
  have HC0 := Aside0.mk hc0
  clear hr0 hc0
  have HB := Aside0.mk (Below.refl w.heap.size w)
  have H : (catchpitref08_Join.l0 k l0 ([] : List Int) 0) = some r := h
  clear h
  have H' := Aside0.mk H
  clear H
  go_enter Tryz.func11, Tryz.ntmps11
  go_wp2
  go_loopg [3, 4] k (fun kq v3 v4 w' => ∃ (x3_1 : List Int) (x4_1 : Int), v4 = .int .i64 x4_1 ∧ Aside0 (catchpitref08_Join.l0 kq l0 x3_1 x4_1 = some r) ∧ Aside0 (kq ≤ k) ∧ Aside0 (Kd.R (Kd.int .u8) 5 w' w.heap.size (fun _ => True) v3 x3_1) ∧ Aside0 (Below w.heap.size w w'))
  case atStart => exact ⟨(([] : List Int)), (0), (by first | rfl | (simp; done) | (simp [*]; done)), H', ⟨Nat.le_refl _⟩, ⟨by first | exact Kd.R_nil _ _ _ _ _ | exact Kd.N_nil _ _ _ _ _ | exact Kd.V_nil _ _ _ _ _ | exact Kd.Q_nil _ _ _ _ _ | exact Kd.S_nil _ _ _ _ _⟩, ⟨by repeat (first | (with_reducible first | exact HB.out | apply below_alloc | apply pw_below_drewN | apply below_drew1) | exact HB.out)⟩⟩
  case round =>
    clear H'
    try clear c1
    obtain ⟨x3_1, x4_1, rfl, HA, HK1, HO_3, HB⟩ := hrel
    cases gk with
    | zero => exact absurd HA.out (by simp [catchpitref08_Join.l0])
    | succ k1 =>
      have H := HA.out
      clear HA
      simp only [catchpitref08_Join.l0] at H
      by_cases c2 : x4_1 < (l0.length : Int)
      · rw [if_pos c2] at H
        have c2b0 : decide (x4_1 < (l0.length : Int)) = true := decide_eq_true c2
        clear c2
        by_cases c3 : 0 ≤ x4_1
        · rw [if_pos c3] at H
          have c3b0 : decide (0 ≤ x4_1) = true := decide_eq_true c3
          clear c3
          by_cases c4 : x3_1.length + (rd_L3 l0 x4_1).length < 140737488355328
          · rw [if_pos c4] at H
            have LMc4 := Aside0.mk c4
            clear c4
            obtain ⟨y115, hy115⟩ : ∃ y_ : List Int, y_ = (x3_1 ++ (rd_L3 l0 x4_1)) := ⟨_, rfl⟩
            replace H : (catchpitref08_Join.l0 k1 l0 y115 (wrap64 (x4_1 + 1))) = some r := by first | (rw [hy115]; with_reducible exact H) | (have H2_ := (Option.bind_some _ _).symm.trans H; rw [hy115]; with_reducible exact H2_) | (have H2_ := (Option.bind_some _ _).symm.trans H; with_reducible exact H2_) | with_reducible exact H | (rw [hy115]; exact H) | exact H
            have Ny115 := Aside0.mk hy115
            clear hy115
            have H' := Aside0.mk H
            clear H
            have p114 : 0 ≤ (x4_1 : Int) := of_decide_eq_true (by first | (with_reducible assumption) | assumption)
            have q114 : x4_1 < (l0.length : Int) := of_decide_eq_true (by first | (with_reducible assumption) | assumption)
            obtain ⟨ad114, A114_0, c114_0, e114, hx114_0, hl114_0, hi114_0⟩ := at_L3 HR0.out x4_1 p114 q114
            cases e114
            replace hx114_0 := (HB.out.cell (World.block_lt_of_cell? w _ hx114_0)).trans hx114_0
            have HR114_0 := Aside0.mk hi114_0
            have HC114_0 := Aside0.mk hl114_0
            clear hi114_0 hl114_0
            replace p114 := eq_true p114
            replace q114 := eq_true q114
            go_wp2_with (first | ((with_reducible refine gate_builtin (b := .append) (xs := #[.tmp 11, .tmp 15]) rfl ?_); at_builtin; refine Kd.R_append_rows (Kd.int .u8) (w0 := w) w.heap.size rfl (.tmp 11) (.tmp 15) 25 5 (.int .u8 0) 1 rfl Tryz.underlying25 info5 rfl (by decide) (by omega) u3 x3_1 (rd_L3 l0 x4_1) _ _ _ (fun _ => True) (fun _ => False) rfl rfl ?aO ?aR (fun _ _ h => h) (fun _ h => h.elim) ?aF ?aB ?aS ?aL ?_; (case aR => repeat (first | exact (Kd.C_below HR114_0.out HB.out) | (with_reducible refine Kd.C_alloc ?_ _) | (with_reducible refine Kd.C_drewN ?_ _) | (with_reducible refine Kd.C_drew ?_))); (case aB => exact (by repeat (first | (with_reducible first | exact HB.out | apply below_alloc | apply pw_below_drewN | apply below_drew1) | exact HB.out))); (case aF => exact (fun _ _ => trivial)); (case aO => exact (by (with_reducible repeat (first | apply Kd.R_alloc | apply Kd.R_drewN | apply Kd.R_drew)); exact HO_3.out)); (case aS => exact (below_size (by repeat (first | (with_reducible first | exact HB.out | apply below_alloc | apply pw_below_drewN | apply below_drew1) | exact HB.out)))); (case aL => have := LMc4.out; omega); intro v116 w5 ho hb hg hat; rw [← Ny115.out] at ho; have n0_ := Aside0.mk (hb); have n1_ := Aside0.mk (ho); clear HB; clear HO_3; have HB := n0_; have HO117 := n1_; clear n0_ n1_; clear ho hb hg hat))
            go_roundg k1
            case measure => have := HK1.out; omega
            case rel => exact ⟨(y115), (wrap64 (x4_1 + 1)), (by first | rfl | (simp; done) | (simp [*]; done)), H', ⟨by have := HK1.out; omega⟩, ⟨by (with_reducible repeat (first | apply Kd.R_alloc | apply Kd.R_drewN | apply Kd.R_drew)); exact HO117.out⟩, ⟨by repeat (first | (with_reducible first | exact HB.out | apply below_alloc | apply pw_below_drewN | apply below_drew1) | exact HB.out)⟩⟩
          · rw [if_neg c4] at H
            exact absurd H (by simp)
        · rw [if_neg c3] at H
          exact absurd H (by simp)
      · rw [if_neg c2] at H
        have c2b0 : decide (x4_1 < (l0.length : Int)) = false := decide_eq_false c2
        clear c2
        obtain rfl := Option.some.inj H
        go_wp2
        go_ret
        exact ⟨_, by first | rfl | (simp [errW_none, errW_some] <;> rfl) | (simp [*, errW_none, errW_some] <;> rfl), by (with_reducible repeat (first | apply Kd.R_alloc | apply Kd.R_drewN | apply Kd.R_drew)); exact HO_3.out, by repeat (first | (with_reducible first | exact HB.out | apply below_alloc | apply pw_below_drewN | apply below_drew1) | exact HB.out)⟩
end Go.Proofs.YtmmbpbgcobmifaaGreatDoor.Pr
end
section
namespace Go.Proofs.YtmmbpbgcobmifaaGreatDoor.Pr
end Go.Proofs.YtmmbpbgcobmifaaGreatDoor.Pr
namespace Go.Proofs.YtmmbpbgcobmifaaGreatDoorH
set_option linter.unusedVariables false
set_option linter.unusedSimpArgs false
open Go Go.RowKit Go.Proofs.YtmmbpbgcobmifaaGreatDoorW.PrintWords Go.Proofs.YtmmbpbgcobmifaaGreatDoorW.PrintLast Go.Proofs.YtmmbpbgcobmifaaGreatDoorW.PrintMore Go.Proofs.YtmmbpbgcobmifaaGreatDoor.Pr Go.Proofs.YtmmbpbgcobmifaaGreatDoorM
abbrev KB8 : Kd (List Int) := Kd.slice 5 (Kd.int .u8)
theorem at_piece8 {w : World} {A : Option Addr} {n : Nat} {ls : List (List Int)} (h : Kd.C KB8 w A n ls) (k : Nat) (h1 : k < n) :
    ∃ (ad : Addr) (A2 : Option Addr) (c2 : Nat), A = some ad ∧ w.cell? (ad.add k) = some (.slice A2 (ls.getD k []).length c2) ∧ (ls.getD k []).length ≤ c2 ∧ Kd.C (Kd.int .u8) w A2 (ls.getD k []).length (ls.getD k []) := by
  obtain ⟨ad, cs, eA, _, hK, hc⟩ := Kd.C_get h [] (k : Int) (by omega) (by omega)
  rw [Int.toNat_natCast] at hK hc
  obtain ⟨A2, c2, hcs, hle, hC⟩ := hK
  refine ⟨ad, A2, c2, eA, ?_, hle, hC⟩
  have := hc 0 (.slice A2 (ls.getD k []).length c2) (by rw [hcs]; rfl)
  rwa [show k * (KB8).sz + 0 = k by show k * 1 + 0 = k; omega] at this
def totL (l : List (List Int)) : Nat := (l.map List.length).sum
theorem totL_take (l : List (List Int)) (k : Nat) (h : k < l.length) : totL (l.take (k + 1)) = totL (l.take k) + (l.getD k []).length := by
  unfold totL
  rw [List.take_succ_eq_append_getElem h, List.map_append, List.sum_append, List.getD_eq_getElem?_getD, List.getElem?_eq_getElem h]
  simp
theorem flatten_length (l : List (List Int)) : l.flatten.length = totL l := by
  unfold totL
  exact List.length_flatten
theorem totL_mem : ∀ (l : List (List Int)) (c : List Int), c ∈ l → c.length ≤ totL l
  | [], c, h => absurd h List.not_mem_nil
  | d :: l, c, h => by
    have e : totL (d :: l) = d.length + totL l := by unfold totL; simp
    rcases List.mem_cons.1 h with rfl | h
    · omega
    · have := totL_mem l c h
      omega
theorem Join_l0 (l : List (List Int)) (hl : l.length ≤ 1000) (ht : totL l ≤ 1000000) : ∀ (d i k : Nat), l.length - i = d → i ≤ l.length → d < k → catchpitref08_Join.l0 k l ((l.take i).flatten) (i : Int) = some l.flatten
  | 0, i, k, h1, h2, h3 => by
    obtain ⟨k, rfl⟩ : ∃ m, k = m + 1 := ⟨k - 1, by omega⟩
    rw [catchpitref08_Join.l0, if_neg (by omega), List.take_of_length_le (by omega)]
  | d + 1, i, k, h1, h2, h3 => by
    obtain ⟨k, rfl⟩ : ∃ m, k = m + 1 := ⟨k - 1, by omega⟩
    have hi : i < l.length := by omega
    have hr : rd_L3 l (i : Int) = l.getD i [] := by unfold rd_L3; rw [Int.toNat_natCast]
    have hm : l.getD i [] ∈ l := by rw [List.getD_eq_getElem?_getD, List.getElem?_eq_getElem hi]; exact List.getElem_mem hi
    have hc := totL_mem l _ hm
    have e : (l.take i).flatten ++ l.getD i [] = (l.take (i + 1)).flatten := by
      rw [List.take_succ_eq_append_getElem hi, List.flatten_append, List.getD_eq_getElem?_getD, List.getElem?_eq_getElem hi]
      simp
    have hz : ((l.take i).flatten).length ≤ totL l := by
      have e2 : l.flatten = (l.take i).flatten ++ (l.drop i).flatten := by rw [← List.flatten_append, List.take_append_drop]
      rw [← flatten_length, e2, List.length_append]
      omega
    rw [catchpitref08_Join.l0, if_pos (by omega), if_pos (by omega), hr, if_pos (by omega), e, show wrap64 ((i : Int) + 1) = ((i + 1 : Nat) : Int) by unfold wrap64; omega]
    exact Join_l0 l hl ht d (i + 1) k (by omega) (by omega) (by omega)
theorem Join_eq (l : List (List Int)) (hl : l.length ≤ 1000) (ht : totL l ≤ 1000000) : catchpitref08_Join.f 1001 l = some l.flatten := Join_l0 l hl ht l.length 0 1001 (by omega) (by omega) (by omega)
theorem chunkP_len (ext c : List Int) (hc : c.length < 1000000) : (chunkP ext c).length ≤ 20 + ext.length + c.length := by
  unfold chunkP
  split
  · simp
  · have := hexL_le16 (n := c.length) (by omega)
    simp only [List.length_append, List.length_cons, List.length_nil]
    omega
theorem chunksP_len (ext : List Int) : ∀ (l : List (List Int)), (∀ c ∈ l, c.length < 1000000) → (l.flatMap (chunkP ext)).length ≤ (20 + ext.length) * l.length + totL l
  | [], _ => by simp
  | c :: l, h => by
    have h1 := chunkP_len ext c (h c List.mem_cons_self)
    have h2 := chunksP_len ext l (fun d hd => h d (List.mem_cons_of_mem _ hd))
    have e : totL (c :: l) = c.length + totL l := by unfold totL; simp
    rw [List.flatMap_cons, List.length_append, List.length_cons, e, Nat.mul_succ]
    omega
theorem linesP_len : ∀ (l : List Fld), (∀ f ∈ l, GoodF f) → (linesP l).length ≤ 4 * sumF l
  | [], _ => by simp [linesP]
  | f :: l, h => by
    have h1 := linesP_len l (fun g hg => h g (List.mem_cons_of_mem _ hg))
    obtain ⟨g0, g1, _⟩ := h f List.mem_cons_self
    have e : linesP (f :: l) = lineP f ++ linesP l := rfl
    have hz := putS_size f.f0 f.f1
    have hz2 : (lineP f).length ≤ f.f0.size + f.f1.size + 4 := by
      unfold lineP
      rw [List.length_append, bytesOf_length]
      show (putS f.f0 f.f1).size + 2 ≤ _
      omega
    rw [e, List.length_append, sumF_cons]
    omega
theorem putP_len (ext : List Int) (l : List (List Int)) (fs : List Fld) (hl : ∀ c ∈ l, c.length < 1000000) (hf : ∀ f ∈ fs, GoodF f) : (putP ext l fs).length ≤ (20 + ext.length) * (l.length + 1) + totL l + 4 * sumF fs := by
  have h1 := chunksP_len ext l hl
  have h2 := linesP_len fs hf
  unfold putP
  simp only [List.length_append, List.length_cons, List.length_nil]
  rw [Nat.mul_succ]
  omega
theorem chunkL_P : chunkL = chunkP [] := by
  funext c
  unfold chunkL chunkP
  rfl
theorem linesL_P : ∀ l : List Fld, (linesL l).map (fun c => (c.toNat : Int)) = linesP l
  | [] => rfl
  | x :: l => by
    have e : linesP (x :: l) = lineP x ++ linesP l := rfl
    rw [linesL, List.map_append, List.map_append, linesL_P l, e]
    unfold lineP bytesOf
    simp
theorem lastL_P (l : List Fld) : lastL l = 48 :: 13 :: 10 :: (linesP l ++ [13, 10]) := by
  unfold lastL lastS
  rw [bytesOf_appendM]
  have e : bytesOf (sectL l) = linesP l ++ [13, 10] := by
    unfold bytesOf sectL
    rw [← linesL_P l]
    simp
  rw [e]
  rfl
theorem wire_P (l : List (List Int)) (fs : List Fld) : l.flatMap (chunkP []) ++ lastL fs = putP [] l fs := by
  rw [lastL_P]
  rfl
theorem chunksP_bytes : ∀ (l : List (List Int)), (∀ c ∈ l, ByteL c) → ByteL (l.flatMap (chunkP []))
  | [], _ => fun x hx => absurd hx List.not_mem_nil
  | c :: l, h => by
    rw [List.flatMap_cons]
    intro x hx
    rcases List.mem_append.1 hx with hx | hx
    · rw [← chunkL_P] at hx
      exact chunkL_bytes (h c List.mem_cons_self) x hx
    · exact chunksP_bytes l (fun d hd => h d (List.mem_cons_of_mem _ hd)) x hx
theorem putP_bytesZ (l : List (List Int)) (fs : List Fld) (h : ∀ c ∈ l, ByteL c) : ByteL (putP [] l fs) := by
  rw [← wire_P]
  intro x hx
  rcases List.mem_append.1 hx with hx | hx
  · exact chunksP_bytes l h x hx
  · exact bytesOf_byteM _ x hx
theorem flatMap_take (l : List (List Int)) (k : Nat) (h : k < l.length) : (l.take (k + 1)).flatMap (chunkP []) = (l.take k).flatMap (chunkP []) ++ chunkP [] (l.getD k []) := by
  rw [List.take_succ_eq_append_getElem h, List.flatMap_append, List.getD_eq_getElem?_getD, List.getElem?_eq_getElem h]
  simp
theorem wire_take (l : List (List Int)) (k : Nat) (hl : ∀ c ∈ l, c.length < 1000000) : ((l.take k).flatMap (chunkP [])).length ≤ 20 * l.length + totL l := by
  have h1 := chunksP_len [] (l.take k) (fun c hc => hl c (List.take_subset _ _ hc))
  have h2 : (l.take k).length ≤ l.length := by rw [List.length_take]; omega
  have h3 : totL (l.take k) ≤ totL l := by
    have e : totL l = totL (l.take k) + totL (l.drop k) := by
      unfold totL
      rw [← List.sum_append, ← List.map_append, List.take_append_drop]
    omega
  simp only [List.length_nil] at h1
  omega
end Go.Proofs.YtmmbpbgcobmifaaGreatDoorH
end
section
namespace Go.Proofs.YtmmbpbgcobmifaaGreatDoor.Pe
open Go.RowKit Go.Proofs.YtmmbpbgcobmifaaGreatDoorH Go.Proofs.YtmmbpbgcobmifaaGreatDoorW.PrintWords Go.Proofs.YtmmbpbgcobmifaaGreatDoorW.PrintLast Go.Proofs.YtmmbpbgcobmifaaGreatDoorW.PrintMore
set_option maxHeartbeats 1600000 in
set_option maxRecDepth 100000 in
theorem wakes10_calls (w : World) (hT : TabZ w) :
    Calls Tryz.prog 5 #[] w fun e w' => e = .returned (.bool true) ∧ Below w.heap.size w w' := by
  have hcc := Lib.run_convert_bytes_const (P := Tryz.prog) w 25 5 #[.int .u8 97, .int .u8 98, .int .u8 99] 3 3 Tryz.underlying25 Tryz.underlying5
  have HT := Aside0.mk hT
  clear hT
  go_enter Tryz.func5, Tryz.ntmps5
  go_wp2_with fail
  obtain ⟨w1, hw1⟩ : ∃ w1, w.alloc (.cells #[.int .u8 97, .int .u8 98, .int .u8 99] 5 (3, 4)) = w1 := ⟨_, rfl⟩
  have hb1 : Below w.heap.size w w1 := by rw [← hw1]; exact (Below.refl _ w).alloc (Nat.le_refl _) _
  have hrow : Kd.C (Kd.int .u8) w1 (some ⟨w.heap.size, 0, none⟩) ([97, 98, 99] : List Int).length [97, 98, 99] := by
    have hh : w1.heap[w.heap.size]? = some (.cells #[.int .u8 97, .int .u8 98, .int .u8 99] 5 (3, 4)) := by rw [← hw1]; exact heap_alloc_new w _
    refine ⟨rfl, by decide, fun _ => ⟨_, rfl, fun j y hy => ⟨[.int .u8 y], rfl, rfl, fun i u hu => ?_⟩⟩⟩
    have : i = 0 ∧ .int .u8 y = u := by
      cases i with
      | zero => exact ⟨rfl, by simpa using hu⟩
      | succ i => simp at hu
    obtain ⟨rfl, rfl⟩ := this
    show w1.cell? ((⟨w.heap.size, 0, none⟩ : Addr).add (j * 1 + 0)) = _
    rw [show j * 1 + 0 = j by omega]
    match j, hy with
    | 0, hy => cases hy; exact World.news_of_block hh 0 _ rfl
    | 1, hy => cases hy; exact World.news_of_block hh 1 _ rfl
    | 2, hy => cases hy; exact World.news_of_block hh 2 _ rfl
    | (j + 3), hy => simp at hy
  rw [hw1]
  have B1 := Aside0.mk hb1
  clear hcc
  refine (chunk_calls _ 3 [97, 98, 99] w1 hrow (by decide) (by intro x hx; simp at hx; omega) (by decide) (HT.out.below hb1)).mono ?_
  rintro e w2 ⟨v, rfl, hr, b2⟩
  obtain ⟨A2, c2, rfl, hc2, hC2⟩ := hr
  have hcv := Kd.C_string (P := Tryz.prog) (c := c2) Tryz.underlying25 Tryz.underlying5 Tryz.underlying9 hC2
  have hch : chunkL [97, 98, 99] = [51, 13, 10, 97, 98, 99, 13, 10] := by
    unfold chunkL
    rw [if_neg (by decide), hexL_lt (by decide)]
    rfl
  rw [hch] at hcv
  rw [hch]
  have hst : strOfNums [51, 13, 10, 97, 98, 99, 13, 10] = ⟨#[51, 13, 10, 97, 98, 99, 13, 10]⟩ := by decide
  rw [hst] at hcv
  have B2 := Aside0.mk (below_step hb1 b2)
  have HT2 := Aside0.mk (HT.out.below B2.out)
  clear hst hch hC2 hrow hb1 b2 hc2 hw1
  simp only [List.length_cons, List.length_nil] at hcv
  go_wp2_with fail
  refine (cost_calls 16 (by decide) w2 HT2.out).mono ?_
  rintro e w3 ⟨rfl, b3⟩
  have hco : costN (16 : Int).toNat = 6 := by
    show costN 16 = 6
    unfold costN
    rw [if_neg (by decide), hexL_ge (by decide), hexL_lt (by decide)]
    rfl
  rw [hco]
  clear hcv hco
  go_wp2
  go_ret
  exact ⟨rfl, below_step B2.out b3⟩
end Go.Proofs.YtmmbpbgcobmifaaGreatDoor.Pe
end
section
namespace Go.Proofs.YtmmbpbgcobmifaaGreatDoorH
open Go.RowKit Go.ChangeShapes Go.WideShapes Go.ChangeAt Go.Proofs.YtmmbpbgcobmifaaGreatDoorW.PrintWords
def TabOZ (w : World) : Prop := TabOk w ∧ TabZ w
theorem TabOZ.below {w w1 : World} (h : TabOZ w) (hb : Below w.heap.size w w1) : TabOZ w1 := ⟨h.1.below hb, h.2.below hb⟩
theorem tabOZ_of_laid {W : World} {L : List (String × DataW Unit)} (h : laidMetH Tryz.prog L W) (hp : (L.all fun x => x.2.handleName?.isNone) = true)
    (hf : L.filter (fun x => x.1 == "catchpit/octet.ends") = [("catchpit/octet.ends", Go.Proofs.YtmmbpbgcobmifaaGreatDoor.Rows.laid_catchpit_octet_ends)])
    (hz : L.filter (fun x => x.1 == "math/bits.deBruijn64tab") = [("math/bits.deBruijn64tab", Go.Proofs.YtmmbpbgcobmifaaGreatDoor.Rows.laid_math_bits_deBruijn64tab)]) (hs : W.ShapedOpen Tryz.prog) : TabOZ W :=
  ⟨tabOk_of_laid h hp hf hs, tabZ_of_laid h hp hz hs⟩
end Go.Proofs.YtmmbpbgcobmifaaGreatDoorH
end
section
namespace Go.Proofs.YtmmbpbgcobmifaaGreatDoor.Pr
end Go.Proofs.YtmmbpbgcobmifaaGreatDoor.Pr
namespace Go.Proofs.YtmmbpbgcobmifaaGreatDoor.Pe
end Go.Proofs.YtmmbpbgcobmifaaGreatDoor.Pe
namespace Go.Proofs.YtmmbpbgcobmifaaGreatDoor.Pf
set_option linter.unusedVariables false
set_option linter.unusedSimpArgs false
open Go Go.RowKit Go.Proofs.YtmmbpbgcobmifaaGreatDoorH Go.Proofs.YtmmbpbgcobmifaaGreatDoor.Pr Go.Proofs.YtmmbpbgcobmifaaGreatDoor.Pe Go.Proofs.YtmmbpbgcobmifaaGreatDoorW.PrintWords Go.Proofs.YtmmbpbgcobmifaaGreatDoorW.PrintLast Go.Proofs.YtmmbpbgcobmifaaGreatDoorW.PrintMore Go.Proofs.YtmmbpbgcobmifaaGreatDoorM
def sumP (ls : List (List Int)) : Nat := (ls.map fun l => l.length + 1).sum
theorem sumP_take (ls : List (List Int)) (k : Nat) (h : k < ls.length) : sumP (ls.take (k + 1)) = sumP (ls.take k) + ((ls.getD k []).length + 1) := by
  unfold sumP
  rw [List.take_succ_eq_append_getElem h, List.map_append, List.sum_append, List.getD_eq_getElem?_getD, List.getElem?_eq_getElem h]
  simp
theorem sumP_tot : ∀ (ls : List (List Int)), sumP ls = totL ls + ls.length
  | [] => rfl
  | x :: ls => by
    have h := sumP_tot ls
    unfold sumP totL at *
    simp only [List.map_cons, List.sum_cons, List.length_cons]
    omega
set_option maxHeartbeats 8000000 in
set_option maxRecDepth 100000 in
theorem body_go (A0 : Option Addr) (c0 : Nat) (l : List (List Int)) (A1 : Option Addr) (c1 : Nat) (fs : List Fld) (w : World) (hr0 : Kd.C KB8 w A0 l.length l) (hc0 : l.length ≤ c0) (hr1 : Kd.C k28 w A1 fs.length fs) (hc1 : fs.length ≤ c1) (hG : TabOZ w) (hb0 : ∀ c ∈ l, ByteL c) (hlc : ∀ c ∈ l, c.length ≤ 140737488351232) (hsm : Small1 fs) (hn : fs.length ≤ 140737488351232) :
    Calls Tryz.prog 3 #[.slice A0 l.length c0, .slice A1 fs.length c1] w fun e w' => e = .returned (.bool true) ∧ Below w.heap.size w w' := by
  obtain ⟨K, hK⟩ := ref05_Great fs hsm hn
  have hgr := hK K (Nat.le_refl _)
  have hnf := sumF_length fs
  have hmax : l.length ≤ 9223372036854775807 := hr0.2.1
  have HK := Aside0.mk (fun (W : World) (h : Below w.heap.size w W) => (⟨Kd.C_below hr0 h, Kd.C_below hr1 h, hG.below h⟩ : Kd.C KB8 W A0 l.length l ∧ Kd.C k28 W A1 fs.length fs ∧ TabOZ W))
  have HGR := Aside0.mk (fun (W : World) (h : Below w.heap.size w W) => catchpitref05_Great.calls K A1 c1 fs _ W (Kd.C_below hr1 h) hc1 (hG.below h).1 hgr)
  have HRT := Aside0.mk (fun (f : Fld) (hf : f ∈ fs) => ref05_Right f.f0 f.f1 (by have := hsm f hf; omega) (by have := hsm f hf; omega))
  have HSM := Aside0.mk hsm
  have HC0 := Aside0.mk hc0
  have HC1 := Aside0.mk hc1
  have HB0 := Aside0.mk hb0
  have HLC := Aside0.mk hlc
  have HW := Aside0.mk (wakes10_calls w hG.2)
  clear hr0 hr1 hG hgr hK hb0 hsm hlc hc0 hc1
  go_enter Tryz.func3, Tryz.ntmps3
  go_wp2_with fail
  refine HW.out.mono ?_
  rintro e w1 ⟨rfl, hb1⟩
  have B1 := Aside0.mk hb1
  clear hb1 HW
  go_wp2_with fail
  go_loopw [5, 27] (fun u5 u27 wr => ∃ k x : Nat, u5 = .int .i64 (x : Int) ∧ u27 = .int .i64 (k : Int) ∧ k ≤ l.length ∧ x ≤ 500 ∧ Aside0 (x = sumP (l.take k)) ∧ wr = w1) (fun _ u27 _ => l.length - (intOf u27).toNat)
  case atStart => exact ⟨0, 0, rfl, rfl, Nat.zero_le _, Nat.zero_le _, ⟨rfl⟩, by trivial⟩
  case round =>
    obtain ⟨k, x, rfl, rfl, hk, hx5, hx, rfl⟩ := hrel
    by_cases hlt : k < l.length
    · have hlt' : (k : Int) < (l.length : Int) := by omega
      obtain ⟨ad, A2, c2, eA, hcell, hle2, hC2⟩ := at_piece8 (HK.out _ B1.out).1 k hlt
      subst eA
      have HST := Aside0.mk (sumP_take l k hlt)
      have hsmall := HLC.out (l.getD k []) (by rw [List.getD_eq_getElem?_getD, List.getElem?_eq_getElem hlt]; exact List.getElem_mem hlt)
      clear hC2 hle2
      generalize (l.getD k []).length = m at *
      have hw1 : IntKind.i64.wrap ((m : Int) + 1) = (m : Int) + 1 := by
        unfold IntKind.wrap
        simp [IntKind.bits, IntKind.signed]
        omega
      have hw2 : IntKind.i64.wrap ((x : Int) + ((m : Int) + 1)) = (x : Int) + ((m : Int) + 1) := by
        unfold IntKind.wrap
        simp [IntKind.bits, IntKind.signed]
        omega
      have hw3 : IntKind.i64.wrap ((k : Int) + 1) = (k : Int) + 1 := by
        unfold IntKind.wrap
        simp [IntKind.bits, IntKind.signed]
        omega
      by_cases h500 : 500 < x + (m + 1)
      · have h500' : (500 : Int) < (x : Int) + ((m : Int) + 1) := by omega
        go_wp2
        go_ret
        exact ⟨rfl, B1.out⟩
      · have h500' : ¬ (500 : Int) < (x : Int) + ((m : Int) + 1) := by omega
        go_wp2
        go_roundw
        case rel => exact ⟨k + 1, x + (m + 1), by simp, by simp, hlt, by omega, ⟨by rw [HST.out, ← hx.out]⟩, by trivial⟩
        case measure => simp [intOf]; omega
    · have hge : ¬ (k : Int) < (l.length : Int) := by omega
      have HSUM := Aside0.mk (show sumP l ≤ 500 by have := hx.out; rw [List.take_of_length_le (by omega)] at this; omega)
      clear hx
      by_cases hgs : 2000 < sumF fs
      · rw [decide_eq_true hgs] at HGR
        go_wp2_with fail
        refine (HGR.out _ B1.out).mono ?_
        rintro e w2 ⟨rfl, hb2⟩
        have B2 := Aside0.mk (B1.out.trans (hb2.below.mono B1.out.size))
        clear hb2
        go_wp2
        go_ret
        exact ⟨rfl, B2.out⟩
      rw [decide_eq_false hgs] at HGR
      go_wp2_with fail
      refine (HGR.out _ B1.out).mono ?_
      rintro e w2 ⟨rfl, hb2⟩
      have B2 := Aside0.mk (B1.out.trans (hb2.below.mono B1.out.size))
      clear hb2 HGR
      go_wp2_with fail
      go_loopw [43] (fun u43 wr => ∃ k : Nat, u43 = .int .i64 (k : Int) ∧ k ≤ fs.length ∧ Aside0 (∀ f ∈ fs.take k, rightB f.f0 f.f1 = true) ∧ Aside0 (Below w.heap.size w wr)) (fun u43 _ => fs.length - (intOf u43).toNat)
      case atStart => exact ⟨0, rfl, Nat.zero_le _, ⟨fun f hf => by simp at hf⟩, B2⟩
      case round =>
        obtain ⟨k, rfl, hk, hR, hb⟩ := hrel
        by_cases hlt : k < fs.length
        · have hlt' : (k : Int) < (fs.length : Int) := by omega
          have hge' : (0 : Int) ≤ (k : Int) := by omega
          obtain ⟨ad, e, hx0, hx1⟩ := at_T28 (HK.out _ hb.out).2.1 (k : Int) (by omega) (by omega)
          cases e
          unfold rd_T28 at hx0 hx1
          rw [Int.toNat_natCast] at hx0 hx1
          have HM := Aside0.mk (mem_getD fs z28 k hlt)
          have HTK := Aside0.mk (take_one fs z28 k hlt)
          obtain ⟨K2, hK2⟩ := HRT.out _ HM.out
          have HC := Aside0.mk (fun W (h : Below w.heap.size w W) => catchpitref05_Right.calls K2 _ _ _ W (HK.out W h).2.2.1 (hK2 K2 (Nat.le_refl _)))
          clear hK2
          have hw2 : IntKind.i64.wrap ((k : Int) + 1) = (k : Int) + 1 := by
            unfold IntKind.wrap
            simp [IntKind.bits, IntKind.signed]
            omega
          generalize fs.getD k z28 = x at *
          go_wp2_with fail
          refine (HC.out _ (hb.out.alloc hb.out.size _)).mono ?_
          rintro e w4 ⟨rfl, hb4⟩
          have B4 := Aside0.mk ((hb.out.alloc hb.out.size _).trans (hb4.mono (Nat.le_trans hb.out.size (by simp))))
          clear hb4 hx0 hx1 hb
          cases hr : rightB x.f0 x.f1 with
          | true =>
            have HR := Aside0.mk hr
            clear hr
            go_wp2
            go_roundw
            case rel =>
              refine ⟨k + 1, by go_num, by omega, ⟨fun f hf => ?_⟩, B4⟩
              rw [HTK.out] at hf
              rcases List.mem_append.1 hf with hf | hf
              · exact hR.out f hf
              · rw [List.mem_singleton.1 hf]; exact HR.out
            case measure => simp [intOf]; omega
          | false =>
            clear hr
            go_wp2
            go_ret
            exact ⟨rfl, B4.out⟩
        · obtain rfl : k = fs.length := by omega
          have HRA := Aside0.mk (show ∀ f ∈ fs, rightB f.f0 f.f1 = true by have := hR.out; rwa [List.take_of_length_le (Nat.le_refl _)] at this)
          have B3 := Aside0.mk hb.out
          clear hb hR hlt hk HRT B2
          -- the encoder
          have hsP := HSUM.out
          rw [sumP_tot] at hsP
          have HTOT := Aside0.mk hsP
          have hll : l.length ≤ 500 := by omega
          clear hsP HSUM
          have hbd : ∀ W : World, (Instr.build 36 #[(0, .int .i64 2)]).run Tryz.prog W = .ok (.agg #[.int .i64 2, .int .u64 0]) W := fun _ => by kernel_rfl
          go_wp2_with fail
          refine (enc_new2 wr).mono ?_
          rintro e w3 ⟨b, rfl, he3, hb3⟩
          obtain ⟨B, hB⟩ : ∃ B, wr.heap.size = B := ⟨_, rfl⟩
          rw [hB] at he3 hb3
          have HB := Aside0.mk (show w.heap.size ≤ B by rw [← hB]; exact B3.out.size)
          have B4 := Aside0.mk (B3.out.trans (hb3.mono HB.out))
          have HS3 := Aside0.mk (show B ≤ w3.heap.size by rw [← hB]; exact hb3.size)
          have HE3 := Aside0.mk he3
          clear he3 hb3 hB B3 hbd
          have hne : ∀ W : World, (binOp .eql 30 (.pointer (some ⟨b, 0, none⟩)) (.pointer none)).run Tryz.prog W = .ok (.bool false) W := fun _ => by kernel_rfl
          go_wp2_with fail
          go_loopw [12, 64] (fun u12 u64 wr => ∃ (j G : Nat) (ov : Value) (pre : List Int), u12 = ov ∧ u64 = .int .i64 (j : Int) ∧ j ≤ l.length ∧ G ≤ 500 ∧ Aside0 (G = totL (l.take j) ∧ pre = (l.take j).flatMap (chunkP []) ∧ RowD wr B ov pre ∧ EncAt wr B b 2 G 0 false ∧ Below w.heap.size w wr ∧ B ≤ wr.heap.size)) (fun _ u64 _ => l.length - (intOf u64).toNat)
          case atStart => exact ⟨0, 0, _, _, rfl, rfl, Nat.zero_le _, Nat.zero_le _, ⟨rfl, rfl, RowD.zero _ _, HE3.out, B4.out, HS3.out⟩⟩
          case round =>
            obtain ⟨j, G, ov, pre, rfl, rfl, hj, hG5, HQ⟩ := hrel
            obtain ⟨Ao, cO, rfl, _, _⟩ := HQ.out.2.2.1.reads
            by_cases hjl : j < l.length
            · have hjl' : (j : Int) < (l.length : Int) := by omega
              have hge2 : (0 : Int) ≤ (j : Int) := by omega
              have hmem : l.getD j [] ∈ l := by rw [List.getD_eq_getElem?_getD, List.getElem?_eq_getElem hjl]; exact List.getElem_mem hjl
              obtain ⟨ad, A2, c2, eA, hcell0, hle2, hC2⟩ := at_piece8 (HK.out _ (Below.refl _ _)).1 j hjl
              subst eA
              have hcell := pw_cell_below HQ.out.2.2.2.2.1 hcell0
              have HT := Aside0.mk (totL_take l j hjl)
              have HFT := Aside0.mk (flatMap_take l j hjl)
              have hcm := totL_mem l _ hmem
              have hpl := wire_take l j (fun c hc => by have := totL_mem l c hc; have := HTOT.out; omega)
              have hpl2 := wire_take l (j + 1) (fun c hc => by have := totL_mem l c hc; have := HTOT.out; omega)
              rw [flatMap_take l j hjl, ← HQ.out.2.1, List.length_append] at hpl2
              rw [← HQ.out.2.1] at hpl
              have htt : totL (l.take (j + 1)) ≤ totL l := by
                have e : totL l = totL (l.take (j + 1)) + totL (l.drop (j + 1)) := by
                  unfold totL
                  rw [← List.sum_append, ← List.map_append, List.take_append_drop]
                omega
              have HBY := Aside0.mk (HB0.out _ hmem)
              rw [totL_take l j hjl, ← HQ.out.1] at htt
              generalize l.getD j [] = ci at *
              have hci : ci.length ≤ 500 := by have := HTOT.out; omega
              have hG2 : G + ci.length ≤ 500 := by have := HTOT.out; omega
              have hlo : pre.length + (chunkP [] ci).length ≤ 140737488355328 := by have := HTOT.out; omega
              have HC2 := Aside0.mk hC2
              have HLE2 := Aside0.mk hle2
              have hp := enc_put2R B b G 0 A2 c2 ci wr HQ.out.2.2.2.1 (fun W hW => ⟨Kd.C_below HC2.out (HQ.out.2.2.2.2.1.trans (hW.mono HB.out)), (HK.out W (HQ.out.2.2.2.2.1.trans (hW.mono HB.out))).2.2.2⟩) (by omega) hle2 HBY.out (by omega)
              rw [chunkL_P] at hp
              have HP := Aside0.mk hp
              clear hp hC2 hcell0 hle2 hmem hcm hpl hpl2 htt HBY
              have hw3 : IntKind.i64.wrap ((j : Int) + 1) = (j : Int) + 1 := by
                unfold IntKind.wrap
                simp [IntKind.bits, IntKind.signed]
                omega
              go_wp2_with fail
              refine HP.out.mono ?_
              rintro e w5 ⟨v5, rfl, hrow, he5, hb5, hk5⟩
              obtain ⟨A5, c5, rfl, hc5, hC5⟩ := hrow
              have HC5 := Aside0.mk hC5
              have HE5 := Aside0.mk he5
              have HB5 := Aside0.mk hb5
              have HRO := Aside0.mk (HQ.out.2.2.1.keep hk5)
              have HS5 : B ≤ w5.heap.size := Nat.le_trans HQ.out.2.2.2.2.2 hb5.size
              clear hC5 he5 hb5 hk5 HP hcell hc5
              generalize chunkP [] ci = cl at *
              go_wp2_with ((with_reducible refine gate_builtin (b := .append) (xs := #[.tmp 74, .tmp 75]) rfl ?_); at_builtin; refine list_plusD B rfl (.tmp 74) (.tmp 75) 25 (.int .u8 0) rfl Tryz.underlying25 info5 rfl (.slice Ao pre.length cO) pre cl A5 c5 rfl rfl HRO.out HC5.out HS5 hlo ?_; intro v7 w7 hr7 hb7 hg7 hat7; have HR7 := Aside0.mk hr7; have HB7 := Aside0.mk hb7; have HG7 := Aside0.mk hg7; clear hr7 hb7 hg7 hat7)
              go_roundw
              case rel =>
                refine ⟨j + 1, G + ci.length, v7, pre ++ cl, rfl, by simp, hjl, hG2, ⟨by rw [HT.out, ← HQ.out.1], by rw [HFT.out, ← HQ.out.2.1], HR7.out, HE5.out.grow HG7.out (fun y hy => (HRO.out.at y hy).2), (HQ.out.2.2.2.2.1.trans (HB5.out.mono HB.out)).trans (HB7.out.mono HB.out), Nat.le_trans HS5 HB7.out.size⟩⟩
              case measure => simp [intOf]; omega
            · obtain rfl : j = l.length := by omega
              have hge2 : ¬ (l.length : Int) < (l.length : Int) := by omega
              have hpre : pre = l.flatMap (chunkP []) := by have := HQ.out.2.1; rwa [List.take_of_length_le (Nat.le_refl _)] at this
              have hsf : sumF fs ≤ 2000 := by omega
              have hGF : ∀ f ∈ fs, GoodF f := fun f hf => ⟨by have := sumF_at fs f hf; omega, by have := sumF_at fs f hf; omega, HRA.out f hf⟩
              have hall : allRight fs = true := by
                unfold allRight
                rw [List.all_eq_true]
                exact fun f hf => HRA.out f hf
              have hlc : ∀ c ∈ l, c.length ≤ 500 := fun c hc => by have := totL_mem l c hc; have := HTOT.out; omega
              have hlen := putP_len [] l fs (fun c hc => by have := hlc c hc; omega) hGF
              have hlnf := linesP_len fs hGF
              obtain ⟨X, hX, hXd, hXf⟩ := run_putP (e0 := 0) (e1 := fs.length) (e2 := 65536) [] ⟨Nat.le_refl _, .inl rfl⟩ l fs [] (fun c hc => by have := hlc c hc; omega) hGF (Nat.le_refl _) (by omega)
              rw [List.append_nil] at hX
              have hPB : ByteL (putP [] l fs) := putP_bytesZ l fs HB0.out
              simp only [List.length_nil] at hlen
              have hlp : (putP [] l fs).length ≤ 50000 := by have := HTOT.out; omega
              have hs1 := scanF_eq 0 fs.length 65536 (putP [] l fs) hPB (by omega) (by omega) (by omega) (by omega)
              rw [hX, toldB_ok rfl] at hs1
              dsimp only at hs1
              rw [hXd, hXf] at hs1
              have hj := Join_eq l (by omega) (by have := HTOT.out; omega)
              have hfl := flatten_length l
              have hFl : l.flatten.length ≤ 500 := by have := HTOT.out; omega
              have hS : pre ++ lastL fs = putP [] l fs := by rw [hpre, wire_P]
              have hSl : pre.length + (lastL fs).length ≤ 140737488355328 := by rw [← List.length_append, hS]; omega
              have HS1 := Aside0.mk hs1
              have HJ := Aside0.mk hj
              have hnf2 : fs.length ≤ 1000000 := by omega
              have HSA := Aside0.mk (SameM_eq l.flatten l.flatten (by omega) 1000001 (by omega))
              have HFA := Aside0.mk (FieldsM_eq fs hnf2 1000001 (by omega))
              rw [decide_eq_true rfl] at HSA
              have hp := enc_end2 B b G 0 A1 c1 fs wr HQ.out.2.2.2.1 (HK.out _ HQ.out.2.2.2.2.1).2.1 HC1.out (HK.out _ HQ.out.2.2.2.2.1).2.2.1 HSM.out (by omega) hall
              have HP := Aside0.mk hp
              have HS := Aside0.mk hS
              clear hlen hlnf hX hXd hXf hPB hs1 hj hlc hGF hpre hp hS hfl X
              generalize putP [] l fs = S at *
              generalize l.flatten = F at *
              generalize lastL fs = L at *
              go_wp2_with fail
              refine HP.out.mono ?_
              rintro e w5 ⟨v5, rfl, hrow, hb5, hk5⟩
              obtain ⟨A5, c5, rfl, hc5, hC5⟩ := hrow
              have HC5 := Aside0.mk hC5
              have HB5 := Aside0.mk hb5
              have HRO := Aside0.mk (HQ.out.2.2.1.keep hk5)
              have HS5 : B ≤ w5.heap.size := Nat.le_trans HQ.out.2.2.2.2.2 hb5.size
              clear hC5 hb5 hk5 HP hc5
              go_wp2_with ((with_reducible refine gate_builtin (b := .append) (xs := #[.tmp 84, .tmp 85]) rfl ?_); at_builtin; refine list_plusD B rfl (.tmp 84) (.tmp 85) 25 (.int .u8 0) rfl Tryz.underlying25 info5 rfl (.slice Ao pre.length cO) pre L A5 c5 rfl rfl HRO.out HC5.out HS5 hSl ?_; intro v7 w7 hr7 hb7 hg7 hat7; rw [HS.out] at hr7; have HR7 := Aside0.mk hr7; have B7 := Aside0.mk ((HQ.out.2.2.2.2.1.trans (HB5.out.mono HB.out)).trans (hb7.mono HB.out)); clear hr7 hb7 hg7 hat7)
              obtain ⟨A7, c7, rfl, hc7, hC7⟩ := HR7.out.reads
              have HC7 := Aside0.mk hC7
              have HJC := Aside0.mk (catchpitref08_Join.calls 1001 A0 c0 l F w7 (HK.out w7 B7.out).1 HC0.out (HK.out w7 B7.out).2.2.1 HJ.out)
              clear hC7
              refine HJC.out.mono ?_
              rintro e w10 ⟨v10, rfl, hv10, hb10⟩
              obtain ⟨A10, k10, rfl, hc10, hC10⟩ := Kd.R_reads hv10
              have B10 := Aside0.mk (B7.out.trans (hb10.mono B7.out.size))
              have HC10 := Aside0.mk hC10
              have HC7' := Aside0.mk (Kd.C_below HC7.out hb10)
              clear hv10 hC10 hb10 HJC
              have hbl : ∀ (n : Int) (W : World), (Instr.build 46 #[(1, .int .i64 n), (2, .int .i64 65536)]).run Tryz.prog W = .ok (.agg #[.int .i64 0, .int .i64 n, .int .i64 65536]) W := fun _ _ => by kernel_rfl
              have HSC := Aside0.mk (body_Scan.calls A7 c7 S 0 (fs.length : Int) 65536 F fs (S.length : Int) (S.length : Int) 0 w10 HC7'.out hc7 (HK.out _ B10.out).2.2.1 HS1.out)
              go_wp2_with fail
              refine HSC.out.mono ?_
              rintro e w8 ⟨v8, v9, rfl, hv0, hv1, hb8⟩
              obtain ⟨y0, y1, rfl⟩ := Kd.R_slice hv0
              obtain ⟨z0, z1, rfl⟩ := Kd.R_slice hv1
              have B8 := Aside0.mk (B10.out.trans (hb8.mono B10.out.size))
              have HC10' := Aside0.mk (Kd.C_below HC10.out hb8)
              have HV0 := Aside0.mk hv0
              have HV1 := Aside0.mk hv1
              clear hv0 hv1 hb8 HSC HS1
              go_upto_region 33 with (fail)
              obtain ⟨w9, hw9⟩ : ∃ w9, w8.alloc (.cells #[.slice y0 F.length y1, .slice z0 fs.length z1, .int .i64 (S.length : Int)] 42) = w9 := ⟨_, rfl⟩
              have hd9 : w9.heap[w8.heap.size]? = some (.cells #[.slice y0 F.length y1, .slice z0 fs.length z1, .int .i64 (S.length : Int)] 42 (0, 0)) := by
                rw [← hw9]; exact World.alloc_heap_new w8 _
              have B9 := Aside0.mk (show Below w.heap.size w w9 by rw [← hw9]; exact below_alloc B8.out _)
              have HV09 := Kd.R_alloc HV0.out (.cells #[.slice y0 F.length y1, .slice z0 fs.length z1, .int .i64 (S.length : Int)] 42)
              have HV19 := Kd.R_alloc HV1.out (.cells #[.slice y0 F.length y1, .slice z0 fs.length z1, .int .i64 (S.length : Int)] 42)
              have HCA := Aside0.mk (show Kd.C (Kd.int .u8) w9 A10 F.length F by rw [← hw9]; exact Kd.C_below HC10'.out (below_alloc (Below.refl _ _) _))
              rw [hw9] at HV09 HV19 ⊢
              clear hw9 HV0 HV1
              obtain ⟨_, _, q0, hy1, hC0⟩ := Kd.R_reads HV09
              cases q0
              obtain ⟨_, _, q0, hz1, hC1⟩ := Kd.R_reads HV19
              cases q0
              have HSM := Aside0.mk (catchpitref03_Same.calls 1000001 y0 y1 F A10 k10 F true w9 hC0 hy1 HCA.out hc10 (HK.out _ B9.out).2.2.1 HSA.out)
              have HFM := Aside0.mk (fun W (h : Below w9.heap.size w9 W) => catchpitref05_Fields.calls 1000001 z0 z1 fs A1 c1 fs true W (Kd.C_below hC1 h) hz1 (HK.out _ (B9.out.trans (h.mono B9.out.size))).2.1 HC1.out (HK.out _ (B9.out.trans (h.mono B9.out.size))).2.2.1 HFA.out)
              have HCE := Aside0.mk (fun (W : World) (h : Below w9.heap.size w9 W) => (show W.cell? ⟨w8.heap.size, 0, none⟩ = some (.slice y0 F.length y1) ∧ W.cell? ⟨w8.heap.size, 1, none⟩ = some (.slice z0 fs.length z1) from
                ⟨(blk_cell ((h.block _ (blk_lt hd9)).trans hd9) 0).trans rfl, (blk_cell ((h.block _ (blk_lt hd9)).trans hd9) 1).trans rfl⟩))
              obtain ⟨d0, d1⟩ := HCE.out _ (Below.refl _ _)
              clear hd9 hC0 hC1 HV09 HV19 HSA HFA hy1 hz1
              go_wp2_with fail
              refine HSM.out.mono ?_
              rintro e w11 ⟨rfl, hd11⟩
              have B11 := Aside0.mk hd11.below
              obtain ⟨x0, x1⟩ := HCE.out _ B11.out
              have hfm := HFM.out _ B11.out
              clear d0 d1 hd11 HSM HFM
              go_wp2_with fail
              refine hfm.mono ?_
              rintro e w12 ⟨rfl, hd12⟩
              have B12 := Aside0.mk ((B9.out.trans (B11.out.mono B9.out.size)).trans (hd12.below.mono (B9.out.trans (B11.out.mono B9.out.size)).size))
              clear hd12 hfm
              go_wp2
              go_ret
              exact ⟨rfl, B12.out⟩
def wfBodyB (l : List (List Int)) (fs : List Fld) : Bool := (l.all fun c => byteB c && decide (c.length ≤ 140737488351232)) && (fs.all fun f => decide (f.f0.size ≤ 140737488351232) && decide (f.f1.size ≤ 140737488351232)) && decide (fs.length ≤ 140737488351232)
def wfBody (l : List (List Int)) (fs : List Fld) : Prop := (∀ c ∈ l, ByteL c ∧ c.length ≤ 140737488351232) ∧ Small1 fs ∧ fs.length ≤ 140737488351232
theorem wfBody_iff {l : List (List Int)} {fs : List Fld} : wfBodyB l fs = true ↔ wfBody l fs := by
  unfold wfBodyB wfBody Small1
  simp only [Bool.and_eq_true, List.all_eq_true, decide_eq_true_eq, byteB_iff, and_assoc]
def catchpitlaw10_EnchunkBody.f (l : List (List Int)) (fs : List Fld) : Option Bool := if wfBodyB l fs = true then some true else none
theorem catchpitlaw10_EnchunkBody.calls (A0 : Option Addr) (c0 : Nat) (l0 : List (List Int)) (A1 : Option Addr) (c1 : Nat) (l1 : List S28) (r : Bool) (w : World) (hr0 : Kd.C (Kd.slice 5 (Kd.int .u8)) w A0 l0.length l0) (hc0 : l0.length ≤ c0) (hr1 : Kd.C k28 w A1 l1.length l1) (hc1 : l1.length ≤ c1) (hG : TabOZ w) (h : catchpitlaw10_EnchunkBody.f l0 l1 = some r) :
    Calls Tryz.prog 3 #[.slice A0 l0.length c0, .slice A1 l1.length c1] w fun e w' => e = .returned (.bool r) ∧ Below w.heap.size w w' := by
  unfold catchpitlaw10_EnchunkBody.f at h
  split at h
  · rename_i hw
    cases h
    obtain ⟨h1, h2, h3⟩ := wfBody_iff.1 hw
    exact body_go A0 c0 l0 A1 c1 l1 w hr0 hc0 hr1 hc1 hG (fun c hc => (h1 c hc).1) (fun c hc => (h1 c hc).2) h2 h3
  · cases h
end Go.Proofs.YtmmbpbgcobmifaaGreatDoor.Pf
end
section
namespace Go.Proofs.YtmmbpbgcobmifaaGreatDoor.Pr
end Go.Proofs.YtmmbpbgcobmifaaGreatDoor.Pr
namespace Go.Proofs.YtmmbpbgcobmifaaGreatDoor.Pf
end Go.Proofs.YtmmbpbgcobmifaaGreatDoor.Pf
namespace Go.Proofs.YtmmbpbgcobmifaaGreatDoor.Pure
open Go.RowKit Go.Proofs.YtmmbpbgcobmifaaGreatDoorH Go.Proofs.YtmmbpbgcobmifaaGreatDoor.Pr Go.Proofs.YtmmbpbgcobmifaaGreatDoor.Pf Go.Proofs.YtmmbpbgcobmifaaGreatDoorW.PrintWords Go.Proofs.YtmmbpbgcobmifaaGreatDoorW.PrintLast
theorem wf_u8P {x : Int} (h : (Lit.int .u8 x).wf = true) : 0 ≤ x ∧ x ≤ 255 := by
  have m2 : IntKind.u8.max = 255 := rfl
  have m1 : IntKind.u8.min = 0 := rfl
  simp [Lit.wf, m1, m2] at h
  omega
theorem wf_bytesP {l : List Int} (h : ∀ y ∈ l, (Lit.int .u8 y).wf = true) : ByteL l := fun x hx => wf_u8P (h x hx)
theorem EnchunkBody (l : List (List Int)) (fs : List S28) (hl : l.length * 24 ≤ 140737488351232 ∧ ∀ y ∈ l, (y.length * 1 ≤ 140737488351232 ∧ ∀ z ∈ y, (Lit.int .u8 z).wf = true)) (hf : fs.length * 32 ≤ 140737488351232 ∧ ∀ y ∈ fs, (y.f0.size ≤ 140737488351232 ∧ y.f1.size ≤ 140737488351232)) :
    catchpitlaw10_EnchunkBody.f l fs = some true := if_pos (wfBody_iff.2 ⟨fun c hc => ⟨wf_bytesP (hl.2 c hc).2, by have := (hl.2 c hc).1; omega⟩, hf.2, by omega⟩)
end Go.Proofs.YtmmbpbgcobmifaaGreatDoor.Pure
end
