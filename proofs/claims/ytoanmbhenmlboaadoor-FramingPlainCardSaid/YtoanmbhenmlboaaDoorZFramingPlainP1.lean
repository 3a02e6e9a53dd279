import Derived.Test.YtoanmbhenmlboaaDoorZFramingPlainP0
import Derived.Test.YtoanmbhenmlboaaDoorProg
import Derived.SizedLaws
import Derived.ChangeSlices
import Derived.Below
import Derived.Outline
import Derived.Shelf.Vars
import Derived.Deep.Draws
import Derived.Deep.AppendLies
import Derived.Maps.AppendAt
import Derived.OwnWalk
import Derived.Laws.BytesArg
import Derived.Laws.MakeOwn
import Derived.Laws.OwnMore
import Derived.Deep.OwnRows
import Derived.Tactics
import Derived.Lib.ConvBytes
import Derived.Laws.Slices
import Derived.WalkKit
import Derived.KernelRfl
import Derived.RowKit3
import Derived.Deep.LoopGhost
import Derived.Deep.QuietTactic
import Derived.BigQuiet
import Derived.WideLaws
import Derived.Deep.DeepCutAuto
import Derived.Deep.CutBlock
import Derived.Deep.RegionHeld3
import Derived.Laws.Rows
import Derived.Lib.AppendStr
import Derived.ArgAppend
import Derived.Laws.IdiomCopy
import Derived.OrdersHeld
import Derived.Laws.BitsLemmas
import Derived.RowKit
import Derived.Lib.Bytealg
import Derived.Shelf.Strings.Trim
import Derived.Shelf.Small.Utf8
import Derived.Shelf.Small.Strs
import Derived.Shelf.Strings.Search1
import Derived.Shelf.Strings.Search2
import Derived.Shelf.Strings.Search3
import Derived.Shelf.Strings.Cut
import Derived.Shelf.LaysM
import Derived.Shelf.Strings.Shaped
import Derived.Shelf.Strings.Runes
import Derived.Shelf.Strings.AsciiSet
import Derived.Shelf.Unicode.DecodeSlow
import Derived.Shelf.Slices.Turned
import Derived.Shelf.Strings.SlTrimAscii
import Derived.Laws.EntriesVeiled
import Derived.Laws.NewBlocks
import Derived.RangeFuncNested
import Derived.RangeFuncBound
import Derived.RangeFuncCalls
import Derived.RangeFuncBox
import Derived.Lib.IndexBytes
import Derived.RangeFuncLeaves
import Derived.RangeFuncKeeps
import Derived.Shelf.RegionOpen
import Derived.OwnWalkIn
import Derived.TacticsInMore
import Derived.LoopNIn
import Derived.LoopIn
import Derived.ControlIn
import Derived.Scope
import Derived.WalkMore
section
namespace Go.Proofs.YtoanmbhenmlboaaDoorH
open Go.RowKit Go.Proofs.YtoanmbhenmlboaaDoorW.PrintWords Go.Proofs.YtoanmbhenmlboaaDoorW.PrintLast Go.Proofs.YtoanmbhenmlboaaDoorW.PrintMore
def MxOk (w : World) : Prop := ∃ m : Int, w.cell? ⟨1, 0, none⟩ = some (.int .i64 m)
theorem MxOk.below {w w1 : World} (h : MxOk w) (hb : Below w.heap.size w w1) : MxOk w1 := by
  obtain ⟨m, hm⟩ := h
  exact ⟨m, pw_cell_below hb hm⟩
theorem MxOk.of_shaped {w : World} (h : w.ShapedOpen Tryd.prog) : MxOk w := by
  exact Go.Proofs.cell_of_shapedOpen_int (zero := #[.int .i64 0]) (t := 3) h (of_decide_eq_true (by kernel_rfl)) (by kernel_rfl) rfl (by kernel_rfl) (by kernel_rfl) Tryd.underlying3
structure TabOk (w : World) : Prop where
  c0 : w.cell? ⟨0, 0, none⟩ = some (.int .u8 48)
  c1 : w.cell? ⟨0, 1, none⟩ = some (.int .u8 57)
  c2 : w.cell? ⟨0, 2, none⟩ = some (.int .u8 65)
  c3 : w.cell? ⟨0, 3, none⟩ = some (.int .u8 90)
  c4 : w.cell? ⟨0, 4, none⟩ = some (.int .u8 97)
  c5 : w.cell? ⟨0, 5, none⟩ = some (.int .u8 122)
  mx : MxOk w
theorem TabOk.below {w w1 : World} (h : TabOk w) (hb : Below w.heap.size w w1) : TabOk w1 :=
  ⟨pw_cell_below hb h.c0, pw_cell_below hb h.c1, pw_cell_below hb h.c2, pw_cell_below hb h.c3, pw_cell_below hb h.c4, pw_cell_below hb h.c5, h.mx.below hb⟩
theorem TabOk.drawn {w w1 : World} (h : TabOk w) (hb : Drawn0 w w1) : TabOk w1 := h.below hb.below
theorem TabOk.drewN {w : World} (h : TabOk w) (n : Nat) : TabOk (w.drewN n) := h.drawn ⟨⟨n, rfl⟩⟩
theorem TabOk.lt {w : World} (h : TabOk w) : 0 < w.heap.size := World.block_lt_of_cell? w _ h.c0
end Go.Proofs.YtoanmbhenmlboaaDoorH
end
section
namespace Go.Proofs.YtoanmbhenmlboaaDoor.Pr
open Go.RowKit Go.Proofs.YtoanmbhenmlboaaDoorH Go.Proofs.YtoanmbhenmlboaaDoorW.PrintWords Go.Proofs.YtoanmbhenmlboaaDoorW.PrintLast Go.Proofs.YtoanmbhenmlboaaDoorW.PrintMore
attribute [local go_sem] max2_int min2_int max_two min_two max_three min_three max_four min_four   -- for this text's walks alone
set_option linter.unusedVariables false
set_option linter.unusedSimpArgs false
def errW : Option Int → Value
  | none => .nilIface
  | some c => .iface 0 (.int .i64 c)
theorem errW_none : errW none = .nilIface := rfl
theorem errW_some (c : Int) : errW (some c) = .iface 0 (.int .i64 c) := rfl
theorem info5 : (Tryd.prog.info? 5).map (fun i => (i.zero, i.size, i.bytes)) = some (some (.int .u8 0), 1, 1) := by kernel_rfl
theorem info9 : (Tryd.prog.info? 9).map (fun i => (i.zero, i.size, i.bytes)) = some (some (.string ⟨#[]⟩), 1, 16) := by kernel_rfl
theorem info71 : (Tryd.prog.info? 71).map (fun i => (i.zero, i.size, i.bytes)) = some (some (.agg #[(.string ⟨#[]⟩), (.string ⟨#[]⟩)]), 2, 32) := by kernel_rfl
structure S71 where
  f0 : ByteArray
  f1 : ByteArray
def z71 : S71 := ⟨(⟨#[]⟩ : ByteArray), (⟨#[]⟩ : ByteArray)⟩
def k71 : Kd S71 := Kd.iso (Kd.pair Kd.string Kd.string) (fun x : S71 => (x.f0, x.f1))
theorem k71_open {w : World} {x : S71} {cs : List Value} (h : k71.K w x cs) : cs = [.string x.f0, .string x.f1] := by
  obtain ⟨_, _, rfl, rfl, rfl⟩ := h
  exact rfl
theorem k71_mkM (w : World) (base : Nat) (ok : Nat → Prop) (x : S71)  : k71.M w base ok x [.string x.f0, .string x.f1] := ⟨[.string x.f0], [.string x.f1], rfl, rfl, rfl⟩
def rd_T71 (xs : List S71) (i : Int) : S71 := xs.getD i.toNat z71
theorem at_T71 {w : World} {A : Option Addr} {n : Nat} {xs : List S71} (h : Kd.C k71 w A n xs) (i : Int) (h0 : 0 ≤ i) (h1 : i < n) : ∃ ad , A = some ad ∧ w.cell? (ad.add (i.toNat * 2)) = some (.string (rd_T71 xs i).f0) ∧ w.cell? ⟨(ad.add (i.toNat * 2)).block, (ad.add (i.toNat * 2)).off + 1, none⟩ = some (.string (rd_T71 xs i).f1) := by
  obtain ⟨ad, c, e, _, hK, hc0⟩ := Kd.C_get h z71 i h0 h1
  have hc : ∀ j u, c[j]? = some u → w.cell? (ad.add (i.toNat * 2 + j)) = some u := hc0
  obtain rfl := k71_open hK
  exact ⟨ad, e, hc 0 _ rfl, by rw [← add_field _ _ 1 (by omega)]; exact hc 1 _ rfl⟩
end Go.Proofs.YtoanmbhenmlboaaDoor.Pr
end
section
namespace Go.Proofs.YtoanmbhenmlboaaDoor.Pr
open Go.RowKit Go.Proofs.YtoanmbhenmlboaaDoorH Go.Proofs.YtoanmbhenmlboaaDoorW.PrintWords Go.Proofs.YtoanmbhenmlboaaDoorW.PrintLast Go.Proofs.YtoanmbhenmlboaaDoorW.PrintMore
attribute [local go_sem] max2_int min2_int max_two min_two max_three min_three max_four min_four   -- for this text's walks alone
set_option linter.unusedVariables false
set_option linter.unusedSimpArgs false
theorem eqA57 (d : Nat) (w : World) (x0 y0 : Int) (x1 y1 : Int) :
    (Op.equalIn (d + 2) 57 (.agg #[.int .i64 x0, .int .u64 x1]) (.agg #[.int .i64 y0, .int .u64 y1])).run Tryd.prog w = .ok (x0 == y0 && (x1 == y1)) w := by
  refine eqA_of Tryd.underlying57 (by kernel_rfl) ?_
  refine eqf_cons (by rfl) (by go_simp; rfl) (by go_simp; rfl) (by go_simp) ?_
  exact eqf_last (by rfl) (by go_simp; rfl) (by go_simp; rfl) (by go_simp)
end Go.Proofs.YtoanmbhenmlboaaDoor.Pr
end
section
namespace Go.Proofs.YtoanmbhenmlboaaDoorH
open Go.RowKit Go.Proofs.YtoanmbhenmlboaaDoorW.PrintWords Go.Proofs.YtoanmbhenmlboaaDoorW.PrintLast Go.Proofs.YtoanmbhenmlboaaDoorW.PrintMore
def allB (p : Int → Bool) (s : ByteArray) : Bool := s.data.toList.all fun c => p c.toNat
theorem bt_nat (s : ByteArray) (k : Nat) (h : k < s.size) : bt s (k : Int) = ((s.data.toList.getD k 0).toNat : Int) := by
  have h' : k < s.data.toList.length := by rw [data_length]; exact h
  rw [← rd_bytesOf]
  simp [rd, bytesOf, List.getD_eq_getElem?_getD, List.getElem?_eq_getElem h']
theorem allB_of (p : Int → Bool) (s : ByteArray) (h : ∀ k : Nat, k < s.size → p (bt s k) = true) : allB p s = true := by
  unfold allB
  rw [List.all_eq_true]
  intro c hc
  obtain ⟨k, hk, rfl⟩ := List.mem_iff_getElem.1 hc
  have hk' : k < s.size := by rw [data_length] at hk; exact hk
  have := h k hk'
  rw [bt_nat s k hk'] at this
  rw [List.getD_eq_getElem?_getD, List.getElem?_eq_getElem hk] at this
  exact this
theorem allB_not (p : Int → Bool) (s : ByteArray) (k : Nat) (hk : k < s.size) (h : p (bt s k) = false) : allB p s = false := by
  unfold allB
  rw [List.all_eq_false]
  have hk' : k < s.data.toList.length := by rw [data_length]; exact hk
  refine ⟨s.data.toList[k], List.getElem_mem hk', ?_⟩
  rw [bt_nat s k hk, List.getD_eq_getElem?_getD, List.getElem?_eq_getElem hk'] at h
  simpa using h
theorem bytes_cell (w : World) (e : TypeId) (s : ByteArray) (k : Nat) (hk : k < s.size) {wr : World} (hb : Below (Lib.bytesWorld w e s).heap.size (Lib.bytesWorld w e s) wr) :
    wr.cell? ⟨w.heap.size, k, none⟩ = some (.int .u8 (bt s k)) := by
  rw [hb.cell (p := ⟨w.heap.size, k, none⟩) (by rw [Lib.bytesWorld_size]; simp), Lib.bytesWorld_cell w e s k hk, bt_nat s k hk]
theorem all_step {s : ByteArray} {p : Int → Bool} {k : Nat} (h : ∀ j : Nat, j < k → p (bt s j) = true) (hk : p (bt s k) = true) : ∀ j : Nat, j < k + 1 → p (bt s j) = true := by
  intro j hj
  rcases Nat.lt_succ_iff_lt_or_eq.1 hj with h1 | h1
  · exact h j h1
  · subst h1
    exact hk
set_option maxHeartbeats 800000 in
set_option maxRecDepth 100000 in
theorem all_calls (F : Nat) (p : Int → Bool) (s : ByteArray) (w : World) (hs : s.size ≤ 140737488355328) (hG : TabOk w)
    (eg : ∀ args w, (callFunc F args).run Tryd.prog w = .ok (.enter F args) w)
    (hF : ∀ (c : Int) (w : World), TabOk w → 0 ≤ c → c ≤ 255 → Calls Tryd.prog F #[.int .u8 c] w fun e w' => e = .returned (.bool (p c)) ∧ Below w.heap.size w w') :
    Calls Tryd.prog 77 #[.string s, .func (.func F) #[] #[]] w fun e w' => e = .returned (.bool (allB p s)) ∧ Below w.heap.size w w' := by
  have kb := fun W => print_bytes (P := Tryd.prog) 9 23 5 Tryd.underlying9 Tryd.underlying23 Tryd.underlying5 s W
  have HB0 := Aside0.mk (bytes_below (Below.refl w.heap.size w) (Nat.le_refl _) 5 s)
  have HF := Aside0.mk hF
  have HG := Aside0.mk hG
  clear hF hG
  go_enter Tryd.func77, Tryd.ntmps77
  go_wp2
  clear kb
  go_loopw [10] (fun i wr => ∃ k : Nat, k ≤ s.size ∧ i = .int .i64 k ∧ Aside0 (∀ j : Nat, j < k → p (bt s j) = true) ∧ Aside0 (Below (Lib.bytesWorld w 5 s).heap.size (Lib.bytesWorld w 5 s) wr)) (fun i _ => s.size - (intOf i).toNat)
  case atStart => exact ⟨0, Nat.zero_le _, rfl, ⟨fun j h => by omega⟩, ⟨Below.refl _ _⟩⟩
  case round =>
    obtain ⟨k, hk, rfl, hall, hb⟩ := hrel
    by_cases hlt : k < s.size
    · have hc := bytes_cell w 5 s k hlt hb.out
      have hr := bt_range s k
      have hGr := Aside0.mk ((HG.out.below HB0.out).below hb.out)
      go_wp2_with fail
      refine (HF.out _ _ hGr.out (by omega) (by omega)).mono ?_
      rintro e w' ⟨rfl, hb'⟩
      have HB' := Aside0.mk hb'
      clear hb'
      cases hp : p (bt s k) with
      | true =>
        go_wp2
        go_roundw
        case rel => exact ⟨k + 1, by omega, by go_num, ⟨all_step hall.out hp⟩, ⟨hb.out.trans (HB'.out.mono hb.out.size)⟩⟩
        case measure => simp [intOf]; omega
      | false =>
        go_wp2
        go_ret
        exact ⟨by rw [allB_not p s k hlt hp]; rfl, HB0.out.trans ((hb.out.trans (HB'.out.mono hb.out.size)).mono HB0.out.size)⟩
    · go_wp2
      go_ret
      exact ⟨by rw [allB_of p s (fun j hj => hall.out j (by omega))]; rfl, HB0.out.trans (hb.out.mono HB0.out.size)⟩
def blankI (c : Int) : Bool := (c == 32) || (c == 9)
def textI (c : Int) : Bool := blankI c || (decide (c > 32) && (c != 127))
def otherL : List Int := [33, 35, 36, 37, 38, 39, 42, 43, 45, 46, 94, 95, 96, 124, 126]
def alnumI (c : Int) : Bool := decide (48 ≤ c ∧ c ≤ 57) || decide (65 ≤ c ∧ c ≤ 90) || decide (97 ≤ c ∧ c ≤ 122)
def tokI (c : Int) : Bool := alnumI c || otherL.contains c
theorem alnumI_1 {c : Int} (h : 48 ≤ c ∧ c ≤ 57) : tokI c = true := by simp [tokI, alnumI, h]
theorem alnumI_2 {c : Int} (h : 65 ≤ c ∧ c ≤ 90) : tokI c = true := by simp [tokI, alnumI, h]
theorem alnumI_3 {c : Int} (h : 97 ≤ c ∧ c ≤ 122) : tokI c = true := by simp [tokI, alnumI, h]
theorem alnumI_4 {c : Int} (h : ¬ (48 ≤ c ∧ c ≤ 57)) (h2 : ¬ (65 ≤ c ∧ c ≤ 90)) (h3 : ¬ (97 ≤ c ∧ c ≤ 122)) : tokI c = otherL.contains c := by simp [tokI, alnumI, h, h2, h3]
theorem indexByte_nonneg (l : List UInt8) (c : UInt8) : decide (0 ≤ Lib.indexByte l c) = l.contains c := by
  induction l with
  | nil => rfl
  | cons b l ih =>
    unfold Lib.indexByte
    by_cases h : b == c
    · rw [if_pos h]
      have : (b :: l).contains c = true := by simp at h; simp [h]
      rw [this]; rfl
    · rw [if_neg h]
      have hc : (b :: l).contains c = l.contains c := by
        have h' : ¬ c = b := by intro e; apply h; simp [e]
        simp [h']
      rw [hc, ← ih]
      have := Lib.indexByte_ge l c
      by_cases h2 : Lib.indexByte l c == -1
      · rw [if_pos h2]
        have h2' : Lib.indexByte l c = -1 := by simpa using h2
        rw [h2']
      · rw [if_neg h2]
        have h2' : Lib.indexByte l c ≠ -1 := by simpa using h2
        rw [decide_eq_decide]
        omega
set_option maxHeartbeats 800000 in
set_option maxRecDepth 100000 in
theorem sliteIndexByte_calls (s : ByteArray) (c : Int) (w : World) :
    Calls Tryd.prog 84 #[.string s, .int .u8 c] w fun e w' => e = .returned (.int .i64 (Lib.indexByte s.data.toList c.toNat.toUInt8)) ∧ w' = w := by
  go_enter Tryd.func84, Tryd.ntmps84
  go_wp2
  rw [run_callFunc_extern Tryd.func96 (by kernel_rfl) (by kernel_rfl) (by kernel_rfl) (e := Extern.BytealgIndexByte.indexByte) (by kernel_rfl), Lib.run_indexByteString]
  simp only [Result.andThen]
  rw [Oper.upon_value]
  go_wp2
  go_ret
  exact ⟨rfl, rfl⟩
set_option maxHeartbeats 800000 in
set_option maxRecDepth 100000 in
theorem stringsIndexByte_calls (s : ByteArray) (c : Int) (w : World) :
    Calls Tryd.prog 79 #[.string s, .int .u8 c] w fun e w' => e = .returned (.int .i64 (Lib.indexByte s.data.toList c.toNat.toUInt8)) ∧ w' = w := by
  have H := Aside0.mk (sliteIndexByte_calls s c)
  go_enter Tryd.func79, Tryd.ntmps79
  go_wp2_with fail
  refine (H.out _).mono ?_
  rintro e w' ⟨rfl, rfl⟩
  go_wp2
  go_ret
  exact ⟨rfl, rfl⟩
theorem other_contains (c : Int) (h0 : 0 ≤ c) (h1 : c ≤ 255) : decide (0 ≤ Lib.indexByte (⟨#[33, 35, 36, 37, 38, 39, 42, 43, 45, 46, 94, 95, 96, 124, 126]⟩ : ByteArray).data.toList c.toNat.toUInt8) = otherL.contains c := by
  rw [indexByte_nonneg]
  obtain ⟨n, rfl⟩ := Int.eq_ofNat_of_zero_le h0
  have hn : n < 256 := by omega
  rw [Int.toNat_natCast]
  unfold otherL
  have : ∀ n : Fin 256, [33, 35, 36, 37, 38, 39, 42, 43, 45, 46, 94, 95, 96, 124, 126].contains n.val.toUInt8 = ([33, 35, 36, 37, 38, 39, 42, 43, 45, 46, 94, 95, 96, 124, 126] : List Int).contains (n.val : Int) := by decide +kernel
  exact this ⟨n, hn⟩
set_option maxHeartbeats 800000 in
set_option maxRecDepth 100000 in
theorem token1_calls (c : Int) (w : World) (hG : TabOk w) (h0 : 0 ≤ c) (h1 : c ≤ 255) :
    Calls Tryd.prog 78 #[.int .u8 c] w fun e w' => e = .returned (.bool (tokI c)) ∧ Below w.heap.size w w' := by
  obtain ⟨g0, g1, g2, g3, g4, g5⟩ := hG
  go_enter Tryd.func78, Tryd.ntmps78
  go_wp2
  clear g0 g1 g2 g3 g4 g5
  have i0 : ∀ w, (Instr.index 115 (.agg #[.int .u8 48, .int .u8 57, .int .u8 65, .int .u8 90, .int .u8 97, .int .u8 122]) (.int .i64 0)).run Tryd.prog w = .ok (.agg #[.int .u8 48, .int .u8 57]) w := fun _ => by kernel_rfl
  have i1 : ∀ w, (Instr.index 115 (.agg #[.int .u8 48, .int .u8 57, .int .u8 65, .int .u8 90, .int .u8 97, .int .u8 122]) (.int .i64 1)).run Tryd.prog w = .ok (.agg #[.int .u8 65, .int .u8 90]) w := fun _ => by kernel_rfl
  have i2 : ∀ w, (Instr.index 115 (.agg #[.int .u8 48, .int .u8 57, .int .u8 65, .int .u8 90, .int .u8 97, .int .u8 122]) (.int .i64 2)).run Tryd.prog w = .ok (.agg #[.int .u8 97, .int .u8 122]) w := fun _ => by kernel_rfl
  go_loopw [6] (fun i wr => ∃ k : Nat, k ≤ 3 ∧ i = .int .i64 k ∧ Aside0 ((0 < k → ¬ (48 ≤ c ∧ c ≤ 57)) ∧ (1 < k → ¬ (65 ≤ c ∧ c ≤ 90)) ∧ (2 < k → ¬ (97 ≤ c ∧ c ≤ 122))) ∧ Aside0 (Below w.heap.size w wr)) (fun i _ => 3 - (intOf i).toNat)
  case atStart => exact ⟨0, by omega, rfl, ⟨by omega⟩, ⟨Below.refl _ _⟩⟩
  case round =>
    obtain ⟨k, hk, rfl, hall, hb⟩ := hrel
    have hk' : k = 0 ∨ k = 1 ∨ k = 2 ∨ k = 3 := by omega
    rcases hk' with rfl | rfl | rfl | rfl
    · by_cases hc : 48 ≤ c ∧ c ≤ 57
      · obtain ⟨ha, hb1⟩ := hc
        go_wp2
        go_ret
        exact ⟨by rw [alnumI_1 ⟨ha, hb1⟩]; rfl, hb.out.alloc hb.out.size _⟩
      · have HC := Aside0.mk hc
        by_cases ha : 48 ≤ c
        · have hb1 : 57 < c := by omega
          clear hc
          go_wp2
          go_roundw
          case rel => exact ⟨1, by omega, by go_num, ⟨⟨fun _ => HC.out, by omega⟩⟩, ⟨hb.out.alloc hb.out.size _⟩⟩
          case measure => simp [intOf]
        · have hb1 : c < 48 := by omega
          clear hc ha
          go_wp2
          go_roundw
          case rel => exact ⟨1, by omega, by go_num, ⟨⟨fun _ => HC.out, by omega⟩⟩, ⟨hb.out.alloc hb.out.size _⟩⟩
          case measure => simp [intOf]
    · by_cases hc : 65 ≤ c ∧ c ≤ 90
      · obtain ⟨ha, hb1⟩ := hc
        go_wp2
        go_ret
        exact ⟨by rw [alnumI_2 ⟨ha, hb1⟩]; rfl, hb.out.alloc hb.out.size _⟩
      · have HC := Aside0.mk hc
        by_cases ha : 65 ≤ c
        · have hb1 : 90 < c := by omega
          clear hc
          go_wp2
          go_roundw
          case rel => exact ⟨2, by omega, by go_num, ⟨⟨fun _ => hall.out.1 (by omega), fun _ => HC.out, by omega⟩⟩, ⟨hb.out.alloc hb.out.size _⟩⟩
          case measure => simp [intOf]
        · have hb1 : c < 65 := by omega
          clear hc ha
          go_wp2
          go_roundw
          case rel => exact ⟨2, by omega, by go_num, ⟨⟨fun _ => hall.out.1 (by omega), fun _ => HC.out, by omega⟩⟩, ⟨hb.out.alloc hb.out.size _⟩⟩
          case measure => simp [intOf]
    · by_cases hc : 97 ≤ c ∧ c ≤ 122
      · obtain ⟨ha, hb1⟩ := hc
        go_wp2
        go_ret
        exact ⟨by rw [alnumI_3 ⟨ha, hb1⟩]; rfl, hb.out.alloc hb.out.size _⟩
      · have HC := Aside0.mk hc
        by_cases ha : 97 ≤ c
        · have hb1 : 122 < c := by omega
          clear hc
          go_wp2
          go_roundw
          case rel => exact ⟨3, by omega, by go_num, ⟨⟨fun _ => hall.out.1 (by omega), fun _ => hall.out.2.1 (by omega), fun _ => HC.out⟩⟩, ⟨hb.out.alloc hb.out.size _⟩⟩
          case measure => simp [intOf]
        · have hb1 : c < 97 := by omega
          clear hc ha
          go_wp2
          go_roundw
          case rel => exact ⟨3, by omega, by go_num, ⟨⟨fun _ => hall.out.1 (by omega), fun _ => hall.out.2.1 (by omega), fun _ => HC.out⟩⟩, ⟨hb.out.alloc hb.out.size _⟩⟩
          case measure => simp [intOf]
    · have H := Aside0.mk (stringsIndexByte_calls)
      have HO := Aside0.mk (other_contains c h0 h1)
      go_wp2_with fail
      refine (H.out _ _ _).mono ?_
      rintro e w' ⟨rfl, rfl⟩
      go_wp2
      go_ret
      refine ⟨?_, hb.out⟩
      rw [alnumI_4 (hall.out.1 (by omega)) (hall.out.2.1 (by omega)) (hall.out.2.2 (by omega)), ← HO.out]
      rfl
def tokB (s : ByteArray) : Bool := !(s.data.toList.isEmpty) && allB tokI s
set_option maxHeartbeats 800000 in
set_option maxRecDepth 100000 in
theorem token_calls (s : ByteArray) (w : World) (hs : s.size ≤ 140737488355328) (hG : TabOk w) :
    Calls Tryd.prog 65 #[.string s] w fun e w' => e = .returned (.bool (tokB s)) ∧ Below w.heap.size w w' := by
  have H := Aside0.mk (all_calls 78 tokI s w hs hG (enters_ Tryd.func78 (by kernel_rfl) rfl) (fun c w hG h0 h1 => token1_calls c w hG h0 h1))
  have HT := Aside0.mk (show tokB s = (!(s.data.toList.isEmpty) && allB tokI s) from rfl)
  clear hG
  rw [← ByteArray.toList_eq] at HT
  cases hE : s.toList.isEmpty with
  | true =>
    rw [hE] at HT
    have hE' : s.toList = [] := by simpa using hE
    go_enter Tryd.func65, Tryd.ntmps65
    go_wp2
    go_ret
    exact ⟨by rw [HT.out]; rfl, Below.refl _ _⟩
  | false =>
    rw [hE] at HT
    have hE' : ¬ s.toList = [] := by simpa using hE
    go_enter Tryd.func65, Tryd.ntmps65
    go_wp2_with fail
    refine H.out.mono ?_
    rintro e w' ⟨rfl, hb⟩
    have HB := Aside0.mk hb
    clear hb
    go_wp2
    go_ret
    exact ⟨by rw [HT.out]; rfl, HB.out⟩
end Go.Proofs.YtoanmbhenmlboaaDoorH
end
section
namespace Go.Proofs.YtoanmbhenmlboaaDoorH
open Go.RowKit Go.Proofs.YtoanmbhenmlboaaDoorW.PrintWords Go.Proofs.YtoanmbhenmlboaaDoorW.PrintLast Go.Proofs.YtoanmbhenmlboaaDoorW.PrintMore
def smallI (c : Int) : Int := if 65 ≤ c ∧ c ≤ 90 then c + 32 else c
def smallL (s : ByteArray) : List Int := (bytesOf s).map smallI
def smallS (s : ByteArray) : ByteArray := strOfNums (smallL s)
theorem smallL_length (s : ByteArray) : (smallL s).length = s.size := by unfold smallL; rw [List.length_map, bytesOf_length]
theorem smallL_at (s : ByteArray) (j : Nat) (h : j < s.size) : (smallL s).getD j 0 = smallI (bt s j) := by
  have h' : j < (bytesOf s).length := by rw [bytesOf_length]; exact h
  rw [← rd_bytesOf]
  unfold smallL rd
  rw [List.getD_eq_getElem?_getD, List.getElem?_map, List.getElem?_eq_getElem h', Int.toNat_natCast, List.getD_eq_getElem?_getD, List.getElem?_eq_getElem h']
  rfl
structure SmallAt (w : World) (s : ByteArray) (k : Nat) (wr : World) : Prop where
  below : Below w.heap.size w wr
  size : w.heap.size < wr.heap.size
  low : ∀ j : Nat, j < k → wr.cell? ⟨w.heap.size, j, none⟩ = some (.int .u8 (smallI (bt s j)))
  high : ∀ j : Nat, k ≤ j → j < s.size → wr.cell? ⟨w.heap.size, j, none⟩ = some (.int .u8 (bt s j))
  free : ∀ j : Nat, j < s.size → wr.frozen? ⟨w.heap.size, j, none⟩ = false
theorem SmallAt.start (w : World) (s : ByteArray) (e : TypeId) : SmallAt w s 0 (Lib.bytesWorld w e s) := by
  refine ⟨bytes_below (Below.refl _ _) (Nat.le_refl _) e s, by rw [Lib.bytesWorld_size]; omega, fun j h => by omega, fun j _ h => bytes_cell w e s j h (Below.refl _ _), fun j h => ?_⟩
  have h2 : j < (Lib.bytesCells w e s).size := by
    unfold Lib.bytesCells
    have : s.data.size = s.size := rfl
    simp
    omega
  simp only [World.frozen?, Lib.bytesWorld_at_new]
  simp
  omega
theorem SmallAt.same {w : World} {s : ByteArray} {k : Nat} {wr : World} (h : SmallAt w s k wr) (hk : k < s.size) (hs : smallI (bt s k) = bt s k) : SmallAt w s (k + 1) wr := by
  refine ⟨h.below, h.size, fun j hj => ?_, fun j h1 h2 => h.high j (by omega) h2, h.free⟩
  rcases Nat.lt_succ_iff_lt_or_eq.1 hj with h1 | h1
  · exact h.low j h1
  · subst h1; rw [hs]; exact h.high j (Nat.le_refl _) hk
theorem SmallAt.put {w : World} {s : ByteArray} {k : Nat} {wr : World} (h : SmallAt w s k wr) (hk : k < s.size) {v : Int} (hv : v = smallI (bt s k)) : SmallAt w s (k + 1) (wr.setCell ⟨w.heap.size, k, none⟩ (.int .u8 v)) := by
  subst hv
  have hc := h.high k (Nat.le_refl _) hk
  refine ⟨h.below.setCell (p := ⟨w.heap.size, k, none⟩) (Nat.le_refl _) _, by simpa using h.size, fun j hj => ?_, fun j h1 h2 => ?_, fun j hj => by rw [World.frozen?_setCell]; exact h.free j hj⟩
  · rcases Nat.lt_succ_iff_lt_or_eq.1 hj with h1 | h1
    · rw [World.cell?_setCell_other _ _ _ _ (by intro e; injection e with _ e2; omega)]
      exact h.low j h1
    · subst h1
      exact World.cell?_setCell_same' _ _ _ (by rw [hc]; rfl)
  · rw [World.cell?_setCell_other _ _ _ _ (by intro e; injection e with _ e2; omega)]
    exact h.high j (by omega) h2
set_option maxHeartbeats 800000 in
set_option maxRecDepth 100000 in
theorem small_calls (s : ByteArray) (w : World) (hs : s.size ≤ 140737488355328) (hG : TabOk w) :
    Calls Tryd.prog 66 #[.string s] w fun e w' => e = .returned (.string (smallS s)) ∧ Below w.heap.size w w' := by
  have kb := fun W => print_bytes (P := Tryd.prog) 9 23 5 Tryd.underlying9 Tryd.underlying23 Tryd.underlying5 s W
  have HS := Aside0.mk (SmallAt.start w s 5)
  have HG := Aside0.mk hG
  clear hG
  go_enter Tryd.func66, Tryd.ntmps66
  go_wp2
  clear kb
  go_loopw [10] (fun i wr => ∃ k : Nat, k ≤ s.size ∧ i = .int .i64 k ∧ Aside0 (SmallAt w s k wr)) (fun i _ => s.size - (intOf i).toNat)
  case atStart => exact ⟨0, Nat.zero_le _, rfl, HS⟩
  case round =>
    obtain ⟨k, hk, rfl, hr⟩ := hrel
    have hGr := HG.out.below hr.out.below
    have e2 := hGr.c2
    have e3 := hGr.c3
    clear hGr
    by_cases hlt : k < s.size
    · have hc := hr.out.high k (Nat.le_refl _) hlt
      have hf := hr.out.free k hlt
      have hrg := bt_range s k
      generalize hbt : bt s (k : Int) = c at hc hrg
      have HBT := Aside0.mk hbt
      clear hbt
      by_cases h1 : 65 ≤ c
      · by_cases h2 : c ≤ 90
        · go_wp2
          go_roundw
          case rel => exact ⟨k + 1, by omega, by go_num, ⟨hr.out.put hlt (by rw [HBT.out]; unfold smallI; rw [if_pos ⟨h1, h2⟩])⟩⟩
          case measure => simp [intOf]; omega
        · have h2' : 90 < c := by omega
          clear h2
          go_wp2
          go_roundw
          case rel => exact ⟨k + 1, by omega, by go_num, ⟨hr.out.same hlt (by rw [HBT.out]; unfold smallI; rw [if_neg (by omega)])⟩⟩
          case measure => simp [intOf]; omega
      · have h1' : c < 65 := by omega
        clear h1
        go_wp2
        go_roundw
        case rel => exact ⟨k + 1, by omega, by go_num, ⟨hr.out.same hlt (by rw [HBT.out]; unfold smallI; rw [if_neg (by omega)])⟩⟩
        case measure => simp [intOf]; omega
    · have hke : k = s.size := by omega
      have hcv := run_convert_bytes_arg (P := Tryd.prog) wr 23 5 Tryd.underlying23 Tryd.underlying5 w.heap.size 0 s.size (grownCap w s.size 0 5) (smallL s) (smallL_length s) (fun i hi => by
        rw [Nat.zero_add, hr.out.low i (by omega), smallL_at s i hi]) 9 Tryd.underlying9
      clear hke
      go_wp2
      go_ret
      exact ⟨rfl, hr.out.below⟩
end Go.Proofs.YtoanmbhenmlboaaDoorH
end
section
namespace Go.Proofs
open Go.Shelf
def Tryd.lays160_ren : Go.Shelf.Ren := ⟨fun | 160 => 82 | 232 => 89 | 231 => 88 | 227 => 90 | 234 => 92 | 233 => 91 | 236 => 94 | 235 => 93 | 228 => 98 | 271 => 100 | 151 => 99 | 197 => 86 | 120 => 105 | 152 => 104 | 260 => 97 | 137 => 79 | 119 => 107 | 224 => 102 | 225 => 101 | 217 => 84 | 266 => 96 | n => n, fun | 9 => 9 | 4 => 4 | 3 => 3 | 5 => 5 | 117 => 126 | 116 => 125 | 0 => 0 | 124 => 129 | 21 => 21 | 105 => 120 | 46 => 131 | 119 => 132 | 139 => 135 | 138 => 134 | n => n, fun | 3 => 2 | 4 => 3 | n => n⟩
theorem Tryd.lays160 : Go.Proofs.Lays.n160 Tryd.prog Tryd.lays160_ren := {
  mixed := by kernel_rfl
  f119 := Tryd.func107.trans (congrArg some (by kernel_rfl))
  f120 := Tryd.func105.trans (congrArg some (by kernel_rfl))
  f137 := Tryd.func79.trans (congrArg some (by kernel_rfl))
  f151 := Tryd.func99.trans (congrArg some (by kernel_rfl))
  f152 := Tryd.func104.trans (congrArg some (by kernel_rfl))
  f160 := Tryd.func82.trans (congrArg some (by kernel_rfl))
  f197 := Tryd.func86.trans (congrArg some (by kernel_rfl))
  f217 := Tryd.func84.trans (congrArg some (by kernel_rfl))
  f224 := Tryd.func102.trans (congrArg some (by kernel_rfl))
  f225 := Tryd.func101.trans (congrArg some (by kernel_rfl))
  f227 := Tryd.func90.trans (congrArg some (by kernel_rfl))
  f228 := Tryd.func98.trans (congrArg some (by kernel_rfl))
  f231 := Tryd.func88.trans (congrArg some (by kernel_rfl))
  f232 := Tryd.func89.trans (congrArg some (by kernel_rfl))
  f233 := Tryd.func91.trans (congrArg some (by kernel_rfl))
  f234 := Tryd.func92.trans (congrArg some (by kernel_rfl))
  f235 := Tryd.func93.trans (congrArg some (by kernel_rfl))
  f236 := Tryd.func94.trans (congrArg some (by kernel_rfl))
  f260 := Tryd.func97.trans (congrArg some (by kernel_rfl))
  f266 := Tryd.func96.trans (congrArg some (by kernel_rfl))
  f271 := Tryd.func100.trans (congrArg some (by kernel_rfl))
  t0 := Tryd.underlying0
  a0 := Tryd.isAgg0
  z0 := Tryd.sizeOf0
  v0 := Tryd.zeroValue0
  t3 := Tryd.underlying3
  a3 := Tryd.isAgg3
  z3 := Tryd.sizeOf3
  v3 := Tryd.zeroValue3
  t4 := Tryd.underlying4
  a4 := Tryd.isAgg4
  z4 := Tryd.sizeOf4
  v4 := Tryd.zeroValue4
  t5 := Tryd.underlying5
  a5 := Tryd.isAgg5
  z5 := Tryd.sizeOf5
  v5 := Tryd.zeroValue5
  t9 := Tryd.underlying9
  a9 := Tryd.isAgg9
  z9 := Tryd.sizeOf9
  v9 := Tryd.zeroValue9
  t21 := Tryd.underlying21
  a21 := Tryd.isAgg21
  z21 := Tryd.sizeOf21
  v21 := Tryd.zeroValue21
  t46 := Tryd.underlying131
  a46 := Tryd.isAgg131
  z46 := Tryd.sizeOf131
  v46 := Tryd.zeroValue131
  t105 := Tryd.underlying120
  a105 := Tryd.isAgg120
  z105 := Tryd.sizeOf120
  v105 := Tryd.zeroValue120
  t116 := Tryd.underlying125
  a116 := Tryd.isAgg125
  z116 := Tryd.sizeOf125
  t117 := Tryd.underlying126
  a117 := Tryd.isAgg126
  z117 := Tryd.sizeOf126
  v117 := Tryd.zeroValue126
  t119 := Tryd.underlying132
  a119 := Tryd.isAgg132
  z119 := Tryd.sizeOf132
  t124 := Tryd.underlying129
  a124 := Tryd.isAgg129
  z124 := Tryd.sizeOf129
  v124 := Tryd.zeroValue129
  t138 := Tryd.underlying134
  a138 := Tryd.isAgg134
  z138 := Tryd.sizeOf134
  v138 := Tryd.zeroValue134
  t139 := Tryd.underlying135
  a139 := Tryd.isAgg135
  z139 := Tryd.sizeOf135
  v139 := Tryd.zeroValue135
  g3 := by kernel_rfl
  g4 := by kernel_rfl }
def Tryd.lays143_ren : Go.Shelf.Ren := ⟨fun | 143 => 87 | 219 => 95 | 217 => 84 | 225 => 101 | 224 => 102 | 267 => 103 | 266 => 96 | 314 => 106 | n => n, fun | 9 => 9 | 3 => 3 | 4 => 4 | 5 => 5 | 46 => 131 | 146 => 138 | 51 => 137 | n => n, fun | 1 => 1 | n => n⟩
theorem Tryd.lays143 : Go.Proofs.Lays.n143 Tryd.prog Tryd.lays143_ren := {
  mixed := by kernel_rfl
  f143 := Tryd.func87.trans (congrArg some (by kernel_rfl))
  f217 := Tryd.func84.trans (congrArg some (by kernel_rfl))
  f219 := Tryd.func95.trans (congrArg some (by kernel_rfl))
  f224 := Tryd.func102.trans (congrArg some (by kernel_rfl))
  f225 := Tryd.func101.trans (congrArg some (by kernel_rfl))
  f266 := Tryd.func96.trans (congrArg some (by kernel_rfl))
  f267 := Tryd.func103.trans (congrArg some (by kernel_rfl))
  f314 := Tryd.func106.trans (congrArg some (by kernel_rfl))
  t3 := Tryd.underlying3
  a3 := Tryd.isAgg3
  z3 := Tryd.sizeOf3
  v3 := Tryd.zeroValue3
  t4 := Tryd.underlying4
  a4 := Tryd.isAgg4
  z4 := Tryd.sizeOf4
  v4 := Tryd.zeroValue4
  t5 := Tryd.underlying5
  a5 := Tryd.isAgg5
  z5 := Tryd.sizeOf5
  v5 := Tryd.zeroValue5
  t9 := Tryd.underlying9
  a9 := Tryd.isAgg9
  z9 := Tryd.sizeOf9
  v9 := Tryd.zeroValue9
  t46 := Tryd.underlying131
  a46 := Tryd.isAgg131
  z46 := Tryd.sizeOf131
  v46 := Tryd.zeroValue131
  t51 := Tryd.underlying137
  a51 := Tryd.isAgg137
  z51 := Tryd.sizeOf137
  v51 := Tryd.zeroValue137
  t146 := Tryd.underlying138
  a146 := Tryd.isAgg138
  z146 := Tryd.sizeOf138
  v146 := Tryd.zeroValue138
  g1 := by kernel_rfl }
open Go.RowKit Go.Lib in
theorem Tryd.strings_Index (s sub : ByteArray) (m : Int) (w : World) (hs : s.size < 4294967281) (hm : w.cell? ⟨1, 0, none⟩ = some (.int .i64 m)) :
    Calls Tryd.prog 87 #[.string s, .string sub] w fun e w' => e = .returned (.int .i64 (Lib.index s.data.toList sub.data.toList)) ∧ w' = w := Any.strings_Index Tryd.lays143 s sub m w hs hm
def Tryd.lays145_ren : Go.Shelf.Ren := ⟨fun | 145 => 76 | 220 => 83 | 219 => 95 | 217 => 84 | 225 => 101 | 224 => 102 | 267 => 103 | 266 => 96 | 314 => 106 | n => n, fun | 9 => 9 | 4 => 4 | 59 => 111 | 3 => 3 | 5 => 5 | 46 => 131 | 146 => 138 | 51 => 137 | n => n, fun | 1 => 1 | n => n⟩
theorem Tryd.lays145 : Go.Proofs.Lays.n145 Tryd.prog Tryd.lays145_ren := {
  mixed := by kernel_rfl
  f145 := Tryd.func76.trans (congrArg some (by kernel_rfl))
  f217 := Tryd.func84.trans (congrArg some (by kernel_rfl))
  f219 := Tryd.func95.trans (congrArg some (by kernel_rfl))
  f220 := Tryd.func83.trans (congrArg some (by kernel_rfl))
  f224 := Tryd.func102.trans (congrArg some (by kernel_rfl))
  f225 := Tryd.func101.trans (congrArg some (by kernel_rfl))
  f266 := Tryd.func96.trans (congrArg some (by kernel_rfl))
  f267 := Tryd.func103.trans (congrArg some (by kernel_rfl))
  f314 := Tryd.func106.trans (congrArg some (by kernel_rfl))
  t3 := Tryd.underlying3
  a3 := Tryd.isAgg3
  z3 := Tryd.sizeOf3
  v3 := Tryd.zeroValue3
  t4 := Tryd.underlying4
  a4 := Tryd.isAgg4
  z4 := Tryd.sizeOf4
  v4 := Tryd.zeroValue4
  t5 := Tryd.underlying5
  a5 := Tryd.isAgg5
  z5 := Tryd.sizeOf5
  v5 := Tryd.zeroValue5
  t9 := Tryd.underlying9
  a9 := Tryd.isAgg9
  z9 := Tryd.sizeOf9
  v9 := Tryd.zeroValue9
  t46 := Tryd.underlying131
  a46 := Tryd.isAgg131
  z46 := Tryd.sizeOf131
  v46 := Tryd.zeroValue131
  t51 := Tryd.underlying137
  a51 := Tryd.isAgg137
  z51 := Tryd.sizeOf137
  v51 := Tryd.zeroValue137
  t59 := Tryd.underlying111
  a59 := Tryd.isAgg111
  z59 := Tryd.sizeOf111
  v59 := Tryd.zeroValue111
  t146 := Tryd.underlying138
  a146 := Tryd.isAgg138
  z146 := Tryd.sizeOf138
  v146 := Tryd.zeroValue138
  g1 := by kernel_rfl }
open Go.RowKit Go.Lib in
theorem Tryd.strings_Cut (s sep : ByteArray) (m : Int) (w : World) (hs : s.size < 4294967281) (hm : w.cell? ⟨1, 0, none⟩ = some (.int .i64 m)) :
    Calls Tryd.prog 76 #[.string s, .string sep] w fun e w' => e = .returned (.tuple #[.string ⟨(Lib.cut s.data.toList sep.data.toList).1.toArray⟩, .string ⟨(Lib.cut s.data.toList sep.data.toList).2.1.toArray⟩, .bool (Lib.cut s.data.toList sep.data.toList).2.2]) ∧ ∃ n, w' = w.drewN n := Any.strings_Cut Tryd.lays145 s sep m w hs hm
end Go.Proofs
end
section
namespace Go.Proofs.YtoanmbhenmlboaaDoorH
open Go.RowKit Go.Proofs.YtoanmbhenmlboaaDoorW.PrintWords Go.Proofs.YtoanmbhenmlboaaDoorW.PrintLast Go.Proofs.YtoanmbhenmlboaaDoorW.PrintMore
def trimL (l : List UInt8) : List UInt8 := Lib.trimS l [32, 9]
def trimS (s : ByteArray) : ByteArray := ⟨(trimL s.data.toList).toArray⟩
set_option maxHeartbeats 800000 in
set_option maxRecDepth 100000 in
theorem trim_calls (s : ByteArray) (w : World) (hs : s.size ≤ 140737488355328) :
    Calls Tryd.prog 75 #[.string s] w fun e w' => e = .returned (.string (trimS s)) ∧ Below w.heap.size w w' := by
  have H := Aside0.mk (Any.strings_Trim_laid Tryd.lays160 (by kernel_rfl) s ⟨#[32, 9]⟩ w (by omega) (by decide) (ascii_of_all (by decide)))
  go_enter Tryd.func75, Tryd.ntmps75
  go_wp2_with fail
  refine H.out.mono ?_
  rintro e w' ⟨rfl, hb⟩
  have HB := Aside0.mk hb
  clear hb
  go_wp2
  go_ret
  exact ⟨rfl, HB.out⟩
def octet_Text.f (a0 : ByteArray) : Option Bool := if a0.size ≤ 140737488355328 then some (allB textI a0) else none
def octet_Token.f (a0 : ByteArray) : Option Bool := if a0.size ≤ 140737488355328 then some (tokB a0) else none
def octet_Small.f (a0 : ByteArray) : Option ByteArray := if a0.size ≤ 140737488355328 then some (smallS a0) else none
def octet_Trim.f (a0 : ByteArray) : Option ByteArray := if a0.size ≤ 140737488355328 then some (trimS a0) else none
theorem octet_Trim.calls (a0 : ByteArray) (r : ByteArray) (w : World) (_hG : TabOk w) (h : octet_Trim.f a0 = some r) :
    Calls Tryd.prog 75 #[.string a0] w fun e w' => e = .returned (.string r) ∧ Below w.heap.size w w' := by
  unfold octet_Trim.f at h
  split at h
  · injection h with h; subst h; exact trim_calls a0 w (by assumption)
  · cases h
end Go.Proofs.YtoanmbhenmlboaaDoorH
end
section
namespace Go.Proofs.YtoanmbhenmlboaaDoorH
open Go.RowKit Go.Proofs.YtoanmbhenmlboaaDoorW.PrintWords Go.Proofs.YtoanmbhenmlboaaDoorW.PrintLast Go.Proofs.YtoanmbhenmlboaaDoorW.PrintMore
def strings_Cut.f (a0 a1 : ByteArray) : Option (ByteArray × ByteArray × Bool) := if a0.size < 4294967281 then some (⟨(Lib.cut a0.data.toList a1.data.toList).1.toArray⟩, ⟨(Lib.cut a0.data.toList a1.data.toList).2.1.toArray⟩, (Lib.cut a0.data.toList a1.data.toList).2.2) else none
theorem strings_Cut.calls (a0 a1 : ByteArray) (r1 r2 : ByteArray) (r3 : Bool) (w : World) (hG : TabOk w) (h : strings_Cut.f a0 a1 = some (r1, r2, r3)) :
    Calls Tryd.prog 76 #[.string a0, .string a1] w fun e w' => e = .returned (.tuple #[.string r1, .string r2, .bool r3]) ∧ Below w.heap.size w w' := by
  unfold strings_Cut.f at h
  split at h
  · rename_i hs
    injection h with h
    injection h with h1 h
    injection h with h2 h3
    subst h1 h2 h3
    obtain ⟨m, hm⟩ := hG.mx
    refine (Tryd.strings_Cut a0 a1 m w hs hm).mono ?_
    rintro e w' ⟨rfl, n, rfl⟩
    exact ⟨rfl, (show Drawn0 w (w.drewN n) from ⟨⟨n, rfl⟩⟩).below⟩
  · cases h
end Go.Proofs.YtoanmbhenmlboaaDoorH
end
section
namespace Go.Proofs.YtoanmbhenmlboaaDoorH
open Go.RowKit Go.Proofs.YtoanmbhenmlboaaDoorW.PrintWords Go.Proofs.YtoanmbhenmlboaaDoorW.PrintLast Go.Proofs.YtoanmbhenmlboaaDoorW.PrintMore
theorem take_one {α : Type} (l : List α) (d : α) (k : Nat) (h : k < l.length) : l.take (k + 1) = l.take k ++ [l.getD k d] := by
  rw [List.take_succ_eq_append_getElem h]
  simp [List.getD_eq_getElem?_getD, h]
theorem mem_getD {α : Type} (l : List α) (d : α) (k : Nat) (h : k < l.length) : l.getD k d ∈ l := by
  rw [List.getD_eq_getElem?_getD, List.getElem?_eq_getElem h]
  exact List.getElem_mem h
theorem at_str {w : World} {A : Option Addr} {n : Nat} {xs : List ByteArray} (h : Kd.C Kd.string w A n xs) (k : Nat) (hk : k < n) : ∃ ad, A = some ad ∧ w.cell? (ad.add k) = some (.string (xs.getD k ByteArray.empty)) := by
  obtain ⟨ad, c, e, _, hK, hc0⟩ := Kd.C_get h ByteArray.empty (k : Int) (by omega) (by omega)
  have hc : ∀ j u, c[j]? = some u → w.cell? (ad.add ((k : Int).toNat * 1 + j)) = some u := hc0
  rw [Int.toNat_natCast] at hK hc
  have hK : c = [.string (xs.getD k ByteArray.empty)] := hK
  subst hK
  refine ⟨ad, e, ?_⟩
  have := hc 0 _ rfl
  rwa [Nat.mul_one, Nat.add_zero] at this
theorem any_none {α : Type} (p : α → Bool) (l : List α) (d : α) (k : Nat) (h : ∀ j : Nat, j < k → p (l.getD j d) = false) (hk : k = l.length) : l.any p = false := by
  rw [List.any_eq_false]
  intro x hx
  obtain ⟨i, hi, rfl⟩ := List.mem_iff_getElem.1 hx
  have := h i (by omega)
  rw [List.getD_eq_getElem?_getD, List.getElem?_eq_getElem hi] at this
  simpa using this
theorem any_some {α : Type} (p : α → Bool) (l : List α) (d : α) (k : Nat) (hk : k < l.length) (h : p (l.getD k d) = true) : l.any p = true :=
  List.any_eq_true.2 ⟨_, mem_getD l d k hk, h⟩
end Go.Proofs.YtoanmbhenmlboaaDoorH
end
section
namespace Go.Proofs.YtoanmbhenmlboaaDoorH
open Go.RowKit Go.Proofs.YtoanmbhenmlboaaDoorW.PrintWords Go.Proofs.YtoanmbhenmlboaaDoorW.PrintLast Go.Proofs.YtoanmbhenmlboaaDoorW.PrintMore Go.Proofs.YtoanmbhenmlboaaDoor.Pr
theorem filter_take_length {α : Type} (p : α → Bool) (l : List α) (k : Nat) : ((l.take k).filter p).length ≤ l.length :=
  Nat.le_trans (List.length_filter_le _ _) (by rw [List.length_take]; omega)
set_option maxHeartbeats 1600000 in
set_option maxRecDepth 100000 in
theorem chosenS_calls (F G : Nat) (pb : Addr) (p : S71 → Bool) (m : S71 → ByteArray) (A0 : Option Addr) (c0 : Nat) (l : List S71) (w : World)
    (hr : Kd.C k71 w A0 l.length l) (_hc : l.length ≤ c0) (hn : l.length < 8796093022208)
    (eF : ∀ args w, (callFunc F args).run Tryd.prog w = .ok (.enter F args) w) (eG : ∀ args w, (callFunc G args).run Tryd.prog w = .ok (.enter G args) w)
    (hF : ∀ x ∈ l, ∀ W, Below w.heap.size w W → Calls Tryd.prog F #[.agg #[.string x.f0, .string x.f1], .pointer (some pb)] W fun e W' => e = .returned (.bool (p x)) ∧ Below W.heap.size W W')
    (hG : ∀ x ∈ l, ∀ W, Calls Tryd.prog G #[.agg #[.string x.f0, .string x.f1]] W fun e W' => e = .returned (.string (m x)) ∧ Below W.heap.size W W') :
    Calls Tryd.prog 60 #[.slice A0 l.length c0, .func (.func F) #[] #[.pointer (some pb)], .func (.func G) #[] #[]] w fun e w' =>
      ∃ v, e = .returned v ∧ Kd.R Kd.string 9 w' w.heap.size (fun _ => True) v ((l.filter p).map m) ∧ Below w.heap.size w w' := by
  have HR := Aside0.mk hr
  have HF := Aside0.mk hF
  have HG := Aside0.mk hG
  have HN := Aside0.mk hn
  clear hr hF hG
  go_enter Tryd.func60, Tryd.ntmps60
  go_wp2
  go_loopw [7, 12] (fun v7 v12 wr => ∃ k : Nat, k ≤ l.length ∧ v12 = .int .i64 k ∧ Aside0 (Kd.R Kd.string 9 wr w.heap.size (fun _ => True) v7 (((l.take k).filter p).map m)) ∧ Aside0 (Below w.heap.size w wr)) (fun _ v12 _ => l.length - (intOf v12).toNat)
  case atStart => exact ⟨0, Nat.zero_le _, rfl, ⟨Kd.R_nil _ _ _ _ _⟩, ⟨Below.refl _ _⟩⟩
  case round =>
    obtain ⟨k, hk, rfl, ho, hb⟩ := hrel
    by_cases hlt : k < l.length
    · obtain ⟨ad, e, hx0, hx1⟩ := at_T71 HR.out (k : Int) (by omega) (by omega)
      cases e
      have hx0 := (hb.out.cell (World.block_lt_of_cell? w _ hx0)).trans hx0
      have hx1 := (hb.out.cell (World.block_lt_of_cell? w _ hx1)).trans hx1
      have HX := Aside0.mk (mem_getD l z71 k hlt)
      have HT := Aside0.mk (take_one l z71 k hlt)
      have HLEN := Aside0.mk (filter_take_length p l k)
      unfold rd_T71 at hx0 hx1
      rw [Int.toNat_natCast] at hx0 hx1
      generalize l.getD k z71 = x at *
      go_wp2_with fail
      refine (HF.out x HX.out _ (hb.out.alloc hb.out.size _)).mono ?_
      rintro e w1 ⟨rfl, b1⟩
      have B1 := Aside0.mk ((hb.out.alloc hb.out.size _).trans (b1.mono (Nat.le_trans hb.out.size (by simp))))
      have O1 := Aside0.mk (Kd.R_below (Kd.R_alloc ho.out _) b1)
      have y0 := pw_cell_below b1 (show (wr.alloc (.cells #[.string x.f0, .string x.f1] 71)).cell? ⟨wr.heap.size, 0, none⟩ = some (.string x.f0) by simp)
      have y1 := pw_cell_below b1 (show (wr.alloc (.cells #[.string x.f0, .string x.f1] 71)).cell? ⟨wr.heap.size, 1, none⟩ = some (.string x.f1) by simp)
      clear b1 hx0 hx1
      cases hp : p x with
      | true =>
        have HP := Aside0.mk hp
        clear hp
        go_wp2_with fail
        refine (HG.out x HX.out _).mono ?_
        rintro e w2 ⟨rfl, b2⟩
        have B2 := Aside0.mk (B1.out.trans (b2.mono B1.out.size))
        have O2 := Aside0.mk (Kd.R_below O1.out b2)
        clear b2 y0 y1
        go_wp2_with (first | ((with_reducible refine gate_builtin (b := .append) (xs := #[.tmp 19, .tmp 23]) rfl ?_); at_builtin; refine Kd.R_append Kd.string (w0 := w) w.heap.size rfl (.tmp 19) (.tmp 23) 38 9 (.string ⟨#[]⟩) 16 rfl Tryd.underlying38 info9 rfl (by decide) (by omega) u7 (((l.take k).filter p).map m) (m x) [.string (m x)] (fun _ => True) (fun _ => False) rfl rfl ?aP (fun _ hk => hk.elim) ?aF ?aO ?aB ?aS ?aL ?_; (case aP => exact rfl); (case aB => exact B2.out); (case aF => exact (fun _ _ => trivial)); (case aO => exact O2.out); (case aS => exact B2.out.size); (case aL => have := HLEN.out; have := HN.out; rw [List.length_map]; omega); intro v3 w3 ho3 hb3 hg3 hat3; have O3 := Aside0.mk ho3; have B3 := Aside0.mk hb3; clear ho3 hb3 hg3 hat3))
        go_roundw
        case rel => exact ⟨k + 1, by omega, by go_num, ⟨by rw [HT.out, List.filter_append, List.map_append, List.filter_cons_of_pos HP.out]; exact O3.out⟩, B3⟩
        case measure => simp [intOf]; omega
      | false =>
        have HP := Aside0.mk hp
        clear hp
        go_wp2
        go_roundw
        case rel => exact ⟨k + 1, by omega, by go_num, ⟨by rw [HT.out, List.filter_append, List.map_append, List.filter_cons_of_neg (by simp [HP.out])]; simpa using O1.out⟩, B1⟩
        case measure => simp [intOf]; omega
    · have hke : k = l.length := by omega
      subst hke
      rw [List.take_length] at ho
      go_wp2
      go_ret
      exact ⟨_, rfl, ho.out, hb.out⟩
end Go.Proofs.YtoanmbhenmlboaaDoorH
end
section
namespace Go.Proofs.YtoanmbhenmlboaaDoorH
open Go.RowKit Go.Proofs.YtoanmbhenmlboaaDoorW.PrintWords Go.Proofs.YtoanmbhenmlboaaDoorW.PrintLast Go.Proofs.YtoanmbhenmlboaaDoorW.PrintMore
theorem wrap_up {i : Int} {n : Nat} (h0 : 0 ≤ i) (h : i < (n : Int)) (hn : n ≤ 140737488355328) : wrap64 (i + 1) = i + 1 := by
  unfold wrap64
  omega
theorem bytes_ext {a b : ByteArray} (h : a.data.toList = b.data.toList) : a = b := by
  cases a; cases b
  congr 1
  exact Array.toList_inj.1 h
theorem beq_toList (a b : ByteArray) : (a.toList == b.toList) = decide (a = b) := by
  rw [ByteArray.toList_eq, ByteArray.toList_eq, Bool.eq_iff_iff]
  simp only [beq_iff_eq, decide_eq_true_eq]
  exact ⟨bytes_ext, fun h => by rw [h]⟩
theorem eq_toList (a b : ByteArray) : (a.toList = b.toList) ↔ a = b := by
  rw [ByteArray.toList_eq, ByteArray.toList_eq]
  exact ⟨bytes_ext, fun h => by rw [h]⟩
theorem size_eq_length (s : ByteArray) : s.size = s.data.toList.length := (data_length s).symm
def rtrim (p : UInt8 → Bool) (l : List UInt8) : List UInt8 := (l.reverse.dropWhile p).reverse
def blankU (c : UInt8) : Bool := ([32, 9] : List UInt8).contains c
theorem trimL_eq (l : List UInt8) : trimL l = (rtrim blankU l).dropWhile blankU := rfl
theorem trimS_data (s : ByteArray) : (trimS s).data.toList = trimL s.data.toList := rfl
theorem rtrim_length (p : UInt8 → Bool) (l : List UInt8) : (rtrim p l).length ≤ l.length := by
  unfold rtrim
  have := (List.dropWhile_sublist p (l := l.reverse)).length_le
  simpa using this
theorem trimL_length (l : List UInt8) : (trimL l).length ≤ l.length := by
  rw [trimL_eq]
  exact Nat.le_trans (List.dropWhile_sublist _).length_le (rtrim_length _ _)
theorem trimS_size (s : ByteArray) : (trimS s).size ≤ s.size := by
  rw [size_eq_length, size_eq_length, trimS_data]
  exact trimL_length _
theorem extract_list (s : ByteArray) (i j : Nat) : (s.extract i j).data.toList = (s.data.toList.drop i).take (j - i) := by
  rw [ByteArray.data_extract, Array.toList_extract, List.extract_eq_take_drop]
theorem extract_from (s : ByteArray) (i : Nat) : (s.extract i s.size).data.toList = s.data.toList.drop i := by
  rw [extract_list, List.take_of_length_le]
  rw [List.length_drop, data_length]
  exact Nat.le_refl _
theorem extract_to (s : ByteArray) (j : Nat) : (s.extract 0 j).data.toList = s.data.toList.take j := by
  rw [extract_list, List.drop_zero, Nat.sub_zero]
theorem drop_byte (s : ByteArray) (i : Nat) (h : i < s.size) : ∃ c, s.data.toList.drop i = c :: s.data.toList.drop (i + 1) ∧ bt s (i : Int) = (c.toNat : Int) := by
  have hi : i < s.data.toList.length := by rw [← size_eq_length]; exact h
  refine ⟨s.data.toList[i], List.drop_eq_getElem_cons hi, ?_⟩
  rw [bt_nat s i h, List.getD_eq_getElem?_getD, List.getElem?_eq_getElem hi]
  rfl
end Go.Proofs.YtoanmbhenmlboaaDoorH
end
section
namespace Go.Proofs.YtoanmbhenmlboaaDoorH
open Go.RowKit Go.Proofs.YtoanmbhenmlboaaDoorW.PrintWords Go.Proofs.YtoanmbhenmlboaaDoorW.PrintLast Go.Proofs.YtoanmbhenmlboaaDoorW.PrintMore
def alikeB (a b : ByteArray) : Bool := decide (smallS a = smallS b)
set_option maxHeartbeats 800000 in
set_option maxRecDepth 100000 in
theorem alike_calls (a b : ByteArray) (w : World) (ha : a.size ≤ 140737488355328) (hb : b.size ≤ 140737488355328) (hG : TabOk w) :
    Calls Tryd.prog 58 #[.string a, .string b] w fun e w' => e = .returned (.bool (alikeB a b)) ∧ Below w.heap.size w w' := by
  have HE := Aside0.mk (show alikeB a b = ((smallS a).toList == (smallS b).toList) from (beq_toList _ _).symm)
  have HG := Aside0.mk hG
  clear hG
  go_enter Tryd.func58, Tryd.ntmps58
  go_wp2_with fail
  refine (small_calls a w ha HG.out).mono ?_
  rintro e w1 ⟨rfl, b1⟩
  have B1 := Aside0.mk b1
  clear b1
  go_wp2_with fail
  refine (small_calls b w1 hb (HG.out.below B1.out)).mono ?_
  rintro e w2 ⟨rfl, b2⟩
  have B2 := Aside0.mk (B1.out.trans (b2.mono B1.out.size))
  clear b2
  go_wp2
  go_ret
  exact ⟨by rw [HE.out]; rfl, B2.out⟩
end Go.Proofs.YtoanmbhenmlboaaDoorH
end
section
namespace Go.Proofs.YtoanmbhenmlboaaDoorH
open Go.RowKit Go.Proofs.YtoanmbhenmlboaaDoorW.PrintWords Go.Proofs.YtoanmbhenmlboaaDoorW.PrintLast Go.Proofs.YtoanmbhenmlboaaDoorW.PrintMore Go.Proofs.YtoanmbhenmlboaaDoor.Pr
def isB (x : S71) (n : ByteArray) : Bool := alikeB x.f0 n
set_option maxHeartbeats 800000 in
set_option maxRecDepth 100000 in
theorem is_calls (x0 x1 n : ByteArray) (w : World) (ha : x0.size ≤ 140737488355328) (hb : n.size ≤ 140737488355328) (hG : TabOk w) :
    Calls Tryd.prog 62 #[.agg #[.string x0, .string x1], .string n] w fun e w' => e = .returned (.bool (alikeB x0 n)) ∧ Below w.heap.size w w' := by
  have HG := Aside0.mk hG
  clear hG
  go_enter Tryd.func62, Tryd.ntmps62
  go_wp2_with fail
  refine (alike_calls x0 n _ ha hb (HG.out.below (below_alloc (Below.refl _ _) _))).mono ?_
  rintro e w1 ⟨rfl, b1⟩
  have B1 := Aside0.mk (below_step (below_alloc (Below.refl w.heap.size w) _) b1)
  clear b1
  go_wp2
  go_ret
  exact ⟨rfl, B1.out⟩
set_option maxHeartbeats 800000 in
set_option maxRecDepth 100000 in
theorem get1_calls (x : S71) (n : ByteArray) (pb : Addr) (w : World) (ha : x.f0.size ≤ 140737488355328) (hb : n.size ≤ 140737488355328) (hG : TabOk w) (hp : w.cell? pb = some (.string n)) :
    Calls Tryd.prog 61 #[.agg #[.string x.f0, .string x.f1], .pointer (some pb)] w fun e w' => e = .returned (.bool (isB x n)) ∧ Below w.heap.size w w' := by
  have HG := Aside0.mk hG
  have hp1 := pw_cell_below (below_alloc (Below.refl w.heap.size w) (.cells #[.string x.f0, .string x.f1] 71)) hp
  clear hG hp
  go_enter Tryd.func61, Tryd.ntmps61
  go_wp2_with fail
  refine (is_calls x.f0 x.f1 n _ ha hb (HG.out.below (below_alloc (Below.refl _ _) _))).mono ?_
  rintro e w1 ⟨rfl, b1⟩
  have B1 := Aside0.mk (below_step (below_alloc (Below.refl w.heap.size w) _) b1)
  clear b1
  go_wp2
  go_ret
  exact ⟨rfl, B1.out⟩
set_option maxHeartbeats 800000 in
set_option maxRecDepth 100000 in
theorem get2_calls (x : S71) (w : World) :
    Calls Tryd.prog 63 #[.agg #[.string x.f0, .string x.f1]] w fun e w' => e = .returned (.string x.f1) ∧ Below w.heap.size w w' := by
  go_enter Tryd.func63, Tryd.ntmps63
  go_wp2
  go_ret
  exact ⟨rfl, below_alloc (Below.refl _ _) _⟩
def fitF (l : List S71) : Bool := l.all fun x => decide (x.f0.size ≤ 140737488355328)
theorem fitF_at {l : List S71} (h : fitF l = true) (x : S71) (hx : x ∈ l) : x.f0.size ≤ 140737488355328 := of_decide_eq_true (List.all_eq_true.1 h x hx)
def getL (l : List S71) (n : ByteArray) : List ByteArray := (l.filter fun x => isB x n).map fun x => x.f1
set_option maxHeartbeats 800000 in
set_option maxRecDepth 100000 in
theorem get_calls (A0 : Option Addr) (c0 : Nat) (l : List S71) (n : ByteArray) (w : World) (hr : Kd.C k71 w A0 l.length l) (hc : l.length ≤ c0)
    (hn : l.length < 8796093022208) (hl : fitF l = true) (hb : n.size ≤ 140737488355328) (hG : TabOk w) :
    Calls Tryd.prog 50 #[.slice A0 l.length c0, .string n] w fun e w' => ∃ v, e = .returned v ∧ Kd.R Kd.string 9 w' w.heap.size (fun _ => True) v (getL l n) ∧ Below w.heap.size w w' := by
  have HB0 := Aside0.mk (below_alloc (Below.refl w.heap.size w) (.cells #[.string n] 9))
  have hp0 : (w.alloc (.cells #[.string n] 9)).cell? ⟨w.heap.size, 0, none⟩ = some (.string n) := by simp
  have H := Aside0.mk (chosenS_calls 61 63 ⟨w.heap.size, 0, none⟩ (fun x => isB x n) (fun x => x.f1) A0 c0 l (w.alloc (.cells #[.string n] 9))
    (Kd.C_below hr HB0.out) hc hn (enters_ Tryd.func61 (by kernel_rfl) rfl) (enters_ Tryd.func63 (by kernel_rfl) rfl)
    (fun x hx W hW => get1_calls x n _ W (fitF_at hl x hx) hb ((hG.below HB0.out).below hW) (pw_cell_below hW hp0))
    (fun x _ W => get2_calls x W))
  clear hr hc hn hl hb hG hp0
  go_enter Tryd.func50, Tryd.ntmps50
  go_wp2_with fail
  refine H.out.mono ?_
  rintro e w1 ⟨v, rfl, ho, b1⟩
  have O1 := Aside0.mk (Kd.R_lower (base' := w.heap.size) ho (by simp))
  have B1 := Aside0.mk (below_step HB0.out b1)
  clear ho b1 H
  go_wp2
  go_ret
  exact ⟨v, rfl, O1.out, B1.out⟩
def field_Get.f (l0 : List S71) (a1 : ByteArray) : Option (List ByteArray) := if (decide (l0.length < 8796093022208) && fitF l0 && decide (a1.size ≤ 140737488355328)) = true then some (getL l0 a1) else none
theorem field_Get.calls (A0 : Option Addr) (c0 : Nat) (l0 : List S71) (a1 : ByteArray) (r : List ByteArray) (w : World) (hr0 : Kd.C k71 w A0 l0.length l0) (hc0 : l0.length ≤ c0) (hG : TabOk w) (h : field_Get.f l0 a1 = some r) :
    Calls Tryd.prog 50 #[.slice A0 l0.length c0, .string a1] w fun e w' => ∃ v0_ : Value, e = .returned (v0_) ∧ Kd.R Kd.string 9 w' w.heap.size (fun _ => True) v0_ r ∧ Below w.heap.size w w' := by
  unfold field_Get.f at h
  split at h
  · rename_i hh
    rw [Bool.and_eq_true, Bool.and_eq_true] at hh
    injection h with h
    subst h
    exact get_calls A0 c0 l0 a1 w hr0 hc0 (of_decide_eq_true hh.1.1) hh.1.2 (of_decide_eq_true hh.2) hG
  · cases h
def fitS (l : List ByteArray) : Bool := l.all fun x => decide (x.size ≤ 140737488355328)
def namedB (names : List ByteArray) (x : S71) : Bool := names.any fun n => isB x n
def withoutL (l : List S71) (names : List ByteArray) : List S71 := l.filter fun x => !(namedB names x)
def field_Without.f (l0 : List S71) (l1 : List ByteArray) : Option (List S71) := if (decide (l0.length < 4398046511104) && fitF l0 && decide (l1.length < 8796093022208) && fitS l1) = true then some (withoutL l0 l1) else none
end Go.Proofs.YtoanmbhenmlboaaDoorH
end
section
namespace Go.Proofs.YtoanmbhenmlboaaDoorH
open Go Go.RowKit
theorem room_none {F : Fence} (hd : F.depth = none) (k : Nat) : F.room k := fun d h => by rw [hd] at h; cases h
theorem round_any {F : Fence} (hd : F.depth = none) {m m' : Nat} {P : Program} {l : Nat} {f : FuncId} {tmps : Array Value} {assign body : Code} {w : World} {R : Ending → World → Prop}
    (h : RoundIn F m P l f tmps assign body w R) : RoundIn F m' P l f tmps assign body w R := ⟨h.1, fun c cs _ => h.2 c cs (room_none hd _)⟩
def Abd {β : Type} (Z : Nat → Prop) (B : Nat) (J : β → Option Nat → World → Prop) : Prop :=
  ∀ s g A C row, J s g A → A.grownBy C row → (∀ r, row = some r → (B ≤ r ∧ some r ≠ g) ∨ Z r) → J s g C
structure Spares (K : Nat → Prop) (g g' : Option Nat) (W W' : World) : Prop where
  size : W.heap.size ≤ W'.heap.size
  own : g' = g ∨ ∃ b, g' = some b ∧ W.heap.size ≤ b ∧ b < W'.heap.size
  same : ∀ k, K k → k < W.heap.size → some k ≠ g → W'.heap[k]? = W.heap[k]?
theorem Spares.refl (K : Nat → Prop) (g : Option Nat) (W : World) : Spares K g g W W := ⟨Nat.le_refl _, .inl rfl, fun _ _ _ _ => rfl⟩
theorem Spares.trans {K : Nat → Prop} {g g' g'' : Option Nat} {A B C : World} (h : Spares K g g' A B) (h' : Spares K g' g'' B C) : Spares K g g'' A C := by
  refine ⟨Nat.le_trans h.size h'.size, ?_, fun k hk hlt hne => ?_⟩
  · rcases h'.own with e | ⟨b, e, hb, hb2⟩
    · rcases h.own with e2 | ⟨b, e2, hb, hb2⟩
      · exact .inl (e.trans e2)
      · exact .inr ⟨b, e.trans e2, hb, Nat.lt_of_lt_of_le hb2 h'.size⟩
    · exact .inr ⟨b, e, Nat.le_trans h.size hb, hb2⟩
  · refine (h'.same k hk (Nat.lt_of_lt_of_le hlt h.size) ?_).trans (h.same k hk hlt hne)
    rcases h.own with e | ⟨b, e, hb, _⟩
    · rw [e]; exact hne
    · rw [e]; intro h; cases h; omega
theorem Spares.imp {K K' : Nat → Prop} {g g' : Option Nat} {A B : World} (h : Spares K g g' A B) (hk : ∀ k, K' k → k < A.heap.size → K k) : Spares K' g g' A B := ⟨h.size, h.own, fun k a b c => h.same k (hk k a b) b c⟩
theorem grown_below {W W' : World} (h : Below W.heap.size W W') : W.grownBy W' none := ⟨h.os, h.tape, h.output, h.size, fun k hk _ => h.block k hk⟩
theorem Spares.below {K : Nat → Prop} {g : Option Nat} {W W' : World} (h : Below W.heap.size W W') : Spares K g g W W' := ⟨h.size, .inl rfl, fun k _ hk _ => h.block k hk⟩
theorem Spares.turned {K : Nat → Prop} {g : Option Nat} {W W' : World} {row : Option Nat} (h : W.grownBy W' row) (hr : ∀ r, row = some r → K r → some r = g) : Spares K g g W W' :=
  ⟨h.size, .inl rfl, fun k hk hlt hne => h.block k hlt (fun e => hne (hr k e.symm hk))⟩
theorem Abd.step {β : Type} {Z : Nat → Prop} {B : Nat} {I : β → Option Nat → World → Prop} (h : Abd Z B I) {s : β} {g : Option Nat} {W W' : World} (hs : I s g W) (hb : W.grownBy W' none) : I s g W' := h s g W _ none hs hb (fun r e => by cases e)
theorem Abd.putObj {β : Type} {Z : Nat → Prop} {B : Nat} {I : β → Option Nat → World → Prop} (h : Abd Z B I) {s : β} {g : Option Nat} {W : World} {l : Nat} (o' : Obj) (hs : I s g W) (hB : B ≤ l) (hl : some l ≠ g) : I s g (W.putObj l o') :=
  h s g W _ (some l) hs (grownBy_putObj' W l o') (fun r e => by cases e; exact .inl ⟨hB, hl⟩)
theorem Abd.alloc {β : Type} {Z : Nat → Prop} {B : Nat} {I : β → Option Nat → World → Prop} (h : Abd Z B I) {s : β} {g : Option Nat} {W : World} (o : Obj) (hs : I s g W) : I s g (W.alloc o) :=
  h.step hs (World.grownBy_alloc W o none)
theorem Abd.and {β : Type} {Z : Nat → Prop} {B : Nat} {I I' : β → Option Nat → World → Prop} (h : Abd Z B I) (h' : Abd Z B I') : Abd Z B (fun s g W => I s g W ∧ I' s g W) := fun s g A C row hs hg hr => ⟨h s g A C row hs.1 hg hr, h' s g A C row hs.2 hg hr⟩
theorem Abd.pure {β : Type} {Z : Nat → Prop} {B : Nat} (p : β → Option Nat → Prop) : Abd Z B (fun s g (_ : World) => p s g) := fun _ _ _ _ _ hs _ _ => hs
theorem Abd.imp {β : Type} {Z Z' : Nat → Prop} {B B' : Nat} {I : β → Option Nat → World → Prop} (h : Abd Z B I) (hB : B ≤ B') (hZ : ∀ r, Z' r → Z r) : Abd Z' B' I := fun s g A C row hs hg hr => h s g A C row hs hg (fun r e => (hr r e).elim (fun k => .inl ⟨Nat.le_trans hB k.1, k.2⟩) (fun k => .inr (hZ r k)))
theorem Abd.low {β : Type} {Z : Nat → Prop} {B n₀ : Nat} {w : World} (hB : n₀ ≤ B) (hw : n₀ ≤ w.heap.size) (hZ : ∀ r, Z r → n₀ ≤ r) : Abd Z B (fun (_ : β) _ W => Below n₀ w W) := fun _ _ _ _ _ hs hg hr =>
  hs.grown hg (Nat.le_trans hw hs.size) (fun k e => (hr k e).elim (fun h => Nat.le_trans hB h.1) (fun h => hZ k h))
theorem Abd.block {β : Type} {Z : Nat → Prop} {B b : Nat} (f : β → Obj) (hB : b < B) (hZ : ¬ Z b) : Abd Z B (fun (s : β) _ W => W.heap[b]? = some (f s)) := fun _ _ _ _ _ hs hg hr =>
  (hg.block b (Array.getElem?_eq_some_iff.1 hs).1 (fun e => (hr b e.symm).elim (fun h => by omega) (fun h => hZ h))).trans hs
theorem Abd.rowed {β : Type} {Z : Nat → Prop} {B n₀ b : Nat} {t e : TypeId} {size : Nat} (k : β → Nat) (f : β → List Value) (m : Nat) (hm : B ≤ m) (hB : b < B) (hZ : ¬ Z b) (hZB : ∀ r, Z r → r < B) :
    Abd Z B (fun (s : β) g W => (∀ q, g = some q → m ≤ q) ∧ ∃ v, v.ownBlock = g ∧ Boxed W b t v ∧ W.ownsRow n₀ e size v (k s) (f s)) := by
  rintro s g A C row ⟨hgB, v, rfl, hb, hr⟩ hg hrow
  refine ⟨hgB, v, rfl, hb.kept hg (fun e' => (hrow b e'.symm).elim (fun h => by omega) (fun h => hZ h)), hr.kept hg ?_⟩
  cases hv : v.ownBlock with
  | none => exact .inl rfl
  | some q => exact .inr (fun e' => (hrow q e'.symm).elim (fun h => h.2 hv.symm) (fun h => by have := hZB q h; have := hgB q hv; omega))
def SeqO {α : Type} (F : Fence) (n : Nat) (P : Program) (gf : Nat) (lb : Array Value) (encs : α → Array Value) (Kz Z : Nat → Prop) (S Sp : List α → Prop) (w : World) : Prop :=
  ∀ (l : Nat) (J Jx : List α → Option Nat → World → Prop) (g0 : Option Nat) (W : World), Below w.heap.size w W → Abd Z W.heap.size J → Abd Z W.heap.size Jx → (∀ q, g0 = some q → ¬ Kz q ∧ q < W.heap.size) →
    (∀ m pre x g W1, J pre g W1 → Sp (pre ++ [x]) → YieldAt F m P l (encs x) W1 fun e W' => ∃ g', Spares (fun k => W.heap.size ≤ k ∨ Kz k) g g' W1 W' ∧
      ((e = .returned (.bool true) ∧ J (pre ++ [x]) g' W') ∨ (e = .returned (.bool false) ∧ Jx (pre ++ [x]) g' W'))) →
    J [] g0 W →
    CallsIn F n P gf (#[.func (.yield l) #[] #[]] ++ lb) W fun e W' => (∃ v, e = .returned v) ∧ ((∃ xs g, S xs ∧ J xs g W') ∨ (∃ pre g, Sp pre ∧ Jx pre g W'))
def leftO {α : Type} (K : Nat → Prop) (I : List α → Option Nat → World → Prop) (Ix : Code → List α → Option Nat → World → Prop) (xs : List α) (g : Option Nat) (W : World) : Exit → Act → World → Prop
  | .normal, _, W' => ∃ g', Spares K g g' W W' ∧ I xs g' W'
  | .ret, _, W' => ∃ g', Spares K g g' W W' ∧ Ix .ret xs g' W'
  | .exit id, _, W' => ∃ g', Spares K g g' W W' ∧ Ix (.exit id) xs g' W'
  | .goto t, _, W' => ∃ g', Spares K g g' W W' ∧ Ix (.goto t) xs g' W'
  | .panic _, _, _ => False
  | .outgrown, _, _ => False
theorem wpIn_range_own {F : Fence} {n : Nat} {P : Program} {α : Type} {f : Operand} {ps : Array Tmp} {assign body : Code} {Q : Exit → Act → World → Prop} {a : Act} {w : World}
    (hd : F.depth = none) (hro : F.round = none) (h1 : 1 ≤ n) {gf : Nat} {lb : Array Value} (hf : a.eval f = .func (.func gf) #[] lb) (hFg : F.fn gf) (eg : ∀ args w, (callFunc gf args).run P w = .ok (.enter gf args) w)
    {encs : α → Array Value} {Kz Z : Nat → Prop} {S Sp : List α → Prop} {w0 : World} (hseq : SeqO F (n - 1) P gf lb encs Kz Z S Sp w0)
    (hb0 : Below w0.heap.size w0 w) (hZ : ∀ r, Z r → r < w.heap.size) (hKz : ∀ r, Kz r → r < w.heap.size) (hps : ∀ x, (encs x).size = ps.size)
    (g0 : Option Nat) (hg0 : ∀ q, g0 = some q → ¬ Kz q ∧ q < w.heap.size) (I : List α → Option Nat → World → Prop) (Ix : Code → List α → Option Nat → World → Prop) (hI : Abd Z w.heap.size I) (hIx : ∀ c, Abd Z w.heap.size (Ix c)) (h0 : I [] g0 w)
    (hIg : ∀ pre g W q, I pre g W → g = some q → q < w.heap.size ∨ w.heap.size + 2 ≤ q) (hIxg : ∀ c pre g W q, Ix c pre g W → g = some q → q < w.heap.size ∨ w.heap.size + 2 ≤ q)
    (Ax : α → Act → World → Prop) (hAx : ∀ x a', Abd (fun _ => False) w.heap.size (fun (_ : Unit) (_ : Option Nat) W => Ax x a' W))
    (hassign : ∀ (l : Nat) (pre : List α) (x : α) (g : Option Nat) (W : World) (K : Act → World → Prop), I pre g W → (∀ a' W', Spares (fun k => w.heap.size ≤ k ∨ Kz k) g g W W' → I pre g W' → Ax x a' W' → K a' W') →
      assign.wpIn (F.inRound l) (n - 1 - 1) P (Exit.then K (fun _ _ _ => False)) { tmps := (ps.zip (encs x)).foldl (fun t (p, v) => t.setIfInBounds p v) a.tmps, defers := [] } W)
    (hbody : ∀ (l : Nat) (pre : List α) (x : α) (g : Option Nat) (a' : Act) (W : World), w.heap.size + 2 ≤ W.heap.size → I pre g W → Ax x a' W → Sp (pre ++ [x]) → body.wpIn (F.inRound l) (n - 1 - 1) P (leftO (fun k => w.heap.size ≤ k ∨ Kz k) I Ix (pre ++ [x]) g W) a' W)
    (hdone : ∀ (D : Nat) (xs : List α) (g : Option Nat) (W : World), D = w.heap.size → S xs → I xs g W → W.heap[D]? = some (.deferred (some [])) → Q .normal { a with defers := { target := .collected D, args := #[] } :: a.defers } W)
    (hstop : ∀ (D : Nat) (c : Code) (pre : List α) (g : Option Nat) (W : World), D = w.heap.size → Sp pre → Ix c pre g W → W.heap[D]? = some (.deferred (some [])) → c.wpIn F n P Q { a with defers := { target := .collected D, args := #[] } :: a.defers } W) :
    (Code.rangeFunc f ps assign body).wpIn F n P Q a w := by
  refine wpIn_rangeFunc ?_
  intro fn hfn
  rw [hro]
  obtain ⟨rec, hrec⟩ : ∃ rec : LoopState → Option Code → Loop, rec = fun st pe => { state := st, pending := pe, fn, tmps := a.tmps, params := ps, assign, body, defers := w.heap.size } := ⟨_, rfl⟩
  obtain ⟨W1, hW1⟩ : ∃ W1, (w.alloc (.deferred (some []))).alloc (.loop (rec .ready none)) = W1 := ⟨_, rfl⟩
  have hsz : W1.heap.size = w.heap.size + 2 := by rw [← hW1, World.size_alloc, World.size_alloc]
  have hL1 : W1.heap[w.heap.size + 1]? = some (.loop (rec .ready none)) := by
    rw [← hW1]; have := World.alloc_heap_new (w.alloc (.deferred (some []))) (.loop (rec .ready none)); rwa [World.size_alloc] at this
  have hK1 : W1.heap[w.heap.size]? = some (.deferred (some [])) := by
    rw [← hW1]; exact (Below.heap_alloc _ _ _ (by simp)).trans (World.alloc_heap_new w _)
  have hI1 : I [] g0 W1 := by rw [← hW1]; exact hI.alloc _ (hI.alloc _ h0)
  have hb1 : Below w0.heap.size w0 W1 := by
    rw [← hW1]; exact hb0.trans ((((Below.refl _ w).alloc (Nat.le_refl _) _).alloc (by simp) _).mono hb0.size)
  refine ⟨w.heap.size + 1, [{ target := .collected w.heap.size, args := #[] }], W1, { target := .fn (.func gf) lb, args := #[.func (.yield (w.heap.size + 1)) #[] #[]] }, W1, gf,
    #[.func (.yield (w.heap.size + 1)) #[] #[]] ++ lb, W1, ?_, ?_, ?_, ?_, fun _ => h1, ?_⟩
  · rw [← hW1, hrec]; exact run_enterLoop_outer _ _ _ _ _
  · simp only [resolve, hf]
    simp [go_sem]
  · intro f' hf'; simp [Target.leads] at hf'; subst hf'; exact hFg
  · simp [invoke, go_sem, eg]
  · -- which blocks the iterator turns, said of the caller's side
    have hrow : ∀ {g : Option Nat} {row : Option Nat}, (∀ r, row = some r → (W1.heap.size ≤ r ∧ some r ≠ g) ∨ Z r) → (∀ r, row = some r → (w.heap.size ≤ r ∧ some r ≠ g) ∨ Z r) :=
      fun hr r e => (hr r e).elim (fun k => .inl ⟨by have := k.1; omega, k.2⟩) .inr
    have hlies : ∀ {A C : World} {g : Option Nat} {row : Option Nat} {k : Nat} {o : Obj}, A.grownBy C row → (∀ r, row = some r → (W1.heap.size ≤ r ∧ some r ≠ g) ∨ Z r) → w.heap.size ≤ k → k < W1.heap.size → A.heap[k]? = some o → C.heap[k]? = some o :=
      fun hg' hr h2 h3 hk => (hg'.block _ (Array.getElem?_eq_some_iff.1 hk).1 (fun e => (hr _ e.symm).elim (fun k => by have := k.1; omega) (fun k => by have := hZ _ k; omega))).trans hk
    refine (hseq (w.heap.size + 1)
      (fun pre g W => I pre g W ∧ W.heap[w.heap.size + 1]? = some (.loop (rec .ready none)) ∧ W.heap[w.heap.size]? = some (.deferred (some [])))
      (fun pre g W => ∃ c, Ix c pre g W ∧ W.heap[w.heap.size + 1]? = some (.loop (rec .done (some c))) ∧ W.heap[w.heap.size]? = some (.deferred (some [])))
      g0 W1 hb1
      (fun s g A B row hs hg' hr => ⟨hI s g A B row hs.1 hg' (hrow hr), hlies hg' hr (by omega) (by omega) hs.2.1, hlies hg' hr (by omega) (by omega) hs.2.2⟩)
      (fun s g A B row hs hg' hr => by
        obtain ⟨c, hc, hl, hk⟩ := hs
        exact ⟨c, hIx c s g A B row hc hg' (hrow hr), hlies hg' hr (by omega) (by omega) hl, hlies hg' hr (by omega) (by omega) hk⟩)
      (fun q e => ⟨(hg0 q e).1, by have := (hg0 q e).2; omega⟩) ?_ ⟨hI1, hL1, hK1⟩).mono ?_
    · -- one round
      rintro m pre x g W ⟨hi, hl, hk⟩ hlen
      have hlt : w.heap.size + 1 < W.heap.size := (Array.getElem?_eq_some_iff.1 hl).1
      have hy := run_yield (P := P) (args := encs x) hl (by rw [hrec]; exact hps x)
      rw [hrec] at hy
      refine ⟨fn, _, assign, body, hy, round_any hd (m := n - 1 - 1) (roundIn_of_wpIn hfn (hassign _ pre x g W _ hi ?_))⟩
      clear hy
      intro a' Wa hsa hia hax
      have hgq : ∀ q, g = some q → q < w.heap.size ∨ w.heap.size + 2 ≤ q := fun q e => hIg pre g W q hi e
      have hl := (hsa.same _ (.inl (by omega)) hlt (fun e => by have := hgq _ e.symm; omega)).trans hl
      have hk := (hsa.same w.heap.size (.inl (Nat.le_refl _)) (by omega) (fun e => by have := hgq _ e.symm; omega)).trans hk
      have hlt2 : w.heap.size + 1 < Wa.heap.size := (Array.getElem?_eq_some_iff.1 hl).1
      refine ⟨_, run_beginRound hl (by rw [hrec]), ?_⟩
      obtain ⟨Wb, hWb⟩ : ∃ Wb, Wa.putObj (w.heap.size + 1) (.loop { rec .ready none with state := .busy }) = Wb := ⟨_, rfl⟩
      have hl2 : Wb.heap[w.heap.size + 1]? = some (.loop { rec .ready none with state := .busy }) := by rw [← hWb]; exact World.putObj_heap_same hlt2
      have hk2 : Wb.heap[w.heap.size]? = some (.deferred (some [])) := by rw [← hWb]; exact (World.putObj_heap_other (by omega)).trans hk
      have hne : some (w.heap.size + 1) ≠ g := fun e => by have := hgq _ e.symm; omega
      have hIb : I pre g Wb := by rw [← hWb]; exact hI.putObj _ hia (by omega) hne
      have hAb : Ax x a' Wb := by rw [← hWb]; exact (hAx x a').putObj (s := ()) (g := none) _ hax (by omega) (by simp)
      have hzz : ∀ k, (W1.heap.size ≤ k ∨ Kz k) → (w.heap.size ≤ k ∨ Kz k) := fun k h => h.elim (fun h => .inl (by omega)) .inr
      have hsb : Spares (fun k => W1.heap.size ≤ k ∨ Kz k) g g Wa Wb := by
        rw [← hWb]; exact Spares.turned (grownBy_putObj' _ _ _) (fun j e hj => by cases e; rcases hj with h | h; exact absurd h (by omega); have := hKz _ h; omega)
      have hs2 : Spares (fun k => W1.heap.size ≤ k ∨ Kz k) g g W Wb := (hsa.imp (fun k h _ => hzz k h)).trans hsb
      rw [hWb]
      refine wpIn_mono (hbody _ pre x g a' _ (Array.getElem?_eq_some_iff.1 hl2).1 hIb hAb hlen) ?_
      have fin : ∀ (jump : Option Code) (g' : Option Nat) (W3 : World), Spares (fun k => w.heap.size ≤ k ∨ Kz k) g g' Wb W3 →
          (Instr.endRound (w.heap.size + 1) jump).run P W3 = .ok (.bool jump.isNone) (W3.putObj (w.heap.size + 1) (.loop (rec (if jump.isNone then .ready else .done) jump))) ∧
          (W3.putObj (w.heap.size + 1) (.loop (rec (if jump.isNone then .ready else .done) jump))).heap[w.heap.size + 1]? = some (.loop (rec (if jump.isNone then .ready else .done) jump)) ∧
          (W3.putObj (w.heap.size + 1) (.loop (rec (if jump.isNone then .ready else .done) jump))).heap[w.heap.size]? = some (.deferred (some [])) ∧
          Spares (fun k => W1.heap.size ≤ k ∨ Kz k) g g' W (W3.putObj (w.heap.size + 1) (.loop (rec (if jump.isNone then .ready else .done) jump))) := fun jump g' W3 hk3 => by
        have hl3 := (hk3.same _ (.inl (by omega)) (Array.getElem?_eq_some_iff.1 hl2).1 hne).trans hl2
        have hk4 := (hk3.same w.heap.size (.inl (Nat.le_refl _)) (Array.getElem?_eq_some_iff.1 hk2).1 (fun e => by have := hgq _ e.symm; omega)).trans hk2
        have := run_endRound (P := P) jump hl3
        rw [hrec] at this ⊢
        exact ⟨this, World.putObj_heap_same (Array.getElem?_eq_some_iff.1 hl3).1, (World.putObj_heap_other (by omega)).trans hk4,
          hs2.trans ((hk3.imp (fun k h _ => hzz k h)).trans (Spares.turned (grownBy_putObj' _ _ _) (fun j e hj => by cases e; rcases hj with h | h; exact absurd h (by omega); have := hKz _ h; omega)))⟩
      have hng : ∀ {g' : Option Nat}, (∀ q, g' = some q → q < w.heap.size ∨ w.heap.size + 2 ≤ q) → some (w.heap.size + 1) ≠ g' := fun h e => by have := h _ e.symm; omega
      rintro e a3 W3 hp
      cases e with
      | normal =>
        obtain ⟨g', hk3, hi3⟩ := hp
        obtain ⟨hr, hl4, hk4, hs4⟩ := fin none g' W3 hk3
        exact ⟨_, _, hr, g', hs4, .inl ⟨rfl, hI.putObj _ hi3 (by omega) (hng (fun q e => hIg _ _ _ q hi3 e)), hl4, hk4⟩⟩
      | ret =>
        obtain ⟨g', hk3, hi3⟩ := hp
        obtain ⟨hr, hl4, hk4, hs4⟩ := fin (some .ret) g' W3 hk3
        exact ⟨_, _, hr, g', hs4, .inr ⟨rfl, .ret, (hIx _).putObj _ hi3 (by omega) (hng (fun q e => hIxg _ _ _ _ q hi3 e)), hl4, hk4⟩⟩
      | exit id =>
        obtain ⟨g', hk3, hi3⟩ := hp
        obtain ⟨hr, hl4, hk4, hs4⟩ := fin (some (.exit id)) g' W3 hk3
        exact ⟨_, _, hr, g', hs4, .inr ⟨rfl, .exit id, (hIx _).putObj _ hi3 (by omega) (hng (fun q e => hIxg _ _ _ _ q hi3 e)), hl4, hk4⟩⟩
      | goto t =>
        obtain ⟨g', hk3, hi3⟩ := hp
        obtain ⟨hr, hl4, hk4, hs4⟩ := fin (some (.goto t)) g' W3 hk3
        exact ⟨_, _, hr, g', hs4, .inr ⟨rfl, .goto t, (hIx _).putObj _ hi3 (by omega) (hng (fun q e => hIxg _ _ _ _ q hi3 e)), hl4, hk4⟩⟩
      | panic ch => exact hp.elim
      | outgrown => exact hp.elim
    · -- behind the iterator
      rintro e W2 ⟨⟨v, rfl⟩, (⟨xs, g, hS, hi, hl, hk⟩ | ⟨pre, g, hSp, c, hi, hl, hk⟩)⟩
      · exact ⟨none, _, by have := run_endLoop (P := P) hl (by rw [hrec]; simp); rw [hrec] at this; exact this, hdone _ xs g _ rfl hS (hI.putObj _ hi (by omega) (fun e => by have := hIg _ _ _ _ hi e.symm; omega)) ((World.putObj_heap_other (by omega)).trans hk)⟩
      · exact ⟨some c, _, by have := run_endLoop (P := P) hl (by rw [hrec]; simp); rw [hrec] at this; exact this, hstop _ c pre g _ rfl hSp ((hIx c).putObj _ hi (by omega) (fun e => by have := hIxg _ _ _ _ _ hi e.symm; omega)) ((World.putObj_heap_other (by omega)).trans hk)⟩
structure Lies (K : Nat → Prop) (W W' : World) : Prop where
  size : W.heap.size ≤ W'.heap.size
  same : ∀ k, K k → k < W.heap.size → W'.heap[k]? = W.heap[k]?
theorem Lies.refl (K : Nat → Prop) (W : World) : Lies K W W := ⟨Nat.le_refl _, fun _ _ _ => rfl⟩
theorem Lies.trans {K : Nat → Prop} {A B C : World} (h : Lies K A B) (h' : Lies K B C) : Lies K A C := ⟨Nat.le_trans h.size h'.size, fun k hk hlt => (h'.same k hk (Nat.lt_of_lt_of_le hlt h.size)).trans (h.same k hk hlt)⟩
theorem Lies.below {K : Nat → Prop} {A B : World} (h : Below A.heap.size A B) : Lies K A B := ⟨h.size, fun k _ hk => h.block k hk⟩
theorem Lies.imp {K K' : Nat → Prop} {A B : World} (h : Lies K A B) (hk : ∀ k, K' k → K k) : Lies K' A B := ⟨h.size, fun k a => h.same k (hk k a)⟩
theorem Lies.grown {K : Nat → Prop} {A B : World} {row : Option Nat} (h : A.grownBy B row) (hr : ∀ r, row = some r → ¬ K r) : Lies K A B := ⟨h.size, fun k hk hlt => h.block k hlt (fun e => hr k e.symm hk)⟩
theorem Spares.lies {K K' : Nat → Prop} {g g' : Option Nat} {A B : World} (h : Spares K g g' A B) (hk : ∀ k, K' k → k < A.heap.size → K k ∧ some k ≠ g) : Lies K' A B := ⟨h.size, fun k a b => h.same k (hk k a b).1 b (hk k a b).2⟩
theorem Lies.cell {K : Nat → Prop} {A B : World} (h : Lies K A B) {p : Addr} {v : Value} (hk : K p.block) (hc : A.cell? p = some v) : B.cell? p = some v :=
  (World.cell?_of_block (h.same p.block hk (World.block_lt_of_cell? A p hc))).trans hc
theorem Lies.box {K : Nat → Prop} {A B : World} (h : Lies K A B) {b : Nat} {t : TypeId} {v : Value} (hk : K b) (hc : Boxed A b t v) : Boxed B b t v := (h.same b hk hc.lt).trans hc
theorem Spares.lt {K : Nat → Prop} {g g' : Option Nat} {A B : World} (h : Spares K g g' A B) (hg : ∀ q, g = some q → q < A.heap.size) : ∀ q, g' = some q → q < B.heap.size := by
  intro q e
  rcases h.own with e' | ⟨b, e', hb, hb2⟩
  · exact Nat.lt_of_lt_of_le (hg q (e' ▸ e)) h.size
  · rw [e] at e'; cases e'; exact hb2
theorem Spares.not {K Kz : Nat → Prop} {g g' : Option Nat} {A B : World} (h : Spares K g g' A B) (hn : ∀ k, Kz k → k < A.heap.size) (hg : ∀ q, g = some q → ¬ Kz q) : ∀ q, g' = some q → ¬ Kz q := by
  intro q e
  rcases h.own with e' | ⟨b, e', hb, _⟩
  · exact hg q (e' ▸ e)
  · rw [e] at e'; cases e'
    intro hk
    have := hn q hk
    omega
theorem Spares.ge {K : Nat → Prop} {g g' : Option Nat} {A B : World} {n : Nat} (h : Spares K g g' A B) (hn : n ≤ A.heap.size) (hg : ∀ q, g = some q → n ≤ q) : ∀ q, g' = some q → n ≤ q := by
  intro q e
  rcases h.own with e' | ⟨b, e', hb, _⟩
  · exact hg q (e' ▸ e)
  · rw [e] at e'; cases e'; omega
theorem collected {K : Nat → Prop} {W w1 : World} {n₀ B : Nat} {t e : TypeId} {size : Nat} {v v1 : Value} {k m : Nat} {xs ys : List Value}
    (hv : Boxed W B t v) (hte : t ≠ e) (hrow : W.ownsRow n₀ e size v k xs) (hKB : ¬ K B) (hB : n₀ ≤ B)
    (hown' : w1.ownsRow n₀ e size v1 m ys) (hg : W.grownBy w1 v.ownBlock) (hat : v1.ownBlock = v.ownBlock ∨ ∃ b, v1.ownBlock = some b ∧ W.heap.size ≤ b) :
    Boxed w1 B t v ∧ Boxed (w1.setCell ⟨B, 0, none⟩ v1) B t v1 ∧ (w1.setCell ⟨B, 0, none⟩ v1).ownsRow n₀ e size v1 m ys ∧ Spares K v.ownBlock v1.ownBlock W (w1.setCell ⟨B, 0, none⟩ v1) ∧ Below n₀ W (w1.setCell ⟨B, 0, none⟩ v1) := by
  have hv1 : Boxed w1 B t v := hv.kept hg (hv.not_row hte hrow)
  have hlt1 : ∀ b, v1.ownBlock = some b → b < (w1.setCell ⟨B, 0, none⟩ v1).heap.size := fun b e => by
    have h2 := (grownBy_setCell' w1 B v1).size
    rcases hown'.2 with ⟨rfl, _⟩ | ⟨g, cap, cur, rfl, _, hh, _⟩
    · simp [Value.ownBlock] at e
    · obtain rfl : g = b := by simpa [Value.ownBlock] using e
      exact Nat.lt_of_lt_of_le (Array.getElem?_eq_some_iff.1 hh).1 h2
  refine ⟨hv1, hv1.set v1, hown'.kept (grownBy_setCell' w1 B v1) (.inr (hv1.not_row hte hown').symm), ⟨?_, hat.imp id (fun ⟨b, e, hb⟩ => ⟨b, e, hb, hlt1 b e⟩), ?_⟩, ?_⟩
  · exact Nat.le_trans hg.size (grownBy_setCell' w1 B v1).size
  · intro k hk hlt hne
    refine ((grownBy_setCell' w1 B v1).block k (Nat.lt_of_lt_of_le hlt hg.size) (fun e => ?_)).trans (hg.block k hlt hne)
    cases e
    exact hKB hk
  · refine ((Below.refl n₀ W).grown hg (Nat.le_trans hB (Nat.le_of_lt hv.lt)) fun j ej => ?_).setCell (p := ⟨B, 0, none⟩) hB v1
    rcases hrow.2 with ⟨rfl, _⟩ | ⟨g, cap, cur, rfl, hb, _, _⟩
    · simp [Value.ownBlock] at ej
    · obtain rfl : g = j := by simpa [Value.ownBlock] using ej
      exact hb
theorem collected_box {W w1 : World} {n₀ B b : Nat} {t' e : TypeId} {size : Nat} {v : Value} {k : Nat} {xs : List Value} {u : Value} (hg : W.grownBy w1 v.ownBlock) (hrow : W.ownsRow n₀ e size v k xs) (hb : Boxed W b t' u) (hte : t' ≠ e) (hne : b ≠ B) (v1 : Value) : Boxed (w1.setCell ⟨B, 0, none⟩ v1) b t' u :=
  (hb.kept hg (hb.not_row hte hrow)).other hne v1
end Go.Proofs.YtoanmbhenmlboaaDoorH
end
section
namespace Go.Proofs.YtoanmbhenmlboaaDoorH
open Go.RowKit Go.Proofs.YtoanmbhenmlboaaDoorW.PrintWords Go.Proofs.YtoanmbhenmlboaaDoorW.PrintLast Go.Proofs.YtoanmbhenmlboaaDoorW.PrintMore
theorem TabOk.lies {w A C : World} {K : Nat → Prop} (hw : TabOk w) (hA : Lies (fun k => k < w.heap.size) w A) (hK : ∀ k, k < w.heap.size → K k) (h : Lies K A C) : TabOk C := by
  have hc : ∀ {p : Addr} {v : Value}, w.cell? p = some v → C.cell? p = some v := fun {p v} hp =>
    h.cell (hK p.block (World.block_lt_of_cell? w p hp)) (hA.cell (World.block_lt_of_cell? w p hp) hp)
  refine ⟨hc hw.c0, hc hw.c1, hc hw.c2, hc hw.c3, hc hw.c4, hc hw.c5, ?_⟩
  obtain ⟨m, hm⟩ := hw.mx
  exact ⟨m, hc hm⟩
end Go.Proofs.YtoanmbhenmlboaaDoorH
end
section
namespace Go.Proofs.YtoanmbhenmlboaaDoorH
open Go
def splitL (c : UInt8) : List UInt8 → List (List UInt8)
  | [] => [[]]
  | b :: l => if b == c then [] :: splitL c l else match splitL c l with
    | [] => [[b]]
    | p :: ps => (b :: p) :: ps
theorem splitL_ne (c : UInt8) : ∀ l : List UInt8, splitL c l ≠ []
  | [] => by simp [splitL]
  | b :: l => by
    unfold splitL
    split
    · simp
    · split <;> simp
theorem splitL_cons_ne (c b : UInt8) (l : List UInt8) (h : (b == c) = false) : ∃ p ps, splitL c l = p :: ps ∧ splitL c (b :: l) = (b :: p) :: ps := by
  cases hs : splitL c l with
  | nil => exact absurd hs (splitL_ne c l)
  | cons p ps => exact ⟨p, ps, rfl, by rw [splitL, if_neg (by simp [h]), hs]⟩
theorem splitL_cons_eq (c b : UInt8) (l : List UInt8) (h : (b == c) = true) : splitL c (b :: l) = [] :: splitL c l := by rw [splitL, if_pos h]
theorem splitL_none (c : UInt8) : ∀ l : List UInt8, l.findIdx (· == c) = l.length → splitL c l = [l]
  | [], _ => rfl
  | b :: l, h => by
    rw [List.findIdx_cons] at h
    cases hb : b == c with
    | true => rw [hb] at h; simp at h
    | false =>
      rw [hb] at h
      simp only [cond_false, List.length_cons] at h
      obtain ⟨p, ps, h1, h2⟩ := splitL_cons_ne c b l hb
      rw [splitL_none c l (by omega)] at h1
      cases h1
      exact h2
theorem splitL_some (c : UInt8) : ∀ l : List UInt8, l.findIdx (· == c) < l.length → splitL c l = l.take (l.findIdx (· == c)) :: splitL c (l.drop (l.findIdx (· == c) + 1))
  | [], h => by simp at h
  | b :: l, h => by
    rw [List.findIdx_cons] at h ⊢
    cases hb : b == c with
    | true => rw [splitL_cons_eq c b l hb]; rfl
    | false =>
      rw [hb] at h
      simp only [cond_false, List.length_cons] at h ⊢
      obtain ⟨p, ps, h1, h2⟩ := splitL_cons_ne c b l hb
      have ih := splitL_some c l (by omega)
      rw [ih] at h1
      cases h1
      rw [h2]
      rfl
theorem splitL_size (c : UInt8) : ∀ (l : List UInt8) (p : List UInt8), p ∈ splitL c l → p.length ≤ l.length
  | [], p, h => by simp [splitL] at h; subst h; exact Nat.le_refl _
  | b :: l, p, h => by
    cases hb : b == c with
    | true =>
      rw [splitL_cons_eq c b l hb] at h
      rcases List.mem_cons.1 h with h | h
      · subst h; simp
      · have := splitL_size c l p h
        simp only [List.length_cons]; omega
    | false =>
      obtain ⟨q, qs, h1, h2⟩ := splitL_cons_ne c b l hb
      rw [h2] at h
      rcases List.mem_cons.1 h with h | h
      · subst h
        have := splitL_size c l q (by rw [h1]; exact List.mem_cons_self)
        simp only [List.length_cons]; omega
      · have := splitL_size c l p (by rw [h1]; exact List.mem_cons_of_mem _ h)
        simp only [List.length_cons]; omega
theorem splitL_count (c : UInt8) : ∀ l : List UInt8, (splitL c l).length ≤ l.length + 1
  | [] => by simp [splitL]
  | b :: l => by
    have ih := splitL_count c l
    cases hb : b == c with
    | true => rw [splitL_cons_eq c b l hb]; simp only [List.length_cons]; omega
    | false =>
      obtain ⟨q, qs, h1, h2⟩ := splitL_cons_ne c b l hb
      rw [h2]
      rw [h1] at ih
      simp only [List.length_cons] at ih ⊢; omega
theorem indexByte_at : ∀ (l : List UInt8) (c : UInt8), Lib.indexByte l c = if l.findIdx (· == c) < l.length then ((l.findIdx (· == c) : Nat) : Int) else -1
  | [], c => rfl
  | b :: l, c => by
    unfold Lib.indexByte
    rw [List.findIdx_cons, indexByte_at l c]
    cases h : b == c with
    | true => simp
    | false =>
      simp only [cond_false, List.length_cons]
      by_cases h2 : l.findIdx (· == c) < l.length
      · have e1 : (((List.findIdx (· == c) l : Nat) : Int) == -1) = false := by rw [beq_eq_false_iff_ne]; omega
        have e2 : List.findIdx (· == c) l + 1 < l.length + 1 := by omega
        simp only [if_pos h2, if_pos e2, e1, Bool.false_eq_true, if_false]
        omega
      · have e2 : ¬ List.findIdx (· == c) l + 1 < l.length + 1 := by omega
        simp only [if_neg h2, if_neg e2]
        rfl
theorem index_at (l : List UInt8) (c : UInt8) : Lib.index l [c] = if l.findIdx (· == c) < l.length then ((l.findIdx (· == c) : Nat) : Int) else -1 :=
  (Lib.index_one _ _).trans (indexByte_at l c)
end Go.Proofs.YtoanmbhenmlboaaDoorH
end
section
namespace Go.Proofs.YtoanmbhenmlboaaDoorH
open Go.RowKit Go.Shelf Go.Proofs.YtoanmbhenmlboaaDoorW.PrintWords Go.Proofs.YtoanmbhenmlboaaDoorW.PrintLast Go.Proofs.YtoanmbhenmlboaaDoorW.PrintMore
attribute [local go_sem] Oper.semAt_some
def partsB (s : ByteArray) : List ByteArray := (splitL 44 s.data.toList).map fun l => ⟨l.toArray⟩
theorem partsB_none (s : ByteArray) (h : s.data.toList.findIdx (· == 44) = s.data.toList.length) : partsB s = [s] := by
  unfold partsB
  rw [splitL_none _ _ h]
  show [(⟨s.data.toList.toArray⟩ : ByteArray)] = [s]
  rw [show (⟨s.data.toList.toArray⟩ : ByteArray) = s from bytes_ext (by simp)]
theorem partsB_some (s : ByteArray) (k : Nat) (h : s.data.toList.findIdx (· == 44) = k) (hk : k < s.size) : partsB s = s.extract 0 k :: partsB (s.extract (k + 1) s.size) := by
  rw [size_eq_length] at hk
  have := splitL_some 44 s.data.toList (by rw [h]; exact hk)
  unfold partsB
  rw [this, List.map_cons, h, extract_from]
  congr 1
  exact bytes_ext (by rw [extract_to])
theorem partsB_length (s : ByteArray) : (partsB s).length ≤ s.size + 1 := by
  unfold partsB
  rw [List.length_map, size_eq_length]
  exact splitL_count _ _
theorem partsB_size (s : ByteArray) : ∀ p ∈ partsB s, p.size ≤ s.size := by
  intro p hp
  obtain ⟨l, hl, rfl⟩ := List.mem_map.1 hp
  rw [size_eq_length s]
  exact splitL_size 44 _ l hl
def szAt (W : World) (b : Nat) : Nat := match W.cell? ⟨b, 0, none⟩ with | some (.string s) => s.size | _ => 0
theorem szAt_box {W : World} {b : Nat} {t : TypeId} {s : ByteArray} (h : Boxed W b t (.string s)) : szAt W b = s.size := by
  unfold szAt
  rw [h.cell]
theorem splitSeq_calls (s p : ByteArray) (k : Int) (w : World) :
    Calls Tryd.prog 81 #[.string s, .string p, .int .i64 k] w fun e w' => e = .returned (.func (.func 85) #[] #[.pointer (some ⟨w.heap.size + 1, 0, none⟩), .pointer (some ⟨w.heap.size, 0, none⟩), .pointer (some ⟨w.heap.size + 2, 0, none⟩)]) ∧
      w' = ((w.alloc (.cells #[.string s] 9)).alloc (.cells #[.string p] 9)).alloc (.cells #[.int .i64 k] 3) := by
  go_enter Tryd.func81, Tryd.ntmps81
  go_wp2
  go_ret
  exact ⟨rfl, rfl⟩
theorem SplitSeq_calls (s p : ByteArray) (w : World) :
    Calls Tryd.prog 74 #[.string s, .string p] w fun e w' => e = .returned (.func (.func 85) #[] #[.pointer (some ⟨w.heap.size + 1, 0, none⟩), .pointer (some ⟨w.heap.size, 0, none⟩), .pointer (some ⟨w.heap.size + 2, 0, none⟩)]) ∧
      w' = ((w.alloc (.cells #[.string s] 9)).alloc (.cells #[.string p] 9)).alloc (.cells #[.int .i64 0] 3) := by
  have H := Aside0.mk (splitSeq_calls s p 0 w)
  go_enter Tryd.func74, Tryd.ntmps74
  go_wp2_with fail
  refine H.out.mono ?_
  rintro e w' ⟨rfl, rfl⟩
  go_wp2
  go_ret
  exact ⟨rfl, rfl⟩
def Kz3 (n a b c : Nat) (k : Nat) : Prop := k < n ∨ k = a ∨ k = b ∨ k = c
set_option maxRecDepth 100000 in
set_option maxHeartbeats 2000000 in
theorem split_own (n : Nat) (hn : 1 ≤ n) (Bp Bs Bk : Nat) (s : ByteArray) (hs : s.size < 4294967281) (w : World) (hG : TabOk w) (W0 : World) (hw0 : Lies (fun k => k < w.heap.size) w W0)
    (hp0 : Boxed W0 Bp 9 (.string ⟨#[44]⟩)) (hs0 : Boxed W0 Bs 9 (.string s)) (hk0 : Boxed W0 Bk 3 (.int .i64 0)) (hne : Bp ≠ Bs) (hne2 : Bk ≠ Bs) (hBs : w.heap.size ≤ Bs) :
    SeqO Fence.wide n Tryd.prog 85 #[.pointer (some ⟨Bp, 0, none⟩), .pointer (some ⟨Bs, 0, none⟩), .pointer (some ⟨Bk, 0, none⟩)] (fun x : ByteArray => #[.string x]) (Kz3 w.heap.size Bp Bs Bk) (fun k => k = Bs) (fun ys => ys = partsB s) (fun pre => pre <+: partsB s) W0 := by
  intro l J Jx g0 W hW hJ hJx hg0 hY h0
  have hw1 : Lies (fun k => k < w.heap.size) w W := hw0.trans (Lies.below hW)
  have hp : Boxed W Bp 9 (.string ⟨#[44]⟩) := (hW.block _ hp0.lt).trans hp0
  have hsb : Boxed W Bs 9 (.string s) := (hW.block _ hs0.lt).trans hs0
  have hk : Boxed W Bk 3 (.int .i64 0) := (hW.block _ hk0.lt).trans hk0
  have l1 := hp.lt
  have l2 := hsb.lt
  have l3 := hk.lt
  have l4 := hw1.size
  clear hW hp0 hs0 hk0 hw0
  have hpc := hp.cell
  refine callsIn_of_wp Tryd.func85 rfl trivial ?_ rfl
  simp only [Tryd.ntmps85, List.size_toArray, List.length_cons, List.length_nil, Nat.reduceAdd, Nat.reduceSub, Array.replicate_succ, Array.replicate_zero, List.push_toArray, List.append_toArray, List.nil_append, List.cons_append]
  gi_wp2
  gi_loopw [7] (fun v7 wr => ∃ (r : ByteArray) (pre : List ByteArray) (g : Option Nat), r.size ≤ s.size ∧ Aside0 (partsB s = pre ++ partsB r) ∧ Aside0 (J pre g wr) ∧ Aside0 (∀ q, g = some q → ¬ Kz3 w.heap.size Bp Bs Bk q) ∧ Aside0 (Lies (fun k => (k < w.heap.size ∨ k = Bp) ∨ k = Bk) W wr) ∧ Aside0 (Boxed wr Bs 9 (.string r)))
    (fun _ wr => szAt wr Bs)
  case atStart => exact ⟨s, [], g0, Nat.le_refl _, ⟨rfl⟩, ⟨h0⟩, ⟨fun q e => (hg0 q e).1⟩, ⟨Lies.refl _ _⟩, ⟨hsb⟩⟩
  case round =>
    obtain ⟨r, pre, g, hrs, hE, hJs, hgq, hnx, hbx⟩ := hrel
    have hcp := (hnx.out.box (.inl (.inr rfl)) hp).cell
    have hck := (hnx.out.box (.inr rfl) hk).cell
    have hcs := hbx.out.cell
    obtain ⟨m, hm⟩ := (hG.lies hw1 (fun k hk => .inl (.inl hk)) hnx.out).mx
    have HC := Aside0.mk (Tryd.strings_Index r (⟨#[44]⟩ : ByteArray) m wr (by omega) hm)
    rw [show (⟨#[44]⟩ : ByteArray).data.toList = [44] from rfl, index_at] at HC
    obtain ⟨k, hkk⟩ : ∃ k, r.data.toList.findIdx (· == 44) = k := ⟨_, rfl⟩
    have hkle : k ≤ r.data.toList.length := by rw [← hkk]; exact List.findIdx_le_length
    rw [← size_eq_length] at hkle
    clear hm
    by_cases hlt : k < r.size
    · rw [hkk, ← size_eq_length, if_pos hlt] at HC
      have HP := Aside0.mk (partsB_some r k hkk hlt)
      clear hkk
      gi_wp2
      refine ⟨trivial, ?_⟩
      refine (callsIn_wide.2 HC.out).mono ?_
      rintro e w1 ⟨rfl, rfl⟩
      have HPP := Aside0.mk (show pre ++ [r.extract 0 k] <+: partsB s by rw [hE.out, HP.out]; exact ⟨_, by rw [List.append_assoc]; rfl⟩)
      obtain ⟨fn, tmps, assign, body, hy, hR⟩ := hY (n - 1) pre (r.extract 0 k) g w1 hJs.out HPP.out
      have HR := Aside0.mk hR
      clear hR HC
      gi_wp2
      refine HR.out.mono ?_
      rintro e W3 ⟨g', hsp, (⟨rfl, hJ3⟩ | ⟨rfl, hJx3⟩)⟩
      · have HJ3 := Aside0.mk hJ3
        have hlz : ∀ k, (((k < w.heap.size ∨ k = Bp) ∨ k = Bk) ∨ k = Bs) → k < w1.heap.size → (W.heap.size ≤ k ∨ Kz3 w.heap.size Bp Bs Bk k) ∧ some k ≠ g := fun k hk _ => by
          have hz : Kz3 w.heap.size Bp Bs Bk k := by
            unfold Kz3
            rcases hk with ((hk | hk) | hk) | hk
            · exact .inl hk
            · exact .inr (.inl hk)
            · exact .inr (.inr (.inr hk))
            · exact .inr (.inr (.inl hk))
          exact ⟨.inr hz, fun e => hgq.out k e.symm hz⟩
        have HL3 := Aside0.mk (hsp.lies hlz)
        have HG3 := Aside0.mk (hsp.not (Kz := Kz3 w.heap.size Bp Bs Bk) (fun k hk => by have := hnx.out.size; unfold Kz3 at hk; rcases hk with hk | hk | hk | hk <;> omega) hgq.out)
        have hb3 := HL3.out.box (.inr rfl) hbx.out
        have hl3 := HL3.out.imp (K' := fun k => (k < w.heap.size ∨ k = Bp) ∨ k = Bk) (fun k h => .inl h)
        have HX3 := Aside0.mk (hnx.out.trans hl3)
        have hcs3 := hb3.cell
        have hcf3 := hb3.frozen
        have hcp3 := (HX3.out.box (.inl (.inr rfl)) hp).cell
        have hz : (r.extract (k + 1) r.size).size = r.size - (k + 1) := by rw [size_eq_length, extract_from, List.length_drop, ← size_eq_length]
        have HB4 := Aside0.mk (hb3.set (.string (r.extract (k + 1) r.size)))
        have HJ4 := Aside0.mk (hJ _ _ _ _ _ HJ3.out (grownBy_setCell' W3 Bs (.string (r.extract (k + 1) r.size))) (fun q e => .inr (by cases e; rfl)))
        have HL4 := Aside0.mk (HX3.out.trans (Lies.grown (K := fun k => (k < w.heap.size ∨ k = Bp) ∨ k = Bk) (grownBy_setCell' W3 Bs (.string (r.extract (k + 1) r.size))) (fun q e h => by cases e; rcases h with (h | h) | h <;> omega)))
        have HZ := Aside0.mk (szAt_box hbx.out)
        have HZ4 := Aside0.mk (szAt_box HB4.out)
        clear hsp hJ3 hlz hb3 hl3
        gi_wp2
        go_roundw
        case rel => exact ⟨r.extract (k + 1) r.size, pre ++ [r.extract 0 k], g', by omega, ⟨by rw [hE.out, HP.out, List.append_assoc]; rfl⟩, HJ4, HG3, HL4, HB4⟩
        case measure => first | (rw [HZ.out, HZ4.out]; omega) | (simp only [HZ.out, HZ4.out]; omega)
      · gi_wp2
        refine bodyPost_ret (results_none rfl _ _ _) rfl ?_
        exact ⟨⟨_, rfl⟩, .inr ⟨_, g', HPP.out, hJx3⟩⟩
    · rw [hkk, ← size_eq_length, if_neg hlt] at HC
      have HP := Aside0.mk (partsB_none r (by rw [hkk, ← size_eq_length]; omega))
      clear hkk
      gi_wp2
      refine ⟨trivial, ?_⟩
      refine (callsIn_wide.2 HC.out).mono ?_
      rintro e w1 ⟨rfl, rfl⟩
      have HPP := Aside0.mk (show pre ++ [r] <+: partsB s by rw [hE.out, HP.out]; exact ⟨[], by rw [List.append_nil]⟩)
      have HE2 := Aside0.mk (show partsB s = pre ++ [r] by rw [hE.out, HP.out])
      obtain ⟨fn, tmps, assign, body, hy, hR⟩ := hY (n - 1) pre r g w1 hJs.out HPP.out
      have HR := Aside0.mk hR
      clear hR HC
      gi_wp2
      refine HR.out.mono ?_
      rintro e W3 ⟨g', hsp, (⟨rfl, hJ3⟩ | ⟨rfl, hJx3⟩)⟩
      · gi_wp2
        go_end0
        exact ⟨⟨_, rfl⟩, .inl ⟨_, g', rfl, by rw [HE2.out]; exact hJ3⟩⟩
      · gi_wp2
        go_end0
        exact ⟨⟨_, rfl⟩, .inr ⟨_, g', HPP.out, hJx3⟩⟩
end Go.Proofs.YtoanmbhenmlboaaDoorH
end
section
namespace Go.Proofs.YtoanmbhenmlboaaDoorH
open Go
theorem stepR_scope {P : Program} {b : Frame} {a : Act} {k : List Item} {cs : List Frame} {w : World} {c : Code} : step P (lone (b.atR a (.code (.scope c) :: k)) cs w) = .next (lone (b.atR a (.code c :: .inScope c :: k)) cs w) :=
  step_lone_go (by simp [stepG, stepG.exec, Frame.atR])
theorem stepR_inScope {P : Program} {b : Frame} {a : Act} {k : List Item} {cs : List Frame} {w : World} {c : Code} : step P (lone (b.atR a (.inScope c :: k)) cs w) = .next (lone (b.atR a k) cs w) :=
  step_lone_go (by simp [stepG, stepG.exec, Frame.atR])
theorem wpIn_scope_straight {F : Fence} {n : Nat} {P : Program} {Q : Exit → Act → World → Prop} {a : Act} {w : World} {c : Code} (h : c.wpIn F n P (Exit.noGoto Q) a w) : (Code.scope c).wpIn F n P Q a w := by
  intro b k cs hro hb hr
  have h0 : (lone (b.atR a (.code (.scope c) :: k)) cs w).fenced P F := fenced_calm hb hr rfl
  obtain ⟨e, a₁, w₁, hq, harr⟩ := h b (.inScope c :: k) cs hro hb hr
  cases e with
  | normal => exact ⟨.normal, a₁, w₁, hq, .head h0 stepR_scope (StepsIn.trans harr (.one (fenced_calm hb hr rfl) stepR_inScope))⟩
  | exit id =>
    have hx : exitTo id (.inScope c :: k) = exitTo id k := by simp [exitTo]
    exact ⟨.exit id, a₁, w₁, hq, fun k' hk => .head h0 stepR_scope (harr.1 k' (by rw [hx]; exact hk)),
      fun hr' hk => let ⟨k₁, h1, h2⟩ := harr.2 hr' (by rw [hx]; exact hk); ⟨k₁, h1, .head h0 stepR_scope h2⟩⟩
  | goto l => exact hq.elim
  | ret => exact ⟨_, a₁, w₁, hq, .of_steps (.one h0 stepR_scope) (show ArrivesIn _ _ _ _ k _ _ _ _ from harr)⟩
  | panic ch => exact ⟨_, a₁, w₁, hq, .of_steps (.one h0 stepR_scope) (show ArrivesIn _ _ _ _ k _ _ _ _ from harr)⟩
  | outgrown => exact ⟨_, a₁, w₁, hq, .of_steps (.one h0 stepR_scope) (show ArrivesIn _ _ _ _ k _ _ _ _ from harr)⟩
end Go.Proofs.YtoanmbhenmlboaaDoorH
end
section
namespace Go.Proofs.YtoanmbhenmlboaaDoorH
open Go Go.RowKit Go.Proofs.YtoanmbhenmlboaaDoorW.PrintWords Go.Proofs.YtoanmbhenmlboaaDoorW.PrintLast Go.Proofs.YtoanmbhenmlboaaDoorW.PrintMore
def Halted (p : Prop) : Prop := p
theorem halt {p : Prop} (h : Halted p) : p := h
theorem unhalt {p : Prop} (h : p) : Halted p := h
theorem in_append {F : Fence} {n : Nat} {P : Program} {ops : Array Oper} {rest : List Oper} {o : Oper} {a : Act} {Q : Exit → Act → World → Prop} {W : World} (base : Nat) (hgd : o.guard = none) (s x : Operand) (t e : TypeId) (z : Value) (size bytes : Nat)
    (ho : o.op = .call { callee := .builtin .append, args := #[s, x], argTypes := #[t, t] })
    (ht : P.underlying t = some (.slice e)) (hinfo : (P.info? e).map (fun i => (i.zero, i.size, i.bytes)) = some (some z, size, bytes)) (hz : z.cells.size = size) (hs0 : 0 < size) (hb0 : 0 < bytes)
    (v : Value) (k : Nat) (xs ys : List Value) (hs : a.eval s = v) (hx : a.eval x = .slice (some ⟨W.heap.size, 0, none⟩) 1 1) (hys : ys.length = size) (h1 : ∀ u ∈ ys, u.oneCell' = true)
    (HO : W.ownsRow base e size v k xs) (hbase : base ≤ W.heap.size) (hl : (k + 1) * bytes ≤ 140737488355328)
    (h : ∀ v1 w1, w1.ownsRow base e size v1 (k + 1) (xs ++ ys) → W.grownBy w1 v.ownBlock → (v1.ownBlock = v.ownBlock ∨ ∃ b, v1.ownBlock = some b ∧ W.heap.size ≤ b) → wpListIn F n P ops Q rest (a.put o.dst v1) w1) :
    wpListIn F n P ops Q (o :: rest) a (W.alloc (.cells ys.toArray e)) := by
  obtain ⟨i0, hi, hzz⟩ := Option.map_eq_some_iff.1 hinfo
  simp only [Prod.mk.injEq] at hzz
  obtain ⟨hz0, hz1, hz2⟩ := hzz
  have hlen : k + 1 ≤ 140737488355328 := Nat.le_trans (Nat.le_mul_of_pos_right _ hb0) hl
  refine wpListIn_plain hgd fun K hK' => ?_
  obtain ⟨v1, w1, hr, hown, hg, _, hat⟩ := run_append_own_at (P := P) (W.alloc (.cells ys.toArray e)) base t o.type e i0 z size bytes ht hi hz0 hz1 hz2 hz hs0 v k xs (HO.alloc _) ⟨W.heap.size, 0, none⟩ 1 1 ys (by rw [hys]; simp)
    (by simpa using World.news_of_block (cs := ys.toArray) (t := e) (fr := (0, 0)) (heap_alloc_new W (.cells ys.toArray e))) h1 (by simp only [maxLen]; omega) hl (by simp; omega)
  unfold Oper.wpIn
  refine ⟨?_, ?_⟩
  · simp [Oper.about, ho, resolve, Target.leads, Sem.run_pure]
  · rw [Oper.semAt_plain F _ _ (by rw [ho]; intro c hc'; cases hc')]
    simp [execOp, ho, resolve, invoke, builtin, hs, hx, hr, Result.andThen]
    refine hK' _ _ (h v1 w1 hown (World.grownBy.trans (World.grownBy_alloc W _ _) hg) ?_)
    rcases hat with hat | hat
    · exact .inl hat
    · exact .inr ⟨_, hat, by simp⟩
theorem any_append {F : Fence} {n : Nat} {P : Program} {ops : Array Oper} {o : Oper} {a : Act} {Q : Exit → Act → World → Prop} {K : Act → World → Prop} {W : World} (base : Nat) (hw : Region.wanted o (yielded ops a.tmps) = true) (s x : Operand) (t e : TypeId) (z : Value) (size bytes : Nat)
    (ho : o.op = .call { callee := .builtin .append, args := #[s, x], argTypes := #[t, t] })
    (ht : P.underlying t = some (.slice e)) (hinfo : (P.info? e).map (fun i => (i.zero, i.size, i.bytes)) = some (some z, size, bytes)) (hz : z.cells.size = size) (hs0 : 0 < size) (hb0 : 0 < bytes)
    (v : Value) (k : Nat) (xs ys : List Value) (hs : a.eval s = v) (hx : a.eval x = .slice (some ⟨W.heap.size, 0, none⟩) 1 1) (hys : ys.length = size) (h1 : ∀ u ∈ ys, u.oneCell' = true)
    (HO : W.ownsRow base e size v k xs) (hbase : base ≤ W.heap.size) (hl : (k + 1) * bytes ≤ 140737488355328)
    (h : ∀ v1 w1, w1.ownsRow base e size v1 (k + 1) (xs ++ ys) → W.grownBy w1 v.ownBlock → (v1.ownBlock = v.ownBlock ∨ ∃ b, v1.ownBlock = some b ∧ W.heap.size ≤ b) → K (a.put o.dst v1) w1) :
    if Region.wanted o (yielded ops a.tmps) = true then Oper.wpIn F n P o a (W.alloc (.cells ys.toArray e)) K Q else (∀ f, o.about P (W.alloc (.cells ys.toArray e)) a.eval = some f → F.fn f) ∧ K (a.put o.dst undef) (W.alloc (.cells ys.toArray e)) := by
  obtain ⟨i0, hi, hzz⟩ := Option.map_eq_some_iff.1 hinfo
  simp only [Prod.mk.injEq] at hzz
  obtain ⟨hz0, hz1, hz2⟩ := hzz
  have hlen : k + 1 ≤ 140737488355328 := Nat.le_trans (Nat.le_mul_of_pos_right _ hb0) hl
  rw [if_pos hw]
  obtain ⟨v1, w1, hr, hown, hg, _, hat⟩ := run_append_own_at (P := P) (W.alloc (.cells ys.toArray e)) base t o.type e i0 z size bytes ht hi hz0 hz1 hz2 hz hs0 v k xs (HO.alloc _) ⟨W.heap.size, 0, none⟩ 1 1 ys (by rw [hys]; simp)
    (by simpa using World.news_of_block (cs := ys.toArray) (t := e) (fr := (0, 0)) (heap_alloc_new W (.cells ys.toArray e))) h1 (by simp only [maxLen]; omega) hl (by simp; omega)
  unfold Oper.wpIn
  refine ⟨?_, ?_⟩
  · simp [Oper.about, ho, resolve, Target.leads, Sem.run_pure]
  · rw [Oper.semAt_plain F _ _ (by rw [ho]; intro c hc'; cases hc')]
    simp [execOp, ho, resolve, invoke, builtin, hs, hx, hr, Result.andThen]
    refine h v1 w1 hown (World.grownBy.trans (World.grownBy_alloc W _ _) hg) ?_
    rcases hat with hat | hat
    · exact .inl hat
    · exact .inr ⟨_, hat, by simp⟩
theorem row_of_owns {α : Type} (d : Kd α) (enc : α → List Value) {e : Nat} {w : World} {base : Nat} {v : Value} {xs : List α} (hl : ∀ x, (enc x).length = d.sz) (hM : ∀ ok x, d.M w base ok x (enc x))
    (h : w.ownsRow base e d.sz v xs.length (xs.flatMap enc)) : d.R e w base (fun _ => True) v xs := by
  refine ⟨fun _ _ => trivial, xs.flatMap enc, h, ?_⟩
  clear h
  have key : ∀ (l r : List α) (inner : List Value), Reps (d.M w base (fun k => True ∧ some k ≠ v.ownBlock)) d.sz l inner → Reps (d.M w base (fun k => True ∧ some k ≠ v.ownBlock)) d.sz (l ++ r) (inner ++ r.flatMap enc) := by
    intro l r
    induction r generalizing l with
    | nil => intro inner h; simpa using h
    | cons x r ih =>
      intro inner h
      have := ih (l ++ [x]) (inner ++ enc x) (h.snoc (hM _ x) (hl x))
      simpa using this
  have := key [] xs [] (Reps.none _ _)
  simpa using this
theorem owns_slice2 {w : World} {base : Nat} {e : TypeId} {size : Nat} {v : Value} {k : Nat} {xs : List Value} (h : w.ownsRow base e size v k xs) : ∃ (a : Option Addr) (c : Nat), v = .slice a k c ∧ k ≤ c := by
  rcases h.2 with ⟨rfl, rfl⟩ | ⟨g, cap, cur, rfl, _, _, hc, _⟩
  · exact ⟨_, _, rfl, Nat.le_refl _⟩
  · exact ⟨_, _, rfl, hc⟩
theorem closed2 {W : World} {n₀ b1 b2 D : Nat} {t1 t2 : TypeId} {u1 u2 : Value} (h1 : Boxed W b1 t1 u1) (h2 : Boxed W b2 t2 u2) (hne : b1 ≠ b2) (hb1 : n₀ ≤ b1) (hb2 : n₀ ≤ b2) (hD : n₀ ≤ D) (hK : W.heap[D]? = some (.deferred (some []))) (v1 v2 : Value) :
    ((W.setCell ⟨b1, 0, none⟩ v1).setCell ⟨b2, 0, none⟩ v2).heap[D]? = some (.deferred (some [])) ∧
    Boxed (((W.setCell ⟨b1, 0, none⟩ v1).setCell ⟨b2, 0, none⟩ v2).putObj D (.deferred none)) b1 t1 v1 ∧
    Boxed (((W.setCell ⟨b1, 0, none⟩ v1).setCell ⟨b2, 0, none⟩ v2).putObj D (.deferred none)) b2 t2 v2 ∧
    Below n₀ W (((W.setCell ⟨b1, 0, none⟩ v1).setCell ⟨b2, 0, none⟩ v2).putObj D (.deferred none)) ∧
    ∀ {e : TypeId} {size : Nat} {v : Value} {k : Nat} {xs : List Value}, t1 ≠ e → t2 ≠ e → W.ownsRow n₀ e size v k xs → (((W.setCell ⟨b1, 0, none⟩ v1).setCell ⟨b2, 0, none⟩ v2).putObj D (.deferred none)).ownsRow n₀ e size v k xs := by
  have hn1 : D ≠ b1 := by
    rintro rfl
    have := hK.symm.trans h1
    cases this
  have hn2 : D ≠ b2 := by
    rintro rfl
    have := hK.symm.trans h2
    cases this
  have h1a : Boxed (W.setCell ⟨b1, 0, none⟩ v1) b1 t1 v1 := h1.set v1
  have h2a : Boxed (W.setCell ⟨b1, 0, none⟩ v1) b2 t2 u2 := h2.other (fun e => hne e.symm) v1
  have hk1 : ((W.setCell ⟨b1, 0, none⟩ v1).setCell ⟨b2, 0, none⟩ v2).heap[D]? = some (.deferred (some [])) := ((Below.heap_setCell _ _ _ D hn2).trans (Below.heap_setCell W _ _ D hn1)).trans hK
  have hlt := (Array.getElem?_eq_some_iff.1 hk1).1
  refine ⟨hk1, (h1a.other hne v2).kept (grownBy_putObj' _ _ _) (fun h => hn1 (by cases h; rfl)), (h2a.set v2).kept (grownBy_putObj' _ _ _) (fun h => hn2 (by cases h; rfl)), ?_, ?_⟩
  · exact (((Below.refl n₀ W).setCell (p := ⟨b1, 0, none⟩) hb1 v1).setCell (p := ⟨b2, 0, none⟩) hb2 v2).grown (grownBy_putObj' _ _ _) (by omega) (fun j ej => by cases ej; exact hD)
  · intro e size v k xs he1 he2 hrow
    have hr1 := hrow.kept (grownBy_setCell' W b1 v1) (.inr (h1.not_row he1 hrow).symm)
    have hr2 := hr1.kept (grownBy_setCell' _ b2 v2) (.inr (h2a.not_row he2 hr1).symm)
    exact ownsRow_putObj hr2 _ hk1 rfl
end Go.Proofs.YtoanmbhenmlboaaDoorH
end
