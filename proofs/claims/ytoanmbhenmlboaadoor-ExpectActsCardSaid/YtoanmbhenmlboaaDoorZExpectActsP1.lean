import Derived.Test.YtoanmbhenmlboaaDoorZExpectActsP0
import Derived.Test.YtoanmbhenmlboaaDoorProg
import Derived.SizedLaws
import Derived.ChangeSlices
import Derived.Below
import Derived.Outline
import Derived.Shelf.Vars
import Derived.Lib.Bytealg
import Derived.Shelf.Strings.Trim
import Derived.Shelf.Small.Utf8
import Derived.Shelf.Small.Strs
import Derived.Shelf.Strings.Search1
import Derived.Shelf.Strings.Search2
import Derived.Shelf.Strings.Search3
import Derived.Shelf.Strings.Cut
import Derived.Shelf.LaysM
import Derived.Shelf.Strings.Shaped
import Derived.Shelf.Strings.Runes
import Derived.Shelf.Strings.AsciiSet
import Derived.Shelf.Unicode.DecodeSlow
import Derived.Shelf.Slices.Turned
import Derived.Shelf.Strings.SlTrimAscii
import Derived.Laws.Pointers
import Derived.Laws.NewBlocks
section
namespace Go.Proofs.YtoanmbhenmlboaaDoorH
open Go.RowKit Go.Proofs.YtoanmbhenmlboaaDoorW.PrintWords Go.Proofs.YtoanmbhenmlboaaDoorW.PrintLast Go.Proofs.YtoanmbhenmlboaaDoorW.PrintMore
def MxOk (w : World) : Prop := ∃ m : Int, w.cell? ⟨1, 0, none⟩ = some (.int .i64 m)
theorem MxOk.below {w w1 : World} (h : MxOk w) (hb : Below w.heap.size w w1) : MxOk w1 := by
  obtain ⟨m, hm⟩ := h
  exact ⟨m, pw_cell_below hb hm⟩
theorem MxOk.of_shaped {w : World} (h : w.ShapedOpen Tryd.prog) : MxOk w := by
  exact Go.Proofs.cell_of_shapedOpen_int (zero := #[.int .i64 0]) (t := 3) h (of_decide_eq_true (by kernel_rfl)) (by kernel_rfl) rfl (by kernel_rfl) (by kernel_rfl) Tryd.underlying3
structure TabOk (w : World) : Prop where
  c0 : w.cell? ⟨0, 0, none⟩ = some (.int .u8 48)
  c1 : w.cell? ⟨0, 1, none⟩ = some (.int .u8 57)
  c2 : w.cell? ⟨0, 2, none⟩ = some (.int .u8 65)
  c3 : w.cell? ⟨0, 3, none⟩ = some (.int .u8 90)
  c4 : w.cell? ⟨0, 4, none⟩ = some (.int .u8 97)
  c5 : w.cell? ⟨0, 5, none⟩ = some (.int .u8 122)
  mx : MxOk w
theorem TabOk.below {w w1 : World} (h : TabOk w) (hb : Below w.heap.size w w1) : TabOk w1 :=
  ⟨pw_cell_below hb h.c0, pw_cell_below hb h.c1, pw_cell_below hb h.c2, pw_cell_below hb h.c3, pw_cell_below hb h.c4, pw_cell_below hb h.c5, h.mx.below hb⟩
theorem TabOk.drawn {w w1 : World} (h : TabOk w) (hb : Drawn0 w w1) : TabOk w1 := h.below hb.below
theorem TabOk.drewN {w : World} (h : TabOk w) (n : Nat) : TabOk (w.drewN n) := h.drawn ⟨⟨n, rfl⟩⟩
theorem TabOk.lt {w : World} (h : TabOk w) : 0 < w.heap.size := World.block_lt_of_cell? w _ h.c0
end Go.Proofs.YtoanmbhenmlboaaDoorH
end
section
namespace Go.Proofs.YtoanmbhenmlboaaDoorH
open Go.RowKit Go.Proofs.YtoanmbhenmlboaaDoorW.PrintWords Go.Proofs.YtoanmbhenmlboaaDoorW.PrintLast Go.Proofs.YtoanmbhenmlboaaDoorW.PrintMore
def allB (p : Int → Bool) (s : ByteArray) : Bool := s.data.toList.all fun c => p c.toNat
theorem bt_nat (s : ByteArray) (k : Nat) (h : k < s.size) : bt s (k : Int) = ((s.data.toList.getD k 0).toNat : Int) := by
  have h' : k < s.data.toList.length := by rw [data_length]; exact h
  rw [← rd_bytesOf]
  simp [rd, bytesOf, List.getD_eq_getElem?_getD, List.getElem?_eq_getElem h']
theorem bytes_cell (w : World) (e : TypeId) (s : ByteArray) (k : Nat) (hk : k < s.size) {wr : World} (hb : Below (Lib.bytesWorld w e s).heap.size (Lib.bytesWorld w e s) wr) :
    wr.cell? ⟨w.heap.size, k, none⟩ = some (.int .u8 (bt s k)) := by
  rw [hb.cell (p := ⟨w.heap.size, k, none⟩) (by rw [Lib.bytesWorld_size]; simp), Lib.bytesWorld_cell w e s k hk, bt_nat s k hk]
def blankI (c : Int) : Bool := (c == 32) || (c == 9)
def textI (c : Int) : Bool := blankI c || (decide (c > 32) && (c != 127))
def otherL : List Int := [33, 35, 36, 37, 38, 39, 42, 43, 45, 46, 94, 95, 96, 124, 126]
def alnumI (c : Int) : Bool := decide (48 ≤ c ∧ c ≤ 57) || decide (65 ≤ c ∧ c ≤ 90) || decide (97 ≤ c ∧ c ≤ 122)
def tokI (c : Int) : Bool := alnumI c || otherL.contains c
def tokB (s : ByteArray) : Bool := !(s.data.toList.isEmpty) && allB tokI s
end Go.Proofs.YtoanmbhenmlboaaDoorH
end
section
namespace Go.Proofs.YtoanmbhenmlboaaDoorH
open Go.RowKit Go.Proofs.YtoanmbhenmlboaaDoorW.PrintWords Go.Proofs.YtoanmbhenmlboaaDoorW.PrintLast Go.Proofs.YtoanmbhenmlboaaDoorW.PrintMore
def smallI (c : Int) : Int := if 65 ≤ c ∧ c ≤ 90 then c + 32 else c
def smallL (s : ByteArray) : List Int := (bytesOf s).map smallI
def smallS (s : ByteArray) : ByteArray := strOfNums (smallL s)
theorem smallL_length (s : ByteArray) : (smallL s).length = s.size := by unfold smallL; rw [List.length_map, bytesOf_length]
theorem smallL_at (s : ByteArray) (j : Nat) (h : j < s.size) : (smallL s).getD j 0 = smallI (bt s j) := by
  have h' : j < (bytesOf s).length := by rw [bytesOf_length]; exact h
  rw [← rd_bytesOf]
  unfold smallL rd
  rw [List.getD_eq_getElem?_getD, List.getElem?_map, List.getElem?_eq_getElem h', Int.toNat_natCast, List.getD_eq_getElem?_getD, List.getElem?_eq_getElem h']
  rfl
structure SmallAt (w : World) (s : ByteArray) (k : Nat) (wr : World) : Prop where
  below : Below w.heap.size w wr
  size : w.heap.size < wr.heap.size
  low : ∀ j : Nat, j < k → wr.cell? ⟨w.heap.size, j, none⟩ = some (.int .u8 (smallI (bt s j)))
  high : ∀ j : Nat, k ≤ j → j < s.size → wr.cell? ⟨w.heap.size, j, none⟩ = some (.int .u8 (bt s j))
  free : ∀ j : Nat, j < s.size → wr.frozen? ⟨w.heap.size, j, none⟩ = false
theorem SmallAt.start (w : World) (s : ByteArray) (e : TypeId) : SmallAt w s 0 (Lib.bytesWorld w e s) := by
  refine ⟨bytes_below (Below.refl _ _) (Nat.le_refl _) e s, by rw [Lib.bytesWorld_size]; omega, fun j h => by omega, fun j _ h => bytes_cell w e s j h (Below.refl _ _), fun j h => ?_⟩
  have h2 : j < (Lib.bytesCells w e s).size := by
    unfold Lib.bytesCells
    have : s.data.size = s.size := rfl
    simp
    omega
  simp only [World.frozen?, Lib.bytesWorld_at_new]
  simp
  omega
theorem SmallAt.same {w : World} {s : ByteArray} {k : Nat} {wr : World} (h : SmallAt w s k wr) (hk : k < s.size) (hs : smallI (bt s k) = bt s k) : SmallAt w s (k + 1) wr := by
  refine ⟨h.below, h.size, fun j hj => ?_, fun j h1 h2 => h.high j (by omega) h2, h.free⟩
  rcases Nat.lt_succ_iff_lt_or_eq.1 hj with h1 | h1
  · exact h.low j h1
  · subst h1; rw [hs]; exact h.high j (Nat.le_refl _) hk
theorem SmallAt.put {w : World} {s : ByteArray} {k : Nat} {wr : World} (h : SmallAt w s k wr) (hk : k < s.size) {v : Int} (hv : v = smallI (bt s k)) : SmallAt w s (k + 1) (wr.setCell ⟨w.heap.size, k, none⟩ (.int .u8 v)) := by
  subst hv
  have hc := h.high k (Nat.le_refl _) hk
  refine ⟨h.below.setCell (p := ⟨w.heap.size, k, none⟩) (Nat.le_refl _) _, by simpa using h.size, fun j hj => ?_, fun j h1 h2 => ?_, fun j hj => by rw [World.frozen?_setCell]; exact h.free j hj⟩
  · rcases Nat.lt_succ_iff_lt_or_eq.1 hj with h1 | h1
    · rw [World.cell?_setCell_other _ _ _ _ (by intro e; injection e with _ e2; omega)]
      exact h.low j h1
    · subst h1
      exact World.cell?_setCell_same' _ _ _ (by rw [hc]; rfl)
  · rw [World.cell?_setCell_other _ _ _ _ (by intro e; injection e with _ e2; omega)]
    exact h.high j (by omega) h2
set_option maxHeartbeats 800000 in
set_option maxRecDepth 100000 in
theorem small_calls (s : ByteArray) (w : World) (hs : s.size ≤ 140737488355328) (hG : TabOk w) :
    Calls Tryd.prog 66 #[.string s] w fun e w' => e = .returned (.string (smallS s)) ∧ Below w.heap.size w w' := by
  have kb := fun W => print_bytes (P := Tryd.prog) 9 23 5 Tryd.underlying9 Tryd.underlying23 Tryd.underlying5 s W
  have HS := Aside0.mk (SmallAt.start w s 5)
  have HG := Aside0.mk hG
  clear hG
  go_enter Tryd.func66, Tryd.ntmps66
  go_wp2
  clear kb
  go_loopw [10] (fun i wr => ∃ k : Nat, k ≤ s.size ∧ i = .int .i64 k ∧ Aside0 (SmallAt w s k wr)) (fun i _ => s.size - (intOf i).toNat)
  case atStart => exact ⟨0, Nat.zero_le _, rfl, HS⟩
  case round =>
    obtain ⟨k, hk, rfl, hr⟩ := hrel
    have hGr := HG.out.below hr.out.below
    have e2 := hGr.c2
    have e3 := hGr.c3
    clear hGr
    by_cases hlt : k < s.size
    · have hc := hr.out.high k (Nat.le_refl _) hlt
      have hf := hr.out.free k hlt
      have hrg := bt_range s k
      generalize hbt : bt s (k : Int) = c at hc hrg
      have HBT := Aside0.mk hbt
      clear hbt
      by_cases h1 : 65 ≤ c
      · by_cases h2 : c ≤ 90
        · go_wp2
          go_roundw
          case rel => exact ⟨k + 1, by omega, by go_num, ⟨hr.out.put hlt (by rw [HBT.out]; unfold smallI; rw [if_pos ⟨h1, h2⟩])⟩⟩
          case measure => simp [intOf]; omega
        · have h2' : 90 < c := by omega
          clear h2
          go_wp2
          go_roundw
          case rel => exact ⟨k + 1, by omega, by go_num, ⟨hr.out.same hlt (by rw [HBT.out]; unfold smallI; rw [if_neg (by omega)])⟩⟩
          case measure => simp [intOf]; omega
      · have h1' : c < 65 := by omega
        clear h1
        go_wp2
        go_roundw
        case rel => exact ⟨k + 1, by omega, by go_num, ⟨hr.out.same hlt (by rw [HBT.out]; unfold smallI; rw [if_neg (by omega)])⟩⟩
        case measure => simp [intOf]; omega
    · have hke : k = s.size := by omega
      have hcv := run_convert_bytes_arg (P := Tryd.prog) wr 23 5 Tryd.underlying23 Tryd.underlying5 w.heap.size 0 s.size (grownCap w s.size 0 5) (smallL s) (smallL_length s) (fun i hi => by
        rw [Nat.zero_add, hr.out.low i (by omega), smallL_at s i hi]) 9 Tryd.underlying9
      clear hke
      go_wp2
      go_ret
      exact ⟨rfl, hr.out.below⟩
end Go.Proofs.YtoanmbhenmlboaaDoorH
end
section
namespace Go.Proofs
open Go.Shelf
def Tryd.lays160_ren : Go.Shelf.Ren := ⟨fun | 160 => 82 | 232 => 89 | 231 => 88 | 227 => 90 | 234 => 92 | 233 => 91 | 236 => 94 | 235 => 93 | 228 => 98 | 271 => 100 | 151 => 99 | 197 => 86 | 120 => 105 | 152 => 104 | 260 => 97 | 137 => 79 | 119 => 107 | 224 => 102 | 225 => 101 | 217 => 84 | 266 => 96 | n => n, fun | 9 => 9 | 4 => 4 | 3 => 3 | 5 => 5 | 117 => 126 | 116 => 125 | 0 => 0 | 124 => 129 | 21 => 21 | 105 => 120 | 46 => 131 | 119 => 132 | 139 => 135 | 138 => 134 | n => n, fun | 3 => 2 | 4 => 3 | n => n⟩
theorem Tryd.lays160 : Go.Proofs.Lays.n160 Tryd.prog Tryd.lays160_ren := {
  mixed := by kernel_rfl
  f119 := Tryd.func107.trans (congrArg some (by kernel_rfl))
  f120 := Tryd.func105.trans (congrArg some (by kernel_rfl))
  f137 := Tryd.func79.trans (congrArg some (by kernel_rfl))
  f151 := Tryd.func99.trans (congrArg some (by kernel_rfl))
  f152 := Tryd.func104.trans (congrArg some (by kernel_rfl))
  f160 := Tryd.func82.trans (congrArg some (by kernel_rfl))
  f197 := Tryd.func86.trans (congrArg some (by kernel_rfl))
  f217 := Tryd.func84.trans (congrArg some (by kernel_rfl))
  f224 := Tryd.func102.trans (congrArg some (by kernel_rfl))
  f225 := Tryd.func101.trans (congrArg some (by kernel_rfl))
  f227 := Tryd.func90.trans (congrArg some (by kernel_rfl))
  f228 := Tryd.func98.trans (congrArg some (by kernel_rfl))
  f231 := Tryd.func88.trans (congrArg some (by kernel_rfl))
  f232 := Tryd.func89.trans (congrArg some (by kernel_rfl))
  f233 := Tryd.func91.trans (congrArg some (by kernel_rfl))
  f234 := Tryd.func92.trans (congrArg some (by kernel_rfl))
  f235 := Tryd.func93.trans (congrArg some (by kernel_rfl))
  f236 := Tryd.func94.trans (congrArg some (by kernel_rfl))
  f260 := Tryd.func97.trans (congrArg some (by kernel_rfl))
  f266 := Tryd.func96.trans (congrArg some (by kernel_rfl))
  f271 := Tryd.func100.trans (congrArg some (by kernel_rfl))
  t0 := Tryd.underlying0
  a0 := Tryd.isAgg0
  z0 := Tryd.sizeOf0
  v0 := Tryd.zeroValue0
  t3 := Tryd.underlying3
  a3 := Tryd.isAgg3
  z3 := Tryd.sizeOf3
  v3 := Tryd.zeroValue3
  t4 := Tryd.underlying4
  a4 := Tryd.isAgg4
  z4 := Tryd.sizeOf4
  v4 := Tryd.zeroValue4
  t5 := Tryd.underlying5
  a5 := Tryd.isAgg5
  z5 := Tryd.sizeOf5
  v5 := Tryd.zeroValue5
  t9 := Tryd.underlying9
  a9 := Tryd.isAgg9
  z9 := Tryd.sizeOf9
  v9 := Tryd.zeroValue9
  t21 := Tryd.underlying21
  a21 := Tryd.isAgg21
  z21 := Tryd.sizeOf21
  v21 := Tryd.zeroValue21
  t46 := Tryd.underlying131
  a46 := Tryd.isAgg131
  z46 := Tryd.sizeOf131
  v46 := Tryd.zeroValue131
  t105 := Tryd.underlying120
  a105 := Tryd.isAgg120
  z105 := Tryd.sizeOf120
  v105 := Tryd.zeroValue120
  t116 := Tryd.underlying125
  a116 := Tryd.isAgg125
  z116 := Tryd.sizeOf125
  t117 := Tryd.underlying126
  a117 := Tryd.isAgg126
  z117 := Tryd.sizeOf126
  v117 := Tryd.zeroValue126
  t119 := Tryd.underlying132
  a119 := Tryd.isAgg132
  z119 := Tryd.sizeOf132
  t124 := Tryd.underlying129
  a124 := Tryd.isAgg129
  z124 := Tryd.sizeOf129
  v124 := Tryd.zeroValue129
  t138 := Tryd.underlying134
  a138 := Tryd.isAgg134
  z138 := Tryd.sizeOf134
  v138 := Tryd.zeroValue134
  t139 := Tryd.underlying135
  a139 := Tryd.isAgg135
  z139 := Tryd.sizeOf135
  v139 := Tryd.zeroValue135
  g3 := by kernel_rfl
  g4 := by kernel_rfl }
def Tryd.lays143_ren : Go.Shelf.Ren := ⟨fun | 143 => 87 | 219 => 95 | 217 => 84 | 225 => 101 | 224 => 102 | 267 => 103 | 266 => 96 | 314 => 106 | n => n, fun | 9 => 9 | 3 => 3 | 4 => 4 | 5 => 5 | 46 => 131 | 146 => 138 | 51 => 137 | n => n, fun | 1 => 1 | n => n⟩
theorem Tryd.lays143 : Go.Proofs.Lays.n143 Tryd.prog Tryd.lays143_ren := {
  mixed := by kernel_rfl
  f143 := Tryd.func87.trans (congrArg some (by kernel_rfl))
  f217 := Tryd.func84.trans (congrArg some (by kernel_rfl))
  f219 := Tryd.func95.trans (congrArg some (by kernel_rfl))
  f224 := Tryd.func102.trans (congrArg some (by kernel_rfl))
  f225 := Tryd.func101.trans (congrArg some (by kernel_rfl))
  f266 := Tryd.func96.trans (congrArg some (by kernel_rfl))
  f267 := Tryd.func103.trans (congrArg some (by kernel_rfl))
  f314 := Tryd.func106.trans (congrArg some (by kernel_rfl))
  t3 := Tryd.underlying3
  a3 := Tryd.isAgg3
  z3 := Tryd.sizeOf3
  v3 := Tryd.zeroValue3
  t4 := Tryd.underlying4
  a4 := Tryd.isAgg4
  z4 := Tryd.sizeOf4
  v4 := Tryd.zeroValue4
  t5 := Tryd.underlying5
  a5 := Tryd.isAgg5
  z5 := Tryd.sizeOf5
  v5 := Tryd.zeroValue5
  t9 := Tryd.underlying9
  a9 := Tryd.isAgg9
  z9 := Tryd.sizeOf9
  v9 := Tryd.zeroValue9
  t46 := Tryd.underlying131
  a46 := Tryd.isAgg131
  z46 := Tryd.sizeOf131
  v46 := Tryd.zeroValue131
  t51 := Tryd.underlying137
  a51 := Tryd.isAgg137
  z51 := Tryd.sizeOf137
  v51 := Tryd.zeroValue137
  t146 := Tryd.underlying138
  a146 := Tryd.isAgg138
  z146 := Tryd.sizeOf138
  v146 := Tryd.zeroValue138
  g1 := by kernel_rfl }
open Go.RowKit Go.Lib in
theorem Tryd.strings_Index (s sub : ByteArray) (m : Int) (w : World) (hs : s.size < 4294967281) (hm : w.cell? ⟨1, 0, none⟩ = some (.int .i64 m)) :
    Calls Tryd.prog 87 #[.string s, .string sub] w fun e w' => e = .returned (.int .i64 (Lib.index s.data.toList sub.data.toList)) ∧ w' = w := Any.strings_Index Tryd.lays143 s sub m w hs hm
def Tryd.lays145_ren : Go.Shelf.Ren := ⟨fun | 145 => 76 | 220 => 83 | 219 => 95 | 217 => 84 | 225 => 101 | 224 => 102 | 267 => 103 | 266 => 96 | 314 => 106 | n => n, fun | 9 => 9 | 4 => 4 | 59 => 111 | 3 => 3 | 5 => 5 | 46 => 131 | 146 => 138 | 51 => 137 | n => n, fun | 1 => 1 | n => n⟩
theorem Tryd.lays145 : Go.Proofs.Lays.n145 Tryd.prog Tryd.lays145_ren := {
  mixed := by kernel_rfl
  f145 := Tryd.func76.trans (congrArg some (by kernel_rfl))
  f217 := Tryd.func84.trans (congrArg some (by kernel_rfl))
  f219 := Tryd.func95.trans (congrArg some (by kernel_rfl))
  f220 := Tryd.func83.trans (congrArg some (by kernel_rfl))
  f224 := Tryd.func102.trans (congrArg some (by kernel_rfl))
  f225 := Tryd.func101.trans (congrArg some (by kernel_rfl))
  f266 := Tryd.func96.trans (congrArg some (by kernel_rfl))
  f267 := Tryd.func103.trans (congrArg some (by kernel_rfl))
  f314 := Tryd.func106.trans (congrArg some (by kernel_rfl))
  t3 := Tryd.underlying3
  a3 := Tryd.isAgg3
  z3 := Tryd.sizeOf3
  v3 := Tryd.zeroValue3
  t4 := Tryd.underlying4
  a4 := Tryd.isAgg4
  z4 := Tryd.sizeOf4
  v4 := Tryd.zeroValue4
  t5 := Tryd.underlying5
  a5 := Tryd.isAgg5
  z5 := Tryd.sizeOf5
  v5 := Tryd.zeroValue5
  t9 := Tryd.underlying9
  a9 := Tryd.isAgg9
  z9 := Tryd.sizeOf9
  v9 := Tryd.zeroValue9
  t46 := Tryd.underlying131
  a46 := Tryd.isAgg131
  z46 := Tryd.sizeOf131
  v46 := Tryd.zeroValue131
  t51 := Tryd.underlying137
  a51 := Tryd.isAgg137
  z51 := Tryd.sizeOf137
  v51 := Tryd.zeroValue137
  t59 := Tryd.underlying111
  a59 := Tryd.isAgg111
  z59 := Tryd.sizeOf111
  v59 := Tryd.zeroValue111
  t146 := Tryd.underlying138
  a146 := Tryd.isAgg138
  z146 := Tryd.sizeOf138
  v146 := Tryd.zeroValue138
  g1 := by kernel_rfl }
open Go.RowKit Go.Lib in
theorem Tryd.strings_Cut (s sep : ByteArray) (m : Int) (w : World) (hs : s.size < 4294967281) (hm : w.cell? ⟨1, 0, none⟩ = some (.int .i64 m)) :
    Calls Tryd.prog 76 #[.string s, .string sep] w fun e w' => e = .returned (.tuple #[.string ⟨(Lib.cut s.data.toList sep.data.toList).1.toArray⟩, .string ⟨(Lib.cut s.data.toList sep.data.toList).2.1.toArray⟩, .bool (Lib.cut s.data.toList sep.data.toList).2.2]) ∧ ∃ n, w' = w.drewN n := Any.strings_Cut Tryd.lays145 s sep m w hs hm
end Go.Proofs
end
section
namespace Go.Proofs.YtoanmbhenmlboaaDoorH
open Go.RowKit Go.Proofs.YtoanmbhenmlboaaDoorW.PrintWords Go.Proofs.YtoanmbhenmlboaaDoorW.PrintLast Go.Proofs.YtoanmbhenmlboaaDoorW.PrintMore
def trimL (l : List UInt8) : List UInt8 := Lib.trimS l [32, 9]
def trimS (s : ByteArray) : ByteArray := ⟨(trimL s.data.toList).toArray⟩
set_option maxHeartbeats 800000 in
set_option maxRecDepth 100000 in
theorem trim_calls (s : ByteArray) (w : World) (hs : s.size ≤ 140737488355328) :
    Calls Tryd.prog 75 #[.string s] w fun e w' => e = .returned (.string (trimS s)) ∧ Below w.heap.size w w' := by
  have H := Aside0.mk (Any.strings_Trim_laid Tryd.lays160 (by kernel_rfl) s ⟨#[32, 9]⟩ w (by omega) (by decide) (ascii_of_all (by decide)))
  go_enter Tryd.func75, Tryd.ntmps75
  go_wp2_with fail
  refine H.out.mono ?_
  rintro e w' ⟨rfl, hb⟩
  have HB := Aside0.mk hb
  clear hb
  go_wp2
  go_ret
  exact ⟨rfl, HB.out⟩
def octet_Text.f (a0 : ByteArray) : Option Bool := if a0.size ≤ 140737488355328 then some (allB textI a0) else none
def octet_Token.f (a0 : ByteArray) : Option Bool := if a0.size ≤ 140737488355328 then some (tokB a0) else none
def octet_Small.f (a0 : ByteArray) : Option ByteArray := if a0.size ≤ 140737488355328 then some (smallS a0) else none
def octet_Trim.f (a0 : ByteArray) : Option ByteArray := if a0.size ≤ 140737488355328 then some (trimS a0) else none
theorem octet_Trim.calls (a0 : ByteArray) (r : ByteArray) (w : World) (_hG : TabOk w) (h : octet_Trim.f a0 = some r) :
    Calls Tryd.prog 75 #[.string a0] w fun e w' => e = .returned (.string r) ∧ Below w.heap.size w w' := by
  unfold octet_Trim.f at h
  split at h
  · injection h with h; subst h; exact trim_calls a0 w (by assumption)
  · cases h
end Go.Proofs.YtoanmbhenmlboaaDoorH
end
section
namespace Go.Proofs.YtoanmbhenmlboaaDoorH
open Go.RowKit Go.Proofs.YtoanmbhenmlboaaDoorW.PrintWords Go.Proofs.YtoanmbhenmlboaaDoorW.PrintLast Go.Proofs.YtoanmbhenmlboaaDoorW.PrintMore
theorem wrap_up {i : Int} {n : Nat} (h0 : 0 ≤ i) (h : i < (n : Int)) (hn : n ≤ 140737488355328) : wrap64 (i + 1) = i + 1 := by
  unfold wrap64
  omega
theorem wrap_down {n : Nat} (h : 0 < n) (hn : n ≤ 140737488355328) : wrap64 ((n : Int) - 1) = (n : Int) - 1 := by
  unfold wrap64
  omega
theorem bytes_ext {a b : ByteArray} (h : a.data.toList = b.data.toList) : a = b := by
  cases a; cases b
  congr 1
  exact Array.toList_inj.1 h
theorem beq_toList (a b : ByteArray) : (a.toList == b.toList) = decide (a = b) := by
  rw [ByteArray.toList_eq, ByteArray.toList_eq, Bool.eq_iff_iff]
  simp only [beq_iff_eq, decide_eq_true_eq]
  exact ⟨bytes_ext, fun h => by rw [h]⟩
theorem eq_toList (a b : ByteArray) : (a.toList = b.toList) ↔ a = b := by
  rw [ByteArray.toList_eq, ByteArray.toList_eq]
  exact ⟨bytes_ext, fun h => by rw [h]⟩
theorem size_eq_length (s : ByteArray) : s.size = s.data.toList.length := (data_length s).symm
def rtrim (p : UInt8 → Bool) (l : List UInt8) : List UInt8 := (l.reverse.dropWhile p).reverse
theorem rtrim_cons (p : UInt8 → Bool) (a : UInt8) (t : List UInt8) : rtrim p (a :: t) = if (rtrim p t).isEmpty then (if p a then [] else [a]) else a :: rtrim p t := by
  unfold rtrim
  rw [List.reverse_cons, List.dropWhile_append]
  by_cases h : (t.reverse.dropWhile p).isEmpty
  · rw [if_pos h]
    have h' : t.reverse.dropWhile p = [] := by simpa using h
    rw [h']
    cases hp : p a <;> simp [List.dropWhile, hp]
  · rw [if_neg h, if_neg (by simpa using h)]
    simp
theorem rtrim_left (p : UInt8 → Bool) (l : List UInt8) : (rtrim p l).dropWhile p = rtrim p (l.dropWhile p) := by
  induction l with
  | nil => rfl
  | cons a t ih =>
    rw [rtrim_cons]
    cases hp : p a with
    | true =>
      rw [List.dropWhile_cons_of_pos hp, ← ih]
      by_cases h : (rtrim p t).isEmpty
      · have h' : rtrim p t = [] := by simpa using h
        rw [if_pos h, if_pos rfl, h']
      · rw [if_neg h, List.dropWhile_cons_of_pos hp]
    | false =>
      rw [List.dropWhile_cons_of_neg (by simp [hp]), rtrim_cons, hp]
      by_cases h : (rtrim p t).isEmpty
      · rw [if_pos h]
        exact List.dropWhile_cons_of_neg (by simp [hp])
      · rw [if_neg h]
        exact List.dropWhile_cons_of_neg (by simp [hp])
def blankU (c : UInt8) : Bool := ([32, 9] : List UInt8).contains c
theorem blankU_int (c : UInt8) : blankI (c.toNat : Int) = blankU c := by
  have : ∀ n : Fin 256, blankI (n.val : Int) = blankU (UInt8.ofNat n.val) := by decide +kernel
  have h := this ⟨c.toNat, c.toNat_lt⟩
  simpa using h
theorem trimL_eq (l : List UInt8) : trimL l = (rtrim blankU l).dropWhile blankU := rfl
theorem trimL_eq' (l : List UInt8) : trimL l = rtrim blankU (l.dropWhile blankU) := by rw [trimL_eq, rtrim_left]
theorem rtrim_snoc (p : UInt8 → Bool) (l : List UInt8) (a : UInt8) : rtrim p (l ++ [a]) = if p a then rtrim p l else l ++ [a] := by
  unfold rtrim
  rw [List.reverse_append]
  cases hp : p a <;> simp [hp]
theorem trimS_data (s : ByteArray) : (trimS s).data.toList = trimL s.data.toList := rfl
theorem rtrim_length (p : UInt8 → Bool) (l : List UInt8) : (rtrim p l).length ≤ l.length := by
  unfold rtrim
  have := (List.dropWhile_sublist p (l := l.reverse)).length_le
  simpa using this
theorem trimL_length (l : List UInt8) : (trimL l).length ≤ l.length := by
  rw [trimL_eq]
  exact Nat.le_trans (List.dropWhile_sublist _).length_le (rtrim_length _ _)
theorem trimS_size (s : ByteArray) : (trimS s).size ≤ s.size := by
  rw [size_eq_length, size_eq_length, trimS_data]
  exact trimL_length _
theorem extract_list (s : ByteArray) (i j : Nat) : (s.extract i j).data.toList = (s.data.toList.drop i).take (j - i) := by
  rw [ByteArray.data_extract, Array.toList_extract, List.extract_eq_take_drop]
theorem extract_from (s : ByteArray) (i : Nat) : (s.extract i s.size).data.toList = s.data.toList.drop i := by
  rw [extract_list, List.take_of_length_le]
  rw [List.length_drop, data_length]
  exact Nat.le_refl _
theorem extract_to (s : ByteArray) (j : Nat) : (s.extract 0 j).data.toList = s.data.toList.take j := by
  rw [extract_list, List.drop_zero, Nat.sub_zero]
theorem first_of (s : ByteArray) (h : 0 < s.size) : ∃ c t, s.data.toList = c :: t ∧ bt s 0 = (c.toNat : Int) := by
  have hb := bt_nat s 0 h
  cases hl : s.data.toList with
  | nil => rw [size_eq_length, hl] at h; simp at h
  | cons c t => exact ⟨c, t, rfl, by rw [hl] at hb; exact hb⟩
theorem last_of (s : ByteArray) (h : 0 < s.size) : ∃ t c, s.data.toList = t ++ [c] ∧ bt s ((s.size : Int) - 1) = (c.toNat : Int) := by
  have hne : s.data.toList ≠ [] := by intro e; rw [size_eq_length, e] at h; simp at h
  have hb := bt_nat s (s.size - 1) (by omega)
  refine ⟨s.data.toList.dropLast, s.data.toList.getLast hne, (List.dropLast_concat_getLast hne).symm, ?_⟩
  rw [show ((s.size : Int) - 1) = ((s.size - 1 : Nat) : Int) by omega, hb, List.getLast_eq_getElem, List.getD_eq_getElem?_getD, List.getElem?_eq_getElem (by rw [data_length]; omega)]
  simp only [Option.getD_some, data_length]
theorem drop_byte (s : ByteArray) (i : Nat) (h : i < s.size) : ∃ c, s.data.toList.drop i = c :: s.data.toList.drop (i + 1) ∧ bt s (i : Int) = (c.toNat : Int) := by
  have hi : i < s.data.toList.length := by rw [← size_eq_length]; exact h
  refine ⟨s.data.toList[i], List.drop_eq_getElem_cons hi, ?_⟩
  rw [bt_nat s i h, List.getD_eq_getElem?_getD, List.getElem?_eq_getElem hi]
  rfl
end Go.Proofs.YtoanmbhenmlboaaDoorH
end
section
namespace Go.Proofs.YtoanmbhenmlboaaDoorH
open Go.RowKit Go.Proofs.YtoanmbhenmlboaaDoorW.PrintWords Go.Proofs.YtoanmbhenmlboaaDoorW.PrintLast Go.Proofs.YtoanmbhenmlboaaDoorW.PrintMore
def interimS : ByteArray := ⟨#[72, 84, 84, 80, 47, 49, 46, 49, 32, 49, 48, 48, 32, 67, 111, 110, 116, 105, 110, 117, 101, 13, 10, 13, 10]⟩
def IsH (W : World) (b : Nat) (st pa : Int) (lf : ByteArray) : Prop := W.heap[b]? = some (.cells #[.int .i64 st, .int .i64 pa, .string lf] 69 (0, 0))
section
variable {W : World} {b : Nat} {st pa : Int} {lf : ByteArray}
theorem IsH.c0 (h : IsH W b st pa lf) : W.cell? ⟨b, 0, none⟩ = some (.int .i64 st) := (blk_cell h 0).trans rfl
theorem IsH.c1 (h : IsH W b st pa lf) : W.cell? ⟨b, 1, none⟩ = some (.int .i64 pa) := (blk_cell h 1).trans rfl
theorem IsH.c2 (h : IsH W b st pa lf) : W.cell? ⟨b, 2, none⟩ = some (.string lf) := (blk_cell h 2).trans rfl
theorem IsH.fz (h : IsH W b st pa lf) (j : Nat) : W.frozen? ⟨b, j, none⟩ = false := blk_frozen h j
theorem IsH.s0 (h : IsH W b st pa lf) (x : Int) : IsH (W.setCell ⟨b, 0, none⟩ (.int .i64 x)) b x pa lf := by unfold IsH; simpa using blk_set h 0 (.int .i64 x)
theorem IsH.s1 (h : IsH W b st pa lf) (x : Int) : IsH (W.setCell ⟨b, 1, none⟩ (.int .i64 x)) b st x lf := by unfold IsH; simpa using blk_set h 1 (.int .i64 x)
theorem IsH.s2 (h : IsH W b st pa lf) (x : ByteArray) : IsH (W.setCell ⟨b, 2, none⟩ (.string x)) b st pa x := by unfold IsH; simpa using blk_set h 2 (.string x)
theorem IsH.alloc (h : IsH W b st pa lf) (o : Obj) : IsH (W.alloc o) b st pa lf := blk_alloc h o
theorem IsH.drew (h : IsH W b st pa lf) : IsH W.drew b st pa lf := h
theorem IsH.lt (h : IsH W b st pa lf) : b < W.heap.size := blk_lt h
theorem IsH.below {W' : World} {B : Nat} (h : IsH W b st pa lf) (hb : Below B W W') (hlt : b < B) : IsH W' b st pa lf := by
  unfold IsH at *
  rw [hb.block b hlt]
  exact h
end
def Only (b : Nat) (w w' : World) : Prop := Below b w w' ∧ KeepBut w w' b none
theorem Only.refl (b : Nat) (w : World) : Only b w w := ⟨Below.refl _ _, KeepBut.refl _ _ _⟩
theorem Only.set {b : Nat} {w W : World} (h : Only b w W) (j : Nat) (v : Value) : Only b w (W.setCell ⟨b, j, none⟩ v) := ⟨h.1.setCell (p := ⟨b, j, none⟩) (Nat.le_refl _) v, KeepBut.set_ h.2 j v⟩
theorem below_set {B b : Nat} {w W : World} (h : Below B w W) (hb : B ≤ b) (j : Nat) (v : Value) : Below B w (W.setCell ⟨b, j, none⟩ v) := h.setCell (p := ⟨b, j, none⟩) hb v
set_option maxHeartbeats 1600000 in
set_option maxRecDepth 100000 in
theorem state_calls (b : Nat) (st pa : Int) (lf : ByteArray) (w : World) (h : IsH w b st pa lf) :
    Calls Tryd.prog 24 #[.pointer (some ⟨b, 0, none⟩)] w fun e w' => e = .returned (.int .i64 st) ∧ w' = w := by
  have h0 := h.c0
  clear h
  go_enter Tryd.func24, Tryd.ntmps24
  go_wp2
  go_ret
  exact ⟨rfl, rfl⟩
set_option maxHeartbeats 1600000 in
set_option maxRecDepth 100000 in
theorem goOn_calls (b : Nat) (st pa : Int) (lf : ByteArray) (w : World) (h : IsH w b st pa lf) :
    Calls Tryd.prog 38 #[.pointer (some ⟨b, 0, none⟩)] w fun e w' => e = .returned (.tuple #[]) ∧ w' = (w.setCell ⟨b, 0, none⟩ (.int .i64 2)).setCell ⟨b, 2, none⟩ (.string interimS) := by
  have h0 := h.c0
  have z0 := h.fz 0
  have h2 := (h.s0 2).c2
  have z2 := (h.s0 2).fz 2
  clear h
  go_enter Tryd.func38, Tryd.ntmps38
  go_wp2
  go_end0
  exact ⟨rfl, rfl⟩
set_option maxHeartbeats 1600000 in
set_option maxRecDepth 100000 in
theorem reads_calls (b : Nat) (st pa : Int) (lf : ByteArray) (w : World) (h : IsH w b st pa lf) :
    Calls Tryd.prog 25 #[.pointer (some ⟨b, 0, none⟩)] w fun e w' => e = .returned (.bool (decide (st = 0) || decide (st = 2) && decide (lf.size = 0))) ∧ w' = w := by
  have h0 := h.c0
  have h2 := h.c2
  clear h
  by_cases e0 : st = 0
  · subst e0
    go_enter Tryd.func25, Tryd.ntmps25
    go_wp2
    go_ret
    exact ⟨rfl, rfl⟩
  · have b0 : (st == 0) = false := by rw [beq_eq_false_iff_ne]; exact e0
    by_cases e2 : st = 2
    · subst e2
      by_cases hl : lf.size = 0
      · obtain rfl : lf = ⟨#[]⟩ := ByteArray.ext (Array.eq_empty_of_size_eq_zero hl)
        go_enter Tryd.func25, Tryd.ntmps25
        go_wp2
        go_ret
        exact ⟨rfl, rfl⟩
      · have hne1 : (lf.toList == ([] : List UInt8)) = false := by
          rw [ByteArray.toList_eq, beq_eq_false_iff_ne]
          intro e
          apply hl
          rw [size_eq_length, e]; rfl
        have hne2 : (lf.toList = ([] : List UInt8)) = False := by simpa using hne1
        have hne3 : (lf = (⟨#[]⟩ : ByteArray)) = False := by
          refine eq_false ?_
          rintro rfl
          exact hl rfl
        have hd : decide (lf.size = 0) = false := decide_eq_false hl
        rw [hd]
        clear hd hl
        go_enter Tryd.func25, Tryd.ntmps25
        go_wp2
        go_ret
        exact ⟨rfl, rfl⟩
    · have b2 : (st == 2) = false := by rw [beq_eq_false_iff_ne]; exact e2
      have d0 : decide (st = 0) = false := decide_eq_false e0
      have d2 : decide (st = 2) = false := decide_eq_false e2
      rw [d0, d2]
      clear d0 d2
      go_enter Tryd.func25, Tryd.ntmps25
      go_wp2
      go_ret
      exact ⟨rfl, rfl⟩
set_option maxHeartbeats 1600000 in
set_option maxRecDepth 100000 in
theorem interims_calls (b : Nat) (st pa : Int) (lf : ByteArray) (w : World) (h : IsH w b st pa lf) (hl : lf.size ≤ 25) :
    Calls Tryd.prog 27 #[.pointer (some ⟨b, 0, none⟩)] w fun e w' => e = .returned (.int .i64 (if st = 2 then 25 - (lf.size : Int) else 0)) ∧ w' = w := by
  have h0 := h.c0
  have h2 := h.c2
  clear h
  by_cases e2 : st = 2
  · subst e2
    rw [if_pos rfl]
    go_enter Tryd.func27, Tryd.ntmps27
    go_wp2
    go_ret
    exact ⟨rfl, rfl⟩
  · rw [if_neg e2]
    have b2 : (st != 2) = true := by rw [bne_iff_ne]; exact e2
    go_enter Tryd.func27, Tryd.ntmps27
    go_wp2
    go_ret
    exact ⟨rfl, rfl⟩
def tickR (st pa : Int) (lf : ByteArray) (n : Int) : Int × Int × ByteArray :=
  if st = 1 ∧ pa ≠ 0 then (if pa ≤ n then (2, 0, interimS) else (1, pa - max n 0, lf)) else (st, pa, lf)
def originR (st : Int) (lf : ByteArray) (x : Int) : Int × ByteArray :=
  if x < 100 ∨ 999 < x ∨ st ≠ 1 then (st, lf) else if x = 100 then (2, interimS) else if x < 200 then (1, lf) else (3, lf)
set_option maxHeartbeats 1600000 in
set_option maxRecDepth 100000 in
theorem tick_calls (b : Nat) (st pa n : Int) (lf : ByteArray) (w : World) (h : IsH w b st pa lf) (hp : 0 ≤ pa ∧ pa ≤ 1073741824) :
    Calls Tryd.prog 15 #[.pointer (some ⟨b, 0, none⟩), .int .i64 n] w fun e w' =>
      e = .returned (.int .i64 (tickR st pa lf n).1) ∧ IsH w' b (tickR st pa lf n).1 (tickR st pa lf n).2.1 (tickR st pa lf n).2.2 ∧ Only b w w' := by
  have h0 := h.c0
  have h1 := h.c1
  have z1 := h.fz 1
  have HH := Aside0.mk h
  clear h
  by_cases e1 : st = 1
  · subst e1
    by_cases ep : pa = 0
    · subst ep
      have HR := Aside0.mk (show tickR 1 0 lf n = (1, 0, lf) by unfold tickR; rw [if_neg (by simp)])
      go_enter Tryd.func15, Tryd.ntmps15
      go_wp2
      go_ret
      rw [HR.out]
      exact ⟨rfl, HH.out, Only.refl _ _⟩
    · have bp : (pa == 0) = false := by rw [beq_eq_false_iff_ne]; exact ep
      by_cases hn : pa ≤ n
      · have HR := Aside0.mk (show tickR 1 pa lf n = (2, 0, interimS) by unfold tickR; rw [if_pos ⟨rfl, ep⟩, if_pos hn])
        have hm : max pa 0 = pa := by omega
        have hw1 : IntKind.i64.wrap (pa - pa) = 0 := by rw [Int.sub_self]; decide
        have k1 := (HH.out.s1 0).c1
        have k0 := (HH.out.s1 0).c0
        have H1 := Aside0.mk (HH.out.s1 0)
        have k00 := ((HH.out.s1 0).s0 2).s2 interimS
        have k0' := k00.c0
        clear k00
        go_enter Tryd.func15, Tryd.ntmps15
        go_wp2_with fail
        refine (goOn_calls b 1 0 lf _ H1.out).mono ?_
        rintro e w' ⟨rfl, rfl⟩
        go_wp2
        go_ret
        rw [HR.out]
        exact ⟨rfl, ((HH.out.s1 0).s0 2).s2 interimS, Only.set (Only.set (Only.set (Only.refl _ _) _ _) _ _) _ _⟩
      · have hn' : n < pa := by omega
        have HR := Aside0.mk (show tickR 1 pa lf n = (1, pa - max n 0, lf) by unfold tickR; rw [if_pos ⟨rfl, ep⟩, if_neg hn])
        have hw1 : IntKind.i64.wrap (pa - max n 0) = pa - max n 0 := by
          unfold IntKind.wrap
          simp [IntKind.bits, IntKind.signed]
          omega
        have bp2 : (pa - max n 0 == 0) = false := by rw [beq_eq_false_iff_ne]; omega
        have k1 := (HH.out.s1 (pa - max n 0)).c1
        have k0 := (HH.out.s1 (pa - max n 0)).c0
        clear ep hp
        go_enter Tryd.func15, Tryd.ntmps15
        go_wp2
        go_ret
        rw [HR.out]
        exact ⟨rfl, HH.out.s1 _, Only.set (Only.refl _ _) _ _⟩
  · have HR := Aside0.mk (show tickR st pa lf n = (st, pa, lf) by unfold tickR; rw [if_neg (by simp [e1])])
    have b1 : (st != 1) = true := by rw [bne_iff_ne]; exact e1
    clear e1
    go_enter Tryd.func15, Tryd.ntmps15
    go_wp2
    go_ret
    rw [HR.out]
    exact ⟨rfl, HH.out, Only.refl _ _⟩
set_option maxHeartbeats 1600000 in
set_option maxRecDepth 100000 in
theorem origin_calls (b : Nat) (st pa x : Int) (lf : ByteArray) (w : World) (h : IsH w b st pa lf) :
    Calls Tryd.prog 19 #[.pointer (some ⟨b, 0, none⟩), .int .i64 x] w fun e w' =>
      e = .returned (.tuple #[.int .i64 (if x < 100 ∨ 999 < x then 0 else (originR st lf x).1), .int .i64 (if x < 100 ∨ 999 < x then 1 else 0)]) ∧ IsH w' b (originR st lf x).1 pa (originR st lf x).2 ∧ Only b w w' := by
  have h0 := h.c0
  have z0 := h.fz 0
  have HH := Aside0.mk h
  clear h
  by_cases hx : x < 100 ∨ 999 < x
  · have HR := Aside0.mk (show originR st lf x = (st, lf) by unfold originR; rw [if_pos (by omega)])
    rw [if_pos hx, if_pos hx]
    by_cases hx1 : x < 100
    · clear hx
      go_enter Tryd.func19, Tryd.ntmps19
      go_wp2
      go_ret2
      rw [HR.out]
      exact ⟨rfl, HH.out, Only.refl _ _⟩
    · have hx2 : 999 < x := by omega
      clear hx
      go_enter Tryd.func19, Tryd.ntmps19
      go_wp2
      go_ret2
      rw [HR.out]
      exact ⟨rfl, HH.out, Only.refl _ _⟩
  · rw [if_neg hx, if_neg hx]
    have hx1 : 100 ≤ x := by omega
    have hx2 : x ≤ 999 := by omega
    by_cases e1 : st = 1
    · subst e1
      by_cases e2 : x = 100
      · subst e2
        have HR := Aside0.mk (show originR 1 lf 100 = (2, interimS) by unfold originR; rw [if_neg (by simp), if_pos rfl])
        have k0 := ((HH.out.s0 2).s2 interimS).c0
        clear hx hx1 hx2
        go_enter Tryd.func19, Tryd.ntmps19
        go_wp2_with fail
        refine (goOn_calls b 1 pa lf _ HH.out).mono ?_
        rintro e w' ⟨rfl, rfl⟩
        go_wp2
        go_ret2
        rw [HR.out]
        exact ⟨rfl, (HH.out.s0 2).s2 interimS, Only.set (Only.set (Only.refl _ _) _ _) _ _⟩
      · have b2 : (x == 100) = false := by rw [beq_eq_false_iff_ne]; exact e2
        by_cases h2 : x < 200
        · have HR := Aside0.mk (show originR 1 lf x = (1, lf) by unfold originR; rw [if_neg (by omega), if_neg e2, if_pos h2])
          clear hx e2
          go_enter Tryd.func19, Tryd.ntmps19
          go_wp2
          go_ret2
          rw [HR.out]
          exact ⟨rfl, HH.out, Only.refl _ _⟩
        · have HR := Aside0.mk (show originR 1 lf x = (3, lf) by unfold originR; rw [if_neg (by omega), if_neg e2, if_neg h2])
          have h2' : 200 ≤ x := by omega
          have k0 := (HH.out.s0 3).c0
          clear hx e2 h2
          go_enter Tryd.func19, Tryd.ntmps19
          go_wp2
          go_ret2
          rw [HR.out]
          exact ⟨rfl, HH.out.s0 3, Only.set (Only.refl _ _) _ _⟩
    · have HR := Aside0.mk (show originR st lf x = (st, lf) by unfold originR; rw [if_pos (by omega)])
      have b1 : (st != 1) = true := by rw [bne_iff_ne]; exact e1
      clear hx e1
      go_enter Tryd.func19, Tryd.ntmps19
      go_wp2
      go_ret2
      rw [HR.out]
      exact ⟨rfl, HH.out, Only.refl _ _⟩
def outN (lf : ByteArray) (n : Int) : Nat := (min (max n 0) (lf.size : Int)).toNat
def outS (lf : ByteArray) (n : Int) : ByteArray := lf.extract 0 (outN lf n)
def outR (lf : ByteArray) (n : Int) : ByteArray := lf.extract (outN lf n) lf.size
theorem outN_le (lf : ByteArray) (n : Int) : outN lf n ≤ lf.size := by unfold outN; omega
theorem outS_size (lf : ByteArray) (n : Int) : (outS lf n).size = outN lf n := by
  unfold outS
  have := outN_le lf n
  rw [ByteArray.size_extract]
  omega
theorem outR_size (lf : ByteArray) (n : Int) : (outR lf n).size = lf.size - outN lf n := by
  unfold outR
  rw [ByteArray.size_extract]
  omega
set_option maxHeartbeats 1600000 in
set_option maxRecDepth 100000 in
theorem out_calls (b : Nat) (st pa n : Int) (lf : ByteArray) (w : World) (h : IsH w b st pa lf) (hl : lf.size ≤ 25) :
    Calls Tryd.prog 23 #[.pointer (some ⟨b, 0, none⟩), .int .i64 n] w fun e w' =>
      ∃ c : Nat, e = .returned (.slice (some ⟨w.heap.size, 0, none⟩) (outN lf n) c) ∧ (∀ j : Nat, j < outN lf n → w'.cell? ⟨w.heap.size, j, none⟩ = some (.int .u8 (bt (outS lf n) j))) ∧ IsH w' b st pa (outR lf n) ∧ Only b w w' := by
  have h2 := h.c2
  have z2 := h.fz 2
  have HH := Aside0.mk h
  clear h
  obtain ⟨m, hm⟩ : ∃ m : Nat, min (max n 0) (lf.size : Int) = (m : Int) := ⟨(min (max n 0) (lf.size : Int)).toNat, by omega⟩
  have HN := Aside0.mk (show outN lf n = m by unfold outN; rw [hm]; rfl)
  have hmle : m ≤ lf.size := by omega
  have kb := fun W => print_bytes (P := Tryd.prog) 9 23 5 Tryd.underlying9 Tryd.underlying23 Tryd.underlying5 (lf.extract 0 m) W
  go_enter Tryd.func23, Tryd.ntmps23
  go_wp2
  go_ret
  have hs : (lf.extract 0 m).size = m := by rw [ByteArray.size_extract]; omega
  have H2 := HH.out.s2 (lf.extract m lf.size)
  have hb : Below b w (w.setCell ⟨b, 2, none⟩ (.string (lf.extract m lf.size))) := (Only.set (Only.refl _ _) _ _).1
  have hz : (w.setCell ⟨b, 2, none⟩ (.string (lf.extract m lf.size))).heap.size = w.heap.size := by simp
  have hb2 := bytes_below hb (by have := HH.out.lt; omega) 5 (lf.extract 0 m)
  unfold outR outS
  rw [HN.out]
  refine ⟨_, rfl, fun j hj => ?_, ?_, hb2, KeepBut.trans (Only.set (Only.refl b w) 2 _).2 (KeepBut.of_below (bytes_below (Below.refl _ _) (Nat.le_refl _) 5 _) b none) (.inl rfl)⟩
  · have := bytes_cell (w.setCell ⟨b, 2, none⟩ (.string (lf.extract m lf.size))) 5 (lf.extract 0 m) j (by omega) (Below.refl _ _)
    rw [hz] at this
    exact this
  · exact H2.below (bytes_below (B := w.heap.size) (Below.refl _ _) (by omega) 5 _) HH.out.lt
end Go.Proofs.YtoanmbhenmlboaaDoorH
end
section
namespace Go.Proofs.YtoanmbhenmlboaaDoorH
open Go.RowKit Go.Proofs.YtoanmbhenmlboaaDoorW.PrintWords Go.Proofs.YtoanmbhenmlboaaDoorW.PrintLast Go.Proofs.YtoanmbhenmlboaaDoorW.PrintMore
theorem take_one {α : Type} (l : List α) (d : α) (k : Nat) (h : k < l.length) : l.take (k + 1) = l.take k ++ [l.getD k d] := by
  rw [List.take_succ_eq_append_getElem h]
  simp [List.getD_eq_getElem?_getD, h]
theorem mem_getD {α : Type} (l : List α) (d : α) (k : Nat) (h : k < l.length) : l.getD k d ∈ l := by
  rw [List.getD_eq_getElem?_getD, List.getElem?_eq_getElem h]
  exact List.getElem_mem h
theorem at_str {w : World} {A : Option Addr} {n : Nat} {xs : List ByteArray} (h : Kd.C Kd.string w A n xs) (k : Nat) (hk : k < n) : ∃ ad, A = some ad ∧ w.cell? (ad.add k) = some (.string (xs.getD k ByteArray.empty)) := by
  obtain ⟨ad, c, e, _, hK, hc0⟩ := Kd.C_get h ByteArray.empty (k : Int) (by omega) (by omega)
  have hc : ∀ j u, c[j]? = some u → w.cell? (ad.add ((k : Int).toNat * 1 + j)) = some u := hc0
  rw [Int.toNat_natCast] at hK hc
  have hK : c = [.string (xs.getD k ByteArray.empty)] := hK
  subst hK
  refine ⟨ad, e, ?_⟩
  have := hc 0 _ rfl
  rwa [Nat.mul_one, Nat.add_zero] at this
end Go.Proofs.YtoanmbhenmlboaaDoorH
end
