import Derived.Test.YtmmbpbgcobmifaaDoorZDechunkPiecesP0
import Derived.Test.YtmmbpbgcobmifaaDoorProg
import Derived.SizedLaws
import Derived.ChangeSlices
import Derived.Below
import Derived.Outline
import Derived.Shelf.Vars
import Derived.Lib.SlFresh
import Derived.Lib.SlParts
import Derived.Laws.BytesArg
import Derived.Deep.RegionHeld3
import Derived.Laws.Pointers
import Derived.Laws.NewBlocks
import Derived.Deep.CutBlock
import Derived.WalkLawsBesides
import Derived.Lib.Bytealg
import Derived.Shelf.Strings.Trim
import Derived.Shelf.Small.Utf8
import Derived.Shelf.Small.Strs
import Derived.Shelf.Strings.Search1
import Derived.Shelf.Strings.Search2
import Derived.Shelf.Strings.Cut
import Derived.Shelf.LaysM
import Derived.Shelf.Strings.Shaped
import Derived.Shelf.Strings.Runes
import Derived.Shelf.Strings.AsciiSet
import Derived.Shelf.Unicode.DecodeSlow
import Derived.Shelf.Slices.Turned
import Derived.Shelf.Strings.SlTrimAscii
namespace Go.Proofs.YtmmbpbgcobmifaaDoorW.PrintWords
end Go.Proofs.YtmmbpbgcobmifaaDoorW.PrintWords
namespace Go.Proofs.YtmmbpbgcobmifaaDoorW.PrintLast
end Go.Proofs.YtmmbpbgcobmifaaDoorW.PrintLast
namespace Go.Proofs.YtmmbpbgcobmifaaDoorW.PrintMore
end Go.Proofs.YtmmbpbgcobmifaaDoorW.PrintMore
section
namespace Go.Proofs.YtmmbpbgcobmifaaDoorH
open Go.RowKit Go.Proofs.YtmmbpbgcobmifaaDoorW.PrintWords Go.Proofs.YtmmbpbgcobmifaaDoorW.PrintLast Go.Proofs.YtmmbpbgcobmifaaDoorW.PrintMore
def MxOk (w : World) : Prop := ∃ m : Int, w.cell? ⟨1, 0, none⟩ = some (.int .i64 m)
theorem MxOk.below {w w1 : World} (h : MxOk w) (hb : Below w.heap.size w w1) : MxOk w1 := by
  obtain ⟨m, hm⟩ := h
  exact ⟨m, pw_cell_below hb hm⟩
theorem MxOk.of_shaped {w : World} (h : w.ShapedOpen Tryd.prog) : MxOk w := by
  exact Go.Proofs.cell_of_shapedOpen_int (zero := #[.int .i64 0]) (t := 3) h (of_decide_eq_true (by kernel_rfl)) (by kernel_rfl) rfl (by kernel_rfl) (by kernel_rfl) Tryd.underlying3
structure TabOk (w : World) : Prop where
  c0 : w.cell? ⟨0, 0, none⟩ = some (.int .u8 48)
  c1 : w.cell? ⟨0, 1, none⟩ = some (.int .u8 57)
  c2 : w.cell? ⟨0, 2, none⟩ = some (.int .u8 65)
  c3 : w.cell? ⟨0, 3, none⟩ = some (.int .u8 90)
  c4 : w.cell? ⟨0, 4, none⟩ = some (.int .u8 97)
  c5 : w.cell? ⟨0, 5, none⟩ = some (.int .u8 122)
  mx : MxOk w
theorem TabOk.below {w w1 : World} (h : TabOk w) (hb : Below w.heap.size w w1) : TabOk w1 :=
  ⟨pw_cell_below hb h.c0, pw_cell_below hb h.c1, pw_cell_below hb h.c2, pw_cell_below hb h.c3, pw_cell_below hb h.c4, pw_cell_below hb h.c5, h.mx.below hb⟩
theorem TabOk.drawn {w w1 : World} (h : TabOk w) (hb : Drawn0 w w1) : TabOk w1 := h.below hb.below
theorem TabOk.drewN {w : World} (h : TabOk w) (n : Nat) : TabOk (w.drewN n) := h.drawn ⟨⟨n, rfl⟩⟩
theorem TabOk.lt {w : World} (h : TabOk w) : 0 < w.heap.size := World.block_lt_of_cell? w _ h.c0
end Go.Proofs.YtmmbpbgcobmifaaDoorH
end
section
namespace Go.Proofs.YtmmbpbgcobmifaaDoorH
open Go Go.RowKit Go.Proofs.YtmmbpbgcobmifaaDoorW.PrintWords Go.Proofs.YtmmbpbgcobmifaaDoorW.PrintLast Go.Proofs.YtmmbpbgcobmifaaDoorW.PrintMore
def ByteL (l : List Int) : Prop := ∀ x ∈ l, 0 ≤ x ∧ x ≤ 255
def RowB (W : World) (v : Value) (l : List Int) : Prop := ∃ A c, v = .slice A l.length c ∧ l.length ≤ c ∧ Kd.C (Kd.int .u8) W A l.length l
theorem RowB.below {W W1 : World} {v : Value} {l : List Int} (h : RowB W v l) (hb : Below W.heap.size W W1) : RowB W1 v l := by
  obtain ⟨A, c, e, hc, hC⟩ := h
  exact ⟨A, c, e, hc, Kd.C_below hC hb⟩
theorem RowB.nil (W : World) : RowB W (.slice none 0 0) [] := ⟨none, 0, rfl, Nat.le_refl _, rfl, by decide, fun h => by cases h⟩
end Go.Proofs.YtmmbpbgcobmifaaDoorH
end
section
namespace Go.Proofs.YtmmbpbgcobmifaaDoorH
open Go
theorem take_d {l tl : List Oper} {i : Nat} {o : Oper} (h : l.drop i = o :: tl) : l.toArray[i]? = some o := by
  have h2 : (l.drop i)[0]? = some o := by rw [h]; rfl
  rw [List.getElem?_drop] at h2
  simpa using h2
theorem take_at {P : Program} {ops : Array Oper} {Q : Exit → Act → World → Prop} {md : Region.Mode} {S : World → Prop} {i : Nat} {oi : Oper} {fuel : Nat} {listed : Array Bool} {a : Act} {w : World} (hi : ops[i]? = some oi)
    (h : ops[i]? = some oi → wpAnyH P md ops Q S fuel listed a w) : wpAnyH P md ops Q S fuel listed a w := h hi
end Go.Proofs.YtmmbpbgcobmifaaDoorH
end
section
namespace Go.Proofs.YtmmbpbgcobmifaaDoorH
open Go.RowKit Go.Proofs.YtmmbpbgcobmifaaDoorW.PrintWords Go.Proofs.YtmmbpbgcobmifaaDoorW.PrintLast Go.Proofs.YtmmbpbgcobmifaaDoorW.PrintMore
def Keeps (B : Nat) (w : World) (p : World → Prop) : Prop := ∀ W, Below B w W → p W
theorem Keeps.then {B : Nat} {w w1 : World} {p : World → Prop} (h : Keeps B w p) (hb : Below B w w1) : Keeps B w1 p := fun W hW => h W (hb.trans hW)
def Only (b : Nat) (w w' : World) : Prop := Below b w w' ∧ KeepBut w w' b none
theorem Only.refl (b : Nat) (w : World) : Only b w w := ⟨Below.refl _ _, KeepBut.refl _ _ _⟩
theorem Only.of_below {b : Nat} {w w' : World} (h : Below w.heap.size w w') (hb : b ≤ w.heap.size) : Only b w w' := ⟨h.mono hb, KeepBut.of_below h b none⟩
theorem Only.trans {b : Nat} {w w1 w2 : World} (h : Only b w w1) (k : Only b w1 w2) : Only b w w2 := ⟨h.1.trans k.1, KeepBut.trans h.2 k.2 (.inl rfl)⟩
theorem Only.set {b : Nat} (w : World) (j : Nat) (v : Value) : Only b w (w.setCell ⟨b, j, none⟩ v) := ⟨(Below.refl _ _).setCell (p := ⟨b, j, none⟩) (Nat.le_refl _) v, KeepBut.set_ (KeepBut.refl _ _ _) j v⟩
theorem Only.blk {b c : Nat} {w w1 : World} (h : Only b w w1) {o : Obj} (hc : w.heap[c]? = some o) (hne : c ≠ b) : w1.heap[c]? = some o := KeepBut.blk h.2 hc hne (by simp)
theorem Only.drawn {b : Nat} {w w' : World} (h : Drawn0 w w') (hb : b ≤ w.heap.size) : Only b w w' := Only.of_below h.below hb
end Go.Proofs.YtmmbpbgcobmifaaDoorH
end
section
namespace Go.Proofs.YtmmbpbgcobmifaaDoorH
open Go.RowKit Go.Proofs.YtmmbpbgcobmifaaDoorW.PrintWords Go.Proofs.YtmmbpbgcobmifaaDoorW.PrintLast Go.Proofs.YtmmbpbgcobmifaaDoorW.PrintMore
def IsR (W : World) (b : Nat) (A : Option Addr) (n c : Nat) (e0 e1 e2 : Int) (at_ : Nat) (dv : Value) : Prop :=
  W.heap[b]? = some (.cells #[.slice A n c, .int .i64 e0, .int .i64 e1, .int .i64 e2, .int .i64 at_, dv] 85 (0, 0))
section
variable {W : World} {b : Nat} {A : Option Addr} {n c : Nat} {e0 e1 e2 : Int} {at_ : Nat} {dv : Value}
theorem IsR.c0 (h : IsR W b A n c e0 e1 e2 at_ dv) : W.cell? ⟨b, 0, none⟩ = some (.slice A n c) := (blk_cell h 0).trans rfl
theorem IsR.c1 (h : IsR W b A n c e0 e1 e2 at_ dv) : W.cell? ⟨b, 1, none⟩ = some (.int .i64 e0) := (blk_cell h 1).trans rfl
theorem IsR.c4 (h : IsR W b A n c e0 e1 e2 at_ dv) : W.cell? ⟨b, 4, none⟩ = some (.int .i64 at_) := (blk_cell h 4).trans rfl
theorem IsR.c5 (h : IsR W b A n c e0 e1 e2 at_ dv) : W.cell? ⟨b, 5, none⟩ = some dv := (blk_cell h 5).trans rfl
theorem IsR.fz (h : IsR W b A n c e0 e1 e2 at_ dv) (j : Nat) : W.frozen? ⟨b, j, none⟩ = false := blk_frozen h j
theorem IsR.lt (h : IsR W b A n c e0 e1 e2 at_ dv) : b < W.heap.size := blk_lt h
theorem IsR.s4 (h : IsR W b A n c e0 e1 e2 at_ dv) (x : Nat) : IsR (W.setCell ⟨b, 4, none⟩ (.int .i64 (x : Int))) b A n c e0 e1 e2 x dv := by unfold IsR; simpa using blk_set h 4 (.int .i64 (x : Int))
theorem IsR.below {W' : World} (h : IsR W b A n c e0 e1 e2 at_ dv) (hb : Below W.heap.size W W') : IsR W' b A n c e0 e1 e2 at_ dv := blk_below h hb
end
abbrev RM (α : Type) := Except (Nat × Int) (α × Nat)
def byteM (s : List Int) (c : Int) (a : Nat) : RM Unit := if a < s.length then (if s.getD a 0 = c then .ok ((), a + 1) else .error (a, 2)) else .error (a, 4)
def endM (s : List Int) (a : Nat) : RM Unit := match byteM s 13 a with
  | .ok (_, a1) => byteM s 10 a1
  | .error x => .error x
end Go.Proofs.YtmmbpbgcobmifaaDoorH
end
section
namespace Go.Proofs.YtmmbpbgcobmifaaDoorH
open Go.RowKit Go.Proofs.YtmmbpbgcobmifaaDoorW.PrintWords Go.Proofs.YtmmbpbgcobmifaaDoorW.PrintLast Go.Proofs.YtmmbpbgcobmifaaDoorW.PrintMore
def allB (p : Int → Bool) (s : ByteArray) : Bool := s.data.toList.all fun c => p c.toNat
theorem bt_nat (s : ByteArray) (k : Nat) (h : k < s.size) : bt s (k : Int) = ((s.data.toList.getD k 0).toNat : Int) := by
  have h' : k < s.data.toList.length := by rw [data_length]; exact h
  rw [← rd_bytesOf]
  simp [rd, bytesOf, List.getD_eq_getElem?_getD, List.getElem?_eq_getElem h']
theorem allB_of (p : Int → Bool) (s : ByteArray) (h : ∀ k : Nat, k < s.size → p (bt s k) = true) : allB p s = true := by
  unfold allB
  rw [List.all_eq_true]
  intro c hc
  obtain ⟨k, hk, rfl⟩ := List.mem_iff_getElem.1 hc
  have hk' : k < s.size := by rw [data_length] at hk; exact hk
  have := h k hk'
  rw [bt_nat s k hk'] at this
  rw [List.getD_eq_getElem?_getD, List.getElem?_eq_getElem hk] at this
  exact this
theorem allB_not (p : Int → Bool) (s : ByteArray) (k : Nat) (hk : k < s.size) (h : p (bt s k) = false) : allB p s = false := by
  unfold allB
  rw [List.all_eq_false]
  have hk' : k < s.data.toList.length := by rw [data_length]; exact hk
  refine ⟨s.data.toList[k], List.getElem_mem hk', ?_⟩
  rw [bt_nat s k hk, List.getD_eq_getElem?_getD, List.getElem?_eq_getElem hk'] at h
  simpa using h
theorem bytes_cell (w : World) (e : TypeId) (s : ByteArray) (k : Nat) (hk : k < s.size) {wr : World} (hb : Below (Lib.bytesWorld w e s).heap.size (Lib.bytesWorld w e s) wr) :
    wr.cell? ⟨w.heap.size, k, none⟩ = some (.int .u8 (bt s k)) := by
  rw [hb.cell (p := ⟨w.heap.size, k, none⟩) (by rw [Lib.bytesWorld_size]; simp), Lib.bytesWorld_cell w e s k hk, bt_nat s k hk]
theorem all_step {s : ByteArray} {p : Int → Bool} {k : Nat} (h : ∀ j : Nat, j < k → p (bt s j) = true) (hk : p (bt s k) = true) : ∀ j : Nat, j < k + 1 → p (bt s j) = true := by
  intro j hj
  rcases Nat.lt_succ_iff_lt_or_eq.1 hj with h1 | h1
  · exact h j h1
  · subst h1
    exact hk
set_option maxHeartbeats 800000 in
set_option maxRecDepth 100000 in
theorem all_calls (F : Nat) (p : Int → Bool) (s : ByteArray) (w : World) (hs : s.size ≤ 140737488355328) (hG : TabOk w)
    (eg : ∀ args w, (callFunc F args).run Tryd.prog w = .ok (.enter F args) w)
    (hF : ∀ (c : Int) (w : World), TabOk w → 0 ≤ c → c ≤ 255 → Calls Tryd.prog F #[.int .u8 c] w fun e w' => e = .returned (.bool (p c)) ∧ Below w.heap.size w w') :
    Calls Tryd.prog 85 #[.string s, .func (.func F) #[] #[]] w fun e w' => e = .returned (.bool (allB p s)) ∧ Below w.heap.size w w' := by
  have kb := fun W => print_bytes (P := Tryd.prog) 9 24 5 Tryd.underlying9 Tryd.underlying24 Tryd.underlying5 s W
  have HB0 := Aside0.mk (bytes_below (Below.refl w.heap.size w) (Nat.le_refl _) 5 s)
  have HF := Aside0.mk hF
  have HG := Aside0.mk hG
  clear hF hG
  go_enter Tryd.func85, Tryd.ntmps85
  go_wp2
  clear kb
  go_loopw [10] (fun i wr => ∃ k : Nat, k ≤ s.size ∧ i = .int .i64 k ∧ Aside0 (∀ j : Nat, j < k → p (bt s j) = true) ∧ Aside0 (Below (Lib.bytesWorld w 5 s).heap.size (Lib.bytesWorld w 5 s) wr)) (fun i _ => s.size - (intOf i).toNat)
  case atStart => exact ⟨0, Nat.zero_le _, rfl, ⟨fun j h => by omega⟩, ⟨Below.refl _ _⟩⟩
  case round =>
    obtain ⟨k, hk, rfl, hall, hb⟩ := hrel
    by_cases hlt : k < s.size
    · have hc := bytes_cell w 5 s k hlt hb.out
      have hr := bt_range s k
      have hGr := Aside0.mk ((HG.out.below HB0.out).below hb.out)
      go_wp2_with fail
      refine (HF.out _ _ hGr.out (by omega) (by omega)).mono ?_
      rintro e w' ⟨rfl, hb'⟩
      have HB' := Aside0.mk hb'
      clear hb'
      cases hp : p (bt s k) with
      | true =>
        go_wp2
        go_roundw
        case rel => exact ⟨k + 1, by omega, by go_num, ⟨all_step hall.out hp⟩, ⟨hb.out.trans (HB'.out.mono hb.out.size)⟩⟩
        case measure => simp [intOf]; omega
      | false =>
        go_wp2
        go_ret
        exact ⟨by rw [allB_not p s k hlt hp]; rfl, HB0.out.trans ((hb.out.trans (HB'.out.mono hb.out.size)).mono HB0.out.size)⟩
    · go_wp2
      go_ret
      exact ⟨by rw [allB_of p s (fun j hj => hall.out j (by omega))]; rfl, HB0.out.trans (hb.out.mono HB0.out.size)⟩
def blankI (c : Int) : Bool := (c == 32) || (c == 9)
def textI (c : Int) : Bool := blankI c || (decide (c > 32) && (c != 127))
set_option maxHeartbeats 800000 in
set_option maxRecDepth 100000 in
theorem blank_calls (c : Int) (w : World) (h0 : 0 ≤ c) (h1 : c ≤ 255) :
    Calls Tryd.prog 87 #[.int .u8 c] w fun e w' => e = .returned (.bool (blankI c)) ∧ Below w.heap.size w w' := by
  have hb : blankI c = ((c == 32) || (c == 9)) := rfl
  by_cases h32 : c = 32
  · subst h32
    go_enter Tryd.func87, Tryd.ntmps87
    go_wp2
    go_ret
    exact ⟨rfl, Below.refl _ _⟩
  · have hx : (c == 32) = false := beq_eq_false_iff_ne.mpr h32
    rw [hx, Bool.false_or] at hb
    have HB := Aside0.mk hb
    clear hb
    go_enter Tryd.func87, Tryd.ntmps87
    go_wp2
    go_ret
    exact ⟨by rw [HB.out]; rfl, Below.refl _ _⟩
set_option maxHeartbeats 800000 in
set_option maxRecDepth 100000 in
theorem text1_calls (c : Int) (w : World) (h0 : 0 ≤ c) (h1 : c ≤ 255) :
    Calls Tryd.prog 86 #[.int .u8 c] w fun e w' => e = .returned (.bool (textI c)) ∧ Below w.heap.size w w' := by
  have hb : textI c = (blankI c || (decide (c > 32) && (c != 127))) := rfl
  have HB := Aside0.mk hb
  clear hb
  have hbl := Aside0.mk (fun w => blank_calls c w h0 h1)
  go_enter Tryd.func86, Tryd.ntmps86
  go_wp2_with fail
  refine (hbl.out _).mono ?_
  rintro e w' ⟨rfl, hw⟩
  have HW := Aside0.mk hw
  clear hw
  cases hp : blankI c with
  | true =>
    go_wp2
    go_ret
    exact ⟨by rw [HB.out, hp]; rfl, HW.out⟩
  | false =>
    rw [hp, Bool.false_or] at HB
    go_wp2
    all_goals go_ret
    all_goals (refine ⟨?_, HW.out⟩; rw [HB.out]; first | (simp [*]; done) | (simp; omega))
def otherL : List Int := [33, 35, 36, 37, 38, 39, 42, 43, 45, 46, 94, 95, 96, 124, 126]
def alnumI (c : Int) : Bool := decide (48 ≤ c ∧ c ≤ 57) || decide (65 ≤ c ∧ c ≤ 90) || decide (97 ≤ c ∧ c ≤ 122)
def tokI (c : Int) : Bool := alnumI c || otherL.contains c
theorem alnumI_1 {c : Int} (h : 48 ≤ c ∧ c ≤ 57) : tokI c = true := by simp [tokI, alnumI, h]
theorem alnumI_2 {c : Int} (h : 65 ≤ c ∧ c ≤ 90) : tokI c = true := by simp [tokI, alnumI, h]
theorem alnumI_3 {c : Int} (h : 97 ≤ c ∧ c ≤ 122) : tokI c = true := by simp [tokI, alnumI, h]
theorem alnumI_4 {c : Int} (h : ¬ (48 ≤ c ∧ c ≤ 57)) (h2 : ¬ (65 ≤ c ∧ c ≤ 90)) (h3 : ¬ (97 ≤ c ∧ c ≤ 122)) : tokI c = otherL.contains c := by simp [tokI, alnumI, h, h2, h3]
theorem indexByte_nonneg (l : List UInt8) (c : UInt8) : decide (0 ≤ Lib.indexByte l c) = l.contains c := by
  induction l with
  | nil => rfl
  | cons b l ih =>
    unfold Lib.indexByte
    by_cases h : b == c
    · rw [if_pos h]
      have : (b :: l).contains c = true := by simp at h; simp [h]
      rw [this]; rfl
    · rw [if_neg h]
      have hc : (b :: l).contains c = l.contains c := by
        have h' : ¬ c = b := by intro e; apply h; simp [e]
        simp [h']
      rw [hc, ← ih]
      have := Lib.indexByte_ge l c
      by_cases h2 : Lib.indexByte l c == -1
      · rw [if_pos h2]
        have h2' : Lib.indexByte l c = -1 := by simpa using h2
        rw [h2']
      · rw [if_neg h2]
        have h2' : Lib.indexByte l c ≠ -1 := by simpa using h2
        rw [decide_eq_decide]
        omega
set_option maxHeartbeats 800000 in
set_option maxRecDepth 100000 in
theorem sliteIndexByte_calls (s : ByteArray) (c : Int) (w : World) :
    Calls Tryd.prog 99 #[.string s, .int .u8 c] w fun e w' => e = .returned (.int .i64 (Lib.indexByte s.data.toList c.toNat.toUInt8)) ∧ w' = w := by
  go_enter Tryd.func99, Tryd.ntmps99
  go_wp2
  rw [run_callFunc_extern Tryd.func106 (by kernel_rfl) (by kernel_rfl) (by kernel_rfl) (e := Extern.BytealgIndexByte.indexByte) (by kernel_rfl), Lib.run_indexByteString]
  simp only [Result.andThen]
  rw [Oper.upon_value]
  go_wp2
  go_ret
  exact ⟨rfl, rfl⟩
set_option maxHeartbeats 800000 in
set_option maxRecDepth 100000 in
theorem stringsIndexByte_calls (s : ByteArray) (c : Int) (w : World) :
    Calls Tryd.prog 89 #[.string s, .int .u8 c] w fun e w' => e = .returned (.int .i64 (Lib.indexByte s.data.toList c.toNat.toUInt8)) ∧ w' = w := by
  have H := Aside0.mk (sliteIndexByte_calls s c)
  go_enter Tryd.func89, Tryd.ntmps89
  go_wp2_with fail
  refine (H.out _).mono ?_
  rintro e w' ⟨rfl, rfl⟩
  go_wp2
  go_ret
  exact ⟨rfl, rfl⟩
theorem other_contains (c : Int) (h0 : 0 ≤ c) (h1 : c ≤ 255) : decide (0 ≤ Lib.indexByte (⟨#[33, 35, 36, 37, 38, 39, 42, 43, 45, 46, 94, 95, 96, 124, 126]⟩ : ByteArray).data.toList c.toNat.toUInt8) = otherL.contains c := by
  rw [indexByte_nonneg]
  obtain ⟨n, rfl⟩ := Int.eq_ofNat_of_zero_le h0
  have hn : n < 256 := by omega
  rw [Int.toNat_natCast]
  unfold otherL
  have : ∀ n : Fin 256, [33, 35, 36, 37, 38, 39, 42, 43, 45, 46, 94, 95, 96, 124, 126].contains n.val.toUInt8 = ([33, 35, 36, 37, 38, 39, 42, 43, 45, 46, 94, 95, 96, 124, 126] : List Int).contains (n.val : Int) := by decide +kernel
  exact this ⟨n, hn⟩
set_option maxHeartbeats 800000 in
set_option maxRecDepth 100000 in
theorem token1_calls (c : Int) (w : World) (hG : TabOk w) (h0 : 0 ≤ c) (h1 : c ≤ 255) :
    Calls Tryd.prog 88 #[.int .u8 c] w fun e w' => e = .returned (.bool (tokI c)) ∧ Below w.heap.size w w' := by
  obtain ⟨g0, g1, g2, g3, g4, g5⟩ := hG
  go_enter Tryd.func88, Tryd.ntmps88
  go_wp2
  clear g0 g1 g2 g3 g4 g5
  have i0 : ∀ w, (Instr.index 110 (.agg #[.int .u8 48, .int .u8 57, .int .u8 65, .int .u8 90, .int .u8 97, .int .u8 122]) (.int .i64 0)).run Tryd.prog w = .ok (.agg #[.int .u8 48, .int .u8 57]) w := fun _ => by kernel_rfl
  have i1 : ∀ w, (Instr.index 110 (.agg #[.int .u8 48, .int .u8 57, .int .u8 65, .int .u8 90, .int .u8 97, .int .u8 122]) (.int .i64 1)).run Tryd.prog w = .ok (.agg #[.int .u8 65, .int .u8 90]) w := fun _ => by kernel_rfl
  have i2 : ∀ w, (Instr.index 110 (.agg #[.int .u8 48, .int .u8 57, .int .u8 65, .int .u8 90, .int .u8 97, .int .u8 122]) (.int .i64 2)).run Tryd.prog w = .ok (.agg #[.int .u8 97, .int .u8 122]) w := fun _ => by kernel_rfl
  go_loopw [6] (fun i wr => ∃ k : Nat, k ≤ 3 ∧ i = .int .i64 k ∧ Aside0 ((0 < k → ¬ (48 ≤ c ∧ c ≤ 57)) ∧ (1 < k → ¬ (65 ≤ c ∧ c ≤ 90)) ∧ (2 < k → ¬ (97 ≤ c ∧ c ≤ 122))) ∧ Aside0 (Below w.heap.size w wr)) (fun i _ => 3 - (intOf i).toNat)
  case atStart => exact ⟨0, by omega, rfl, ⟨by omega⟩, ⟨Below.refl _ _⟩⟩
  case round =>
    obtain ⟨k, hk, rfl, hall, hb⟩ := hrel
    have hk' : k = 0 ∨ k = 1 ∨ k = 2 ∨ k = 3 := by omega
    rcases hk' with rfl | rfl | rfl | rfl
    · by_cases hc : 48 ≤ c ∧ c ≤ 57
      · obtain ⟨ha, hb1⟩ := hc
        go_wp2
        go_ret
        exact ⟨by rw [alnumI_1 ⟨ha, hb1⟩]; rfl, hb.out.alloc hb.out.size _⟩
      · have HC := Aside0.mk hc
        by_cases ha : 48 ≤ c
        · have hb1 : 57 < c := by omega
          clear hc
          go_wp2
          go_roundw
          case rel => exact ⟨1, by omega, by go_num, ⟨⟨fun _ => HC.out, by omega⟩⟩, ⟨hb.out.alloc hb.out.size _⟩⟩
          case measure => simp [intOf]
        · have hb1 : c < 48 := by omega
          clear hc ha
          go_wp2
          go_roundw
          case rel => exact ⟨1, by omega, by go_num, ⟨⟨fun _ => HC.out, by omega⟩⟩, ⟨hb.out.alloc hb.out.size _⟩⟩
          case measure => simp [intOf]
    · by_cases hc : 65 ≤ c ∧ c ≤ 90
      · obtain ⟨ha, hb1⟩ := hc
        go_wp2
        go_ret
        exact ⟨by rw [alnumI_2 ⟨ha, hb1⟩]; rfl, hb.out.alloc hb.out.size _⟩
      · have HC := Aside0.mk hc
        by_cases ha : 65 ≤ c
        · have hb1 : 90 < c := by omega
          clear hc
          go_wp2
          go_roundw
          case rel => exact ⟨2, by omega, by go_num, ⟨⟨fun _ => hall.out.1 (by omega), fun _ => HC.out, by omega⟩⟩, ⟨hb.out.alloc hb.out.size _⟩⟩
          case measure => simp [intOf]
        · have hb1 : c < 65 := by omega
          clear hc ha
          go_wp2
          go_roundw
          case rel => exact ⟨2, by omega, by go_num, ⟨⟨fun _ => hall.out.1 (by omega), fun _ => HC.out, by omega⟩⟩, ⟨hb.out.alloc hb.out.size _⟩⟩
          case measure => simp [intOf]
    · by_cases hc : 97 ≤ c ∧ c ≤ 122
      · obtain ⟨ha, hb1⟩ := hc
        go_wp2
        go_ret
        exact ⟨by rw [alnumI_3 ⟨ha, hb1⟩]; rfl, hb.out.alloc hb.out.size _⟩
      · have HC := Aside0.mk hc
        by_cases ha : 97 ≤ c
        · have hb1 : 122 < c := by omega
          clear hc
          go_wp2
          go_roundw
          case rel => exact ⟨3, by omega, by go_num, ⟨⟨fun _ => hall.out.1 (by omega), fun _ => hall.out.2.1 (by omega), fun _ => HC.out⟩⟩, ⟨hb.out.alloc hb.out.size _⟩⟩
          case measure => simp [intOf]
        · have hb1 : c < 97 := by omega
          clear hc ha
          go_wp2
          go_roundw
          case rel => exact ⟨3, by omega, by go_num, ⟨⟨fun _ => hall.out.1 (by omega), fun _ => hall.out.2.1 (by omega), fun _ => HC.out⟩⟩, ⟨hb.out.alloc hb.out.size _⟩⟩
          case measure => simp [intOf]
    · have H := Aside0.mk (stringsIndexByte_calls)
      have HO := Aside0.mk (other_contains c h0 h1)
      go_wp2_with fail
      refine (H.out _ _ _).mono ?_
      rintro e w' ⟨rfl, rfl⟩
      go_wp2
      go_ret
      refine ⟨?_, hb.out⟩
      rw [alnumI_4 (hall.out.1 (by omega)) (hall.out.2.1 (by omega)) (hall.out.2.2 (by omega)), ← HO.out]
      rfl
set_option maxHeartbeats 800000 in
set_option maxRecDepth 100000 in
theorem text_calls (s : ByteArray) (w : World) (hs : s.size ≤ 140737488355328) (hG : TabOk w) :
    Calls Tryd.prog 74 #[.string s] w fun e w' => e = .returned (.bool (allB textI s)) ∧ Below w.heap.size w w' := by
  have H := Aside0.mk (all_calls 86 textI s w hs hG (enters_ Tryd.func86 (by kernel_rfl) rfl) (fun c w _ h0 h1 => text1_calls c w h0 h1))
  go_enter Tryd.func74, Tryd.ntmps74
  go_wp2_with fail
  refine H.out.mono ?_
  rintro e w' ⟨rfl, hb⟩
  have HB := Aside0.mk hb
  clear hb
  go_wp2
  go_ret
  exact ⟨rfl, HB.out⟩
def tokB (s : ByteArray) : Bool := !(s.data.toList.isEmpty) && allB tokI s
set_option maxHeartbeats 800000 in
set_option maxRecDepth 100000 in
theorem token_calls (s : ByteArray) (w : World) (hs : s.size ≤ 140737488355328) (hG : TabOk w) :
    Calls Tryd.prog 75 #[.string s] w fun e w' => e = .returned (.bool (tokB s)) ∧ Below w.heap.size w w' := by
  have H := Aside0.mk (all_calls 88 tokI s w hs hG (enters_ Tryd.func88 (by kernel_rfl) rfl) (fun c w hG h0 h1 => token1_calls c w hG h0 h1))
  have HT := Aside0.mk (show tokB s = (!(s.data.toList.isEmpty) && allB tokI s) from rfl)
  clear hG
  rw [← ByteArray.toList_eq] at HT
  cases hE : s.toList.isEmpty with
  | true =>
    rw [hE] at HT
    have hE' : s.toList = [] := by simpa using hE
    go_enter Tryd.func75, Tryd.ntmps75
    go_wp2
    go_ret
    exact ⟨by rw [HT.out]; rfl, Below.refl _ _⟩
  | false =>
    rw [hE] at HT
    have hE' : ¬ s.toList = [] := by simpa using hE
    go_enter Tryd.func75, Tryd.ntmps75
    go_wp2_with fail
    refine H.out.mono ?_
    rintro e w' ⟨rfl, hb⟩
    have HB := Aside0.mk hb
    clear hb
    go_wp2
    go_ret
    exact ⟨by rw [HT.out]; rfl, HB.out⟩
end Go.Proofs.YtmmbpbgcobmifaaDoorH
end
section
namespace Go.Proofs.YtmmbpbgcobmifaaDoorH
open Go.RowKit Go.Proofs.YtmmbpbgcobmifaaDoorW.PrintWords Go.Proofs.YtmmbpbgcobmifaaDoorW.PrintLast Go.Proofs.YtmmbpbgcobmifaaDoorW.PrintMore
def smallI (c : Int) : Int := if 65 ≤ c ∧ c ≤ 90 then c + 32 else c
def smallL (s : ByteArray) : List Int := (bytesOf s).map smallI
def smallS (s : ByteArray) : ByteArray := strOfNums (smallL s)
structure SmallAt (w : World) (s : ByteArray) (k : Nat) (wr : World) : Prop where
  below : Below w.heap.size w wr
  size : w.heap.size < wr.heap.size
  low : ∀ j : Nat, j < k → wr.cell? ⟨w.heap.size, j, none⟩ = some (.int .u8 (smallI (bt s j)))
  high : ∀ j : Nat, k ≤ j → j < s.size → wr.cell? ⟨w.heap.size, j, none⟩ = some (.int .u8 (bt s j))
  free : ∀ j : Nat, j < s.size → wr.frozen? ⟨w.heap.size, j, none⟩ = false
theorem SmallAt.same {w : World} {s : ByteArray} {k : Nat} {wr : World} (h : SmallAt w s k wr) (hk : k < s.size) (hs : smallI (bt s k) = bt s k) : SmallAt w s (k + 1) wr := by
  refine ⟨h.below, h.size, fun j hj => ?_, fun j h1 h2 => h.high j (by omega) h2, h.free⟩
  rcases Nat.lt_succ_iff_lt_or_eq.1 hj with h1 | h1
  · exact h.low j h1
  · subst h1; rw [hs]; exact h.high j (Nat.le_refl _) hk
theorem SmallAt.put {w : World} {s : ByteArray} {k : Nat} {wr : World} (h : SmallAt w s k wr) (hk : k < s.size) {v : Int} (hv : v = smallI (bt s k)) : SmallAt w s (k + 1) (wr.setCell ⟨w.heap.size, k, none⟩ (.int .u8 v)) := by
  subst hv
  have hc := h.high k (Nat.le_refl _) hk
  refine ⟨h.below.setCell (p := ⟨w.heap.size, k, none⟩) (Nat.le_refl _) _, by simpa using h.size, fun j hj => ?_, fun j h1 h2 => ?_, fun j hj => by rw [World.frozen?_setCell]; exact h.free j hj⟩
  · rcases Nat.lt_succ_iff_lt_or_eq.1 hj with h1 | h1
    · rw [World.cell?_setCell_other _ _ _ _ (by intro e; injection e with _ e2; omega)]
      exact h.low j h1
    · subst h1
      exact World.cell?_setCell_same' _ _ _ (by rw [hc]; rfl)
  · rw [World.cell?_setCell_other _ _ _ _ (by intro e; injection e with _ e2; omega)]
    exact h.high j (by omega) h2
end Go.Proofs.YtmmbpbgcobmifaaDoorH
end
section
namespace Go.Proofs
open Go.Shelf
def Tryd.lays160_ren : Go.Shelf.Ren := ⟨fun | 160 => 101 | 232 => 109 | 231 => 108 | 227 => 110 | 234 => 112 | 233 => 111 | 236 => 114 | 235 => 113 | 228 => 119 | 271 => 122 | 151 => 121 | 197 => 120 | 120 => 126 | 152 => 125 | 260 => 124 | 137 => 89 | 119 => 127 | 224 => 117 | 225 => 116 | 217 => 99 | 266 => 106 | n => n, fun | 9 => 9 | 4 => 4 | 3 => 3 | 5 => 5 | 117 => 133 | 116 => 132 | 0 => 0 | 124 => 136 | 21 => 21 | 105 => 139 | 46 => 138 | 119 => 146 | 139 => 149 | 138 => 148 | n => n, fun | 3 => 2 | 4 => 3 | n => n⟩
theorem Tryd.lays160 : Go.Proofs.Lays.n160 Tryd.prog Tryd.lays160_ren := {
  mixed := by kernel_rfl
  f119 := Tryd.func127.trans (congrArg some (by kernel_rfl))
  f120 := Tryd.func126.trans (congrArg some (by kernel_rfl))
  f137 := Tryd.func89.trans (congrArg some (by kernel_rfl))
  f151 := Tryd.func121.trans (congrArg some (by kernel_rfl))
  f152 := Tryd.func125.trans (congrArg some (by kernel_rfl))
  f160 := Tryd.func101.trans (congrArg some (by kernel_rfl))
  f197 := Tryd.func120.trans (congrArg some (by kernel_rfl))
  f217 := Tryd.func99.trans (congrArg some (by kernel_rfl))
  f224 := Tryd.func117.trans (congrArg some (by kernel_rfl))
  f225 := Tryd.func116.trans (congrArg some (by kernel_rfl))
  f227 := Tryd.func110.trans (congrArg some (by kernel_rfl))
  f228 := Tryd.func119.trans (congrArg some (by kernel_rfl))
  f231 := Tryd.func108.trans (congrArg some (by kernel_rfl))
  f232 := Tryd.func109.trans (congrArg some (by kernel_rfl))
  f233 := Tryd.func111.trans (congrArg some (by kernel_rfl))
  f234 := Tryd.func112.trans (congrArg some (by kernel_rfl))
  f235 := Tryd.func113.trans (congrArg some (by kernel_rfl))
  f236 := Tryd.func114.trans (congrArg some (by kernel_rfl))
  f260 := Tryd.func124.trans (congrArg some (by kernel_rfl))
  f266 := Tryd.func106.trans (congrArg some (by kernel_rfl))
  f271 := Tryd.func122.trans (congrArg some (by kernel_rfl))
  t0 := Tryd.underlying0
  a0 := Tryd.isAgg0
  z0 := Tryd.sizeOf0
  v0 := Tryd.zeroValue0
  t3 := Tryd.underlying3
  a3 := Tryd.isAgg3
  z3 := Tryd.sizeOf3
  v3 := Tryd.zeroValue3
  t4 := Tryd.underlying4
  a4 := Tryd.isAgg4
  z4 := Tryd.sizeOf4
  v4 := Tryd.zeroValue4
  t5 := Tryd.underlying5
  a5 := Tryd.isAgg5
  z5 := Tryd.sizeOf5
  v5 := Tryd.zeroValue5
  t9 := Tryd.underlying9
  a9 := Tryd.isAgg9
  z9 := Tryd.sizeOf9
  v9 := Tryd.zeroValue9
  t21 := Tryd.underlying21
  a21 := Tryd.isAgg21
  z21 := Tryd.sizeOf21
  v21 := Tryd.zeroValue21
  t46 := Tryd.underlying138
  a46 := Tryd.isAgg138
  z46 := Tryd.sizeOf138
  v46 := Tryd.zeroValue138
  t105 := Tryd.underlying139
  a105 := Tryd.isAgg139
  z105 := Tryd.sizeOf139
  v105 := Tryd.zeroValue139
  t116 := Tryd.underlying132
  a116 := Tryd.isAgg132
  z116 := Tryd.sizeOf132
  t117 := Tryd.underlying133
  a117 := Tryd.isAgg133
  z117 := Tryd.sizeOf133
  v117 := Tryd.zeroValue133
  t119 := Tryd.underlying146
  a119 := Tryd.isAgg146
  z119 := Tryd.sizeOf146
  t124 := Tryd.underlying136
  a124 := Tryd.isAgg136
  z124 := Tryd.sizeOf136
  v124 := Tryd.zeroValue136
  t138 := Tryd.underlying148
  a138 := Tryd.isAgg148
  z138 := Tryd.sizeOf148
  v138 := Tryd.zeroValue148
  t139 := Tryd.underlying149
  a139 := Tryd.isAgg149
  z139 := Tryd.sizeOf149
  v139 := Tryd.zeroValue149
  g3 := by kernel_rfl
  g4 := by kernel_rfl }
def Tryd.lays145_ren : Go.Shelf.Ren := ⟨fun | 145 => 90 | 220 => 100 | 219 => 107 | 217 => 99 | 225 => 116 | 224 => 117 | 267 => 118 | 266 => 106 | 314 => 123 | n => n, fun | 9 => 9 | 4 => 4 | 59 => 112 | 3 => 3 | 5 => 5 | 46 => 138 | 146 => 143 | 51 => 142 | n => n, fun | 1 => 1 | n => n⟩
theorem Tryd.lays145 : Go.Proofs.Lays.n145 Tryd.prog Tryd.lays145_ren := {
  mixed := by kernel_rfl
  f145 := Tryd.func90.trans (congrArg some (by kernel_rfl))
  f217 := Tryd.func99.trans (congrArg some (by kernel_rfl))
  f219 := Tryd.func107.trans (congrArg some (by kernel_rfl))
  f220 := Tryd.func100.trans (congrArg some (by kernel_rfl))
  f224 := Tryd.func117.trans (congrArg some (by kernel_rfl))
  f225 := Tryd.func116.trans (congrArg some (by kernel_rfl))
  f266 := Tryd.func106.trans (congrArg some (by kernel_rfl))
  f267 := Tryd.func118.trans (congrArg some (by kernel_rfl))
  f314 := Tryd.func123.trans (congrArg some (by kernel_rfl))
  t3 := Tryd.underlying3
  a3 := Tryd.isAgg3
  z3 := Tryd.sizeOf3
  v3 := Tryd.zeroValue3
  t4 := Tryd.underlying4
  a4 := Tryd.isAgg4
  z4 := Tryd.sizeOf4
  v4 := Tryd.zeroValue4
  t5 := Tryd.underlying5
  a5 := Tryd.isAgg5
  z5 := Tryd.sizeOf5
  v5 := Tryd.zeroValue5
  t9 := Tryd.underlying9
  a9 := Tryd.isAgg9
  z9 := Tryd.sizeOf9
  v9 := Tryd.zeroValue9
  t46 := Tryd.underlying138
  a46 := Tryd.isAgg138
  z46 := Tryd.sizeOf138
  v46 := Tryd.zeroValue138
  t51 := Tryd.underlying142
  a51 := Tryd.isAgg142
  z51 := Tryd.sizeOf142
  v51 := Tryd.zeroValue142
  t59 := Tryd.underlying112
  a59 := Tryd.isAgg112
  z59 := Tryd.sizeOf112
  v59 := Tryd.zeroValue112
  t146 := Tryd.underlying143
  a146 := Tryd.isAgg143
  z146 := Tryd.sizeOf143
  v146 := Tryd.zeroValue143
  g1 := by kernel_rfl }
open Go.RowKit Go.Lib in
theorem Tryd.strings_Cut (s sep : ByteArray) (m : Int) (w : World) (hs : s.size < 4294967281) (hm : w.cell? ⟨1, 0, none⟩ = some (.int .i64 m)) :
    Calls Tryd.prog 90 #[.string s, .string sep] w fun e w' => e = .returned (.tuple #[.string ⟨(Lib.cut s.data.toList sep.data.toList).1.toArray⟩, .string ⟨(Lib.cut s.data.toList sep.data.toList).2.1.toArray⟩, .bool (Lib.cut s.data.toList sep.data.toList).2.2]) ∧ ∃ n, w' = w.drewN n := Any.strings_Cut Tryd.lays145 s sep m w hs hm
end Go.Proofs
end
section
namespace Go.Proofs.YtmmbpbgcobmifaaDoorH
open Go.RowKit Go.Proofs.YtmmbpbgcobmifaaDoorW.PrintWords Go.Proofs.YtmmbpbgcobmifaaDoorW.PrintLast Go.Proofs.YtmmbpbgcobmifaaDoorW.PrintMore
def trimL (l : List UInt8) : List UInt8 := Lib.trimS l [32, 9]
def trimS (s : ByteArray) : ByteArray := ⟨(trimL s.data.toList).toArray⟩
set_option maxHeartbeats 800000 in
set_option maxRecDepth 100000 in
theorem trim_calls (s : ByteArray) (w : World) (hs : s.size ≤ 140737488355328) :
    Calls Tryd.prog 91 #[.string s] w fun e w' => e = .returned (.string (trimS s)) ∧ Below w.heap.size w w' := by
  have H := Aside0.mk (Any.strings_Trim_laid Tryd.lays160 (by kernel_rfl) s ⟨#[32, 9]⟩ w (by omega) (by decide) (ascii_of_all (by decide)))
  go_enter Tryd.func91, Tryd.ntmps91
  go_wp2_with fail
  refine H.out.mono ?_
  rintro e w' ⟨rfl, hb⟩
  have HB := Aside0.mk hb
  clear hb
  go_wp2
  go_ret
  exact ⟨rfl, HB.out⟩
def octet_Text.f (a0 : ByteArray) : Option Bool := if a0.size ≤ 140737488355328 then some (allB textI a0) else none
theorem octet_Text.calls (a0 : ByteArray) (r : Bool) (w : World) (hG : TabOk w) (h : octet_Text.f a0 = some r) :
    Calls Tryd.prog 74 #[.string a0] w fun e w' => e = .returned (.bool r) ∧ Below w.heap.size w w' := by
  unfold octet_Text.f at h
  split at h
  · injection h with h; subst h; exact text_calls a0 w (by assumption) hG
  · cases h
def octet_Token.f (a0 : ByteArray) : Option Bool := if a0.size ≤ 140737488355328 then some (tokB a0) else none
theorem octet_Token.calls (a0 : ByteArray) (r : Bool) (w : World) (hG : TabOk w) (h : octet_Token.f a0 = some r) :
    Calls Tryd.prog 75 #[.string a0] w fun e w' => e = .returned (.bool r) ∧ Below w.heap.size w w' := by
  unfold octet_Token.f at h
  split at h
  · injection h with h; subst h; exact token_calls a0 w (by assumption) hG
  · cases h
def octet_Small.f (a0 : ByteArray) : Option ByteArray := if a0.size ≤ 140737488355328 then some (smallS a0) else none
def octet_Trim.f (a0 : ByteArray) : Option ByteArray := if a0.size ≤ 140737488355328 then some (trimS a0) else none
theorem octet_Trim.calls (a0 : ByteArray) (r : ByteArray) (w : World) (_hG : TabOk w) (h : octet_Trim.f a0 = some r) :
    Calls Tryd.prog 91 #[.string a0] w fun e w' => e = .returned (.string r) ∧ Below w.heap.size w w' := by
  unfold octet_Trim.f at h
  split at h
  · injection h with h; subst h; exact trim_calls a0 w (by assumption)
  · cases h
end Go.Proofs.YtmmbpbgcobmifaaDoorH
end
section
namespace Go.Proofs.YtmmbpbgcobmifaaDoorH
open Go.RowKit Go.Proofs.YtmmbpbgcobmifaaDoorW.PrintWords Go.Proofs.YtmmbpbgcobmifaaDoorW.PrintLast Go.Proofs.YtmmbpbgcobmifaaDoorW.PrintMore
theorem wrap_up {i : Int} {n : Nat} (h0 : 0 ≤ i) (h : i < (n : Int)) (hn : n ≤ 140737488355328) : wrap64 (i + 1) = i + 1 := by
  unfold wrap64
  omega
theorem wrap_down {n : Nat} (h : 0 < n) (hn : n ≤ 140737488355328) : wrap64 ((n : Int) - 1) = (n : Int) - 1 := by
  unfold wrap64
  omega
def allFrom (p : Int → Bool) (s : ByteArray) (i : Nat) : Bool := (s.data.toList.drop i).all fun c => p c.toNat
theorem allFrom_zero (p : Int → Bool) (s : ByteArray) : allFrom p s 0 = allB p s := rfl
theorem allFrom_end (p : Int → Bool) (s : ByteArray) (i : Nat) (h : s.size ≤ i) : allFrom p s i = true := by
  unfold allFrom
  rw [List.drop_eq_nil_of_le (by rw [data_length]; exact h)]
  rfl
theorem allFrom_step (p : Int → Bool) (s : ByteArray) (i : Nat) (h : i < s.size) : allFrom p s i = (p (bt s i) && allFrom p s (i + 1)) := by
  unfold allFrom
  have h' : i < s.data.toList.length := by rw [data_length]; exact h
  rw [List.drop_eq_getElem_cons h', List.all_cons, bt_nat s i h, List.getD_eq_getElem?_getD, List.getElem?_eq_getElem h']
  rfl
theorem bytes_ext {a b : ByteArray} (h : a.data.toList = b.data.toList) : a = b := by
  cases a; cases b
  congr 1
  exact Array.toList_inj.1 h
theorem beq_toList (a b : ByteArray) : (a.toList == b.toList) = decide (a = b) := by
  rw [ByteArray.toList_eq, ByteArray.toList_eq, Bool.eq_iff_iff]
  simp only [beq_iff_eq, decide_eq_true_eq]
  exact ⟨bytes_ext, fun h => by rw [h]⟩
theorem size_eq_length (s : ByteArray) : s.size = s.data.toList.length := (data_length s).symm
theorem isEmpty_size (s : ByteArray) : s.data.toList.isEmpty = decide (s.size = 0) := by
  rw [size_eq_length]
  cases s.data.toList <;> simp
def rtrim (p : UInt8 → Bool) (l : List UInt8) : List UInt8 := (l.reverse.dropWhile p).reverse
theorem rtrim_cons (p : UInt8 → Bool) (a : UInt8) (t : List UInt8) : rtrim p (a :: t) = if (rtrim p t).isEmpty then (if p a then [] else [a]) else a :: rtrim p t := by
  unfold rtrim
  rw [List.reverse_cons, List.dropWhile_append]
  by_cases h : (t.reverse.dropWhile p).isEmpty
  · rw [if_pos h]
    have h' : t.reverse.dropWhile p = [] := by simpa using h
    rw [h']
    cases hp : p a <;> simp [List.dropWhile, hp]
  · rw [if_neg h, if_neg (by simpa using h)]
    simp
theorem rtrim_left (p : UInt8 → Bool) (l : List UInt8) : (rtrim p l).dropWhile p = rtrim p (l.dropWhile p) := by
  induction l with
  | nil => rfl
  | cons a t ih =>
    rw [rtrim_cons]
    cases hp : p a with
    | true =>
      rw [List.dropWhile_cons_of_pos hp, ← ih]
      by_cases h : (rtrim p t).isEmpty
      · have h' : rtrim p t = [] := by simpa using h
        rw [if_pos h, if_pos rfl, h']
      · rw [if_neg h, List.dropWhile_cons_of_pos hp]
    | false =>
      rw [List.dropWhile_cons_of_neg (by simp [hp]), rtrim_cons, hp]
      by_cases h : (rtrim p t).isEmpty
      · rw [if_pos h]
        exact List.dropWhile_cons_of_neg (by simp [hp])
      · rw [if_neg h]
        exact List.dropWhile_cons_of_neg (by simp [hp])
def blankU (c : UInt8) : Bool := ([32, 9] : List UInt8).contains c
theorem blankU_int (c : UInt8) : blankI (c.toNat : Int) = blankU c := by
  have : ∀ n : Fin 256, blankI (n.val : Int) = blankU (UInt8.ofNat n.val) := by decide +kernel
  have h := this ⟨c.toNat, c.toNat_lt⟩
  simpa using h
theorem trimL_eq (l : List UInt8) : trimL l = (rtrim blankU l).dropWhile blankU := rfl
theorem trimL_eq' (l : List UInt8) : trimL l = rtrim blankU (l.dropWhile blankU) := by rw [trimL_eq, rtrim_left]
theorem rtrim_snoc (p : UInt8 → Bool) (l : List UInt8) (a : UInt8) : rtrim p (l ++ [a]) = if p a then rtrim p l else l ++ [a] := by
  unfold rtrim
  rw [List.reverse_append]
  cases hp : p a <;> simp [hp]
theorem rtrim_idem (p : UInt8 → Bool) (l : List UInt8) : rtrim p (rtrim p l) = rtrim p l := by
  unfold rtrim
  rw [List.reverse_reverse]
  have : ∀ l : List UInt8, (l.dropWhile p).dropWhile p = l.dropWhile p := by
    intro l
    induction l with
    | nil => rfl
    | cons a t ih =>
      cases hp : p a with
      | true => rw [List.dropWhile_cons_of_pos hp, ih]
      | false => rw [List.dropWhile_cons_of_neg (by simp [hp]), List.dropWhile_cons_of_neg (by simp [hp])]
  rw [this]
theorem dropWhile_idem (p : UInt8 → Bool) (l : List UInt8) : (l.dropWhile p).dropWhile p = l.dropWhile p := by
  induction l with
  | nil => rfl
  | cons a t ih =>
    cases hp : p a with
    | true => rw [List.dropWhile_cons_of_pos hp, ih]
    | false => rw [List.dropWhile_cons_of_neg (by simp [hp]), List.dropWhile_cons_of_neg (by simp [hp])]
theorem trimL_idem (l : List UInt8) : trimL (trimL l) = trimL l := by
  rw [trimL_eq (trimL l), trimL_eq' l, rtrim_idem, ← rtrim_left, dropWhile_idem]
theorem trimS_idem (s : ByteArray) : trimS (trimS s) = trimS s := by
  apply bytes_ext
  show trimL (trimS s).data.toList = (trimS s).data.toList
  exact trimL_idem _
theorem trimS_data (s : ByteArray) : (trimS s).data.toList = trimL s.data.toList := rfl
theorem rtrim_length (p : UInt8 → Bool) (l : List UInt8) : (rtrim p l).length ≤ l.length := by
  unfold rtrim
  have := (List.dropWhile_sublist p (l := l.reverse)).length_le
  simpa using this
theorem trimL_length (l : List UInt8) : (trimL l).length ≤ l.length := by
  rw [trimL_eq]
  exact Nat.le_trans (List.dropWhile_sublist _).length_le (rtrim_length _ _)
theorem trimS_size (s : ByteArray) : (trimS s).size ≤ s.size := by
  rw [size_eq_length, size_eq_length, trimS_data]
  exact trimL_length _
theorem extract_list (s : ByteArray) (i j : Nat) : (s.extract i j).data.toList = (s.data.toList.drop i).take (j - i) := by
  rw [ByteArray.data_extract, Array.toList_extract, List.extract_eq_take_drop]
theorem extract_from (s : ByteArray) (i : Nat) : (s.extract i s.size).data.toList = s.data.toList.drop i := by
  rw [extract_list, List.take_of_length_le]
  rw [List.length_drop, data_length]
  exact Nat.le_refl _
theorem extract_to (s : ByteArray) (j : Nat) : (s.extract 0 j).data.toList = s.data.toList.take j := by
  rw [extract_list, List.drop_zero, Nat.sub_zero]
theorem first_of (s : ByteArray) (h : 0 < s.size) : ∃ c t, s.data.toList = c :: t ∧ bt s 0 = (c.toNat : Int) := by
  have hb := bt_nat s 0 h
  cases hl : s.data.toList with
  | nil => rw [size_eq_length, hl] at h; simp at h
  | cons c t => exact ⟨c, t, rfl, by rw [hl] at hb; exact hb⟩
theorem last_of (s : ByteArray) (h : 0 < s.size) : ∃ t c, s.data.toList = t ++ [c] ∧ bt s ((s.size : Int) - 1) = (c.toNat : Int) := by
  have hne : s.data.toList ≠ [] := by intro e; rw [size_eq_length, e] at h; simp at h
  have hb := bt_nat s (s.size - 1) (by omega)
  refine ⟨s.data.toList.dropLast, s.data.toList.getLast hne, (List.dropLast_concat_getLast hne).symm, ?_⟩
  rw [show ((s.size : Int) - 1) = ((s.size - 1 : Nat) : Int) by omega, hb, List.getLast_eq_getElem, List.getD_eq_getElem?_getD, List.getElem?_eq_getElem (by rw [data_length]; omega)]
  simp only [Option.getD_some, data_length]
end Go.Proofs.YtmmbpbgcobmifaaDoorH
end
