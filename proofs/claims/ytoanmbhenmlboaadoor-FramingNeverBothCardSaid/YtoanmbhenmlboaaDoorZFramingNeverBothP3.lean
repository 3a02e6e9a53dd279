import Derived.Test.YtoanmbhenmlboaaDoorZFramingNeverBothP0
import Derived.Test.YtoanmbhenmlboaaDoorZFramingNeverBothP2
import Derived.Test.YtoanmbhenmlboaaDoorZFramingNeverBothP1
import Derived.Test.YtoanmbhenmlboaaDoorProg
import Derived.Below
import Derived.Deep.Draws
import Derived.Deep.AppendLies
import Derived.Maps.AppendAt
import Derived.OwnWalk
import Derived.Laws.BytesArg
import Derived.Laws.MakeOwn
import Derived.Laws.OwnMore
import Derived.Deep.OwnRows
import Derived.Tactics
import Derived.Lib.ConvBytes
import Derived.Laws.Slices
import Derived.WalkKit
import Derived.KernelRfl
import Derived.RowKit3
import Derived.Deep.LoopGhost
import Derived.Deep.QuietTactic
import Derived.BigQuiet
import Derived.WideLaws
import Derived.Deep.DeepCutAuto
import Derived.Deep.CutBlock
import Derived.Deep.RegionHeld3
import Derived.Laws.Rows
import Derived.Lib.AppendStr
import Derived.ArgAppend
import Derived.Laws.IdiomCopy
import Derived.OrdersHeld
import Derived.Laws.BitsLemmas
import Derived.RowKit
import Derived.Laws.EntriesVeiled
import Derived.Laws.NewBlocks
import Derived.RangeFuncNested
import Derived.RangeFuncBound
import Derived.RangeFuncCalls
import Derived.RangeFuncBox
import Derived.Lib.IndexBytes
section
namespace Go.Proofs.YtoanmbhenmlboaaDoor.Pr
open Go.RowKit Go.Proofs.YtoanmbhenmlboaaDoorH Go.Proofs.YtoanmbhenmlboaaDoorW.PrintWords Go.Proofs.YtoanmbhenmlboaaDoorW.PrintLast Go.Proofs.YtoanmbhenmlboaaDoorW.PrintMore
attribute [local go_sem] max2_int min2_int max_two min_two max_three min_three max_four min_four   -- for this text's walks alone
set_option linter.unusedVariables false
set_option linter.unusedSimpArgs false
def errW : Option Int → Value
  | none => .nilIface
  | some c => .iface 0 (.int .i64 c)
theorem errW_none : errW none = .nilIface := rfl
theorem errW_some (c : Int) : errW (some c) = .iface 0 (.int .i64 c) := rfl
theorem info5 : (Tryd.prog.info? 5).map (fun i => (i.zero, i.size, i.bytes)) = some (some (.int .u8 0), 1, 1) := by kernel_rfl
theorem info9 : (Tryd.prog.info? 9).map (fun i => (i.zero, i.size, i.bytes)) = some (some (.string ⟨#[]⟩), 1, 16) := by kernel_rfl
structure S71 where
  f0 : ByteArray
  f1 : ByteArray
def z71 : S71 := ⟨(⟨#[]⟩ : ByteArray), (⟨#[]⟩ : ByteArray)⟩
def k71 : Kd S71 := Kd.iso (Kd.pair Kd.string Kd.string) (fun x : S71 => (x.f0, x.f1))
theorem k71_open {w : World} {x : S71} {cs : List Value} (h : k71.K w x cs) : cs = [.string x.f0, .string x.f1] := by
  obtain ⟨_, _, rfl, rfl, rfl⟩ := h
  exact rfl
theorem k71_mkM (w : World) (base : Nat) (ok : Nat → Prop) (x : S71)  : k71.M w base ok x [.string x.f0, .string x.f1] := ⟨[.string x.f0], [.string x.f1], rfl, rfl, rfl⟩
def rd_T71 (xs : List S71) (i : Int) : S71 := xs.getD i.toNat z71
theorem at_T71 {w : World} {A : Option Addr} {n : Nat} {xs : List S71} (h : Kd.C k71 w A n xs) (i : Int) (h0 : 0 ≤ i) (h1 : i < n) : ∃ ad , A = some ad ∧ w.cell? (ad.add (i.toNat * 2)) = some (.string (rd_T71 xs i).f0) ∧ w.cell? ⟨(ad.add (i.toNat * 2)).block, (ad.add (i.toNat * 2)).off + 1, none⟩ = some (.string (rd_T71 xs i).f1) := by
  obtain ⟨ad, c, e, _, hK, hc0⟩ := Kd.C_get h z71 i h0 h1
  have hc : ∀ j u, c[j]? = some u → w.cell? (ad.add (i.toNat * 2 + j)) = some u := hc0
  obtain rfl := k71_open hK
  exact ⟨ad, e, hc 0 _ rfl, by rw [← add_field _ _ 1 (by omega)]; exact hc 1 _ rfl⟩
end Go.Proofs.YtoanmbhenmlboaaDoor.Pr
end
section
namespace Go.Proofs.YtoanmbhenmlboaaDoorH
open Go.RowKit Go.Proofs.YtoanmbhenmlboaaDoorW.PrintWords Go.Proofs.YtoanmbhenmlboaaDoorW.PrintLast Go.Proofs.YtoanmbhenmlboaaDoorW.PrintMore Go.Proofs.YtoanmbhenmlboaaDoor.Pr
theorem filter_take_length {α : Type} (p : α → Bool) (l : List α) (k : Nat) : ((l.take k).filter p).length ≤ l.length :=
  Nat.le_trans (List.length_filter_le _ _) (by rw [List.length_take]; omega)
set_option maxHeartbeats 1600000 in
set_option maxRecDepth 100000 in
theorem chosenS_calls (F G : Nat) (pb : Addr) (p : S71 → Bool) (m : S71 → ByteArray) (A0 : Option Addr) (c0 : Nat) (l : List S71) (w : World)
    (hr : Kd.C k71 w A0 l.length l) (_hc : l.length ≤ c0) (hn : l.length < 8796093022208)
    (eF : ∀ args w, (callFunc F args).run Tryd.prog w = .ok (.enter F args) w) (eG : ∀ args w, (callFunc G args).run Tryd.prog w = .ok (.enter G args) w)
    (hF : ∀ x ∈ l, ∀ W, Below w.heap.size w W → Calls Tryd.prog F #[.agg #[.string x.f0, .string x.f1], .pointer (some pb)] W fun e W' => e = .returned (.bool (p x)) ∧ Below W.heap.size W W')
    (hG : ∀ x ∈ l, ∀ W, Calls Tryd.prog G #[.agg #[.string x.f0, .string x.f1]] W fun e W' => e = .returned (.string (m x)) ∧ Below W.heap.size W W') :
    Calls Tryd.prog 60 #[.slice A0 l.length c0, .func (.func F) #[] #[.pointer (some pb)], .func (.func G) #[] #[]] w fun e w' =>
      ∃ v, e = .returned v ∧ Kd.R Kd.string 9 w' w.heap.size (fun _ => True) v ((l.filter p).map m) ∧ Below w.heap.size w w' := by
  have HR := Aside0.mk hr
  have HF := Aside0.mk hF
  have HG := Aside0.mk hG
  have HN := Aside0.mk hn
  clear hr hF hG
  go_enter Tryd.func60, Tryd.ntmps60
  go_wp2
  go_loopw [7, 12] (fun v7 v12 wr => ∃ k : Nat, k ≤ l.length ∧ v12 = .int .i64 k ∧ Aside0 (Kd.R Kd.string 9 wr w.heap.size (fun _ => True) v7 (((l.take k).filter p).map m)) ∧ Aside0 (Below w.heap.size w wr)) (fun _ v12 _ => l.length - (intOf v12).toNat)
  case atStart => exact ⟨0, Nat.zero_le _, rfl, ⟨Kd.R_nil _ _ _ _ _⟩, ⟨Below.refl _ _⟩⟩
  case round =>
    obtain ⟨k, hk, rfl, ho, hb⟩ := hrel
    by_cases hlt : k < l.length
    · obtain ⟨ad, e, hx0, hx1⟩ := at_T71 HR.out (k : Int) (by omega) (by omega)
      cases e
      have hx0 := (hb.out.cell (World.block_lt_of_cell? w _ hx0)).trans hx0
      have hx1 := (hb.out.cell (World.block_lt_of_cell? w _ hx1)).trans hx1
      have HX := Aside0.mk (mem_getD l z71 k hlt)
      have HT := Aside0.mk (take_one l z71 k hlt)
      have HLEN := Aside0.mk (filter_take_length p l k)
      unfold rd_T71 at hx0 hx1
      rw [Int.toNat_natCast] at hx0 hx1
      generalize l.getD k z71 = x at *
      go_wp2_with fail
      refine (HF.out x HX.out _ (hb.out.alloc hb.out.size _)).mono ?_
      rintro e w1 ⟨rfl, b1⟩
      have B1 := Aside0.mk ((hb.out.alloc hb.out.size _).trans (b1.mono (Nat.le_trans hb.out.size (by simp))))
      have O1 := Aside0.mk (Kd.R_below (Kd.R_alloc ho.out _) b1)
      have y0 := pw_cell_below b1 (show (wr.alloc (.cells #[.string x.f0, .string x.f1] 71)).cell? ⟨wr.heap.size, 0, none⟩ = some (.string x.f0) by simp)
      have y1 := pw_cell_below b1 (show (wr.alloc (.cells #[.string x.f0, .string x.f1] 71)).cell? ⟨wr.heap.size, 1, none⟩ = some (.string x.f1) by simp)
      clear b1 hx0 hx1
      cases hp : p x with
      | true =>
        have HP := Aside0.mk hp
        clear hp
        go_wp2_with fail
        refine (HG.out x HX.out _).mono ?_
        rintro e w2 ⟨rfl, b2⟩
        have B2 := Aside0.mk (B1.out.trans (b2.mono B1.out.size))
        have O2 := Aside0.mk (Kd.R_below O1.out b2)
        clear b2 y0 y1
        go_wp2_with (first | ((with_reducible refine gate_builtin (b := .append) (xs := #[.tmp 19, .tmp 23]) rfl ?_); at_builtin; refine Kd.R_append Kd.string (w0 := w) w.heap.size rfl (.tmp 19) (.tmp 23) 38 9 (.string ⟨#[]⟩) 16 rfl Tryd.underlying38 info9 rfl (by decide) (by omega) u7 (((l.take k).filter p).map m) (m x) [.string (m x)] (fun _ => True) (fun _ => False) rfl rfl ?aP (fun _ hk => hk.elim) ?aF ?aO ?aB ?aS ?aL ?_; (case aP => exact rfl); (case aB => exact B2.out); (case aF => exact (fun _ _ => trivial)); (case aO => exact O2.out); (case aS => exact B2.out.size); (case aL => have := HLEN.out; have := HN.out; rw [List.length_map]; omega); intro v3 w3 ho3 hb3 hg3 hat3; have O3 := Aside0.mk ho3; have B3 := Aside0.mk hb3; clear ho3 hb3 hg3 hat3))
        go_roundw
        case rel => exact ⟨k + 1, by omega, by go_num, ⟨by rw [HT.out, List.filter_append, List.map_append, List.filter_cons_of_pos HP.out]; exact O3.out⟩, B3⟩
        case measure => simp [intOf]; omega
      | false =>
        have HP := Aside0.mk hp
        clear hp
        go_wp2
        go_roundw
        case rel => exact ⟨k + 1, by omega, by go_num, ⟨by rw [HT.out, List.filter_append, List.map_append, List.filter_cons_of_neg (by simp [HP.out])]; simpa using O1.out⟩, B1⟩
        case measure => simp [intOf]; omega
    · have hke : k = l.length := by omega
      subst hke
      rw [List.take_length] at ho
      go_wp2
      go_ret
      exact ⟨_, rfl, ho.out, hb.out⟩
end Go.Proofs.YtoanmbhenmlboaaDoorH
end
section
namespace Go.Proofs.YtoanmbhenmlboaaDoorH
open Go.RowKit Go.Proofs.YtoanmbhenmlboaaDoorW.PrintWords Go.Proofs.YtoanmbhenmlboaaDoorW.PrintLast Go.Proofs.YtoanmbhenmlboaaDoorW.PrintMore
theorem wrap_up {i : Int} {n : Nat} (h0 : 0 ≤ i) (h : i < (n : Int)) (hn : n ≤ 140737488355328) : wrap64 (i + 1) = i + 1 := by
  unfold wrap64
  omega
theorem bytes_ext {a b : ByteArray} (h : a.data.toList = b.data.toList) : a = b := by
  cases a; cases b
  congr 1
  exact Array.toList_inj.1 h
theorem beq_toList (a b : ByteArray) : (a.toList == b.toList) = decide (a = b) := by
  rw [ByteArray.toList_eq, ByteArray.toList_eq, Bool.eq_iff_iff]
  simp only [beq_iff_eq, decide_eq_true_eq]
  exact ⟨bytes_ext, fun h => by rw [h]⟩
theorem eq_toList (a b : ByteArray) : (a.toList = b.toList) ↔ a = b := by
  rw [ByteArray.toList_eq, ByteArray.toList_eq]
  exact ⟨bytes_ext, fun h => by rw [h]⟩
theorem size_eq_length (s : ByteArray) : s.size = s.data.toList.length := (data_length s).symm
def rtrim (p : UInt8 → Bool) (l : List UInt8) : List UInt8 := (l.reverse.dropWhile p).reverse
def blankU (c : UInt8) : Bool := ([32, 9] : List UInt8).contains c
theorem trimL_eq (l : List UInt8) : trimL l = (rtrim blankU l).dropWhile blankU := rfl
theorem trimS_data (s : ByteArray) : (trimS s).data.toList = trimL s.data.toList := rfl
theorem rtrim_length (p : UInt8 → Bool) (l : List UInt8) : (rtrim p l).length ≤ l.length := by
  unfold rtrim
  have := (List.dropWhile_sublist p (l := l.reverse)).length_le
  simpa using this
theorem trimL_length (l : List UInt8) : (trimL l).length ≤ l.length := by
  rw [trimL_eq]
  exact Nat.le_trans (List.dropWhile_sublist _).length_le (rtrim_length _ _)
theorem trimS_size (s : ByteArray) : (trimS s).size ≤ s.size := by
  rw [size_eq_length, size_eq_length, trimS_data]
  exact trimL_length _
theorem extract_list (s : ByteArray) (i j : Nat) : (s.extract i j).data.toList = (s.data.toList.drop i).take (j - i) := by
  rw [ByteArray.data_extract, Array.toList_extract, List.extract_eq_take_drop]
theorem extract_from (s : ByteArray) (i : Nat) : (s.extract i s.size).data.toList = s.data.toList.drop i := by
  rw [extract_list, List.take_of_length_le]
  rw [List.length_drop, data_length]
  exact Nat.le_refl _
theorem extract_to (s : ByteArray) (j : Nat) : (s.extract 0 j).data.toList = s.data.toList.take j := by
  rw [extract_list, List.drop_zero, Nat.sub_zero]
theorem drop_byte (s : ByteArray) (i : Nat) (h : i < s.size) : ∃ c, s.data.toList.drop i = c :: s.data.toList.drop (i + 1) ∧ bt s (i : Int) = (c.toNat : Int) := by
  have hi : i < s.data.toList.length := by rw [← size_eq_length]; exact h
  refine ⟨s.data.toList[i], List.drop_eq_getElem_cons hi, ?_⟩
  rw [bt_nat s i h, List.getD_eq_getElem?_getD, List.getElem?_eq_getElem hi]
  rfl
end Go.Proofs.YtoanmbhenmlboaaDoorH
end
section
namespace Go.Proofs.YtoanmbhenmlboaaDoorH
open Go.RowKit Go.Proofs.YtoanmbhenmlboaaDoorW.PrintWords Go.Proofs.YtoanmbhenmlboaaDoorW.PrintLast Go.Proofs.YtoanmbhenmlboaaDoorW.PrintMore
def alikeB (a b : ByteArray) : Bool := decide (smallS a = smallS b)
set_option maxHeartbeats 800000 in
set_option maxRecDepth 100000 in
theorem alike_calls (a b : ByteArray) (w : World) (ha : a.size ≤ 140737488355328) (hb : b.size ≤ 140737488355328) (hG : TabOk w) :
    Calls Tryd.prog 58 #[.string a, .string b] w fun e w' => e = .returned (.bool (alikeB a b)) ∧ Below w.heap.size w w' := by
  have HE := Aside0.mk (show alikeB a b = ((smallS a).toList == (smallS b).toList) from (beq_toList _ _).symm)
  have HG := Aside0.mk hG
  clear hG
  go_enter Tryd.func58, Tryd.ntmps58
  go_wp2_with fail
  refine (small_calls a w ha HG.out).mono ?_
  rintro e w1 ⟨rfl, b1⟩
  have B1 := Aside0.mk b1
  clear b1
  go_wp2_with fail
  refine (small_calls b w1 hb (HG.out.below B1.out)).mono ?_
  rintro e w2 ⟨rfl, b2⟩
  have B2 := Aside0.mk (B1.out.trans (b2.mono B1.out.size))
  clear b2
  go_wp2
  go_ret
  exact ⟨by rw [HE.out]; rfl, B2.out⟩
end Go.Proofs.YtoanmbhenmlboaaDoorH
end
section
namespace Go.Proofs.YtoanmbhenmlboaaDoorH
open Go.RowKit Go.Proofs.YtoanmbhenmlboaaDoorW.PrintWords Go.Proofs.YtoanmbhenmlboaaDoorW.PrintLast Go.Proofs.YtoanmbhenmlboaaDoorW.PrintMore Go.Proofs.YtoanmbhenmlboaaDoor.Pr
def isB (x : S71) (n : ByteArray) : Bool := alikeB x.f0 n
set_option maxHeartbeats 800000 in
set_option maxRecDepth 100000 in
theorem is_calls (x0 x1 n : ByteArray) (w : World) (ha : x0.size ≤ 140737488355328) (hb : n.size ≤ 140737488355328) (hG : TabOk w) :
    Calls Tryd.prog 62 #[.agg #[.string x0, .string x1], .string n] w fun e w' => e = .returned (.bool (alikeB x0 n)) ∧ Below w.heap.size w w' := by
  have HG := Aside0.mk hG
  clear hG
  go_enter Tryd.func62, Tryd.ntmps62
  go_wp2_with fail
  refine (alike_calls x0 n _ ha hb (HG.out.below (below_alloc (Below.refl _ _) _))).mono ?_
  rintro e w1 ⟨rfl, b1⟩
  have B1 := Aside0.mk (below_step (below_alloc (Below.refl w.heap.size w) _) b1)
  clear b1
  go_wp2
  go_ret
  exact ⟨rfl, B1.out⟩
set_option maxHeartbeats 800000 in
set_option maxRecDepth 100000 in
theorem get1_calls (x : S71) (n : ByteArray) (pb : Addr) (w : World) (ha : x.f0.size ≤ 140737488355328) (hb : n.size ≤ 140737488355328) (hG : TabOk w) (hp : w.cell? pb = some (.string n)) :
    Calls Tryd.prog 61 #[.agg #[.string x.f0, .string x.f1], .pointer (some pb)] w fun e w' => e = .returned (.bool (isB x n)) ∧ Below w.heap.size w w' := by
  have HG := Aside0.mk hG
  have hp1 := pw_cell_below (below_alloc (Below.refl w.heap.size w) (.cells #[.string x.f0, .string x.f1] 71)) hp
  clear hG hp
  go_enter Tryd.func61, Tryd.ntmps61
  go_wp2_with fail
  refine (is_calls x.f0 x.f1 n _ ha hb (HG.out.below (below_alloc (Below.refl _ _) _))).mono ?_
  rintro e w1 ⟨rfl, b1⟩
  have B1 := Aside0.mk (below_step (below_alloc (Below.refl w.heap.size w) _) b1)
  clear b1
  go_wp2
  go_ret
  exact ⟨rfl, B1.out⟩
set_option maxHeartbeats 800000 in
set_option maxRecDepth 100000 in
theorem get2_calls (x : S71) (w : World) :
    Calls Tryd.prog 63 #[.agg #[.string x.f0, .string x.f1]] w fun e w' => e = .returned (.string x.f1) ∧ Below w.heap.size w w' := by
  go_enter Tryd.func63, Tryd.ntmps63
  go_wp2
  go_ret
  exact ⟨rfl, below_alloc (Below.refl _ _) _⟩
def fitF (l : List S71) : Bool := l.all fun x => decide (x.f0.size ≤ 140737488355328)
theorem fitF_at {l : List S71} (h : fitF l = true) (x : S71) (hx : x ∈ l) : x.f0.size ≤ 140737488355328 := of_decide_eq_true (List.all_eq_true.1 h x hx)
def getL (l : List S71) (n : ByteArray) : List ByteArray := (l.filter fun x => isB x n).map fun x => x.f1
set_option maxHeartbeats 800000 in
set_option maxRecDepth 100000 in
theorem get_calls (A0 : Option Addr) (c0 : Nat) (l : List S71) (n : ByteArray) (w : World) (hr : Kd.C k71 w A0 l.length l) (hc : l.length ≤ c0)
    (hn : l.length < 8796093022208) (hl : fitF l = true) (hb : n.size ≤ 140737488355328) (hG : TabOk w) :
    Calls Tryd.prog 50 #[.slice A0 l.length c0, .string n] w fun e w' => ∃ v, e = .returned v ∧ Kd.R Kd.string 9 w' w.heap.size (fun _ => True) v (getL l n) ∧ Below w.heap.size w w' := by
  have HB0 := Aside0.mk (below_alloc (Below.refl w.heap.size w) (.cells #[.string n] 9))
  have hp0 : (w.alloc (.cells #[.string n] 9)).cell? ⟨w.heap.size, 0, none⟩ = some (.string n) := by simp
  have H := Aside0.mk (chosenS_calls 61 63 ⟨w.heap.size, 0, none⟩ (fun x => isB x n) (fun x => x.f1) A0 c0 l (w.alloc (.cells #[.string n] 9))
    (Kd.C_below hr HB0.out) hc hn (enters_ Tryd.func61 (by kernel_rfl) rfl) (enters_ Tryd.func63 (by kernel_rfl) rfl)
    (fun x hx W hW => get1_calls x n _ W (fitF_at hl x hx) hb ((hG.below HB0.out).below hW) (pw_cell_below hW hp0))
    (fun x _ W => get2_calls x W))
  clear hr hc hn hl hb hG hp0
  go_enter Tryd.func50, Tryd.ntmps50
  go_wp2_with fail
  refine H.out.mono ?_
  rintro e w1 ⟨v, rfl, ho, b1⟩
  have O1 := Aside0.mk (Kd.R_lower (base' := w.heap.size) ho (by simp))
  have B1 := Aside0.mk (below_step HB0.out b1)
  clear ho b1 H
  go_wp2
  go_ret
  exact ⟨v, rfl, O1.out, B1.out⟩
def field_Get.f (l0 : List S71) (a1 : ByteArray) : Option (List ByteArray) := if (decide (l0.length < 8796093022208) && fitF l0 && decide (a1.size ≤ 140737488355328)) = true then some (getL l0 a1) else none
theorem field_Get.calls (A0 : Option Addr) (c0 : Nat) (l0 : List S71) (a1 : ByteArray) (r : List ByteArray) (w : World) (hr0 : Kd.C k71 w A0 l0.length l0) (hc0 : l0.length ≤ c0) (hG : TabOk w) (h : field_Get.f l0 a1 = some r) :
    Calls Tryd.prog 50 #[.slice A0 l0.length c0, .string a1] w fun e w' => ∃ v0_ : Value, e = .returned (v0_) ∧ Kd.R Kd.string 9 w' w.heap.size (fun _ => True) v0_ r ∧ Below w.heap.size w w' := by
  unfold field_Get.f at h
  split at h
  · rename_i hh
    rw [Bool.and_eq_true, Bool.and_eq_true] at hh
    injection h with h
    subst h
    exact get_calls A0 c0 l0 a1 w hr0 hc0 (of_decide_eq_true hh.1.1) hh.1.2 (of_decide_eq_true hh.2) hG
  · cases h
def fitS (l : List ByteArray) : Bool := l.all fun x => decide (x.size ≤ 140737488355328)
def namedB (names : List ByteArray) (x : S71) : Bool := names.any fun n => isB x n
def withoutL (l : List S71) (names : List ByteArray) : List S71 := l.filter fun x => !(namedB names x)
def field_Without.f (l0 : List S71) (l1 : List ByteArray) : Option (List S71) := if (decide (l0.length < 4398046511104) && fitF l0 && decide (l1.length < 8796093022208) && fitS l1) = true then some (withoutL l0 l1) else none
end Go.Proofs.YtoanmbhenmlboaaDoorH
end
section
namespace Go.Proofs.YtoanmbhenmlboaaDoorH
open Go.RowKit Go.Proofs.YtoanmbhenmlboaaDoorW.PrintWords Go.Proofs.YtoanmbhenmlboaaDoorW.PrintLast Go.Proofs.YtoanmbhenmlboaaDoorW.PrintMore
theorem drop_cons {α : Type} (l : List α) (d : α) (i : Nat) (h : i < l.length) : l.drop i = l.getD i d :: l.drop (i + 1) := by
  rw [List.drop_eq_getElem_cons h]
  simp [List.getD_eq_getElem?_getD, h]
theorem wrapN (a b : Nat) (h : a + b < 4611686018427387904) : wrap64 ((a : Int) + (b : Int)) = ((a + b : Nat) : Int) := by unfold wrap64; omega
theorem wrapS (a : Nat) (h : a < 4611686018427387904) : wrap64 ((a : Int) + 1) = ((a + 1 : Nat) : Int) := by unfold wrap64; omega
theorem ev_all {α : Type} (F : Nat → α → Option Bool) (p : α → Bool) : ∀ l : List α, (∀ x ∈ l, Ev (fun k => F k x) (p x)) → ∃ K, ∀ k, K ≤ k → ∀ x ∈ l, F k x = some (p x)
  | [], _ => ⟨0, fun _ _ x hx => by cases hx⟩
  | a :: l, h => by
    obtain ⟨K1, h1⟩ := h a (List.mem_cons_self ..)
    obtain ⟨K2, h2⟩ := ev_all F p l (fun x hx => h x (List.mem_cons_of_mem _ hx))
    refine ⟨K1 + K2, fun k hk x hx => ?_⟩
    rcases List.mem_cons.1 hx with rfl | hx
    · exact h1 k (by omega)
    · exact h2 k (by omega) x hx
end Go.Proofs.YtoanmbhenmlboaaDoorH
end
section
namespace Go.Proofs.YtoanmbhenmlboaaDoor.Pr
open Go.RowKit Go.Proofs.YtoanmbhenmlboaaDoorH Go.Proofs.YtoanmbhenmlboaaDoorW.PrintWords Go.Proofs.YtoanmbhenmlboaaDoorW.PrintLast Go.Proofs.YtoanmbhenmlboaaDoorW.PrintMore
attribute [local go_sem] max2_int min2_int max_two min_two max_three min_three max_four min_four   -- for this text's walks alone
set_option linter.unusedVariables false
set_option linter.unusedSimpArgs false
def catchpitref02_Small.l0 : Nat → ByteArray → List Int → Int → Option (ByteArray)
  | 0, _, _, _ => none
  | k + 1, x0, x3, x4 => if x4 < (x0.size : Int) then (if 0 ≤ x4 then (if (bt x0 x4) ≥ 65 then (if (bt x0 x4) ≤ 90 then (if x3.length < 140737488355328 then (catchpitref02_Small.l0 k x0 (x3 ++ [((bt x0 x4) + 32) % 256]) (wrap64 (x4 + 1))) else (none)) else (if x3.length < 140737488355328 then (catchpitref02_Small.l0 k x0 (x3 ++ [bt x0 x4]) (wrap64 (x4 + 1))) else (none))) else (if x3.length < 140737488355328 then (catchpitref02_Small.l0 k x0 (x3 ++ [bt x0 x4]) (wrap64 (x4 + 1))) else (none))) else (none)) else (some (strOfNums x3))
def catchpitref02_Small.f (k : Nat) (a0 : ByteArray) : Option (ByteArray) := catchpitref02_Small.l0 k a0 ([] : List Int) 0
theorem catchpitref02_Small.mono_l : ∀ k, (∀ y0 y1 y2, LeO (catchpitref02_Small.l0 k y0 y1 y2) (catchpitref02_Small.l0 (k + 1) y0 y1 y2))
  | 0 => fun _ _ _ r h => by simp [catchpitref02_Small.l0] at h
  | k + 1 => by
    have ih0 := catchpitref02_Small.mono_l k
    · intro y0 y1 y2
      unfold catchpitref02_Small.l0
      repeat' first
      | (with_reducible exact ih0 _ _ _)
      | (with_reducible exact LeO.refl _)
      | (with_reducible exact LeO.none _)
      | (with_reducible refine LeO.ite ?_ ?_)
      | (with_reducible refine LeO.bind ?_ (fun _ => ?_))
      | exact ih0 _ _ _
      | exact LeO.none _
      | refine LeO.ite ?_ ?_
      | refine LeO.bind ?_ (fun _ => ?_)
theorem catchpitref02_Small.mono : ∀ a0 k, LeO (catchpitref02_Small.f k a0) (catchpitref02_Small.f (k + 1) a0) := by
  intro a0 k
  have ih0 := catchpitref02_Small.mono_l k
  unfold catchpitref02_Small.f
  repeat' first
      | (with_reducible exact ih0 _ _ _)
      | (with_reducible exact LeO.refl _)
      | (with_reducible exact LeO.none _)
      | (with_reducible refine LeO.ite ?_ ?_)
      | (with_reducible refine LeO.bind ?_ (fun _ => ?_))
      | exact ih0 _ _ _
      | exact LeO.none _
      | refine LeO.ite ?_ ?_
      | refine LeO.bind ?_ (fun _ => ?_)
set_option maxHeartbeats 8000000 in
set_option maxRecDepth 100000 in
theorem catchpitref02_Small.calls (k : Nat) (a0 : ByteArray) (r : ByteArray) (w : World) (hG : TabOk w) (h : catchpitref02_Small.f k a0 = some r) :
    Calls Tryd.prog 40 #[.string a0] w fun e w' => e = .returned (.string r) ∧ Below w.heap.size w w' := by
  have HB := Aside0.mk (Below.refl w.heap.size w)
  have H : (catchpitref02_Small.l0 k a0 ([] : List Int) 0) = some r := h
  clear h
  have H' := Aside0.mk H
  clear H
  go_enter Tryd.func40, Tryd.ntmps40
  go_wp2
  go_loopg [3, 4] k (fun kq v3 v4 w' => ∃ (x3_1 : List Int) (x4_1 : Int), v4 = .int .i64 x4_1 ∧ Aside0 (catchpitref02_Small.l0 kq a0 x3_1 x4_1 = some r) ∧ Aside0 (kq ≤ k) ∧ Aside0 (Kd.R (Kd.int .u8) 5 w' w.heap.size (fun _ => True) v3 x3_1) ∧ Aside0 (Below w.heap.size w w'))
  case atStart => exact ⟨(([] : List Int)), (0), (by first | rfl | (simp; done) | (simp [*]; done)), H', ⟨Nat.le_refl _⟩, ⟨by first | exact Kd.R_nil _ _ _ _ _ | exact Kd.N_nil _ _ _ _ _ | exact Kd.V_nil _ _ _ _ _ | exact Kd.Q_nil _ _ _ _ _ | exact Kd.S_nil _ _ _ _ _⟩, ⟨by repeat (first | (with_reducible first | exact HB.out | apply below_alloc | apply pw_below_drewN | apply below_drew1) | exact HB.out)⟩⟩
  case round =>
    clear H'
    obtain ⟨x3_1, x4_1, rfl, HA, HK1, HO_3, HB⟩ := hrel
    cases gk with
    | zero => exact absurd HA.out (by simp [catchpitref02_Small.l0])
    | succ k1 =>
      have H := HA.out
      clear HA
      simp only [catchpitref02_Small.l0] at H
      by_cases c2 : x4_1 < (a0.size : Int)
      · rw [if_pos c2] at H
        have c2b0 : decide (x4_1 < (a0.size : Int)) = true := decide_eq_true c2
        clear c2
        by_cases c3 : 0 ≤ x4_1
        · rw [if_pos c3] at H
          have c3b0 : decide (0 ≤ x4_1) = true := decide_eq_true c3
          clear c3
          by_cases c5 : (bt a0 x4_1) ≥ 65
          · rw [if_pos c5] at H
            have c5b0 : decide (65 ≤ (bt a0 x4_1)) = true := decide_eq_true c5
            clear c5
            by_cases c6 : (bt a0 x4_1) ≤ 90
            · rw [if_pos c6] at H
              have c6b0 : decide ((bt a0 x4_1) ≤ 90) = true := decide_eq_true c6
              clear c6
              by_cases c7 : x3_1.length < 140737488355328
              · rw [if_pos c7] at H
                have LMc7 := Aside0.mk c7
                clear c7
                obtain ⟨y166, hy166⟩ : ∃ y_ : List Int, y_ = (x3_1 ++ [((bt a0 x4_1) + 32) % 256]) := ⟨_, rfl⟩
                replace H : (catchpitref02_Small.l0 k1 a0 y166 (wrap64 (x4_1 + 1))) = some r := by first | (rw [hy166]; with_reducible exact H) | (have H2_ := (Option.bind_some _ _).symm.trans H; rw [hy166]; with_reducible exact H2_) | (have H2_ := (Option.bind_some _ _).symm.trans H; with_reducible exact H2_) | with_reducible exact H | (rw [hy166]; exact H) | exact H
                have Ny166 := Aside0.mk hy166
                clear hy166
                have H' := Aside0.mk H
                clear H
                have p4 : 0 ≤ (x4_1 : Int) := of_decide_eq_true (by first | (with_reducible assumption) | assumption)
                have q4 : x4_1 < (a0.size : Int) := of_decide_eq_true (by first | (with_reducible assumption) | assumption)
                have hx4 := bt_at a0 x4_1
                replace p4 := eq_true p4
                replace q4 := eq_true q4
                go_wp2_with (first | ((with_reducible refine gate_builtin (b := .append) (xs := #[.tmp 23, .tmp 25]) rfl ?_); at_builtin; refine Kd.R_append (Kd.int .u8) (w0 := w) w.heap.size rfl (.tmp 23) (.tmp 25) 23 5 (.int .u8 0) 1 rfl Tryd.underlying23 info5 rfl (by decide) (by omega) u3 x3_1 (((bt a0 x4_1) + 32) % 256) [.int .u8 (((bt a0 x4_1) + 32) % 256)] (fun _ => True) (fun _ => False) rfl rfl ?aP (fun _ hk => hk.elim) ?aF ?aO ?aB ?aS ?aL ?_; (case aP => exact rfl); (case aB => exact (by repeat (first | (with_reducible first | exact HB.out | apply below_alloc | apply pw_below_drewN | apply below_drew1) | exact HB.out))); (case aF => exact (fun _ _ => trivial)); (case aO => exact (by (with_reducible repeat (first | apply Kd.R_alloc | apply Kd.R_drewN | apply Kd.R_drew)); exact HO_3.out)); (case aS => exact (below_size (by repeat (first | (with_reducible first | exact HB.out | apply below_alloc | apply pw_below_drewN | apply below_drew1) | exact HB.out)))); (case aL => have := LMc7.out; omega); intro v167 w8 ho hb hg hat; rw [← Ny166.out] at ho; have n0_ := Aside0.mk (hb); have n1_ := Aside0.mk (ho); clear HB; clear HO_3; have HB := n0_; have HO168 := n1_; clear n0_ n1_; clear ho hb hg hat))
                go_roundg k1
                case measure => have := HK1.out; omega
                case rel => exact ⟨(y166), (wrap64 (x4_1 + 1)), (by first | rfl | (simp; done) | (simp [*]; done)), H', ⟨by have := HK1.out; omega⟩, ⟨by (with_reducible repeat (first | apply Kd.R_alloc | apply Kd.R_drewN | apply Kd.R_drew)); exact HO168.out⟩, ⟨by repeat (first | (with_reducible first | exact HB.out | apply below_alloc | apply pw_below_drewN | apply below_drew1) | exact HB.out)⟩⟩
              · rw [if_neg c7] at H
                exact absurd H (by simp)
            · rw [if_neg c6] at H
              have c6b0 : decide ((bt a0 x4_1) ≤ 90) = false := decide_eq_false c6
              clear c6
              by_cases c9 : x3_1.length < 140737488355328
              · rw [if_pos c9] at H
                have LMc9 := Aside0.mk c9
                clear c9
                obtain ⟨y169, hy169⟩ : ∃ y_ : List Int, y_ = (x3_1 ++ [bt a0 x4_1]) := ⟨_, rfl⟩
                replace H : (catchpitref02_Small.l0 k1 a0 y169 (wrap64 (x4_1 + 1))) = some r := by first | (rw [hy169]; with_reducible exact H) | (have H2_ := (Option.bind_some _ _).symm.trans H; rw [hy169]; with_reducible exact H2_) | (have H2_ := (Option.bind_some _ _).symm.trans H; with_reducible exact H2_) | with_reducible exact H | (rw [hy169]; exact H) | exact H
                have Ny169 := Aside0.mk hy169
                clear hy169
                have H' := Aside0.mk H
                clear H
                have p4 : 0 ≤ (x4_1 : Int) := of_decide_eq_true (by first | (with_reducible assumption) | assumption)
                have q4 : x4_1 < (a0.size : Int) := of_decide_eq_true (by first | (with_reducible assumption) | assumption)
                have hx4 := bt_at a0 x4_1
                replace p4 := eq_true p4
                replace q4 := eq_true q4
                go_wp2_with (first | ((with_reducible refine gate_builtin (b := .append) (xs := #[.tmp 23, .tmp 25]) rfl ?_); at_builtin; refine Kd.R_append (Kd.int .u8) (w0 := w) w.heap.size rfl (.tmp 23) (.tmp 25) 23 5 (.int .u8 0) 1 rfl Tryd.underlying23 info5 rfl (by decide) (by omega) u3 x3_1 (bt a0 x4_1) [.int .u8 (bt a0 x4_1)] (fun _ => True) (fun _ => False) rfl rfl ?aP (fun _ hk => hk.elim) ?aF ?aO ?aB ?aS ?aL ?_; (case aP => exact rfl); (case aB => exact (by repeat (first | (with_reducible first | exact HB.out | apply below_alloc | apply pw_below_drewN | apply below_drew1) | exact HB.out))); (case aF => exact (fun _ _ => trivial)); (case aO => exact (by (with_reducible repeat (first | apply Kd.R_alloc | apply Kd.R_drewN | apply Kd.R_drew)); exact HO_3.out)); (case aS => exact (below_size (by repeat (first | (with_reducible first | exact HB.out | apply below_alloc | apply pw_below_drewN | apply below_drew1) | exact HB.out)))); (case aL => have := LMc9.out; omega); intro v170 w10 ho hb hg hat; rw [← Ny169.out] at ho; have n0_ := Aside0.mk (hb); have n1_ := Aside0.mk (ho); clear HB; clear HO_3; have HB := n0_; have HO171 := n1_; clear n0_ n1_; clear ho hb hg hat))
                go_roundg k1
                case measure => have := HK1.out; omega
                case rel => exact ⟨(y169), (wrap64 (x4_1 + 1)), (by first | rfl | (simp; done) | (simp [*]; done)), H', ⟨by have := HK1.out; omega⟩, ⟨by (with_reducible repeat (first | apply Kd.R_alloc | apply Kd.R_drewN | apply Kd.R_drew)); exact HO171.out⟩, ⟨by repeat (first | (with_reducible first | exact HB.out | apply below_alloc | apply pw_below_drewN | apply below_drew1) | exact HB.out)⟩⟩
              · rw [if_neg c9] at H
                exact absurd H (by simp)
          · rw [if_neg c5] at H
            have c5b0 : decide (65 ≤ (bt a0 x4_1)) = false := decide_eq_false c5
            clear c5
            by_cases c11 : x3_1.length < 140737488355328
            · rw [if_pos c11] at H
              have LMc11 := Aside0.mk c11
              clear c11
              obtain ⟨y172, hy172⟩ : ∃ y_ : List Int, y_ = (x3_1 ++ [bt a0 x4_1]) := ⟨_, rfl⟩
              replace H : (catchpitref02_Small.l0 k1 a0 y172 (wrap64 (x4_1 + 1))) = some r := by first | (rw [hy172]; with_reducible exact H) | (have H2_ := (Option.bind_some _ _).symm.trans H; rw [hy172]; with_reducible exact H2_) | (have H2_ := (Option.bind_some _ _).symm.trans H; with_reducible exact H2_) | with_reducible exact H | (rw [hy172]; exact H) | exact H
              have Ny172 := Aside0.mk hy172
              clear hy172
              have H' := Aside0.mk H
              clear H
              have p4 : 0 ≤ (x4_1 : Int) := of_decide_eq_true (by first | (with_reducible assumption) | assumption)
              have q4 : x4_1 < (a0.size : Int) := of_decide_eq_true (by first | (with_reducible assumption) | assumption)
              have hx4 := bt_at a0 x4_1
              replace p4 := eq_true p4
              replace q4 := eq_true q4
              go_wp2_with (first | ((with_reducible refine gate_builtin (b := .append) (xs := #[.tmp 23, .tmp 25]) rfl ?_); at_builtin; refine Kd.R_append (Kd.int .u8) (w0 := w) w.heap.size rfl (.tmp 23) (.tmp 25) 23 5 (.int .u8 0) 1 rfl Tryd.underlying23 info5 rfl (by decide) (by omega) u3 x3_1 (bt a0 x4_1) [.int .u8 (bt a0 x4_1)] (fun _ => True) (fun _ => False) rfl rfl ?aP (fun _ hk => hk.elim) ?aF ?aO ?aB ?aS ?aL ?_; (case aP => exact rfl); (case aB => exact (by repeat (first | (with_reducible first | exact HB.out | apply below_alloc | apply pw_below_drewN | apply below_drew1) | exact HB.out))); (case aF => exact (fun _ _ => trivial)); (case aO => exact (by (with_reducible repeat (first | apply Kd.R_alloc | apply Kd.R_drewN | apply Kd.R_drew)); exact HO_3.out)); (case aS => exact (below_size (by repeat (first | (with_reducible first | exact HB.out | apply below_alloc | apply pw_below_drewN | apply below_drew1) | exact HB.out)))); (case aL => have := LMc11.out; omega); intro v173 w12 ho hb hg hat; rw [← Ny172.out] at ho; have n0_ := Aside0.mk (hb); have n1_ := Aside0.mk (ho); clear HB; clear HO_3; have HB := n0_; have HO174 := n1_; clear n0_ n1_; clear ho hb hg hat))
              go_roundg k1
              case measure => have := HK1.out; omega
              case rel => exact ⟨(y172), (wrap64 (x4_1 + 1)), (by first | rfl | (simp; done) | (simp [*]; done)), H', ⟨by have := HK1.out; omega⟩, ⟨by (with_reducible repeat (first | apply Kd.R_alloc | apply Kd.R_drewN | apply Kd.R_drew)); exact HO174.out⟩, ⟨by repeat (first | (with_reducible first | exact HB.out | apply below_alloc | apply pw_below_drewN | apply below_drew1) | exact HB.out)⟩⟩
            · rw [if_neg c11] at H
              exact absurd H (by simp)
        · rw [if_neg c3] at H
          exact absurd H (by simp)
      · rw [if_neg c2] at H
        have c2b0 : decide (x4_1 < (a0.size : Int)) = false := decide_eq_false c2
        clear c2
        obtain rfl := Option.some.inj H
        have hcv13 := own_string (P := Tryd.prog) Tryd.underlying23 Tryd.underlying5 Tryd.underlying9 (Kd.own_of_R HO_3.out)
        go_wp2
        go_ret
        exact ⟨by first | rfl | (simp [errW_none, errW_some] <;> rfl) | (simp [*, errW_none, errW_some] <;> rfl), by repeat (first | (with_reducible first | exact HB.out | apply below_alloc | apply pw_below_drewN | apply below_drew1) | exact HB.out)⟩
def catchpitref05_Is.f (k : Nat) (a0_0 : ByteArray) (a0_1 : ByteArray) (a1 : ByteArray) : Option (Bool) := (catchpitref02_Small.f k a0_0).bind fun t176 => ((catchpitref02_Small.f k a1).bind fun t177 => (some (t176.toList == t177.toList)))
theorem catchpitref05_Is.mono : ∀ a0 a1 a2 k, LeO (catchpitref05_Is.f k a0 a1 a2) (catchpitref05_Is.f (k + 1) a0 a1 a2) := by
  intro a0 a1 a2 k
  unfold catchpitref05_Is.f
  repeat' first
      | (with_reducible exact catchpitref02_Small.mono _ _)
      | (with_reducible exact LeO.refl _)
      | (with_reducible exact LeO.none _)
      | (with_reducible refine LeO.ite ?_ ?_)
      | (with_reducible refine LeO.bind ?_ (fun _ => ?_))
      | exact catchpitref02_Small.mono _ _
      | exact LeO.none _
      | refine LeO.ite ?_ ?_
      | refine LeO.bind ?_ (fun _ => ?_)
set_option maxHeartbeats 8000000 in
set_option maxRecDepth 100000 in
theorem catchpitref05_Is.calls (k : Nat) (a0_0 : ByteArray) (a0_1 : ByteArray) (a1 : ByteArray) (r : Bool) (w : World) (hG : TabOk w) (h : catchpitref05_Is.f k a0_0 a0_1 a1 = some r) :
    Calls Tryd.prog 42 #[.agg #[.string a0_0, .string a0_1], .string a1] w fun e w' => e = .returned (.bool r) ∧ Below w.heap.size w w' := by
  have hu71 := Tryd.underlying71
  have HB := Aside0.mk (Below.refl w.heap.size w)
  have H : ((catchpitref02_Small.f k a0_0).bind fun t176 => ((catchpitref02_Small.f k a1).bind fun t177 => (some (t176.toList == t177.toList)))) = some r := h
  clear h
  replace H := Option.bind_eq_some_iff.mp H
  obtain ⟨t176, A30, H⟩ := H
  replace H : ((catchpitref02_Small.f k a1).bind fun t177 => (some (t176.toList == t177.toList))) = some r := H
  have A3 := Aside0.mk A30
  clear A30
  replace H := Option.bind_eq_some_iff.mp H
  obtain ⟨t177, A40, H⟩ := H
  replace H : (some (t176.toList == t177.toList)) = some r := H
  have A4 := Aside0.mk A40
  clear A40
  obtain rfl := Option.some.inj H
  go_enter Tryd.func42, Tryd.ntmps42
  go_wp2_with (first | ((with_reducible refine gate_dst (N := 2) rfl ?_); refine box_event ?hg (N := 2) ?hd (cs := #[.string a0_0, .string a0_1]) (t := 71) ?hr ?_; (case hd => rfl); (case hg => rfl); (case hr => first | (go_simp; done) | (go_simp; rfl)); intro gb175 hg w5 hbox hb; have n0_ := Aside0.mk (below_step (by repeat (first | (with_reducible first | exact HB.out | apply below_alloc | apply pw_below_drewN | apply below_drew1) | exact HB.out)) hb); have n1_ := Aside0.mk (hbox); have n2_ := Aside0.mk ((by rw [hg]; exact (below_size (by repeat (first | (with_reducible first | exact HB.out | apply below_alloc | apply pw_below_drewN | apply below_drew1) | exact HB.out))) : w.heap.size ≤ gb175)); have n3_ := Aside0.mk ((by rw [hg]; exact (below_size (by repeat (first | (with_reducible first | exact HB.out | apply below_alloc | apply pw_below_drewN | apply below_drew1) | exact HB.out))) : w.heap.size ≤ gb175)); clear HB; have HB := n0_; have BK175 := n1_; have GW175 := n2_; have GE175 := n3_; clear n0_ n1_ n2_ n3_; clear hb hbox hg; have hcz6_0 : w5.cell? ⟨gb175, 0, none⟩ = some (.string a0_0) := (blk_cell BK175.out 0).trans rfl; have hcz6_1 : w5.cell? ⟨gb175, 1, none⟩ = some (.string a0_1) := (blk_cell BK175.out 1).trans rfl; have hfz6_0 := blk_frozen BK175.out 0; have hfz6_1 := blk_frozen BK175.out 1) | ((with_reducible refine gate_callee (f := 40) rfl ?_); refine goesL_ (some 7) rfl rfl Tryd.func40 (by kernel_rfl) rfl #[.string a0_0] rfl (by (try simp only [List.map_toArray, List.map_cons, List.map_nil]); first | done | rfl | (simp only [List.length_drop, List.length_take]; rfl)) ?_; (with_reducible refine (catchpitref02_Small.calls k a0_0 t176 _ ?side1 A3.out).mono ?_); (case side1 => first | exact hG | exact TabOk.drewN hG _ | exact TabOk.drewN (TabOk.drewN hG _) _ | exact TabOk.below hG (by repeat (first | (with_reducible first | exact HB.out | apply below_alloc | apply pw_below_drewN | apply below_drew1 | refine below_set ?_ GE175.out) | exact HB.out))); rintro e w7 ⟨rfl, hb⟩; refine ⟨_, rfl, ?_⟩; have n0_ := Aside0.mk (blk_below (g := gb175) (o := .cells #[.string a0_0, .string a0_1] 71 (0, 0)) (by (with_reducible repeat (first | refine blk_drewN ?_ _ | refine blk_drew ?_ | refine blk_alloc ?_ _)); exact BK175.out) hb); have n1_ := Aside0.mk (below_step (by repeat (first | (with_reducible first | exact HB.out | apply below_alloc | apply pw_below_drewN | apply below_drew1 | refine below_set ?_ GE175.out) | exact HB.out)) hb); clear BK175; clear HB; have BK175 := n0_; have HB := n1_; clear n0_ n1_; (try clear hb); (try clear hb2); (try clear hk); (try clear hi)) | ((with_reducible refine gate_callee (f := 40) rfl ?_); refine goesL_ (some 9) rfl rfl Tryd.func40 (by kernel_rfl) rfl #[.string a1] rfl (by (try simp only [List.map_toArray, List.map_cons, List.map_nil]); first | done | rfl | (simp only [List.length_drop, List.length_take]; rfl)) ?_; (with_reducible refine (catchpitref02_Small.calls k a1 t177 _ ?side1 A4.out).mono ?_); (case side1 => first | exact hG | exact TabOk.drewN hG _ | exact TabOk.drewN (TabOk.drewN hG _) _ | exact TabOk.below hG (by repeat (first | (with_reducible first | exact HB.out | apply below_alloc | apply pw_below_drewN | apply below_drew1 | refine below_set ?_ GE175.out) | exact HB.out))); rintro e w8 ⟨rfl, hb⟩; refine ⟨_, rfl, ?_⟩; have n0_ := Aside0.mk (blk_below (g := gb175) (o := .cells #[.string a0_0, .string a0_1] 71 (0, 0)) (by (with_reducible repeat (first | refine blk_drewN ?_ _ | refine blk_drew ?_ | refine blk_alloc ?_ _)); exact BK175.out) hb); have n1_ := Aside0.mk (below_step (by repeat (first | (with_reducible first | exact HB.out | apply below_alloc | apply pw_below_drewN | apply below_drew1 | refine below_set ?_ GE175.out) | exact HB.out)) hb); clear BK175; clear HB; have BK175 := n0_; have HB := n1_; clear n0_ n1_; (try clear hb); (try clear hb2); (try clear hk); (try clear hi)))
  go_ret
  exact ⟨by first | rfl | (simp [errW_none, errW_some] <;> rfl) | (simp [*, errW_none, errW_some] <;> rfl), by repeat (first | (with_reducible first | exact HB.out | apply below_alloc | apply pw_below_drewN | apply below_drew1 | refine below_set ?_ GE175.out) | exact HB.out)⟩
def catchpitref05_Get.l0 : Nat → List (S71) → ByteArray → List ByteArray → Int → Option (List ByteArray)
  | 0, _, _, _, _ => none
  | k + 1, x0, x1, x5, x6 => if x6 < (x0.length : Int) then (if 0 ≤ x6 then ((catchpitref05_Is.f k ((rd_T71 x0 x6).f0) ((rd_T71 x0 x6).f1) x1).bind fun t179 => (if t179 = true then (if x5.length < 8796093022208 then (catchpitref05_Get.l0 k x0 x1 (x5 ++ [(rd_T71 x0 x6).f1]) (wrap64 (x6 + 1))) else (none)) else (catchpitref05_Get.l0 k x0 x1 x5 (wrap64 (x6 + 1))))) else (none)) else (some x5)
def catchpitref05_Get.f (k : Nat) (l0 : List (S71)) (a1 : ByteArray) : Option (List ByteArray) := catchpitref05_Get.l0 k l0 a1 ([] : List ByteArray) 0
theorem catchpitref05_Get.mono_l : ∀ k, (∀ y0 y1 y2 y3, LeO (catchpitref05_Get.l0 k y0 y1 y2 y3) (catchpitref05_Get.l0 (k + 1) y0 y1 y2 y3))
  | 0 => fun _ _ _ _ r h => by simp [catchpitref05_Get.l0] at h
  | k + 1 => by
    have ih0 := catchpitref05_Get.mono_l k
    · intro y0 y1 y2 y3
      unfold catchpitref05_Get.l0
      repeat' first
      | (with_reducible exact ih0 _ _ _ _)
      | (with_reducible exact catchpitref05_Is.mono _ _ _ _)
      | (with_reducible exact LeO.refl _)
      | (with_reducible exact LeO.none _)
      | (with_reducible refine LeO.ite ?_ ?_)
      | (with_reducible refine LeO.bind ?_ (fun _ => ?_))
      | exact ih0 _ _ _ _
      | exact catchpitref05_Is.mono _ _ _ _
      | exact LeO.none _
      | refine LeO.ite ?_ ?_
      | refine LeO.bind ?_ (fun _ => ?_)
theorem catchpitref05_Get.mono : ∀ a0 a1 k, LeO (catchpitref05_Get.f k a0 a1) (catchpitref05_Get.f (k + 1) a0 a1) := by
  intro a0 a1 k
  have ih0 := catchpitref05_Get.mono_l k
  unfold catchpitref05_Get.f
  repeat' first
      | (with_reducible exact ih0 _ _ _ _)
      | (with_reducible exact catchpitref05_Is.mono _ _ _ _)
      | (with_reducible exact LeO.refl _)
      | (with_reducible exact LeO.none _)
      | (with_reducible refine LeO.ite ?_ ?_)
      | (with_reducible refine LeO.bind ?_ (fun _ => ?_))
      | exact ih0 _ _ _ _
      | exact catchpitref05_Is.mono _ _ _ _
      | exact LeO.none _
      | refine LeO.ite ?_ ?_
      | refine LeO.bind ?_ (fun _ => ?_)
set_option maxHeartbeats 8000000 in
set_option maxRecDepth 100000 in
theorem catchpitref05_Get.calls (k : Nat) (A0 : Option Addr) (c0 : Nat) (l0 : List (S71)) (a1 : ByteArray) (r : List ByteArray) (w : World) (hr0 : Kd.C k71 w A0 l0.length l0) (hc0 : l0.length ≤ c0) (hG : TabOk w) (h : catchpitref05_Get.f k l0 a1 = some r) :
    Calls Tryd.prog 18 #[.slice A0 l0.length c0, .string a1] w fun e w' => ∃ v0_ : Value, e = .returned (v0_) ∧ Kd.R Kd.string 9 w' w.heap.size (fun _ => True) v0_ r ∧ Below w.heap.size w w' := by
  have hu71 := Tryd.underlying71
  have HR0 := Aside0.mk hr0
  have HC0 := Aside0.mk hc0
  clear hr0 hc0
  have HB := Aside0.mk (Below.refl w.heap.size w)
  have H : (catchpitref05_Get.l0 k l0 a1 ([] : List ByteArray) 0) = some r := h
  clear h
  have H' := Aside0.mk H
  clear H
  go_enter Tryd.func18, Tryd.ntmps18
  go_wp2
  go_loopg [5, 6] k (fun kq v5 v6 w' => ∃ (x5_1 : List ByteArray) (x6_1 : Int), v6 = .int .i64 x6_1 ∧ Aside0 (catchpitref05_Get.l0 kq l0 a1 x5_1 x6_1 = some r) ∧ Aside0 (kq ≤ k) ∧ Aside0 (Kd.R Kd.string 9 w' w.heap.size (fun _ => True) v5 x5_1) ∧ Aside0 (Below w.heap.size w w'))
  case atStart => exact ⟨(([] : List ByteArray)), (0), (by first | rfl | (simp; done) | (simp [*]; done)), H', ⟨Nat.le_refl _⟩, ⟨by first | exact Kd.R_nil _ _ _ _ _ | exact Kd.N_nil _ _ _ _ _ | exact Kd.V_nil _ _ _ _ _ | exact Kd.Q_nil _ _ _ _ _ | exact Kd.S_nil _ _ _ _ _⟩, ⟨by repeat (first | (with_reducible first | exact HB.out | apply below_alloc | apply pw_below_drewN | apply below_drew1) | exact HB.out)⟩⟩
  case round =>
    clear H'
    try clear c1
    try clear p2
    obtain ⟨x5_1, x6_1, rfl, HA, HK1, HO_5, HB⟩ := hrel
    cases gk with
    | zero => exact absurd HA.out (by simp [catchpitref05_Get.l0])
    | succ k1 =>
      have H := HA.out
      clear HA
      simp only [catchpitref05_Get.l0] at H
      by_cases c3 : x6_1 < (l0.length : Int)
      · rw [if_pos c3] at H
        have c3b0 : decide (x6_1 < (l0.length : Int)) = true := decide_eq_true c3
        clear c3
        by_cases c4 : 0 ≤ x6_1
        · rw [if_pos c4] at H
          have c4b0 : decide (0 ≤ x6_1) = true := decide_eq_true c4
          clear c4
          replace H := Option.bind_eq_some_iff.mp H
          obtain ⟨t179, A50, H⟩ := H
          replace H : (if t179 = true then (if x5_1.length < 8796093022208 then (catchpitref05_Get.l0 k1 l0 a1 (x5_1 ++ [(rd_T71 l0 x6_1).f1]) (wrap64 (x6_1 + 1))) else (none)) else (catchpitref05_Get.l0 k1 l0 a1 x5_1 (wrap64 (x6_1 + 1)))) = some r := H
          have A5 := Aside0.mk A50
          clear A50
          by_cases c6 : t179 = true
          · subst c6
            have H1 : (if x5_1.length < 8796093022208 then (catchpitref05_Get.l0 k1 l0 a1 (x5_1 ++ [(rd_T71 l0 x6_1).f1]) (wrap64 (x6_1 + 1))) else (none)) = some r := by rw [if_pos rfl] at H; exact H
            clear H
            have H := H1
            clear H1
            by_cases c7 : x5_1.length < 8796093022208
            · rw [if_pos c7] at H
              have LMc7 := Aside0.mk c7
              clear c7
              obtain ⟨y181, hy181⟩ : ∃ y_ : List ByteArray, y_ = (x5_1 ++ [(rd_T71 l0 x6_1).f1]) := ⟨_, rfl⟩
              replace H : (catchpitref05_Get.l0 k1 l0 a1 y181 (wrap64 (x6_1 + 1))) = some r := by first | (rw [hy181]; with_reducible exact H) | (have H2_ := (Option.bind_some _ _).symm.trans H; rw [hy181]; with_reducible exact H2_) | (have H2_ := (Option.bind_some _ _).symm.trans H; with_reducible exact H2_) | with_reducible exact H | (rw [hy181]; exact H) | exact H
              have Ny181 := Aside0.mk hy181
              clear hy181
              have H' := Aside0.mk H
              clear H
              have p178 : 0 ≤ (x6_1 : Int) := of_decide_eq_true (by first | (with_reducible assumption) | assumption)
              have q178 : x6_1 < (l0.length : Int) := of_decide_eq_true (by first | (with_reducible assumption) | assumption)
              obtain ⟨ad178, e178, hx178_0, hx178_1⟩ := at_T71 HR0.out x6_1 p178 q178
              cases e178
              replace hx178_0 := (HB.out.cell (World.block_lt_of_cell? w _ hx178_0)).trans hx178_0
              replace hx178_1 := (HB.out.cell (World.block_lt_of_cell? w _ hx178_1)).trans hx178_1
              replace p178 := eq_true p178
              replace q178 := eq_true q178
              go_wp2_with (first | ((with_reducible refine gate_callee (f := 42) rfl ?_); refine goesL_ (some 18) rfl rfl Tryd.func42 (by kernel_rfl) rfl #[.agg #[.string ((rd_T71 l0 x6_1).f0), .string ((rd_T71 l0 x6_1).f1)], .string a1] rfl (by (try simp only [List.map_toArray, List.map_cons, List.map_nil]); first | done | rfl | (simp only [List.length_drop, List.length_take]; rfl)) ?_; (with_reducible refine (catchpitref05_Is.calls k1 ((rd_T71 l0 x6_1).f0) ((rd_T71 l0 x6_1).f1) a1 true _ ?side1 A5.out).mono ?_); (case side1 => first | exact hG | exact TabOk.drewN hG _ | exact TabOk.drewN (TabOk.drewN hG _) _ | exact TabOk.below hG (by repeat (first | (with_reducible first | exact HB.out | apply below_alloc | apply pw_below_drewN | apply below_drew1) | exact HB.out))); rintro e w8 ⟨rfl, hb⟩; refine ⟨_, rfl, ?_⟩; have n0_ := Aside0.mk (Kd.R_below (by (with_reducible repeat (first | apply Kd.R_alloc | apply Kd.R_drewN | apply Kd.R_drew)); exact HO_5.out) hb); have n1_ := Aside0.mk (below_step (by repeat (first | (with_reducible first | exact HB.out | apply below_alloc | apply pw_below_drewN | apply below_drew1) | exact HB.out)) hb); clear HO_5; clear HB; have HO_5 := n0_; have HB := n1_; clear n0_ n1_; (try clear hb); (try clear hb2); (try clear hk); (try clear hi); have p180 : 0 ≤ (x6_1 : Int) := of_decide_eq_true (by first | (with_reducible assumption) | assumption); have q180 : x6_1 < (l0.length : Int) := of_decide_eq_true (by first | (with_reducible assumption) | assumption); obtain ⟨ad180, e180, hx180_0, hx180_1⟩ := at_T71 HR0.out x6_1 p180 q180; obtain rfl : ad178 = ad180 := (by injection e180); replace hx180_0 := (HB.out.cell (World.block_lt_of_cell? w _ hx180_0)).trans hx180_0; replace hx180_1 := (HB.out.cell (World.block_lt_of_cell? w _ hx180_1)).trans hx180_1; replace p180 := eq_true p180; replace q180 := eq_true q180) | ((with_reducible refine gate_builtin (b := .append) (xs := #[.tmp 19, .tmp 25]) rfl ?_); at_builtin; refine Kd.R_append Kd.string (w0 := w) w.heap.size rfl (.tmp 19) (.tmp 25) 38 9 (.string ⟨#[]⟩) 16 rfl Tryd.underlying38 info9 rfl (by decide) (by omega) u5 x5_1 ((rd_T71 l0 x6_1).f1) [.string ((rd_T71 l0 x6_1).f1)] (fun _ => True) (fun _ => False) rfl rfl ?aP (fun _ hk => hk.elim) ?aF ?aO ?aB ?aS ?aL ?_; (case aP => exact rfl); (case aB => exact (by repeat (first | (with_reducible first | exact HB.out | apply below_alloc | apply pw_below_drewN | apply below_drew1) | exact HB.out))); (case aF => exact (fun _ _ => trivial)); (case aO => exact (by (with_reducible repeat (first | apply Kd.R_alloc | apply Kd.R_drewN | apply Kd.R_drew)); exact HO_5.out)); (case aS => exact (below_size (by repeat (first | (with_reducible first | exact HB.out | apply below_alloc | apply pw_below_drewN | apply below_drew1) | exact HB.out)))); (case aL => have := LMc7.out; omega); intro v182 w9 ho hb hg hat; rw [← Ny181.out] at ho; have n0_ := Aside0.mk (hb); have n1_ := Aside0.mk (ho); clear HB; clear HO_5; have HB := n0_; have HO183 := n1_; clear n0_ n1_; clear ho hb hg hat))
              go_roundg k1
              case measure => have := HK1.out; omega
              case rel => exact ⟨(y181), (wrap64 (x6_1 + 1)), (by first | rfl | (simp; done) | (simp [*]; done)), H', ⟨by have := HK1.out; omega⟩, ⟨by (with_reducible repeat (first | apply Kd.R_alloc | apply Kd.R_drewN | apply Kd.R_drew)); exact HO183.out⟩, ⟨by repeat (first | (with_reducible first | exact HB.out | apply below_alloc | apply pw_below_drewN | apply below_drew1) | exact HB.out)⟩⟩
            · rw [if_neg c7] at H
              exact absurd H (by simp)
          · replace c6 := Bool.eq_false_iff.mpr c6
            subst c6
            have H1 : (catchpitref05_Get.l0 k1 l0 a1 x5_1 (wrap64 (x6_1 + 1))) = some r := by rw [if_neg (show ¬ (false = true) by decide)] at H; exact H
            clear H
            have H := H1
            clear H1
            have H' := Aside0.mk H
            clear H
            have p178 : 0 ≤ (x6_1 : Int) := of_decide_eq_true (by first | (with_reducible assumption) | assumption)
            have q178 : x6_1 < (l0.length : Int) := of_decide_eq_true (by first | (with_reducible assumption) | assumption)
            obtain ⟨ad178, e178, hx178_0, hx178_1⟩ := at_T71 HR0.out x6_1 p178 q178
            cases e178
            replace hx178_0 := (HB.out.cell (World.block_lt_of_cell? w _ hx178_0)).trans hx178_0
            replace hx178_1 := (HB.out.cell (World.block_lt_of_cell? w _ hx178_1)).trans hx178_1
            replace p178 := eq_true p178
            replace q178 := eq_true q178
            go_wp2_with (first | ((with_reducible refine gate_callee (f := 42) rfl ?_); refine goesL_ (some 18) rfl rfl Tryd.func42 (by kernel_rfl) rfl #[.agg #[.string ((rd_T71 l0 x6_1).f0), .string ((rd_T71 l0 x6_1).f1)], .string a1] rfl (by (try simp only [List.map_toArray, List.map_cons, List.map_nil]); first | done | rfl | (simp only [List.length_drop, List.length_take]; rfl)) ?_; (with_reducible refine (catchpitref05_Is.calls k1 ((rd_T71 l0 x6_1).f0) ((rd_T71 l0 x6_1).f1) a1 false _ ?side1 A5.out).mono ?_); (case side1 => first | exact hG | exact TabOk.drewN hG _ | exact TabOk.drewN (TabOk.drewN hG _) _ | exact TabOk.below hG (by repeat (first | (with_reducible first | exact HB.out | apply below_alloc | apply pw_below_drewN | apply below_drew1) | exact HB.out))); rintro e w10 ⟨rfl, hb⟩; refine ⟨_, rfl, ?_⟩; have n0_ := Aside0.mk (Kd.R_below (by (with_reducible repeat (first | apply Kd.R_alloc | apply Kd.R_drewN | apply Kd.R_drew)); exact HO_5.out) hb); have n1_ := Aside0.mk (below_step (by repeat (first | (with_reducible first | exact HB.out | apply below_alloc | apply pw_below_drewN | apply below_drew1) | exact HB.out)) hb); clear HO_5; clear HB; have HO_5 := n0_; have HB := n1_; clear n0_ n1_; (try clear hb); (try clear hb2); (try clear hk); (try clear hi)))
            go_roundg k1
            case measure => have := HK1.out; omega
            case rel => exact ⟨(x5_1), (wrap64 (x6_1 + 1)), (by first | rfl | (simp; done) | (simp [*]; done)), H', ⟨by have := HK1.out; omega⟩, ⟨by (with_reducible repeat (first | apply Kd.R_alloc | apply Kd.R_drewN | apply Kd.R_drew)); exact HO_5.out⟩, ⟨by repeat (first | (with_reducible first | exact HB.out | apply below_alloc | apply pw_below_drewN | apply below_drew1) | exact HB.out)⟩⟩
        · rw [if_neg c4] at H
          exact absurd H (by simp)
      · rw [if_neg c3] at H
        have c3b0 : decide (x6_1 < (l0.length : Int)) = false := decide_eq_false c3
        clear c3
        obtain rfl := Option.some.inj H
        go_wp2
        go_ret
        exact ⟨_, by first | rfl | (simp [errW_none, errW_some] <;> rfl) | (simp [*, errW_none, errW_some] <;> rfl), by (with_reducible repeat (first | apply Kd.R_alloc | apply Kd.R_drewN | apply Kd.R_drew)); exact HO_5.out, by repeat (first | (with_reducible first | exact HB.out | apply below_alloc | apply pw_below_drewN | apply below_drew1) | exact HB.out)⟩
def catchpitref07_cut.l0 : Nat → ByteArray → Int → List ByteArray → Int → Int → Option (List ByteArray)
  | 0, _, _, _, _, _ => none
  | k + 1, x0, x1, x5, x6, x7 => if x7 ≤ (x0.size : Int) then (if x7 = (x0.size : Int) then (if 0 ≤ x6 then (if x6 ≤ x7 then (if x5.length < 8796093022208 then (catchpitref07_cut.l0 k x0 x1 (x5 ++ [x0.extract (x6 : Int).toNat (x7 : Int).toNat]) (wrap64 (x7 + 1)) (wrap64 (x7 + 1))) else (none)) else (none)) else (none)) else (if 0 ≤ x7 then (if x7 < (x0.size : Int) then (if (bt x0 x7) = x1 then (if 0 ≤ x6 then (if x6 ≤ x7 then (if x5.length < 8796093022208 then (catchpitref07_cut.l0 k x0 x1 (x5 ++ [x0.extract (x6 : Int).toNat (x7 : Int).toNat]) (wrap64 (x7 + 1)) (wrap64 (x7 + 1))) else (none)) else (none)) else (none)) else (catchpitref07_cut.l0 k x0 x1 x5 x6 (wrap64 (x7 + 1)))) else (none)) else (none))) else (some x5)
def catchpitref07_cut.f (k : Nat) (a0 : ByteArray) (a1 : Int) : Option (List ByteArray) := catchpitref07_cut.l0 k a0 a1 ([] : List ByteArray) 0 0
theorem catchpitref07_cut.mono_l : ∀ k, (∀ y0 y1 y2 y3 y4, LeO (catchpitref07_cut.l0 k y0 y1 y2 y3 y4) (catchpitref07_cut.l0 (k + 1) y0 y1 y2 y3 y4))
  | 0 => fun _ _ _ _ _ r h => by simp [catchpitref07_cut.l0] at h
  | k + 1 => by
    have ih0 := catchpitref07_cut.mono_l k
    · intro y0 y1 y2 y3 y4
      unfold catchpitref07_cut.l0
      repeat' first
      | (with_reducible exact ih0 _ _ _ _ _)
      | (with_reducible exact LeO.refl _)
      | (with_reducible exact LeO.none _)
      | (with_reducible refine LeO.ite ?_ ?_)
      | (with_reducible refine LeO.bind ?_ (fun _ => ?_))
      | exact ih0 _ _ _ _ _
      | exact LeO.none _
      | refine LeO.ite ?_ ?_
      | refine LeO.bind ?_ (fun _ => ?_)
theorem catchpitref07_cut.mono : ∀ a0 a1 k, LeO (catchpitref07_cut.f k a0 a1) (catchpitref07_cut.f (k + 1) a0 a1) := by
  intro a0 a1 k
  have ih0 := catchpitref07_cut.mono_l k
  unfold catchpitref07_cut.f
  repeat' first
      | (with_reducible exact ih0 _ _ _ _ _)
      | (with_reducible exact LeO.refl _)
      | (with_reducible exact LeO.none _)
      | (with_reducible refine LeO.ite ?_ ?_)
      | (with_reducible refine LeO.bind ?_ (fun _ => ?_))
      | exact ih0 _ _ _ _ _
      | exact LeO.none _
      | refine LeO.ite ?_ ?_
      | refine LeO.bind ?_ (fun _ => ?_)
def catchpitref02_blank.f (a0 : Int) : Option (Bool) := if a0 = 32 then (some true) else (some (a0 == 9))
end Go.Proofs.YtoanmbhenmlboaaDoor.Pr
end
section
namespace Go.Proofs.YtoanmbhenmlboaaDoor.Pr
open Go.RowKit Go.Proofs.YtoanmbhenmlboaaDoorH Go.Proofs.YtoanmbhenmlboaaDoorW.PrintWords Go.Proofs.YtoanmbhenmlboaaDoorW.PrintLast Go.Proofs.YtoanmbhenmlboaaDoorW.PrintMore
attribute [local go_sem] max2_int min2_int max_two min_two max_three min_three max_four min_four   -- for this text's walks alone
set_option linter.unusedVariables false
set_option linter.unusedSimpArgs false
mutual
def catchpitref02_Trim.j1 : Nat → ByteArray → Option (ByteArray)
  | 0, _ => none
  | k + 1, x0 => catchpitref02_Trim.l1 k x0
def catchpitref02_Trim.l1 : Nat → ByteArray → Option (ByteArray)
  | 0, _ => none
  | k + 1, x0 => if (x0.size : Int) > 0 then (if 0 ≤ (wrap64 ((x0.size : Int) - 1)) then (if (wrap64 ((x0.size : Int) - 1)) < (x0.size : Int) then ((catchpitref02_blank.f (bt x0 (wrap64 ((x0.size : Int) - 1)))).bind fun t191 => (if t191 = true then (if (wrap64 ((x0.size : Int) - 1)) ≤ (x0.size : Int) then (catchpitref02_Trim.l1 k (x0.extract 0 ((wrap64 ((x0.size : Int) - 1)) : Int).toNat)) else (none)) else (some x0))) else (none)) else (none)) else (some x0)
def catchpitref02_Trim.l0 : Nat → ByteArray → Option (ByteArray)
  | 0, _ => none
  | k + 1, x0 => if (x0.size : Int) > 0 then (if 0 < (x0.size : Int) then ((catchpitref02_blank.f (bt x0 0)).bind fun t190 => (if t190 = true then (if 1 ≤ (x0.size : Int) then (catchpitref02_Trim.l0 k (x0.extract 1 x0.size)) else (none)) else (catchpitref02_Trim.j1 k x0))) else (none)) else (catchpitref02_Trim.j1 k x0)
end
def catchpitref02_Trim.f (k : Nat) (a0 : ByteArray) : Option (ByteArray) := catchpitref02_Trim.l0 k a0
theorem catchpitref02_Trim.mono_l : ∀ k, (∀ y0, LeO (catchpitref02_Trim.j1 k y0) (catchpitref02_Trim.j1 (k + 1) y0)) ∧ (∀ y0, LeO (catchpitref02_Trim.l1 k y0) (catchpitref02_Trim.l1 (k + 1) y0)) ∧ (∀ y0, LeO (catchpitref02_Trim.l0 k y0) (catchpitref02_Trim.l0 (k + 1) y0))
  | 0 => ⟨fun _ r h => by simp [catchpitref02_Trim.j1] at h, fun _ r h => by simp [catchpitref02_Trim.l1] at h, fun _ r h => by simp [catchpitref02_Trim.l0] at h⟩
  | k + 1 => by
    obtain ⟨ih0, ih1, ih2⟩ := catchpitref02_Trim.mono_l k
    refine ⟨?_, ?_, ?_⟩
    · intro y0
      unfold catchpitref02_Trim.j1
      repeat' first
      | (with_reducible exact ih0 _)
      | (with_reducible exact ih1 _)
      | (with_reducible exact ih2 _)
      | (with_reducible exact LeO.refl _)
      | (with_reducible exact LeO.none _)
      | (with_reducible refine LeO.ite ?_ ?_)
      | (with_reducible refine LeO.bind ?_ (fun _ => ?_))
      | exact ih0 _
      | exact ih1 _
      | exact ih2 _
      | exact LeO.none _
      | refine LeO.ite ?_ ?_
      | refine LeO.bind ?_ (fun _ => ?_)
    · intro y0
      unfold catchpitref02_Trim.l1
      repeat' first
      | (with_reducible exact ih0 _)
      | (with_reducible exact ih1 _)
      | (with_reducible exact ih2 _)
      | (with_reducible exact LeO.refl _)
      | (with_reducible exact LeO.none _)
      | (with_reducible refine LeO.ite ?_ ?_)
      | (with_reducible refine LeO.bind ?_ (fun _ => ?_))
      | exact ih0 _
      | exact ih1 _
      | exact ih2 _
      | exact LeO.none _
      | refine LeO.ite ?_ ?_
      | refine LeO.bind ?_ (fun _ => ?_)
    · intro y0
      unfold catchpitref02_Trim.l0
      repeat' first
      | (with_reducible exact ih0 _)
      | (with_reducible exact ih1 _)
      | (with_reducible exact ih2 _)
      | (with_reducible exact LeO.refl _)
      | (with_reducible exact LeO.none _)
      | (with_reducible refine LeO.ite ?_ ?_)
      | (with_reducible refine LeO.bind ?_ (fun _ => ?_))
      | exact ih0 _
      | exact ih1 _
      | exact ih2 _
      | exact LeO.none _
      | refine LeO.ite ?_ ?_
      | refine LeO.bind ?_ (fun _ => ?_)
theorem catchpitref02_Trim.mono : ∀ a0 k, LeO (catchpitref02_Trim.f k a0) (catchpitref02_Trim.f (k + 1) a0) := by
  intro a0 k
  obtain ⟨ih0, ih1, ih2⟩ := catchpitref02_Trim.mono_l k
  unfold catchpitref02_Trim.f
  repeat' first
      | (with_reducible exact ih0 _)
      | (with_reducible exact ih1 _)
      | (with_reducible exact ih2 _)
      | (with_reducible exact LeO.refl _)
      | (with_reducible exact LeO.none _)
      | (with_reducible refine LeO.ite ?_ ?_)
      | (with_reducible refine LeO.bind ?_ (fun _ => ?_))
      | exact ih0 _
      | exact ih1 _
      | exact ih2 _
      | exact LeO.none _
      | refine LeO.ite ?_ ?_
      | refine LeO.bind ?_ (fun _ => ?_)
mutual
def catchpitref07_Items.l0 : Nat → List ByteArray → List ByteArray → Int → Option (List ByteArray)
  | 0, _, _, _ => none
  | k + 1, x0, x3, x4 => if x4 < (x0.length : Int) then (if 0 ≤ x4 then ((catchpitref07_cut.f k (rdOf ByteArray.empty x0 x4) 44).bind fun t193 => (catchpitref07_Items.l1 k x0 x3 x4 t193 0)) else (none)) else (some x3)
def catchpitref07_Items.l1 : Nat → List ByteArray → List ByteArray → Int → List ByteArray → Int → Option (List ByteArray)
  | 0, _, _, _, _, _ => none
  | k + 1, x0, x3, x4, x5, x6 => if x6 < (x5.length : Int) then (if 0 ≤ x6 then ((catchpitref02_Trim.f k (rdOf ByteArray.empty x5 x6)).bind fun t197 => (if (t197.size : Int) > 0 then (if x3.length < 8796093022208 then (catchpitref07_Items.l1 k x0 (x3 ++ [t197]) x4 x5 (wrap64 (x6 + 1))) else (none)) else (catchpitref07_Items.l1 k x0 x3 x4 x5 (wrap64 (x6 + 1))))) else (none)) else (catchpitref07_Items.l0 k x0 x3 (wrap64 (x4 + 1)))
end
def catchpitref07_Items.f (k : Nat) (l0 : List ByteArray) : Option (List ByteArray) := catchpitref07_Items.l0 k l0 ([] : List ByteArray) 0
theorem catchpitref07_Items.mono_l : ∀ k, (∀ y0 y1 y2, LeO (catchpitref07_Items.l0 k y0 y1 y2) (catchpitref07_Items.l0 (k + 1) y0 y1 y2)) ∧ (∀ y0 y1 y2 y3 y4, LeO (catchpitref07_Items.l1 k y0 y1 y2 y3 y4) (catchpitref07_Items.l1 (k + 1) y0 y1 y2 y3 y4))
  | 0 => ⟨fun _ _ _ r h => by simp [catchpitref07_Items.l0] at h, fun _ _ _ _ _ r h => by simp [catchpitref07_Items.l1] at h⟩
  | k + 1 => by
    obtain ⟨ih0, ih1⟩ := catchpitref07_Items.mono_l k
    refine ⟨?_, ?_⟩
    · intro y0 y1 y2
      unfold catchpitref07_Items.l0
      repeat' first
      | (with_reducible exact ih0 _ _ _)
      | (with_reducible exact ih1 _ _ _ _ _)
      | (with_reducible exact catchpitref02_Trim.mono _ _)
      | (with_reducible exact catchpitref07_cut.mono _ _ _)
      | (with_reducible exact LeO.refl _)
      | (with_reducible exact LeO.none _)
      | (with_reducible refine LeO.ite ?_ ?_)
      | (with_reducible refine LeO.bind ?_ (fun _ => ?_))
      | exact ih0 _ _ _
      | exact ih1 _ _ _ _ _
      | exact catchpitref02_Trim.mono _ _
      | exact catchpitref07_cut.mono _ _ _
      | exact LeO.none _
      | refine LeO.ite ?_ ?_
      | refine LeO.bind ?_ (fun _ => ?_)
    · intro y0 y1 y2 y3 y4
      unfold catchpitref07_Items.l1
      repeat' first
      | (with_reducible exact ih0 _ _ _)
      | (with_reducible exact ih1 _ _ _ _ _)
      | (with_reducible exact catchpitref02_Trim.mono _ _)
      | (with_reducible exact catchpitref07_cut.mono _ _ _)
      | (with_reducible exact LeO.refl _)
      | (with_reducible exact LeO.none _)
      | (with_reducible refine LeO.ite ?_ ?_)
      | (with_reducible refine LeO.bind ?_ (fun _ => ?_))
      | exact ih0 _ _ _
      | exact ih1 _ _ _ _ _
      | exact catchpitref02_Trim.mono _ _
      | exact catchpitref07_cut.mono _ _ _
      | exact LeO.none _
      | refine LeO.ite ?_ ?_
      | refine LeO.bind ?_ (fun _ => ?_)
theorem catchpitref07_Items.mono : ∀ a0 k, LeO (catchpitref07_Items.f k a0) (catchpitref07_Items.f (k + 1) a0) := by
  intro a0 k
  obtain ⟨ih0, ih1⟩ := catchpitref07_Items.mono_l k
  unfold catchpitref07_Items.f
  repeat' first
      | (with_reducible exact ih0 _ _ _)
      | (with_reducible exact ih1 _ _ _ _ _)
      | (with_reducible exact catchpitref02_Trim.mono _ _)
      | (with_reducible exact catchpitref07_cut.mono _ _ _)
      | (with_reducible exact LeO.refl _)
      | (with_reducible exact LeO.none _)
      | (with_reducible refine LeO.ite ?_ ?_)
      | (with_reducible refine LeO.bind ?_ (fun _ => ?_))
      | exact ih0 _ _ _
      | exact ih1 _ _ _ _ _
      | exact catchpitref02_Trim.mono _ _
      | exact catchpitref07_cut.mono _ _ _
      | exact LeO.none _
      | refine LeO.ite ?_ ?_
      | refine LeO.bind ?_ (fun _ => ?_)
end Go.Proofs.YtoanmbhenmlboaaDoor.Pr
end
section
namespace Go.Proofs.YtoanmbhenmlboaaDoor.Pr
open Go.RowKit Go.Proofs.YtoanmbhenmlboaaDoorH Go.Proofs.YtoanmbhenmlboaaDoorW.PrintWords Go.Proofs.YtoanmbhenmlboaaDoorW.PrintLast Go.Proofs.YtoanmbhenmlboaaDoorW.PrintMore
attribute [local go_sem] max2_int min2_int max_two min_two max_three min_three max_four min_four   -- for this text's walks alone
set_option linter.unusedVariables false
set_option linter.unusedSimpArgs false
mutual
def catchpitref07_Number.l0 : Nat → ByteArray → Int → Int → Option (Int × Int)
  | 0, _, _, _ => none
  | k + 1, x0, x4, x5 => if x5 < (x0.size : Int) then (if 0 ≤ x5 then (if (bt x0 x5) < 48 then (catchpitref07_Number.j1 k x0 x4 x5 true) else (catchpitref07_Number.j1 k x0 x4 x5 (decide ((bt x0 x5) > 57)))) else (none)) else (if (wrap64 ((x0.size : Int) - x4)) > 19 then (some (0, 3)) else (catchpitref07_Number.l1 k x0 0 x4))
def catchpitref07_Number.j1 : Nat → ByteArray → Int → Int → Bool → Option (Int × Int)
  | 0, _, _, _, _ => none
  | k + 1, x0, x4, x5, x26 => if x26 = true then (some (0, 2)) else (if 0 ≤ x5 then (if x5 < (x0.size : Int) then (if (bt x0 x5) = 48 then (if x4 = x5 then (if x5 < (wrap64 ((x0.size : Int) - 1)) then (catchpitref07_Number.l0 k x0 (wrap64 (x4 + 1)) (wrap64 (x5 + 1))) else (catchpitref07_Number.l0 k x0 x4 (wrap64 (x5 + 1)))) else (catchpitref07_Number.l0 k x0 x4 (wrap64 (x5 + 1)))) else (catchpitref07_Number.l0 k x0 x4 (wrap64 (x5 + 1)))) else (none)) else (none))
def catchpitref07_Number.l1 : Nat → ByteArray → Int → Int → Option (Int × Int)
  | 0, _, _, _ => none
  | k + 1, x0, x6, x7 => if x7 < (x0.size : Int) then (if 0 ≤ x7 then (catchpitref07_Number.l1 k x0 (IntKind.u64.wrap ((IntKind.u64.wrap (10 * x6)) + (((bt x0 x7) - 48) % 256))) (wrap64 (x7 + 1))) else (none)) else (if x6 > 4611686018427387903 then (some (0, 3)) else (some (x6, 0)))
end
def catchpitref07_Number.f (k : Nat) (a0 : ByteArray) : Option (Int × Int) := if (a0.size : Int) = 0 then (some (0, 2)) else (catchpitref07_Number.l0 k a0 0 0)
theorem catchpitref07_Number.mono_l : ∀ k, (∀ y0 y1 y2, LeO (catchpitref07_Number.l0 k y0 y1 y2) (catchpitref07_Number.l0 (k + 1) y0 y1 y2)) ∧ (∀ y0 y1 y2 y3, LeO (catchpitref07_Number.j1 k y0 y1 y2 y3) (catchpitref07_Number.j1 (k + 1) y0 y1 y2 y3)) ∧ (∀ y0 y1 y2, LeO (catchpitref07_Number.l1 k y0 y1 y2) (catchpitref07_Number.l1 (k + 1) y0 y1 y2))
  | 0 => ⟨fun _ _ _ r h => by simp [catchpitref07_Number.l0] at h, fun _ _ _ _ r h => by simp [catchpitref07_Number.j1] at h, fun _ _ _ r h => by simp [catchpitref07_Number.l1] at h⟩
  | k + 1 => by
    obtain ⟨ih0, ih1, ih2⟩ := catchpitref07_Number.mono_l k
    refine ⟨?_, ?_, ?_⟩
    · intro y0 y1 y2
      unfold catchpitref07_Number.l0
      repeat' first
      | (with_reducible exact ih0 _ _ _)
      | (with_reducible exact ih1 _ _ _ _)
      | (with_reducible exact ih2 _ _ _)
      | (with_reducible exact LeO.refl _)
      | (with_reducible exact LeO.none _)
      | (with_reducible refine LeO.ite ?_ ?_)
      | (with_reducible refine LeO.bind ?_ (fun _ => ?_))
      | exact ih0 _ _ _
      | exact ih1 _ _ _ _
      | exact ih2 _ _ _
      | exact LeO.none _
      | refine LeO.ite ?_ ?_
      | refine LeO.bind ?_ (fun _ => ?_)
    · intro y0 y1 y2 y3
      unfold catchpitref07_Number.j1
      repeat' first
      | (with_reducible exact ih0 _ _ _)
      | (with_reducible exact ih1 _ _ _ _)
      | (with_reducible exact ih2 _ _ _)
      | (with_reducible exact LeO.refl _)
      | (with_reducible exact LeO.none _)
      | (with_reducible refine LeO.ite ?_ ?_)
      | (with_reducible refine LeO.bind ?_ (fun _ => ?_))
      | exact ih0 _ _ _
      | exact ih1 _ _ _ _
      | exact ih2 _ _ _
      | exact LeO.none _
      | refine LeO.ite ?_ ?_
      | refine LeO.bind ?_ (fun _ => ?_)
    · intro y0 y1 y2
      unfold catchpitref07_Number.l1
      repeat' first
      | (with_reducible exact ih0 _ _ _)
      | (with_reducible exact ih1 _ _ _ _)
      | (with_reducible exact ih2 _ _ _)
      | (with_reducible exact LeO.refl _)
      | (with_reducible exact LeO.none _)
      | (with_reducible refine LeO.ite ?_ ?_)
      | (with_reducible refine LeO.bind ?_ (fun _ => ?_))
      | exact ih0 _ _ _
      | exact ih1 _ _ _ _
      | exact ih2 _ _ _
      | exact LeO.none _
      | refine LeO.ite ?_ ?_
      | refine LeO.bind ?_ (fun _ => ?_)
theorem catchpitref07_Number.mono : ∀ a0 k, LeO (catchpitref07_Number.f k a0) (catchpitref07_Number.f (k + 1) a0) := by
  intro a0 k
  obtain ⟨ih0, ih1, ih2⟩ := catchpitref07_Number.mono_l k
  unfold catchpitref07_Number.f
  repeat' first
      | (with_reducible exact ih0 _ _ _)
      | (with_reducible exact ih1 _ _ _ _)
      | (with_reducible exact ih2 _ _ _)
      | (with_reducible exact LeO.refl _)
      | (with_reducible exact LeO.none _)
      | (with_reducible refine LeO.ite ?_ ?_)
      | (with_reducible refine LeO.bind ?_ (fun _ => ?_))
      | exact ih0 _ _ _
      | exact ih1 _ _ _ _
      | exact ih2 _ _ _
      | exact LeO.none _
      | refine LeO.ite ?_ ?_
      | refine LeO.bind ?_ (fun _ => ?_)
end Go.Proofs.YtoanmbhenmlboaaDoor.Pr
end
section
namespace Go.Proofs.YtoanmbhenmlboaaDoor.Pr
open Go.RowKit Go.Proofs.YtoanmbhenmlboaaDoorH Go.Proofs.YtoanmbhenmlboaaDoorW.PrintWords Go.Proofs.YtoanmbhenmlboaaDoorW.PrintLast Go.Proofs.YtoanmbhenmlboaaDoorW.PrintMore
attribute [local go_sem] max2_int min2_int max_two min_two max_three min_three max_four min_four   -- for this text's walks alone
set_option linter.unusedVariables false
set_option linter.unusedSimpArgs false
mutual
def catchpitref07_Length.l0 : Nat → List ByteArray → Bool → Bool → Int → Int → Option (Int × Int)
  | 0, _, _, _, _, _ => none
  | k + 1, x0, x4, x5, x6, x7 => if x7 < (x0.length : Int) then (if 0 ≤ x7 then (if x7 ≤ (wrap64 (x7 + 1)) then (if (wrap64 (x7 + 1)) ≤ (x0.length : Int) then ((catchpitref07_Items.f k ((x0.take ((wrap64 (x7 + 1)) : Int).toNat).drop (x7 : Int).toNat)).bind fun t202 => (if (t202.length : Int) = 0 then (some (0, 2)) else (catchpitref07_Length.l1 k x0 x4 x5 x6 x7 t202 0))) else (none)) else (none)) else (none)) else (if x4 = true then (some (0, 3)) else (if x5 = true then (some (x6, 0)) else (some (0, 2))))
def catchpitref07_Length.l1 : Nat → List ByteArray → Bool → Bool → Int → Int → List ByteArray → Int → Option (Int × Int)
  | 0, _, _, _, _, _, _, _ => none
  | k + 1, x0, x4, x5, x6, x7, x8, x9 => if x9 < (x8.length : Int) then (if 0 ≤ x9 then ((catchpitref07_Number.f k (rdOf ByteArray.empty x8 x9)).bind fun bt206 => (if bt206.2 = 2 then (some (0, 2)) else (if bt206.2 = 3 then (if (wrap64 (x7 + x9)) > 0 then (if bt206.1 = x6 then (catchpitref07_Length.l1 k x0 true x5 bt206.1 x7 x8 (wrap64 (x9 + 1))) else (catchpitref07_Length.l1 k x0 true false bt206.1 x7 x8 (wrap64 (x9 + 1)))) else (catchpitref07_Length.l1 k x0 true x5 bt206.1 x7 x8 (wrap64 (x9 + 1)))) else (if (wrap64 (x7 + x9)) > 0 then (if bt206.1 = x6 then (catchpitref07_Length.l1 k x0 x4 x5 bt206.1 x7 x8 (wrap64 (x9 + 1))) else (catchpitref07_Length.l1 k x0 x4 false bt206.1 x7 x8 (wrap64 (x9 + 1)))) else (catchpitref07_Length.l1 k x0 x4 x5 bt206.1 x7 x8 (wrap64 (x9 + 1))))))) else (none)) else (catchpitref07_Length.l0 k x0 x4 x5 x6 (wrap64 (x7 + 1)))
end
def catchpitref07_Length.f (k : Nat) (l0 : List ByteArray) : Option (Int × Int) := if (l0.length : Int) = 0 then (some (0, 7)) else (catchpitref07_Length.l0 k l0 false true 0 0)
theorem catchpitref07_Length.mono_l : ∀ k, (∀ y0 y1 y2 y3 y4, LeO (catchpitref07_Length.l0 k y0 y1 y2 y3 y4) (catchpitref07_Length.l0 (k + 1) y0 y1 y2 y3 y4)) ∧ (∀ y0 y1 y2 y3 y4 y5 y6, LeO (catchpitref07_Length.l1 k y0 y1 y2 y3 y4 y5 y6) (catchpitref07_Length.l1 (k + 1) y0 y1 y2 y3 y4 y5 y6))
  | 0 => ⟨fun _ _ _ _ _ r h => by simp [catchpitref07_Length.l0] at h, fun _ _ _ _ _ _ _ r h => by simp [catchpitref07_Length.l1] at h⟩
  | k + 1 => by
    obtain ⟨ih0, ih1⟩ := catchpitref07_Length.mono_l k
    refine ⟨?_, ?_⟩
    · intro y0 y1 y2 y3 y4
      unfold catchpitref07_Length.l0
      repeat' first
      | (with_reducible exact ih0 _ _ _ _ _)
      | (with_reducible exact ih1 _ _ _ _ _ _ _)
      | (with_reducible exact catchpitref07_Items.mono _ _)
      | (with_reducible exact catchpitref07_Number.mono _ _)
      | (with_reducible exact LeO.refl _)
      | (with_reducible exact LeO.none _)
      | (with_reducible refine LeO.ite ?_ ?_)
      | (with_reducible refine LeO.bind ?_ (fun _ => ?_))
      | exact ih0 _ _ _ _ _
      | exact ih1 _ _ _ _ _ _ _
      | exact catchpitref07_Items.mono _ _
      | exact catchpitref07_Number.mono _ _
      | exact LeO.none _
      | refine LeO.ite ?_ ?_
      | refine LeO.bind ?_ (fun _ => ?_)
    · intro y0 y1 y2 y3 y4 y5 y6
      unfold catchpitref07_Length.l1
      repeat' first
      | (with_reducible exact ih0 _ _ _ _ _)
      | (with_reducible exact ih1 _ _ _ _ _ _ _)
      | (with_reducible exact catchpitref07_Items.mono _ _)
      | (with_reducible exact catchpitref07_Number.mono _ _)
      | (with_reducible exact LeO.refl _)
      | (with_reducible exact LeO.none _)
      | (with_reducible refine LeO.ite ?_ ?_)
      | (with_reducible refine LeO.bind ?_ (fun _ => ?_))
      | exact ih0 _ _ _ _ _
      | exact ih1 _ _ _ _ _ _ _
      | exact catchpitref07_Items.mono _ _
      | exact catchpitref07_Number.mono _ _
      | exact LeO.none _
      | refine LeO.ite ?_ ?_
      | refine LeO.bind ?_ (fun _ => ?_)
theorem catchpitref07_Length.mono : ∀ a0 k, LeO (catchpitref07_Length.f k a0) (catchpitref07_Length.f (k + 1) a0) := by
  intro a0 k
  obtain ⟨ih0, ih1⟩ := catchpitref07_Length.mono_l k
  unfold catchpitref07_Length.f
  repeat' first
      | (with_reducible exact ih0 _ _ _ _ _)
      | (with_reducible exact ih1 _ _ _ _ _ _ _)
      | (with_reducible exact catchpitref07_Items.mono _ _)
      | (with_reducible exact catchpitref07_Number.mono _ _)
      | (with_reducible exact LeO.refl _)
      | (with_reducible exact LeO.none _)
      | (with_reducible refine LeO.ite ?_ ?_)
      | (with_reducible refine LeO.bind ?_ (fun _ => ?_))
      | exact ih0 _ _ _ _ _
      | exact ih1 _ _ _ _ _ _ _
      | exact catchpitref07_Items.mono _ _
      | exact catchpitref07_Number.mono _ _
      | exact LeO.none _
      | refine LeO.ite ?_ ?_
      | refine LeO.bind ?_ (fun _ => ?_)
def catchpitref11_length.f (k : Nat) (l0 : List (S71)) (a1 : Int) : Option (Int × Int × Int) := (catchpitref05_Get.f k l0 (⟨#[99, 111, 110, 116, 101, 110, 116, 45, 108, 101, 110, 103, 116, 104]⟩ : ByteArray)).bind fun t209 => (if (t209.length : Int) = 0 then (some (a1, 0, 0)) else ((catchpitref07_Length.f k t209).bind fun bt212 => (if bt212.2 = 0 then (some (1, bt212.1, 0)) else (some (0, 0, bt212.2)))))
theorem catchpitref11_length.mono : ∀ a0 a1 k, LeO (catchpitref11_length.f k a0 a1) (catchpitref11_length.f (k + 1) a0 a1) := by
  intro a0 a1 k
  unfold catchpitref11_length.f
  repeat' first
      | (with_reducible exact catchpitref05_Get.mono _ _ _)
      | (with_reducible exact catchpitref07_Length.mono _ _)
      | (with_reducible exact LeO.refl _)
      | (with_reducible exact LeO.none _)
      | (with_reducible refine LeO.ite ?_ ?_)
      | (with_reducible refine LeO.bind ?_ (fun _ => ?_))
      | exact catchpitref05_Get.mono _ _ _
      | exact catchpitref07_Length.mono _ _
      | exact LeO.none _
      | refine LeO.ite ?_ ?_
      | refine LeO.bind ?_ (fun _ => ?_)
def catchpitref07_word.f (k : Nat) (a0 : ByteArray) : Option (ByteArray) := (catchpitref07_cut.f k a0 59).bind fun t214 => (if 0 < (t214.length : Int) then ((catchpitref02_Trim.f k (rdOf ByteArray.empty t214 0)).bind fun t218 => (some t218)) else (none))
theorem catchpitref07_word.mono : ∀ a0 k, LeO (catchpitref07_word.f k a0) (catchpitref07_word.f (k + 1) a0) := by
  intro a0 k
  unfold catchpitref07_word.f
  repeat' first
      | (with_reducible exact catchpitref02_Trim.mono _ _)
      | (with_reducible exact catchpitref07_cut.mono _ _ _)
      | (with_reducible exact LeO.refl _)
      | (with_reducible exact LeO.none _)
      | (with_reducible refine LeO.ite ?_ ?_)
      | (with_reducible refine LeO.bind ?_ (fun _ => ?_))
      | exact catchpitref02_Trim.mono _ _
      | exact catchpitref07_cut.mono _ _ _
      | exact LeO.none _
      | refine LeO.ite ?_ ?_
      | refine LeO.bind ?_ (fun _ => ?_)
end Go.Proofs.YtoanmbhenmlboaaDoor.Pr
end
section
namespace Go.Proofs.YtoanmbhenmlboaaDoor.Pr
open Go.RowKit Go.Proofs.YtoanmbhenmlboaaDoorH Go.Proofs.YtoanmbhenmlboaaDoorW.PrintWords Go.Proofs.YtoanmbhenmlboaaDoorW.PrintLast Go.Proofs.YtoanmbhenmlboaaDoorW.PrintMore
attribute [local go_sem] max2_int min2_int max_two min_two max_three min_three max_four min_four   -- for this text's walks alone
set_option linter.unusedVariables false
set_option linter.unusedSimpArgs false
def catchpitref02_token.j0 : Nat → Int → Bool → Option (Bool)
  | 0, _, _ => none
  | k + 1, x0, x24 => if x24 = true then (some true) else (if x0 = 33 then (some true) else (if x0 = 35 then (some true) else (if x0 = 36 then (some true) else (if x0 = 37 then (some true) else (if x0 = 38 then (some true) else (if x0 = 39 then (some true) else (if x0 = 42 then (some true) else (if x0 = 43 then (some true) else (if x0 = 45 then (some true) else (if x0 = 46 then (some true) else (if x0 = 94 then (some true) else (if x0 = 95 then (some true) else (if x0 = 96 then (some true) else (if x0 = 124 then (some true) else (if x0 = 126 then (some true) else (some false))))))))))))))))
def catchpitref02_token.f (k : Nat) (a0 : Int) : Option (Bool) := if a0 ≥ 97 then (if a0 ≤ 122 then (catchpitref02_token.j0 k a0 true) else (if a0 ≥ 65 then (if a0 ≤ 90 then (catchpitref02_token.j0 k a0 true) else (if a0 ≥ 48 then (catchpitref02_token.j0 k a0 (decide (a0 ≤ 57))) else (catchpitref02_token.j0 k a0 false))) else (if a0 ≥ 48 then (catchpitref02_token.j0 k a0 (decide (a0 ≤ 57))) else (catchpitref02_token.j0 k a0 false)))) else (if a0 ≥ 65 then (if a0 ≤ 90 then (catchpitref02_token.j0 k a0 true) else (if a0 ≥ 48 then (catchpitref02_token.j0 k a0 (decide (a0 ≤ 57))) else (catchpitref02_token.j0 k a0 false))) else (if a0 ≥ 48 then (catchpitref02_token.j0 k a0 (decide (a0 ≤ 57))) else (catchpitref02_token.j0 k a0 false)))
theorem catchpitref02_token.mono_l : ∀ k, (∀ y0 y1, LeO (catchpitref02_token.j0 k y0 y1) (catchpitref02_token.j0 (k + 1) y0 y1))
  | 0 => fun _ _ r h => by simp [catchpitref02_token.j0] at h
  | k + 1 => by
    have ih0 := catchpitref02_token.mono_l k
    · intro y0 y1
      unfold catchpitref02_token.j0
      repeat' first
      | (with_reducible exact ih0 _ _)
      | (with_reducible exact LeO.refl _)
      | (with_reducible exact LeO.none _)
      | (with_reducible refine LeO.ite ?_ ?_)
      | (with_reducible refine LeO.bind ?_ (fun _ => ?_))
      | exact ih0 _ _
      | exact LeO.none _
      | refine LeO.ite ?_ ?_
      | refine LeO.bind ?_ (fun _ => ?_)
theorem catchpitref02_token.mono : ∀ a0 k, LeO (catchpitref02_token.f k a0) (catchpitref02_token.f (k + 1) a0) := by
  intro a0 k
  have ih0 := catchpitref02_token.mono_l k
  unfold catchpitref02_token.f
  repeat' first
      | (with_reducible exact ih0 _ _)
      | (with_reducible exact LeO.refl _)
      | (with_reducible exact LeO.none _)
      | (with_reducible refine LeO.ite ?_ ?_)
      | (with_reducible refine LeO.bind ?_ (fun _ => ?_))
      | exact ih0 _ _
      | exact LeO.none _
      | refine LeO.ite ?_ ?_
      | refine LeO.bind ?_ (fun _ => ?_)
def catchpitref02_Token.l0 : Nat → ByteArray → Int → Option (Bool)
  | 0, _, _ => none
  | k + 1, x0, x3 => if x3 < (x0.size : Int) then (if 0 ≤ x3 then ((catchpitref02_token.f k (bt x0 x3)).bind fun t219 => (if t219 = true then (catchpitref02_Token.l0 k x0 (wrap64 (x3 + 1))) else (some false))) else (none)) else (some (decide ((x0.size : Int) > 0)))
def catchpitref02_Token.f (k : Nat) (a0 : ByteArray) : Option (Bool) := catchpitref02_Token.l0 k a0 0
theorem catchpitref02_Token.mono_l : ∀ k, (∀ y0 y1, LeO (catchpitref02_Token.l0 k y0 y1) (catchpitref02_Token.l0 (k + 1) y0 y1))
  | 0 => fun _ _ r h => by simp [catchpitref02_Token.l0] at h
  | k + 1 => by
    have ih0 := catchpitref02_Token.mono_l k
    · intro y0 y1
      unfold catchpitref02_Token.l0
      repeat' first
      | (with_reducible exact ih0 _ _)
      | (with_reducible exact catchpitref02_token.mono _ _)
      | (with_reducible exact LeO.refl _)
      | (with_reducible exact LeO.none _)
      | (with_reducible refine LeO.ite ?_ ?_)
      | (with_reducible refine LeO.bind ?_ (fun _ => ?_))
      | exact ih0 _ _
      | exact catchpitref02_token.mono _ _
      | exact LeO.none _
      | refine LeO.ite ?_ ?_
      | refine LeO.bind ?_ (fun _ => ?_)
theorem catchpitref02_Token.mono : ∀ a0 k, LeO (catchpitref02_Token.f k a0) (catchpitref02_Token.f (k + 1) a0) := by
  intro a0 k
  have ih0 := catchpitref02_Token.mono_l k
  unfold catchpitref02_Token.f
  repeat' first
      | (with_reducible exact ih0 _ _)
      | (with_reducible exact catchpitref02_token.mono _ _)
      | (with_reducible exact LeO.refl _)
      | (with_reducible exact LeO.none _)
      | (with_reducible refine LeO.ite ?_ ?_)
      | (with_reducible refine LeO.bind ?_ (fun _ => ?_))
      | exact ih0 _ _
      | exact catchpitref02_token.mono _ _
      | exact LeO.none _
      | refine LeO.ite ?_ ?_
      | refine LeO.bind ?_ (fun _ => ?_)
def catchpitref07_Codings.l0 : Nat → List ByteArray → List ByteArray → Int → Option (List ByteArray × Int)
  | 0, _, _, _ => none
  | k + 1, x4, x5, x6 => if x6 < (x5.length : Int) then (if 0 ≤ x6 then ((catchpitref07_word.f k (rdOf ByteArray.empty x5 x6)).bind fun t224 => ((catchpitref02_Token.f k t224).bind fun t225 => (if t225 = true then ((catchpitref02_Small.f k t224).bind fun t226 => (if x4.length < 8796093022208 then (catchpitref07_Codings.l0 k (x4 ++ [t226]) x5 (wrap64 (x6 + 1))) else (none))) else (some (([] : List ByteArray), 2))))) else (none)) else (if (x4.length : Int) = 0 then (some (([] : List ByteArray), 2)) else (some (x4, 0)))
def catchpitref07_Codings.f (k : Nat) (l0 : List ByteArray) : Option (List ByteArray × Int) := if (l0.length : Int) = 0 then (some (([] : List ByteArray), 7)) else ((catchpitref07_Items.f k l0).bind fun t220 => (catchpitref07_Codings.l0 k ([] : List ByteArray) t220 0))
theorem catchpitref07_Codings.mono_l : ∀ k, (∀ y0 y1 y2, LeO (catchpitref07_Codings.l0 k y0 y1 y2) (catchpitref07_Codings.l0 (k + 1) y0 y1 y2))
  | 0 => fun _ _ _ r h => by simp [catchpitref07_Codings.l0] at h
  | k + 1 => by
    have ih0 := catchpitref07_Codings.mono_l k
    · intro y0 y1 y2
      unfold catchpitref07_Codings.l0
      repeat' first
      | (with_reducible exact ih0 _ _ _)
      | (with_reducible exact catchpitref02_Small.mono _ _)
      | (with_reducible exact catchpitref02_Token.mono _ _)
      | (with_reducible exact catchpitref07_Items.mono _ _)
      | (with_reducible exact catchpitref07_word.mono _ _)
      | (with_reducible exact LeO.refl _)
      | (with_reducible exact LeO.none _)
      | (with_reducible refine LeO.ite ?_ ?_)
      | (with_reducible refine LeO.bind ?_ (fun _ => ?_))
      | exact ih0 _ _ _
      | exact catchpitref02_Small.mono _ _
      | exact catchpitref02_Token.mono _ _
      | exact catchpitref07_Items.mono _ _
      | exact catchpitref07_word.mono _ _
      | exact LeO.none _
      | refine LeO.ite ?_ ?_
      | refine LeO.bind ?_ (fun _ => ?_)
theorem catchpitref07_Codings.mono : ∀ a0 k, LeO (catchpitref07_Codings.f k a0) (catchpitref07_Codings.f (k + 1) a0) := by
  intro a0 k
  have ih0 := catchpitref07_Codings.mono_l k
  unfold catchpitref07_Codings.f
  repeat' first
      | (with_reducible exact ih0 _ _ _)
      | (with_reducible exact catchpitref02_Small.mono _ _)
      | (with_reducible exact catchpitref02_Token.mono _ _)
      | (with_reducible exact catchpitref07_Items.mono _ _)
      | (with_reducible exact catchpitref07_word.mono _ _)
      | (with_reducible exact LeO.refl _)
      | (with_reducible exact LeO.none _)
      | (with_reducible refine LeO.ite ?_ ?_)
      | (with_reducible refine LeO.bind ?_ (fun _ => ?_))
      | exact ih0 _ _ _
      | exact catchpitref02_Small.mono _ _
      | exact catchpitref02_Token.mono _ _
      | exact catchpitref07_Items.mono _ _
      | exact catchpitref07_word.mono _ _
      | exact LeO.none _
      | refine LeO.ite ?_ ?_
      | refine LeO.bind ?_ (fun _ => ?_)
end Go.Proofs.YtoanmbhenmlboaaDoor.Pr
end
section
namespace Go.Proofs.YtoanmbhenmlboaaDoorH
open Go.RowKit Go.Proofs.YtoanmbhenmlboaaDoorW.PrintWords Go.Proofs.YtoanmbhenmlboaaDoorW.PrintLast Go.Proofs.YtoanmbhenmlboaaDoorW.PrintMore Go.Proofs.YtoanmbhenmlboaaDoor.Pr
theorem ref02_Small_l0 (s : ByteArray) (hs : s.size ≤ 140737488355327) (d : Nat) : ∀ (k i : Nat), i ≤ s.size → s.size - i = d → d < k →
    catchpitref02_Small.l0 k s ((smallL s).take i) (i : Int) = some (smallS s) := by
  induction d with
  | zero =>
    intro k i h1 hd hk
    obtain ⟨k, rfl⟩ : ∃ m, k = m + 1 := ⟨k - 1, by omega⟩
    rw [catchpitref02_Small.l0, if_neg (by omega), List.take_of_length_le (by rw [smallL_length]; omega)]
    rfl
  | succ d ih =>
    intro k i h1 hd hk
    obtain ⟨k, rfl⟩ : ∃ m, k = m + 1 := ⟨k - 1, by omega⟩
    have hb := bt_range s i
    have hlen : ((smallL s).take i).length < 140737488355328 := by rw [List.length_take, smallL_length]; omega
    have hi : i < (smallL s).length := by rw [smallL_length]; omega
    have hst : (smallL s).take (i + 1) = (smallL s).take i ++ [smallI (bt s i)] := by
      rw [List.take_succ_eq_append_getElem hi, ← smallL_at s i (by omega), List.getD_eq_getElem?_getD, List.getElem?_eq_getElem hi]
      rfl
    have hih := ih k (i + 1) (by omega) (by omega) (by omega)
    rw [hst] at hih
    rw [catchpitref02_Small.l0, if_pos (by omega), if_pos (by omega), wrap_up (by omega) (show (i : Int) < (s.size : Int) by omega) (by omega)]
    by_cases h65 : bt s i ≥ 65
    · rw [if_pos h65]
      by_cases h90 : bt s i ≤ 90
      · rw [if_pos h90, if_pos hlen, show (bt s i + 32) % 256 = smallI (bt s i) by unfold smallI; rw [if_pos ⟨h65, h90⟩]; omega]
        exact hih
      · rw [if_neg h90, if_pos hlen, show bt s i = smallI (bt s i) by unfold smallI; rw [if_neg (by omega)]] 
        exact hih
    · rw [if_neg h65, if_pos hlen, show bt s i = smallI (bt s i) by unfold smallI; rw [if_neg (by omega)]]
      exact hih
theorem ref02_Small (s : ByteArray) (hs : s.size ≤ 140737488355327) : Ev (fun k => catchpitref02_Small.f k s) (smallS s) := by
  refine ⟨s.size + 1, fun k hk => ?_⟩
  have := ref02_Small_l0 s hs s.size k 0 (by omega) (by omega) (by omega)
  exact this
end Go.Proofs.YtoanmbhenmlboaaDoorH
end
section
namespace Go.Proofs.YtoanmbhenmlboaaDoorH
open Go.RowKit Go.Proofs.YtoanmbhenmlboaaDoorW.PrintWords Go.Proofs.YtoanmbhenmlboaaDoorW.PrintLast Go.Proofs.YtoanmbhenmlboaaDoorW.PrintMore
def strings_Cut.f (a0 a1 : ByteArray) : Option (ByteArray × ByteArray × Bool) := if a0.size < 4294967281 then some (⟨(Lib.cut a0.data.toList a1.data.toList).1.toArray⟩, ⟨(Lib.cut a0.data.toList a1.data.toList).2.1.toArray⟩, (Lib.cut a0.data.toList a1.data.toList).2.2) else none
theorem strings_Cut.calls (a0 a1 : ByteArray) (r1 r2 : ByteArray) (r3 : Bool) (w : World) (hG : TabOk w) (h : strings_Cut.f a0 a1 = some (r1, r2, r3)) :
    Calls Tryd.prog 76 #[.string a0, .string a1] w fun e w' => e = .returned (.tuple #[.string r1, .string r2, .bool r3]) ∧ Below w.heap.size w w' := by
  unfold strings_Cut.f at h
  split at h
  · rename_i hs
    injection h with h
    injection h with h1 h
    injection h with h2 h3
    subst h1 h2 h3
    obtain ⟨m, hm⟩ := hG.mx
    refine (Tryd.strings_Cut a0 a1 m w hs hm).mono ?_
    rintro e w' ⟨rfl, n, rfl⟩
    exact ⟨rfl, (show Drawn0 w (w.drewN n) from ⟨⟨n, rfl⟩⟩).below⟩
  · cases h
end Go.Proofs.YtoanmbhenmlboaaDoorH
end
section
namespace Go.Proofs.YtoanmbhenmlboaaDoorH
open Go Go.RowKit
theorem room_none {F : Fence} (hd : F.depth = none) (k : Nat) : F.room k := fun d h => by rw [hd] at h; cases h
theorem round_any {F : Fence} (hd : F.depth = none) {m m' : Nat} {P : Program} {l : Nat} {f : FuncId} {tmps : Array Value} {assign body : Code} {w : World} {R : Ending → World → Prop}
    (h : RoundIn F m P l f tmps assign body w R) : RoundIn F m' P l f tmps assign body w R := ⟨h.1, fun c cs _ => h.2 c cs (room_none hd _)⟩
def Abd {β : Type} (Z : Nat → Prop) (B : Nat) (J : β → Option Nat → World → Prop) : Prop :=
  ∀ s g A C row, J s g A → A.grownBy C row → (∀ r, row = some r → (B ≤ r ∧ some r ≠ g) ∨ Z r) → J s g C
structure Spares (K : Nat → Prop) (g g' : Option Nat) (W W' : World) : Prop where
  size : W.heap.size ≤ W'.heap.size
  own : g' = g ∨ ∃ b, g' = some b ∧ W.heap.size ≤ b ∧ b < W'.heap.size
  same : ∀ k, K k → k < W.heap.size → some k ≠ g → W'.heap[k]? = W.heap[k]?
theorem Spares.refl (K : Nat → Prop) (g : Option Nat) (W : World) : Spares K g g W W := ⟨Nat.le_refl _, .inl rfl, fun _ _ _ _ => rfl⟩
theorem Spares.trans {K : Nat → Prop} {g g' g'' : Option Nat} {A B C : World} (h : Spares K g g' A B) (h' : Spares K g' g'' B C) : Spares K g g'' A C := by
  refine ⟨Nat.le_trans h.size h'.size, ?_, fun k hk hlt hne => ?_⟩
  · rcases h'.own with e | ⟨b, e, hb, hb2⟩
    · rcases h.own with e2 | ⟨b, e2, hb, hb2⟩
      · exact .inl (e.trans e2)
      · exact .inr ⟨b, e.trans e2, hb, Nat.lt_of_lt_of_le hb2 h'.size⟩
    · exact .inr ⟨b, e, Nat.le_trans h.size hb, hb2⟩
  · refine (h'.same k hk (Nat.lt_of_lt_of_le hlt h.size) ?_).trans (h.same k hk hlt hne)
    rcases h.own with e | ⟨b, e, hb, _⟩
    · rw [e]; exact hne
    · rw [e]; intro h; cases h; omega
theorem Spares.imp {K K' : Nat → Prop} {g g' : Option Nat} {A B : World} (h : Spares K g g' A B) (hk : ∀ k, K' k → k < A.heap.size → K k) : Spares K' g g' A B := ⟨h.size, h.own, fun k a b c => h.same k (hk k a b) b c⟩
theorem grown_below {W W' : World} (h : Below W.heap.size W W') : W.grownBy W' none := ⟨h.os, h.tape, h.output, h.size, fun k hk _ => h.block k hk⟩
theorem Spares.below {K : Nat → Prop} {g : Option Nat} {W W' : World} (h : Below W.heap.size W W') : Spares K g g W W' := ⟨h.size, .inl rfl, fun k _ hk _ => h.block k hk⟩
theorem Spares.turned {K : Nat → Prop} {g : Option Nat} {W W' : World} {row : Option Nat} (h : W.grownBy W' row) (hr : ∀ r, row = some r → K r → some r = g) : Spares K g g W W' :=
  ⟨h.size, .inl rfl, fun k hk hlt hne => h.block k hlt (fun e => hne (hr k e.symm hk))⟩
theorem Abd.step {β : Type} {Z : Nat → Prop} {B : Nat} {I : β → Option Nat → World → Prop} (h : Abd Z B I) {s : β} {g : Option Nat} {W W' : World} (hs : I s g W) (hb : W.grownBy W' none) : I s g W' := h s g W _ none hs hb (fun r e => by cases e)
theorem Abd.putObj {β : Type} {Z : Nat → Prop} {B : Nat} {I : β → Option Nat → World → Prop} (h : Abd Z B I) {s : β} {g : Option Nat} {W : World} {l : Nat} (o' : Obj) (hs : I s g W) (hB : B ≤ l) (hl : some l ≠ g) : I s g (W.putObj l o') :=
  h s g W _ (some l) hs (grownBy_putObj' W l o') (fun r e => by cases e; exact .inl ⟨hB, hl⟩)
theorem Abd.alloc {β : Type} {Z : Nat → Prop} {B : Nat} {I : β → Option Nat → World → Prop} (h : Abd Z B I) {s : β} {g : Option Nat} {W : World} (o : Obj) (hs : I s g W) : I s g (W.alloc o) :=
  h.step hs (World.grownBy_alloc W o none)
theorem Abd.and {β : Type} {Z : Nat → Prop} {B : Nat} {I I' : β → Option Nat → World → Prop} (h : Abd Z B I) (h' : Abd Z B I') : Abd Z B (fun s g W => I s g W ∧ I' s g W) := fun s g A C row hs hg hr => ⟨h s g A C row hs.1 hg hr, h' s g A C row hs.2 hg hr⟩
theorem Abd.pure {β : Type} {Z : Nat → Prop} {B : Nat} (p : β → Option Nat → Prop) : Abd Z B (fun s g (_ : World) => p s g) := fun _ _ _ _ _ hs _ _ => hs
theorem Abd.imp {β : Type} {Z Z' : Nat → Prop} {B B' : Nat} {I : β → Option Nat → World → Prop} (h : Abd Z B I) (hB : B ≤ B') (hZ : ∀ r, Z' r → Z r) : Abd Z' B' I := fun s g A C row hs hg hr => h s g A C row hs hg (fun r e => (hr r e).elim (fun k => .inl ⟨Nat.le_trans hB k.1, k.2⟩) (fun k => .inr (hZ r k)))
theorem Abd.low {β : Type} {Z : Nat → Prop} {B n₀ : Nat} {w : World} (hB : n₀ ≤ B) (hw : n₀ ≤ w.heap.size) (hZ : ∀ r, Z r → n₀ ≤ r) : Abd Z B (fun (_ : β) _ W => Below n₀ w W) := fun _ _ _ _ _ hs hg hr =>
  hs.grown hg (Nat.le_trans hw hs.size) (fun k e => (hr k e).elim (fun h => Nat.le_trans hB h.1) (fun h => hZ k h))
theorem Abd.block {β : Type} {Z : Nat → Prop} {B b : Nat} (f : β → Obj) (hB : b < B) (hZ : ¬ Z b) : Abd Z B (fun (s : β) _ W => W.heap[b]? = some (f s)) := fun _ _ _ _ _ hs hg hr =>
  (hg.block b (Array.getElem?_eq_some_iff.1 hs).1 (fun e => (hr b e.symm).elim (fun h => by omega) (fun h => hZ h))).trans hs
theorem Abd.rowed {β : Type} {Z : Nat → Prop} {B n₀ b : Nat} {t e : TypeId} {size : Nat} (k : β → Nat) (f : β → List Value) (m : Nat) (hm : B ≤ m) (hB : b < B) (hZ : ¬ Z b) (hZB : ∀ r, Z r → r < B) :
    Abd Z B (fun (s : β) g W => (∀ q, g = some q → m ≤ q) ∧ ∃ v, v.ownBlock = g ∧ Boxed W b t v ∧ W.ownsRow n₀ e size v (k s) (f s)) := by
  rintro s g A C row ⟨hgB, v, rfl, hb, hr⟩ hg hrow
  refine ⟨hgB, v, rfl, hb.kept hg (fun e' => (hrow b e'.symm).elim (fun h => by omega) (fun h => hZ h)), hr.kept hg ?_⟩
  cases hv : v.ownBlock with
  | none => exact .inl rfl
  | some q => exact .inr (fun e' => (hrow q e'.symm).elim (fun h => h.2 hv.symm) (fun h => by have := hZB q h; have := hgB q hv; omega))
def SeqO {α : Type} (F : Fence) (n : Nat) (P : Program) (gf : Nat) (lb : Array Value) (encs : α → Array Value) (Kz Z : Nat → Prop) (S Sp : List α → Prop) (w : World) : Prop :=
  ∀ (l : Nat) (J Jx : List α → Option Nat → World → Prop) (g0 : Option Nat) (W : World), Below w.heap.size w W → Abd Z W.heap.size J → Abd Z W.heap.size Jx → (∀ q, g0 = some q → ¬ Kz q ∧ q < W.heap.size) →
    (∀ m pre x g W1, J pre g W1 → Sp (pre ++ [x]) → YieldAt F m P l (encs x) W1 fun e W' => ∃ g', Spares (fun k => W.heap.size ≤ k ∨ Kz k) g g' W1 W' ∧
      ((e = .returned (.bool true) ∧ J (pre ++ [x]) g' W') ∨ (e = .returned (.bool false) ∧ Jx (pre ++ [x]) g' W'))) →
    J [] g0 W →
    CallsIn F n P gf (#[.func (.yield l) #[] #[]] ++ lb) W fun e W' => (∃ v, e = .returned v) ∧ ((∃ xs g, S xs ∧ J xs g W') ∨ (∃ pre g, Sp pre ∧ Jx pre g W'))
def leftO {α : Type} (K : Nat → Prop) (I : List α → Option Nat → World → Prop) (Ix : Code → List α → Option Nat → World → Prop) (xs : List α) (g : Option Nat) (W : World) : Exit → Act → World → Prop
  | .normal, _, W' => ∃ g', Spares K g g' W W' ∧ I xs g' W'
  | .ret, _, W' => ∃ g', Spares K g g' W W' ∧ Ix .ret xs g' W'
  | .exit id, _, W' => ∃ g', Spares K g g' W W' ∧ Ix (.exit id) xs g' W'
  | .goto t, _, W' => ∃ g', Spares K g g' W W' ∧ Ix (.goto t) xs g' W'
  | .panic _, _, _ => False
  | .outgrown, _, _ => False
theorem wpIn_range_own {F : Fence} {n : Nat} {P : Program} {α : Type} {f : Operand} {ps : Array Tmp} {assign body : Code} {Q : Exit → Act → World → Prop} {a : Act} {w : World}
    (hd : F.depth = none) (hro : F.round = none) (h1 : 1 ≤ n) {gf : Nat} {lb : Array Value} (hf : a.eval f = .func (.func gf) #[] lb) (hFg : F.fn gf) (eg : ∀ args w, (callFunc gf args).run P w = .ok (.enter gf args) w)
    {encs : α → Array Value} {Kz Z : Nat → Prop} {S Sp : List α → Prop} {w0 : World} (hseq : SeqO F (n - 1) P gf lb encs Kz Z S Sp w0)
    (hb0 : Below w0.heap.size w0 w) (hZ : ∀ r, Z r → r < w.heap.size) (hKz : ∀ r, Kz r → r < w.heap.size) (hps : ∀ x, (encs x).size = ps.size)
    (g0 : Option Nat) (hg0 : ∀ q, g0 = some q → ¬ Kz q ∧ q < w.heap.size) (I : List α → Option Nat → World → Prop) (Ix : Code → List α → Option Nat → World → Prop) (hI : Abd Z w.heap.size I) (hIx : ∀ c, Abd Z w.heap.size (Ix c)) (h0 : I [] g0 w)
    (hIg : ∀ pre g W q, I pre g W → g = some q → q < w.heap.size ∨ w.heap.size + 2 ≤ q) (hIxg : ∀ c pre g W q, Ix c pre g W → g = some q → q < w.heap.size ∨ w.heap.size + 2 ≤ q)
    (Ax : α → Act → World → Prop) (hAx : ∀ x a', Abd (fun _ => False) w.heap.size (fun (_ : Unit) (_ : Option Nat) W => Ax x a' W))
    (hassign : ∀ (l : Nat) (pre : List α) (x : α) (g : Option Nat) (W : World) (K : Act → World → Prop), I pre g W → (∀ a' W', Spares (fun k => w.heap.size ≤ k ∨ Kz k) g g W W' → I pre g W' → Ax x a' W' → K a' W') →
      assign.wpIn (F.inRound l) (n - 1 - 1) P (Exit.then K (fun _ _ _ => False)) { tmps := (ps.zip (encs x)).foldl (fun t (p, v) => t.setIfInBounds p v) a.tmps, defers := [] } W)
    (hbody : ∀ (l : Nat) (pre : List α) (x : α) (g : Option Nat) (a' : Act) (W : World), w.heap.size + 2 ≤ W.heap.size → I pre g W → Ax x a' W → Sp (pre ++ [x]) → body.wpIn (F.inRound l) (n - 1 - 1) P (leftO (fun k => w.heap.size ≤ k ∨ Kz k) I Ix (pre ++ [x]) g W) a' W)
    (hdone : ∀ (D : Nat) (xs : List α) (g : Option Nat) (W : World), D = w.heap.size → S xs → I xs g W → W.heap[D]? = some (.deferred (some [])) → Q .normal { a with defers := { target := .collected D, args := #[] } :: a.defers } W)
    (hstop : ∀ (D : Nat) (c : Code) (pre : List α) (g : Option Nat) (W : World), D = w.heap.size → Sp pre → Ix c pre g W → W.heap[D]? = some (.deferred (some [])) → c.wpIn F n P Q { a with defers := { target := .collected D, args := #[] } :: a.defers } W) :
    (Code.rangeFunc f ps assign body).wpIn F n P Q a w := by
  refine wpIn_rangeFunc ?_
  intro fn hfn
  rw [hro]
  obtain ⟨rec, hrec⟩ : ∃ rec : LoopState → Option Code → Loop, rec = fun st pe => { state := st, pending := pe, fn, tmps := a.tmps, params := ps, assign, body, defers := w.heap.size } := ⟨_, rfl⟩
  obtain ⟨W1, hW1⟩ : ∃ W1, (w.alloc (.deferred (some []))).alloc (.loop (rec .ready none)) = W1 := ⟨_, rfl⟩
  have hsz : W1.heap.size = w.heap.size + 2 := by rw [← hW1, World.size_alloc, World.size_alloc]
  have hL1 : W1.heap[w.heap.size + 1]? = some (.loop (rec .ready none)) := by
    rw [← hW1]; have := World.alloc_heap_new (w.alloc (.deferred (some []))) (.loop (rec .ready none)); rwa [World.size_alloc] at this
  have hK1 : W1.heap[w.heap.size]? = some (.deferred (some [])) := by
    rw [← hW1]; exact (Below.heap_alloc _ _ _ (by simp)).trans (World.alloc_heap_new w _)
  have hI1 : I [] g0 W1 := by rw [← hW1]; exact hI.alloc _ (hI.alloc _ h0)
  have hb1 : Below w0.heap.size w0 W1 := by
    rw [← hW1]; exact hb0.trans ((((Below.refl _ w).alloc (Nat.le_refl _) _).alloc (by simp) _).mono hb0.size)
  refine ⟨w.heap.size + 1, [{ target := .collected w.heap.size, args := #[] }], W1, { target := .fn (.func gf) lb, args := #[.func (.yield (w.heap.size + 1)) #[] #[]] }, W1, gf,
    #[.func (.yield (w.heap.size + 1)) #[] #[]] ++ lb, W1, ?_, ?_, ?_, ?_, fun _ => h1, ?_⟩
  · rw [← hW1, hrec]; exact run_enterLoop_outer _ _ _ _ _
  · simp only [resolve, hf]
    simp [go_sem]
  · intro f' hf'; simp [Target.leads] at hf'; subst hf'; exact hFg
  · simp [invoke, go_sem, eg]
  · -- which blocks the iterator turns, said of the caller's side
    have hrow : ∀ {g : Option Nat} {row : Option Nat}, (∀ r, row = some r → (W1.heap.size ≤ r ∧ some r ≠ g) ∨ Z r) → (∀ r, row = some r → (w.heap.size ≤ r ∧ some r ≠ g) ∨ Z r) :=
      fun hr r e => (hr r e).elim (fun k => .inl ⟨by have := k.1; omega, k.2⟩) .inr
    have hlies : ∀ {A C : World} {g : Option Nat} {row : Option Nat} {k : Nat} {o : Obj}, A.grownBy C row → (∀ r, row = some r → (W1.heap.size ≤ r ∧ some r ≠ g) ∨ Z r) → w.heap.size ≤ k → k < W1.heap.size → A.heap[k]? = some o → C.heap[k]? = some o :=
      fun hg' hr h2 h3 hk => (hg'.block _ (Array.getElem?_eq_some_iff.1 hk).1 (fun e => (hr _ e.symm).elim (fun k => by have := k.1; omega) (fun k => by have := hZ _ k; omega))).trans hk
    refine (hseq (w.heap.size + 1)
      (fun pre g W => I pre g W ∧ W.heap[w.heap.size + 1]? = some (.loop (rec .ready none)) ∧ W.heap[w.heap.size]? = some (.deferred (some [])))
      (fun pre g W => ∃ c, Ix c pre g W ∧ W.heap[w.heap.size + 1]? = some (.loop (rec .done (some c))) ∧ W.heap[w.heap.size]? = some (.deferred (some [])))
      g0 W1 hb1
      (fun s g A B row hs hg' hr => ⟨hI s g A B row hs.1 hg' (hrow hr), hlies hg' hr (by omega) (by omega) hs.2.1, hlies hg' hr (by omega) (by omega) hs.2.2⟩)
      (fun s g A B row hs hg' hr => by
        obtain ⟨c, hc, hl, hk⟩ := hs
        exact ⟨c, hIx c s g A B row hc hg' (hrow hr), hlies hg' hr (by omega) (by omega) hl, hlies hg' hr (by omega) (by omega) hk⟩)
      (fun q e => ⟨(hg0 q e).1, by have := (hg0 q e).2; omega⟩) ?_ ⟨hI1, hL1, hK1⟩).mono ?_
    · -- one round
      rintro m pre x g W ⟨hi, hl, hk⟩ hlen
      have hlt : w.heap.size + 1 < W.heap.size := (Array.getElem?_eq_some_iff.1 hl).1
      have hy := run_yield (P := P) (args := encs x) hl (by rw [hrec]; exact hps x)
      rw [hrec] at hy
      refine ⟨fn, _, assign, body, hy, round_any hd (m := n - 1 - 1) (roundIn_of_wpIn hfn (hassign _ pre x g W _ hi ?_))⟩
      clear hy
      intro a' Wa hsa hia hax
      have hgq : ∀ q, g = some q → q < w.heap.size ∨ w.heap.size + 2 ≤ q := fun q e => hIg pre g W q hi e
      have hl := (hsa.same _ (.inl (by omega)) hlt (fun e => by have := hgq _ e.symm; omega)).trans hl
      have hk := (hsa.same w.heap.size (.inl (Nat.le_refl _)) (by omega) (fun e => by have := hgq _ e.symm; omega)).trans hk
      have hlt2 : w.heap.size + 1 < Wa.heap.size := (Array.getElem?_eq_some_iff.1 hl).1
      refine ⟨_, run_beginRound hl (by rw [hrec]), ?_⟩
      obtain ⟨Wb, hWb⟩ : ∃ Wb, Wa.putObj (w.heap.size + 1) (.loop { rec .ready none with state := .busy }) = Wb := ⟨_, rfl⟩
      have hl2 : Wb.heap[w.heap.size + 1]? = some (.loop { rec .ready none with state := .busy }) := by rw [← hWb]; exact World.putObj_heap_same hlt2
      have hk2 : Wb.heap[w.heap.size]? = some (.deferred (some [])) := by rw [← hWb]; exact (World.putObj_heap_other (by omega)).trans hk
      have hne : some (w.heap.size + 1) ≠ g := fun e => by have := hgq _ e.symm; omega
      have hIb : I pre g Wb := by rw [← hWb]; exact hI.putObj _ hia (by omega) hne
      have hAb : Ax x a' Wb := by rw [← hWb]; exact (hAx x a').putObj (s := ()) (g := none) _ hax (by omega) (by simp)
      have hzz : ∀ k, (W1.heap.size ≤ k ∨ Kz k) → (w.heap.size ≤ k ∨ Kz k) := fun k h => h.elim (fun h => .inl (by omega)) .inr
      have hsb : Spares (fun k => W1.heap.size ≤ k ∨ Kz k) g g Wa Wb := by
        rw [← hWb]; exact Spares.turned (grownBy_putObj' _ _ _) (fun j e hj => by cases e; rcases hj with h | h; exact absurd h (by omega); have := hKz _ h; omega)
      have hs2 : Spares (fun k => W1.heap.size ≤ k ∨ Kz k) g g W Wb := (hsa.imp (fun k h _ => hzz k h)).trans hsb
      rw [hWb]
      refine wpIn_mono (hbody _ pre x g a' _ (Array.getElem?_eq_some_iff.1 hl2).1 hIb hAb hlen) ?_
      have fin : ∀ (jump : Option Code) (g' : Option Nat) (W3 : World), Spares (fun k => w.heap.size ≤ k ∨ Kz k) g g' Wb W3 →
          (Instr.endRound (w.heap.size + 1) jump).run P W3 = .ok (.bool jump.isNone) (W3.putObj (w.heap.size + 1) (.loop (rec (if jump.isNone then .ready else .done) jump))) ∧
          (W3.putObj (w.heap.size + 1) (.loop (rec (if jump.isNone then .ready else .done) jump))).heap[w.heap.size + 1]? = some (.loop (rec (if jump.isNone then .ready else .done) jump)) ∧
          (W3.putObj (w.heap.size + 1) (.loop (rec (if jump.isNone then .ready else .done) jump))).heap[w.heap.size]? = some (.deferred (some [])) ∧
          Spares (fun k => W1.heap.size ≤ k ∨ Kz k) g g' W (W3.putObj (w.heap.size + 1) (.loop (rec (if jump.isNone then .ready else .done) jump))) := fun jump g' W3 hk3 => by
        have hl3 := (hk3.same _ (.inl (by omega)) (Array.getElem?_eq_some_iff.1 hl2).1 hne).trans hl2
        have hk4 := (hk3.same w.heap.size (.inl (Nat.le_refl _)) (Array.getElem?_eq_some_iff.1 hk2).1 (fun e => by have := hgq _ e.symm; omega)).trans hk2
        have := run_endRound (P := P) jump hl3
        rw [hrec] at this ⊢
        exact ⟨this, World.putObj_heap_same (Array.getElem?_eq_some_iff.1 hl3).1, (World.putObj_heap_other (by omega)).trans hk4,
          hs2.trans ((hk3.imp (fun k h _ => hzz k h)).trans (Spares.turned (grownBy_putObj' _ _ _) (fun j e hj => by cases e; rcases hj with h | h; exact absurd h (by omega); have := hKz _ h; omega)))⟩
      have hng : ∀ {g' : Option Nat}, (∀ q, g' = some q → q < w.heap.size ∨ w.heap.size + 2 ≤ q) → some (w.heap.size + 1) ≠ g' := fun h e => by have := h _ e.symm; omega
      rintro e a3 W3 hp
      cases e with
      | normal =>
        obtain ⟨g', hk3, hi3⟩ := hp
        obtain ⟨hr, hl4, hk4, hs4⟩ := fin none g' W3 hk3
        exact ⟨_, _, hr, g', hs4, .inl ⟨rfl, hI.putObj _ hi3 (by omega) (hng (fun q e => hIg _ _ _ q hi3 e)), hl4, hk4⟩⟩
      | ret =>
        obtain ⟨g', hk3, hi3⟩ := hp
        obtain ⟨hr, hl4, hk4, hs4⟩ := fin (some .ret) g' W3 hk3
        exact ⟨_, _, hr, g', hs4, .inr ⟨rfl, .ret, (hIx _).putObj _ hi3 (by omega) (hng (fun q e => hIxg _ _ _ _ q hi3 e)), hl4, hk4⟩⟩
      | exit id =>
        obtain ⟨g', hk3, hi3⟩ := hp
        obtain ⟨hr, hl4, hk4, hs4⟩ := fin (some (.exit id)) g' W3 hk3
        exact ⟨_, _, hr, g', hs4, .inr ⟨rfl, .exit id, (hIx _).putObj _ hi3 (by omega) (hng (fun q e => hIxg _ _ _ _ q hi3 e)), hl4, hk4⟩⟩
      | goto t =>
        obtain ⟨g', hk3, hi3⟩ := hp
        obtain ⟨hr, hl4, hk4, hs4⟩ := fin (some (.goto t)) g' W3 hk3
        exact ⟨_, _, hr, g', hs4, .inr ⟨rfl, .goto t, (hIx _).putObj _ hi3 (by omega) (hng (fun q e => hIxg _ _ _ _ q hi3 e)), hl4, hk4⟩⟩
      | panic ch => exact hp.elim
      | outgrown => exact hp.elim
    · -- behind the iterator
      rintro e W2 ⟨⟨v, rfl⟩, (⟨xs, g, hS, hi, hl, hk⟩ | ⟨pre, g, hSp, c, hi, hl, hk⟩)⟩
      · exact ⟨none, _, by have := run_endLoop (P := P) hl (by rw [hrec]; simp); rw [hrec] at this; exact this, hdone _ xs g _ rfl hS (hI.putObj _ hi (by omega) (fun e => by have := hIg _ _ _ _ hi e.symm; omega)) ((World.putObj_heap_other (by omega)).trans hk)⟩
      · exact ⟨some c, _, by have := run_endLoop (P := P) hl (by rw [hrec]; simp); rw [hrec] at this; exact this, hstop _ c pre g _ rfl hSp ((hIx c).putObj _ hi (by omega) (fun e => by have := hIxg _ _ _ _ _ hi e.symm; omega)) ((World.putObj_heap_other (by omega)).trans hk)⟩
structure Lies (K : Nat → Prop) (W W' : World) : Prop where
  size : W.heap.size ≤ W'.heap.size
  same : ∀ k, K k → k < W.heap.size → W'.heap[k]? = W.heap[k]?
theorem Lies.refl (K : Nat → Prop) (W : World) : Lies K W W := ⟨Nat.le_refl _, fun _ _ _ => rfl⟩
theorem Lies.trans {K : Nat → Prop} {A B C : World} (h : Lies K A B) (h' : Lies K B C) : Lies K A C := ⟨Nat.le_trans h.size h'.size, fun k hk hlt => (h'.same k hk (Nat.lt_of_lt_of_le hlt h.size)).trans (h.same k hk hlt)⟩
theorem Lies.below {K : Nat → Prop} {A B : World} (h : Below A.heap.size A B) : Lies K A B := ⟨h.size, fun k _ hk => h.block k hk⟩
theorem Lies.imp {K K' : Nat → Prop} {A B : World} (h : Lies K A B) (hk : ∀ k, K' k → K k) : Lies K' A B := ⟨h.size, fun k a => h.same k (hk k a)⟩
theorem Lies.grown {K : Nat → Prop} {A B : World} {row : Option Nat} (h : A.grownBy B row) (hr : ∀ r, row = some r → ¬ K r) : Lies K A B := ⟨h.size, fun k hk hlt => h.block k hlt (fun e => hr k e.symm hk)⟩
theorem Spares.lies {K K' : Nat → Prop} {g g' : Option Nat} {A B : World} (h : Spares K g g' A B) (hk : ∀ k, K' k → k < A.heap.size → K k ∧ some k ≠ g) : Lies K' A B := ⟨h.size, fun k a b => h.same k (hk k a b).1 b (hk k a b).2⟩
theorem Lies.cell {K : Nat → Prop} {A B : World} (h : Lies K A B) {p : Addr} {v : Value} (hk : K p.block) (hc : A.cell? p = some v) : B.cell? p = some v :=
  (World.cell?_of_block (h.same p.block hk (World.block_lt_of_cell? A p hc))).trans hc
theorem Lies.box {K : Nat → Prop} {A B : World} (h : Lies K A B) {b : Nat} {t : TypeId} {v : Value} (hk : K b) (hc : Boxed A b t v) : Boxed B b t v := (h.same b hk hc.lt).trans hc
theorem Spares.lt {K : Nat → Prop} {g g' : Option Nat} {A B : World} (h : Spares K g g' A B) (hg : ∀ q, g = some q → q < A.heap.size) : ∀ q, g' = some q → q < B.heap.size := by
  intro q e
  rcases h.own with e' | ⟨b, e', hb, hb2⟩
  · exact Nat.lt_of_lt_of_le (hg q (e' ▸ e)) h.size
  · rw [e] at e'; cases e'; exact hb2
theorem Spares.not {K Kz : Nat → Prop} {g g' : Option Nat} {A B : World} (h : Spares K g g' A B) (hn : ∀ k, Kz k → k < A.heap.size) (hg : ∀ q, g = some q → ¬ Kz q) : ∀ q, g' = some q → ¬ Kz q := by
  intro q e
  rcases h.own with e' | ⟨b, e', hb, _⟩
  · exact hg q (e' ▸ e)
  · rw [e] at e'; cases e'
    intro hk
    have := hn q hk
    omega
theorem Spares.ge {K : Nat → Prop} {g g' : Option Nat} {A B : World} {n : Nat} (h : Spares K g g' A B) (hn : n ≤ A.heap.size) (hg : ∀ q, g = some q → n ≤ q) : ∀ q, g' = some q → n ≤ q := by
  intro q e
  rcases h.own with e' | ⟨b, e', hb, _⟩
  · exact hg q (e' ▸ e)
  · rw [e] at e'; cases e'; omega
theorem collected {K : Nat → Prop} {W w1 : World} {n₀ B : Nat} {t e : TypeId} {size : Nat} {v v1 : Value} {k m : Nat} {xs ys : List Value}
    (hv : Boxed W B t v) (hte : t ≠ e) (hrow : W.ownsRow n₀ e size v k xs) (hKB : ¬ K B) (hB : n₀ ≤ B)
    (hown' : w1.ownsRow n₀ e size v1 m ys) (hg : W.grownBy w1 v.ownBlock) (hat : v1.ownBlock = v.ownBlock ∨ ∃ b, v1.ownBlock = some b ∧ W.heap.size ≤ b) :
    Boxed w1 B t v ∧ Boxed (w1.setCell ⟨B, 0, none⟩ v1) B t v1 ∧ (w1.setCell ⟨B, 0, none⟩ v1).ownsRow n₀ e size v1 m ys ∧ Spares K v.ownBlock v1.ownBlock W (w1.setCell ⟨B, 0, none⟩ v1) ∧ Below n₀ W (w1.setCell ⟨B, 0, none⟩ v1) := by
  have hv1 : Boxed w1 B t v := hv.kept hg (hv.not_row hte hrow)
  have hlt1 : ∀ b, v1.ownBlock = some b → b < (w1.setCell ⟨B, 0, none⟩ v1).heap.size := fun b e => by
    have h2 := (grownBy_setCell' w1 B v1).size
    rcases hown'.2 with ⟨rfl, _⟩ | ⟨g, cap, cur, rfl, _, hh, _⟩
    · simp [Value.ownBlock] at e
    · obtain rfl : g = b := by simpa [Value.ownBlock] using e
      exact Nat.lt_of_lt_of_le (Array.getElem?_eq_some_iff.1 hh).1 h2
  refine ⟨hv1, hv1.set v1, hown'.kept (grownBy_setCell' w1 B v1) (.inr (hv1.not_row hte hown').symm), ⟨?_, hat.imp id (fun ⟨b, e, hb⟩ => ⟨b, e, hb, hlt1 b e⟩), ?_⟩, ?_⟩
  · exact Nat.le_trans hg.size (grownBy_setCell' w1 B v1).size
  · intro k hk hlt hne
    refine ((grownBy_setCell' w1 B v1).block k (Nat.lt_of_lt_of_le hlt hg.size) (fun e => ?_)).trans (hg.block k hlt hne)
    cases e
    exact hKB hk
  · refine ((Below.refl n₀ W).grown hg (Nat.le_trans hB (Nat.le_of_lt hv.lt)) fun j ej => ?_).setCell (p := ⟨B, 0, none⟩) hB v1
    rcases hrow.2 with ⟨rfl, _⟩ | ⟨g, cap, cur, rfl, hb, _, _⟩
    · simp [Value.ownBlock] at ej
    · obtain rfl : g = j := by simpa [Value.ownBlock] using ej
      exact hb
theorem collected_box {W w1 : World} {n₀ B b : Nat} {t' e : TypeId} {size : Nat} {v : Value} {k : Nat} {xs : List Value} {u : Value} (hg : W.grownBy w1 v.ownBlock) (hrow : W.ownsRow n₀ e size v k xs) (hb : Boxed W b t' u) (hte : t' ≠ e) (hne : b ≠ B) (v1 : Value) : Boxed (w1.setCell ⟨B, 0, none⟩ v1) b t' u :=
  (hb.kept hg (hb.not_row hte hrow)).other hne v1
end Go.Proofs.YtoanmbhenmlboaaDoorH
end
section
namespace Go.Proofs.YtoanmbhenmlboaaDoorH
open Go.RowKit Go.Proofs.YtoanmbhenmlboaaDoorW.PrintWords Go.Proofs.YtoanmbhenmlboaaDoorW.PrintLast Go.Proofs.YtoanmbhenmlboaaDoorW.PrintMore
theorem TabOk.lies {w A C : World} {K : Nat → Prop} (hw : TabOk w) (hA : Lies (fun k => k < w.heap.size) w A) (hK : ∀ k, k < w.heap.size → K k) (h : Lies K A C) : TabOk C := by
  have hc : ∀ {p : Addr} {v : Value}, w.cell? p = some v → C.cell? p = some v := fun {p v} hp =>
    h.cell (hK p.block (World.block_lt_of_cell? w p hp)) (hA.cell (World.block_lt_of_cell? w p hp) hp)
  refine ⟨hc hw.c0, hc hw.c1, hc hw.c2, hc hw.c3, hc hw.c4, hc hw.c5, ?_⟩
  obtain ⟨m, hm⟩ := hw.mx
  exact ⟨m, hc hm⟩
end Go.Proofs.YtoanmbhenmlboaaDoorH
end
section
namespace Go.Proofs.YtoanmbhenmlboaaDoorH
open Go
def splitL (c : UInt8) : List UInt8 → List (List UInt8)
  | [] => [[]]
  | b :: l => if b == c then [] :: splitL c l else match splitL c l with
    | [] => [[b]]
    | p :: ps => (b :: p) :: ps
theorem splitL_ne (c : UInt8) : ∀ l : List UInt8, splitL c l ≠ []
  | [] => by simp [splitL]
  | b :: l => by
    unfold splitL
    split
    · simp
    · split <;> simp
theorem splitL_cons_ne (c b : UInt8) (l : List UInt8) (h : (b == c) = false) : ∃ p ps, splitL c l = p :: ps ∧ splitL c (b :: l) = (b :: p) :: ps := by
  cases hs : splitL c l with
  | nil => exact absurd hs (splitL_ne c l)
  | cons p ps => exact ⟨p, ps, rfl, by rw [splitL, if_neg (by simp [h]), hs]⟩
theorem splitL_cons_eq (c b : UInt8) (l : List UInt8) (h : (b == c) = true) : splitL c (b :: l) = [] :: splitL c l := by rw [splitL, if_pos h]
theorem splitL_none (c : UInt8) : ∀ l : List UInt8, l.findIdx (· == c) = l.length → splitL c l = [l]
  | [], _ => rfl
  | b :: l, h => by
    rw [List.findIdx_cons] at h
    cases hb : b == c with
    | true => rw [hb] at h; simp at h
    | false =>
      rw [hb] at h
      simp only [cond_false, List.length_cons] at h
      obtain ⟨p, ps, h1, h2⟩ := splitL_cons_ne c b l hb
      rw [splitL_none c l (by omega)] at h1
      cases h1
      exact h2
theorem splitL_some (c : UInt8) : ∀ l : List UInt8, l.findIdx (· == c) < l.length → splitL c l = l.take (l.findIdx (· == c)) :: splitL c (l.drop (l.findIdx (· == c) + 1))
  | [], h => by simp at h
  | b :: l, h => by
    rw [List.findIdx_cons] at h ⊢
    cases hb : b == c with
    | true => rw [splitL_cons_eq c b l hb]; rfl
    | false =>
      rw [hb] at h
      simp only [cond_false, List.length_cons] at h ⊢
      obtain ⟨p, ps, h1, h2⟩ := splitL_cons_ne c b l hb
      have ih := splitL_some c l (by omega)
      rw [ih] at h1
      cases h1
      rw [h2]
      rfl
theorem splitL_size (c : UInt8) : ∀ (l : List UInt8) (p : List UInt8), p ∈ splitL c l → p.length ≤ l.length
  | [], p, h => by simp [splitL] at h; subst h; exact Nat.le_refl _
  | b :: l, p, h => by
    cases hb : b == c with
    | true =>
      rw [splitL_cons_eq c b l hb] at h
      rcases List.mem_cons.1 h with h | h
      · subst h; simp
      · have := splitL_size c l p h
        simp only [List.length_cons]; omega
    | false =>
      obtain ⟨q, qs, h1, h2⟩ := splitL_cons_ne c b l hb
      rw [h2] at h
      rcases List.mem_cons.1 h with h | h
      · subst h
        have := splitL_size c l q (by rw [h1]; exact List.mem_cons_self)
        simp only [List.length_cons]; omega
      · have := splitL_size c l p (by rw [h1]; exact List.mem_cons_of_mem _ h)
        simp only [List.length_cons]; omega
theorem splitL_count (c : UInt8) : ∀ l : List UInt8, (splitL c l).length ≤ l.length + 1
  | [] => by simp [splitL]
  | b :: l => by
    have ih := splitL_count c l
    cases hb : b == c with
    | true => rw [splitL_cons_eq c b l hb]; simp only [List.length_cons]; omega
    | false =>
      obtain ⟨q, qs, h1, h2⟩ := splitL_cons_ne c b l hb
      rw [h2]
      rw [h1] at ih
      simp only [List.length_cons] at ih ⊢; omega
theorem indexByte_at : ∀ (l : List UInt8) (c : UInt8), Lib.indexByte l c = if l.findIdx (· == c) < l.length then ((l.findIdx (· == c) : Nat) : Int) else -1
  | [], c => rfl
  | b :: l, c => by
    unfold Lib.indexByte
    rw [List.findIdx_cons, indexByte_at l c]
    cases h : b == c with
    | true => simp
    | false =>
      simp only [cond_false, List.length_cons]
      by_cases h2 : l.findIdx (· == c) < l.length
      · have e1 : (((List.findIdx (· == c) l : Nat) : Int) == -1) = false := by rw [beq_eq_false_iff_ne]; omega
        have e2 : List.findIdx (· == c) l + 1 < l.length + 1 := by omega
        simp only [if_pos h2, if_pos e2, e1, Bool.false_eq_true, if_false]
        omega
      · have e2 : ¬ List.findIdx (· == c) l + 1 < l.length + 1 := by omega
        simp only [if_neg h2, if_neg e2]
        rfl
theorem index_at (l : List UInt8) (c : UInt8) : Lib.index l [c] = if l.findIdx (· == c) < l.length then ((l.findIdx (· == c) : Nat) : Int) else -1 :=
  (Lib.index_one _ _).trans (indexByte_at l c)
end Go.Proofs.YtoanmbhenmlboaaDoorH
end
