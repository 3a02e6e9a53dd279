import Derived.Test.YtoanmbhenmlboaaDoorZExpectActsP0
import Derived.Test.YtoanmbhenmlboaaDoorZExpectActsP2
import Derived.Test.YtoanmbhenmlboaaDoorZExpectActsP1
import Derived.Test.YtoanmbhenmlboaaDoorProg
import Derived.Below
import Derived.Deep.Draws
import Derived.Deep.AppendLies
import Derived.Maps.AppendAt
import Derived.OwnWalk
import Derived.Laws.BytesArg
import Derived.Laws.MakeOwn
import Derived.Laws.OwnMore
import Derived.Deep.OwnRows
import Derived.Tactics
import Derived.Lib.ConvBytes
import Derived.Laws.Slices
import Derived.WalkKit
import Derived.KernelRfl
import Derived.RowKit3
import Derived.Deep.LoopGhost
import Derived.Deep.QuietTactic
import Derived.BigQuiet
import Derived.WideLaws
import Derived.Deep.DeepCutAuto
import Derived.Deep.CutBlock
import Derived.Deep.RegionHeld3
import Derived.Laws.Rows
import Derived.Lib.AppendStr
import Derived.ArgAppend
import Derived.Laws.IdiomCopy
import Derived.OrdersHeld
import Derived.Laws.BitsLemmas
import Derived.RowKit
import Derived.Laws.EntriesVeiled
import Derived.Laws.NewBlocks
import Derived.RangeFuncNested
import Derived.RangeFuncBound
import Derived.RangeFuncCalls
import Derived.RangeFuncBox
import Derived.Lib.IndexBytes
import Derived.RangeFuncLeaves
import Derived.RangeFuncKeeps
import Derived.Shelf.RegionOpen
import Derived.OwnWalkIn
import Derived.TacticsInMore
import Derived.LoopNIn
import Derived.LoopIn
import Derived.ControlIn
import Derived.Scope
import Derived.WalkMore
section
namespace Go.Proofs.YtoanmbhenmlboaaDoor.Pr
open Go.RowKit Go.Proofs.YtoanmbhenmlboaaDoorH Go.Proofs.YtoanmbhenmlboaaDoorW.PrintWords Go.Proofs.YtoanmbhenmlboaaDoorW.PrintLast Go.Proofs.YtoanmbhenmlboaaDoorW.PrintMore
attribute [local go_sem] max2_int min2_int max_two min_two max_three min_three max_four min_four   -- for this text's walks alone
set_option linter.unusedVariables false
set_option linter.unusedSimpArgs false
def errW : Option Int → Value
  | none => .nilIface
  | some c => .iface 0 (.int .i64 c)
theorem errW_none : errW none = .nilIface := rfl
theorem errW_some (c : Int) : errW (some c) = .iface 0 (.int .i64 c) := rfl
theorem info5 : (Tryd.prog.info? 5).map (fun i => (i.zero, i.size, i.bytes)) = some (some (.int .u8 0), 1, 1) := by kernel_rfl
theorem info9 : (Tryd.prog.info? 9).map (fun i => (i.zero, i.size, i.bytes)) = some (some (.string ⟨#[]⟩), 1, 16) := by kernel_rfl
structure S71 where
  f0 : ByteArray
  f1 : ByteArray
def z71 : S71 := ⟨(⟨#[]⟩ : ByteArray), (⟨#[]⟩ : ByteArray)⟩
def k71 : Kd S71 := Kd.iso (Kd.pair Kd.string Kd.string) (fun x : S71 => (x.f0, x.f1))
theorem k71_open {w : World} {x : S71} {cs : List Value} (h : k71.K w x cs) : cs = [.string x.f0, .string x.f1] := by
  obtain ⟨_, _, rfl, rfl, rfl⟩ := h
  exact rfl
theorem k71_mkM (w : World) (base : Nat) (ok : Nat → Prop) (x : S71)  : k71.M w base ok x [.string x.f0, .string x.f1] := ⟨[.string x.f0], [.string x.f1], rfl, rfl, rfl⟩
def rd_T71 (xs : List S71) (i : Int) : S71 := xs.getD i.toNat z71
theorem at_T71 {w : World} {A : Option Addr} {n : Nat} {xs : List S71} (h : Kd.C k71 w A n xs) (i : Int) (h0 : 0 ≤ i) (h1 : i < n) : ∃ ad , A = some ad ∧ w.cell? (ad.add (i.toNat * 2)) = some (.string (rd_T71 xs i).f0) ∧ w.cell? ⟨(ad.add (i.toNat * 2)).block, (ad.add (i.toNat * 2)).off + 1, none⟩ = some (.string (rd_T71 xs i).f1) := by
  obtain ⟨ad, c, e, _, hK, hc0⟩ := Kd.C_get h z71 i h0 h1
  have hc : ∀ j u, c[j]? = some u → w.cell? (ad.add (i.toNat * 2 + j)) = some u := hc0
  obtain rfl := k71_open hK
  exact ⟨ad, e, hc 0 _ rfl, by rw [← add_field _ _ 1 (by omega)]; exact hc 1 _ rfl⟩
end Go.Proofs.YtoanmbhenmlboaaDoor.Pr
end
section
namespace Go.Proofs.YtoanmbhenmlboaaDoorH
open Go.RowKit Go.Proofs.YtoanmbhenmlboaaDoorW.PrintWords Go.Proofs.YtoanmbhenmlboaaDoorW.PrintLast Go.Proofs.YtoanmbhenmlboaaDoorW.PrintMore Go.Proofs.YtoanmbhenmlboaaDoor.Pr
theorem filter_take_length {α : Type} (p : α → Bool) (l : List α) (k : Nat) : ((l.take k).filter p).length ≤ l.length :=
  Nat.le_trans (List.length_filter_le _ _) (by rw [List.length_take]; omega)
set_option maxHeartbeats 1600000 in
set_option maxRecDepth 100000 in
theorem chosenS_calls (F G : Nat) (pb : Addr) (p : S71 → Bool) (m : S71 → ByteArray) (A0 : Option Addr) (c0 : Nat) (l : List S71) (w : World)
    (hr : Kd.C k71 w A0 l.length l) (_hc : l.length ≤ c0) (hn : l.length < 8796093022208)
    (eF : ∀ args w, (callFunc F args).run Tryd.prog w = .ok (.enter F args) w) (eG : ∀ args w, (callFunc G args).run Tryd.prog w = .ok (.enter G args) w)
    (hF : ∀ x ∈ l, ∀ W, Below w.heap.size w W → Calls Tryd.prog F #[.agg #[.string x.f0, .string x.f1], .pointer (some pb)] W fun e W' => e = .returned (.bool (p x)) ∧ Below W.heap.size W W')
    (hG : ∀ x ∈ l, ∀ W, Calls Tryd.prog G #[.agg #[.string x.f0, .string x.f1]] W fun e W' => e = .returned (.string (m x)) ∧ Below W.heap.size W W') :
    Calls Tryd.prog 60 #[.slice A0 l.length c0, .func (.func F) #[] #[.pointer (some pb)], .func (.func G) #[] #[]] w fun e w' =>
      ∃ v, e = .returned v ∧ Kd.R Kd.string 9 w' w.heap.size (fun _ => True) v ((l.filter p).map m) ∧ Below w.heap.size w w' := by
  have HR := Aside0.mk hr
  have HF := Aside0.mk hF
  have HG := Aside0.mk hG
  have HN := Aside0.mk hn
  clear hr hF hG
  go_enter Tryd.func60, Tryd.ntmps60
  go_wp2
  go_loopw [7, 12] (fun v7 v12 wr => ∃ k : Nat, k ≤ l.length ∧ v12 = .int .i64 k ∧ Aside0 (Kd.R Kd.string 9 wr w.heap.size (fun _ => True) v7 (((l.take k).filter p).map m)) ∧ Aside0 (Below w.heap.size w wr)) (fun _ v12 _ => l.length - (intOf v12).toNat)
  case atStart => exact ⟨0, Nat.zero_le _, rfl, ⟨Kd.R_nil _ _ _ _ _⟩, ⟨Below.refl _ _⟩⟩
  case round =>
    obtain ⟨k, hk, rfl, ho, hb⟩ := hrel
    by_cases hlt : k < l.length
    · obtain ⟨ad, e, hx0, hx1⟩ := at_T71 HR.out (k : Int) (by omega) (by omega)
      cases e
      have hx0 := (hb.out.cell (World.block_lt_of_cell? w _ hx0)).trans hx0
      have hx1 := (hb.out.cell (World.block_lt_of_cell? w _ hx1)).trans hx1
      have HX := Aside0.mk (mem_getD l z71 k hlt)
      have HT := Aside0.mk (take_one l z71 k hlt)
      have HLEN := Aside0.mk (filter_take_length p l k)
      unfold rd_T71 at hx0 hx1
      rw [Int.toNat_natCast] at hx0 hx1
      generalize l.getD k z71 = x at *
      go_wp2_with fail
      refine (HF.out x HX.out _ (hb.out.alloc hb.out.size _)).mono ?_
      rintro e w1 ⟨rfl, b1⟩
      have B1 := Aside0.mk ((hb.out.alloc hb.out.size _).trans (b1.mono (Nat.le_trans hb.out.size (by simp))))
      have O1 := Aside0.mk (Kd.R_below (Kd.R_alloc ho.out _) b1)
      have y0 := pw_cell_below b1 (show (wr.alloc (.cells #[.string x.f0, .string x.f1] 71)).cell? ⟨wr.heap.size, 0, none⟩ = some (.string x.f0) by simp)
      have y1 := pw_cell_below b1 (show (wr.alloc (.cells #[.string x.f0, .string x.f1] 71)).cell? ⟨wr.heap.size, 1, none⟩ = some (.string x.f1) by simp)
      clear b1 hx0 hx1
      cases hp : p x with
      | true =>
        have HP := Aside0.mk hp
        clear hp
        go_wp2_with fail
        refine (HG.out x HX.out _).mono ?_
        rintro e w2 ⟨rfl, b2⟩
        have B2 := Aside0.mk (B1.out.trans (b2.mono B1.out.size))
        have O2 := Aside0.mk (Kd.R_below O1.out b2)
        clear b2 y0 y1
        go_wp2_with (first | ((with_reducible refine gate_builtin (b := .append) (xs := #[.tmp 19, .tmp 23]) rfl ?_); at_builtin; refine Kd.R_append Kd.string (w0 := w) w.heap.size rfl (.tmp 19) (.tmp 23) 38 9 (.string ⟨#[]⟩) 16 rfl Tryd.underlying38 info9 rfl (by decide) (by omega) u7 (((l.take k).filter p).map m) (m x) [.string (m x)] (fun _ => True) (fun _ => False) rfl rfl ?aP (fun _ hk => hk.elim) ?aF ?aO ?aB ?aS ?aL ?_; (case aP => exact rfl); (case aB => exact B2.out); (case aF => exact (fun _ _ => trivial)); (case aO => exact O2.out); (case aS => exact B2.out.size); (case aL => have := HLEN.out; have := HN.out; rw [List.length_map]; omega); intro v3 w3 ho3 hb3 hg3 hat3; have O3 := Aside0.mk ho3; have B3 := Aside0.mk hb3; clear ho3 hb3 hg3 hat3))
        go_roundw
        case rel => exact ⟨k + 1, by omega, by go_num, ⟨by rw [HT.out, List.filter_append, List.map_append, List.filter_cons_of_pos HP.out]; exact O3.out⟩, B3⟩
        case measure => simp [intOf]; omega
      | false =>
        have HP := Aside0.mk hp
        clear hp
        go_wp2
        go_roundw
        case rel => exact ⟨k + 1, by omega, by go_num, ⟨by rw [HT.out, List.filter_append, List.map_append, List.filter_cons_of_neg (by simp [HP.out])]; simpa using O1.out⟩, B1⟩
        case measure => simp [intOf]; omega
    · have hke : k = l.length := by omega
      subst hke
      rw [List.take_length] at ho
      go_wp2
      go_ret
      exact ⟨_, rfl, ho.out, hb.out⟩
end Go.Proofs.YtoanmbhenmlboaaDoorH
end
section
namespace Go.Proofs.YtoanmbhenmlboaaDoorH
open Go.RowKit Go.Proofs.YtoanmbhenmlboaaDoorW.PrintWords Go.Proofs.YtoanmbhenmlboaaDoorW.PrintLast Go.Proofs.YtoanmbhenmlboaaDoorW.PrintMore
def alikeB (a b : ByteArray) : Bool := decide (smallS a = smallS b)
set_option maxHeartbeats 800000 in
set_option maxRecDepth 100000 in
theorem alike_calls (a b : ByteArray) (w : World) (ha : a.size ≤ 140737488355328) (hb : b.size ≤ 140737488355328) (hG : TabOk w) :
    Calls Tryd.prog 58 #[.string a, .string b] w fun e w' => e = .returned (.bool (alikeB a b)) ∧ Below w.heap.size w w' := by
  have HE := Aside0.mk (show alikeB a b = ((smallS a).toList == (smallS b).toList) from (beq_toList _ _).symm)
  have HG := Aside0.mk hG
  clear hG
  go_enter Tryd.func58, Tryd.ntmps58
  go_wp2_with fail
  refine (small_calls a w ha HG.out).mono ?_
  rintro e w1 ⟨rfl, b1⟩
  have B1 := Aside0.mk b1
  clear b1
  go_wp2_with fail
  refine (small_calls b w1 hb (HG.out.below B1.out)).mono ?_
  rintro e w2 ⟨rfl, b2⟩
  have B2 := Aside0.mk (B1.out.trans (b2.mono B1.out.size))
  clear b2
  go_wp2
  go_ret
  exact ⟨by rw [HE.out]; rfl, B2.out⟩
end Go.Proofs.YtoanmbhenmlboaaDoorH
end
section
namespace Go.Proofs.YtoanmbhenmlboaaDoorH
open Go.RowKit Go.Proofs.YtoanmbhenmlboaaDoorW.PrintWords Go.Proofs.YtoanmbhenmlboaaDoorW.PrintLast Go.Proofs.YtoanmbhenmlboaaDoorW.PrintMore Go.Proofs.YtoanmbhenmlboaaDoor.Pr
def isB (x : S71) (n : ByteArray) : Bool := alikeB x.f0 n
set_option maxHeartbeats 800000 in
set_option maxRecDepth 100000 in
theorem is_calls (x0 x1 n : ByteArray) (w : World) (ha : x0.size ≤ 140737488355328) (hb : n.size ≤ 140737488355328) (hG : TabOk w) :
    Calls Tryd.prog 62 #[.agg #[.string x0, .string x1], .string n] w fun e w' => e = .returned (.bool (alikeB x0 n)) ∧ Below w.heap.size w w' := by
  have HG := Aside0.mk hG
  clear hG
  go_enter Tryd.func62, Tryd.ntmps62
  go_wp2_with fail
  refine (alike_calls x0 n _ ha hb (HG.out.below (below_alloc (Below.refl _ _) _))).mono ?_
  rintro e w1 ⟨rfl, b1⟩
  have B1 := Aside0.mk (below_step (below_alloc (Below.refl w.heap.size w) _) b1)
  clear b1
  go_wp2
  go_ret
  exact ⟨rfl, B1.out⟩
set_option maxHeartbeats 800000 in
set_option maxRecDepth 100000 in
theorem get1_calls (x : S71) (n : ByteArray) (pb : Addr) (w : World) (ha : x.f0.size ≤ 140737488355328) (hb : n.size ≤ 140737488355328) (hG : TabOk w) (hp : w.cell? pb = some (.string n)) :
    Calls Tryd.prog 61 #[.agg #[.string x.f0, .string x.f1], .pointer (some pb)] w fun e w' => e = .returned (.bool (isB x n)) ∧ Below w.heap.size w w' := by
  have HG := Aside0.mk hG
  have hp1 := pw_cell_below (below_alloc (Below.refl w.heap.size w) (.cells #[.string x.f0, .string x.f1] 71)) hp
  clear hG hp
  go_enter Tryd.func61, Tryd.ntmps61
  go_wp2_with fail
  refine (is_calls x.f0 x.f1 n _ ha hb (HG.out.below (below_alloc (Below.refl _ _) _))).mono ?_
  rintro e w1 ⟨rfl, b1⟩
  have B1 := Aside0.mk (below_step (below_alloc (Below.refl w.heap.size w) _) b1)
  clear b1
  go_wp2
  go_ret
  exact ⟨rfl, B1.out⟩
set_option maxHeartbeats 800000 in
set_option maxRecDepth 100000 in
theorem get2_calls (x : S71) (w : World) :
    Calls Tryd.prog 63 #[.agg #[.string x.f0, .string x.f1]] w fun e w' => e = .returned (.string x.f1) ∧ Below w.heap.size w w' := by
  go_enter Tryd.func63, Tryd.ntmps63
  go_wp2
  go_ret
  exact ⟨rfl, below_alloc (Below.refl _ _) _⟩
def fitF (l : List S71) : Bool := l.all fun x => decide (x.f0.size ≤ 140737488355328)
theorem fitF_at {l : List S71} (h : fitF l = true) (x : S71) (hx : x ∈ l) : x.f0.size ≤ 140737488355328 := of_decide_eq_true (List.all_eq_true.1 h x hx)
def getL (l : List S71) (n : ByteArray) : List ByteArray := (l.filter fun x => isB x n).map fun x => x.f1
set_option maxHeartbeats 800000 in
set_option maxRecDepth 100000 in
theorem get_calls (A0 : Option Addr) (c0 : Nat) (l : List S71) (n : ByteArray) (w : World) (hr : Kd.C k71 w A0 l.length l) (hc : l.length ≤ c0)
    (hn : l.length < 8796093022208) (hl : fitF l = true) (hb : n.size ≤ 140737488355328) (hG : TabOk w) :
    Calls Tryd.prog 50 #[.slice A0 l.length c0, .string n] w fun e w' => ∃ v, e = .returned v ∧ Kd.R Kd.string 9 w' w.heap.size (fun _ => True) v (getL l n) ∧ Below w.heap.size w w' := by
  have HB0 := Aside0.mk (below_alloc (Below.refl w.heap.size w) (.cells #[.string n] 9))
  have hp0 : (w.alloc (.cells #[.string n] 9)).cell? ⟨w.heap.size, 0, none⟩ = some (.string n) := by simp
  have H := Aside0.mk (chosenS_calls 61 63 ⟨w.heap.size, 0, none⟩ (fun x => isB x n) (fun x => x.f1) A0 c0 l (w.alloc (.cells #[.string n] 9))
    (Kd.C_below hr HB0.out) hc hn (enters_ Tryd.func61 (by kernel_rfl) rfl) (enters_ Tryd.func63 (by kernel_rfl) rfl)
    (fun x hx W hW => get1_calls x n _ W (fitF_at hl x hx) hb ((hG.below HB0.out).below hW) (pw_cell_below hW hp0))
    (fun x _ W => get2_calls x W))
  clear hr hc hn hl hb hG hp0
  go_enter Tryd.func50, Tryd.ntmps50
  go_wp2_with fail
  refine H.out.mono ?_
  rintro e w1 ⟨v, rfl, ho, b1⟩
  have O1 := Aside0.mk (Kd.R_lower (base' := w.heap.size) ho (by simp))
  have B1 := Aside0.mk (below_step HB0.out b1)
  clear ho b1 H
  go_wp2
  go_ret
  exact ⟨v, rfl, O1.out, B1.out⟩
def field_Get.f (l0 : List S71) (a1 : ByteArray) : Option (List ByteArray) := if (decide (l0.length < 8796093022208) && fitF l0 && decide (a1.size ≤ 140737488355328)) = true then some (getL l0 a1) else none
theorem field_Get.calls (A0 : Option Addr) (c0 : Nat) (l0 : List S71) (a1 : ByteArray) (r : List ByteArray) (w : World) (hr0 : Kd.C k71 w A0 l0.length l0) (hc0 : l0.length ≤ c0) (hG : TabOk w) (h : field_Get.f l0 a1 = some r) :
    Calls Tryd.prog 50 #[.slice A0 l0.length c0, .string a1] w fun e w' => ∃ v0_ : Value, e = .returned (v0_) ∧ Kd.R Kd.string 9 w' w.heap.size (fun _ => True) v0_ r ∧ Below w.heap.size w w' := by
  unfold field_Get.f at h
  split at h
  · rename_i hh
    rw [Bool.and_eq_true, Bool.and_eq_true] at hh
    injection h with h
    subst h
    exact get_calls A0 c0 l0 a1 w hr0 hc0 (of_decide_eq_true hh.1.1) hh.1.2 (of_decide_eq_true hh.2) hG
  · cases h
def fitS (l : List ByteArray) : Bool := l.all fun x => decide (x.size ≤ 140737488355328)
def namedB (names : List ByteArray) (x : S71) : Bool := names.any fun n => isB x n
def withoutL (l : List S71) (names : List ByteArray) : List S71 := l.filter fun x => !(namedB names x)
def field_Without.f (l0 : List S71) (l1 : List ByteArray) : Option (List S71) := if (decide (l0.length < 4398046511104) && fitF l0 && decide (l1.length < 8796093022208) && fitS l1) = true then some (withoutL l0 l1) else none
end Go.Proofs.YtoanmbhenmlboaaDoorH
end
section
namespace Go.Proofs.YtoanmbhenmlboaaDoor.Pr
open Go.RowKit Go.Proofs.YtoanmbhenmlboaaDoorH Go.Proofs.YtoanmbhenmlboaaDoorW.PrintWords Go.Proofs.YtoanmbhenmlboaaDoorW.PrintLast Go.Proofs.YtoanmbhenmlboaaDoorW.PrintMore
attribute [local go_sem] max2_int min2_int max_two min_two max_three min_three max_four min_four   -- for this text's walks alone
set_option linter.unusedVariables false
set_option linter.unusedSimpArgs false
theorem eqA57 (d : Nat) (w : World) (x0 y0 : Int) (x1 y1 : Int) :
    (Op.equalIn (d + 2) 57 (.agg #[.int .i64 x0, .int .u64 x1]) (.agg #[.int .i64 y0, .int .u64 y1])).run Tryd.prog w = .ok (x0 == y0 && (x1 == y1)) w := by
  refine eqA_of Tryd.underlying57 (by kernel_rfl) ?_
  refine eqf_cons (by rfl) (by go_simp; rfl) (by go_simp; rfl) (by go_simp) ?_
  exact eqf_last (by rfl) (by go_simp; rfl) (by go_simp; rfl) (by go_simp)
end Go.Proofs.YtoanmbhenmlboaaDoor.Pr
end
section
namespace Go.Proofs.YtoanmbhenmlboaaDoorH
open Go.RowKit Go.Proofs.YtoanmbhenmlboaaDoorW.PrintWords Go.Proofs.YtoanmbhenmlboaaDoorW.PrintLast Go.Proofs.YtoanmbhenmlboaaDoorW.PrintMore
def strings_Cut.f (a0 a1 : ByteArray) : Option (ByteArray × ByteArray × Bool) := if a0.size < 4294967281 then some (⟨(Lib.cut a0.data.toList a1.data.toList).1.toArray⟩, ⟨(Lib.cut a0.data.toList a1.data.toList).2.1.toArray⟩, (Lib.cut a0.data.toList a1.data.toList).2.2) else none
theorem strings_Cut.calls (a0 a1 : ByteArray) (r1 r2 : ByteArray) (r3 : Bool) (w : World) (hG : TabOk w) (h : strings_Cut.f a0 a1 = some (r1, r2, r3)) :
    Calls Tryd.prog 76 #[.string a0, .string a1] w fun e w' => e = .returned (.tuple #[.string r1, .string r2, .bool r3]) ∧ Below w.heap.size w w' := by
  unfold strings_Cut.f at h
  split at h
  · rename_i hs
    injection h with h
    injection h with h1 h
    injection h with h2 h3
    subst h1 h2 h3
    obtain ⟨m, hm⟩ := hG.mx
    refine (Tryd.strings_Cut a0 a1 m w hs hm).mono ?_
    rintro e w' ⟨rfl, n, rfl⟩
    exact ⟨rfl, (show Drawn0 w (w.drewN n) from ⟨⟨n, rfl⟩⟩).below⟩
  · cases h
end Go.Proofs.YtoanmbhenmlboaaDoorH
end
section
namespace Go.Proofs.YtoanmbhenmlboaaDoorH
open Go Go.RowKit
theorem room_none {F : Fence} (hd : F.depth = none) (k : Nat) : F.room k := fun d h => by rw [hd] at h; cases h
theorem round_any {F : Fence} (hd : F.depth = none) {m m' : Nat} {P : Program} {l : Nat} {f : FuncId} {tmps : Array Value} {assign body : Code} {w : World} {R : Ending → World → Prop}
    (h : RoundIn F m P l f tmps assign body w R) : RoundIn F m' P l f tmps assign body w R := ⟨h.1, fun c cs _ => h.2 c cs (room_none hd _)⟩
def Abd {β : Type} (Z : Nat → Prop) (B : Nat) (J : β → Option Nat → World → Prop) : Prop :=
  ∀ s g A C row, J s g A → A.grownBy C row → (∀ r, row = some r → (B ≤ r ∧ some r ≠ g) ∨ Z r) → J s g C
structure Spares (K : Nat → Prop) (g g' : Option Nat) (W W' : World) : Prop where
  size : W.heap.size ≤ W'.heap.size
  own : g' = g ∨ ∃ b, g' = some b ∧ W.heap.size ≤ b ∧ b < W'.heap.size
  same : ∀ k, K k → k < W.heap.size → some k ≠ g → W'.heap[k]? = W.heap[k]?
theorem Spares.refl (K : Nat → Prop) (g : Option Nat) (W : World) : Spares K g g W W := ⟨Nat.le_refl _, .inl rfl, fun _ _ _ _ => rfl⟩
theorem Spares.trans {K : Nat → Prop} {g g' g'' : Option Nat} {A B C : World} (h : Spares K g g' A B) (h' : Spares K g' g'' B C) : Spares K g g'' A C := by
  refine ⟨Nat.le_trans h.size h'.size, ?_, fun k hk hlt hne => ?_⟩
  · rcases h'.own with e | ⟨b, e, hb, hb2⟩
    · rcases h.own with e2 | ⟨b, e2, hb, hb2⟩
      · exact .inl (e.trans e2)
      · exact .inr ⟨b, e.trans e2, hb, Nat.lt_of_lt_of_le hb2 h'.size⟩
    · exact .inr ⟨b, e, Nat.le_trans h.size hb, hb2⟩
  · refine (h'.same k hk (Nat.lt_of_lt_of_le hlt h.size) ?_).trans (h.same k hk hlt hne)
    rcases h.own with e | ⟨b, e, hb, _⟩
    · rw [e]; exact hne
    · rw [e]; intro h; cases h; omega
theorem Spares.imp {K K' : Nat → Prop} {g g' : Option Nat} {A B : World} (h : Spares K g g' A B) (hk : ∀ k, K' k → k < A.heap.size → K k) : Spares K' g g' A B := ⟨h.size, h.own, fun k a b c => h.same k (hk k a b) b c⟩
theorem grown_below {W W' : World} (h : Below W.heap.size W W') : W.grownBy W' none := ⟨h.os, h.tape, h.output, h.size, fun k hk _ => h.block k hk⟩
theorem Spares.below {K : Nat → Prop} {g : Option Nat} {W W' : World} (h : Below W.heap.size W W') : Spares K g g W W' := ⟨h.size, .inl rfl, fun k _ hk _ => h.block k hk⟩
theorem Spares.turned {K : Nat → Prop} {g : Option Nat} {W W' : World} {row : Option Nat} (h : W.grownBy W' row) (hr : ∀ r, row = some r → K r → some r = g) : Spares K g g W W' :=
  ⟨h.size, .inl rfl, fun k hk hlt hne => h.block k hlt (fun e => hne (hr k e.symm hk))⟩
theorem Abd.step {β : Type} {Z : Nat → Prop} {B : Nat} {I : β → Option Nat → World → Prop} (h : Abd Z B I) {s : β} {g : Option Nat} {W W' : World} (hs : I s g W) (hb : W.grownBy W' none) : I s g W' := h s g W _ none hs hb (fun r e => by cases e)
theorem Abd.putObj {β : Type} {Z : Nat → Prop} {B : Nat} {I : β → Option Nat → World → Prop} (h : Abd Z B I) {s : β} {g : Option Nat} {W : World} {l : Nat} (o' : Obj) (hs : I s g W) (hB : B ≤ l) (hl : some l ≠ g) : I s g (W.putObj l o') :=
  h s g W _ (some l) hs (grownBy_putObj' W l o') (fun r e => by cases e; exact .inl ⟨hB, hl⟩)
theorem Abd.alloc {β : Type} {Z : Nat → Prop} {B : Nat} {I : β → Option Nat → World → Prop} (h : Abd Z B I) {s : β} {g : Option Nat} {W : World} (o : Obj) (hs : I s g W) : I s g (W.alloc o) :=
  h.step hs (World.grownBy_alloc W o none)
theorem Abd.and {β : Type} {Z : Nat → Prop} {B : Nat} {I I' : β → Option Nat → World → Prop} (h : Abd Z B I) (h' : Abd Z B I') : Abd Z B (fun s g W => I s g W ∧ I' s g W) := fun s g A C row hs hg hr => ⟨h s g A C row hs.1 hg hr, h' s g A C row hs.2 hg hr⟩
theorem Abd.pure {β : Type} {Z : Nat → Prop} {B : Nat} (p : β → Option Nat → Prop) : Abd Z B (fun s g (_ : World) => p s g) := fun _ _ _ _ _ hs _ _ => hs
theorem Abd.imp {β : Type} {Z Z' : Nat → Prop} {B B' : Nat} {I : β → Option Nat → World → Prop} (h : Abd Z B I) (hB : B ≤ B') (hZ : ∀ r, Z' r → Z r) : Abd Z' B' I := fun s g A C row hs hg hr => h s g A C row hs hg (fun r e => (hr r e).elim (fun k => .inl ⟨Nat.le_trans hB k.1, k.2⟩) (fun k => .inr (hZ r k)))
theorem Abd.low {β : Type} {Z : Nat → Prop} {B n₀ : Nat} {w : World} (hB : n₀ ≤ B) (hw : n₀ ≤ w.heap.size) (hZ : ∀ r, Z r → n₀ ≤ r) : Abd Z B (fun (_ : β) _ W => Below n₀ w W) := fun _ _ _ _ _ hs hg hr =>
  hs.grown hg (Nat.le_trans hw hs.size) (fun k e => (hr k e).elim (fun h => Nat.le_trans hB h.1) (fun h => hZ k h))
theorem Abd.block {β : Type} {Z : Nat → Prop} {B b : Nat} (f : β → Obj) (hB : b < B) (hZ : ¬ Z b) : Abd Z B (fun (s : β) _ W => W.heap[b]? = some (f s)) := fun _ _ _ _ _ hs hg hr =>
  (hg.block b (Array.getElem?_eq_some_iff.1 hs).1 (fun e => (hr b e.symm).elim (fun h => by omega) (fun h => hZ h))).trans hs
def SeqO {α : Type} (F : Fence) (n : Nat) (P : Program) (gf : Nat) (lb : Array Value) (encs : α → Array Value) (Kz Z : Nat → Prop) (S Sp : List α → Prop) (w : World) : Prop :=
  ∀ (l : Nat) (J Jx : List α → Option Nat → World → Prop) (g0 : Option Nat) (W : World), Below w.heap.size w W → Abd Z W.heap.size J → Abd Z W.heap.size Jx → (∀ q, g0 = some q → ¬ Kz q ∧ q < W.heap.size) →
    (∀ m pre x g W1, J pre g W1 → Sp (pre ++ [x]) → YieldAt F m P l (encs x) W1 fun e W' => ∃ g', Spares (fun k => W.heap.size ≤ k ∨ Kz k) g g' W1 W' ∧
      ((e = .returned (.bool true) ∧ J (pre ++ [x]) g' W') ∨ (e = .returned (.bool false) ∧ Jx (pre ++ [x]) g' W'))) →
    J [] g0 W →
    CallsIn F n P gf (#[.func (.yield l) #[] #[]] ++ lb) W fun e W' => (∃ v, e = .returned v) ∧ ((∃ xs g, S xs ∧ J xs g W') ∨ (∃ pre g, Sp pre ∧ Jx pre g W'))
def leftO {α : Type} (K : Nat → Prop) (I : List α → Option Nat → World → Prop) (Ix : Code → List α → Option Nat → World → Prop) (xs : List α) (g : Option Nat) (W : World) : Exit → Act → World → Prop
  | .normal, _, W' => ∃ g', Spares K g g' W W' ∧ I xs g' W'
  | .ret, _, W' => ∃ g', Spares K g g' W W' ∧ Ix .ret xs g' W'
  | .exit id, _, W' => ∃ g', Spares K g g' W W' ∧ Ix (.exit id) xs g' W'
  | .goto t, _, W' => ∃ g', Spares K g g' W W' ∧ Ix (.goto t) xs g' W'
  | .panic _, _, _ => False
  | .outgrown, _, _ => False
theorem wpIn_range_own {F : Fence} {n : Nat} {P : Program} {α : Type} {f : Operand} {ps : Array Tmp} {assign body : Code} {Q : Exit → Act → World → Prop} {a : Act} {w : World}
    (hd : F.depth = none) (hro : F.round = none) (h1 : 1 ≤ n) {gf : Nat} {lb : Array Value} (hf : a.eval f = .func (.func gf) #[] lb) (hFg : F.fn gf) (eg : ∀ args w, (callFunc gf args).run P w = .ok (.enter gf args) w)
    {encs : α → Array Value} {Kz Z : Nat → Prop} {S Sp : List α → Prop} {w0 : World} (hseq : SeqO F (n - 1) P gf lb encs Kz Z S Sp w0)
    (hb0 : Below w0.heap.size w0 w) (hZ : ∀ r, Z r → r < w.heap.size) (hKz : ∀ r, Kz r → r < w.heap.size) (hps : ∀ x, (encs x).size = ps.size)
    (g0 : Option Nat) (hg0 : ∀ q, g0 = some q → ¬ Kz q ∧ q < w.heap.size) (I : List α → Option Nat → World → Prop) (Ix : Code → List α → Option Nat → World → Prop) (hI : Abd Z w.heap.size I) (hIx : ∀ c, Abd Z w.heap.size (Ix c)) (h0 : I [] g0 w)
    (hIg : ∀ pre g W q, I pre g W → g = some q → q < w.heap.size ∨ w.heap.size + 2 ≤ q) (hIxg : ∀ c pre g W q, Ix c pre g W → g = some q → q < w.heap.size ∨ w.heap.size + 2 ≤ q)
    (Ax : α → Act → World → Prop) (hAx : ∀ x a', Abd (fun _ => False) w.heap.size (fun (_ : Unit) (_ : Option Nat) W => Ax x a' W))
    (hassign : ∀ (l : Nat) (pre : List α) (x : α) (g : Option Nat) (W : World) (K : Act → World → Prop), I pre g W → (∀ a' W', Spares (fun k => w.heap.size ≤ k ∨ Kz k) g g W W' → I pre g W' → Ax x a' W' → K a' W') →
      assign.wpIn (F.inRound l) (n - 1 - 1) P (Exit.then K (fun _ _ _ => False)) { tmps := (ps.zip (encs x)).foldl (fun t (p, v) => t.setIfInBounds p v) a.tmps, defers := [] } W)
    (hbody : ∀ (l : Nat) (pre : List α) (x : α) (g : Option Nat) (a' : Act) (W : World), w.heap.size + 2 ≤ W.heap.size → I pre g W → Ax x a' W → Sp (pre ++ [x]) → body.wpIn (F.inRound l) (n - 1 - 1) P (leftO (fun k => w.heap.size ≤ k ∨ Kz k) I Ix (pre ++ [x]) g W) a' W)
    (hdone : ∀ (D : Nat) (xs : List α) (g : Option Nat) (W : World), D = w.heap.size → S xs → I xs g W → W.heap[D]? = some (.deferred (some [])) → Q .normal { a with defers := { target := .collected D, args := #[] } :: a.defers } W)
    (hstop : ∀ (D : Nat) (c : Code) (pre : List α) (g : Option Nat) (W : World), D = w.heap.size → Sp pre → Ix c pre g W → W.heap[D]? = some (.deferred (some [])) → c.wpIn F n P Q { a with defers := { target := .collected D, args := #[] } :: a.defers } W) :
    (Code.rangeFunc f ps assign body).wpIn F n P Q a w := by
  refine wpIn_rangeFunc ?_
  intro fn hfn
  rw [hro]
  obtain ⟨rec, hrec⟩ : ∃ rec : LoopState → Option Code → Loop, rec = fun st pe => { state := st, pending := pe, fn, tmps := a.tmps, params := ps, assign, body, defers := w.heap.size } := ⟨_, rfl⟩
  obtain ⟨W1, hW1⟩ : ∃ W1, (w.alloc (.deferred (some []))).alloc (.loop (rec .ready none)) = W1 := ⟨_, rfl⟩
  have hsz : W1.heap.size = w.heap.size + 2 := by rw [← hW1, World.size_alloc, World.size_alloc]
  have hL1 : W1.heap[w.heap.size + 1]? = some (.loop (rec .ready none)) := by
    rw [← hW1]; have := World.alloc_heap_new (w.alloc (.deferred (some []))) (.loop (rec .ready none)); rwa [World.size_alloc] at this
  have hK1 : W1.heap[w.heap.size]? = some (.deferred (some [])) := by
    rw [← hW1]; exact (Below.heap_alloc _ _ _ (by simp)).trans (World.alloc_heap_new w _)
  have hI1 : I [] g0 W1 := by rw [← hW1]; exact hI.alloc _ (hI.alloc _ h0)
  have hb1 : Below w0.heap.size w0 W1 := by
    rw [← hW1]; exact hb0.trans ((((Below.refl _ w).alloc (Nat.le_refl _) _).alloc (by simp) _).mono hb0.size)
  refine ⟨w.heap.size + 1, [{ target := .collected w.heap.size, args := #[] }], W1, { target := .fn (.func gf) lb, args := #[.func (.yield (w.heap.size + 1)) #[] #[]] }, W1, gf,
    #[.func (.yield (w.heap.size + 1)) #[] #[]] ++ lb, W1, ?_, ?_, ?_, ?_, fun _ => h1, ?_⟩
  · rw [← hW1, hrec]; exact run_enterLoop_outer _ _ _ _ _
  · simp only [resolve, hf]
    simp [go_sem]
  · intro f' hf'; simp [Target.leads] at hf'; subst hf'; exact hFg
  · simp [invoke, go_sem, eg]
  · -- which blocks the iterator turns, said of the caller's side
    have hrow : ∀ {g : Option Nat} {row : Option Nat}, (∀ r, row = some r → (W1.heap.size ≤ r ∧ some r ≠ g) ∨ Z r) → (∀ r, row = some r → (w.heap.size ≤ r ∧ some r ≠ g) ∨ Z r) :=
      fun hr r e => (hr r e).elim (fun k => .inl ⟨by have := k.1; omega, k.2⟩) .inr
    have hlies : ∀ {A C : World} {g : Option Nat} {row : Option Nat} {k : Nat} {o : Obj}, A.grownBy C row → (∀ r, row = some r → (W1.heap.size ≤ r ∧ some r ≠ g) ∨ Z r) → w.heap.size ≤ k → k < W1.heap.size → A.heap[k]? = some o → C.heap[k]? = some o :=
      fun hg' hr h2 h3 hk => (hg'.block _ (Array.getElem?_eq_some_iff.1 hk).1 (fun e => (hr _ e.symm).elim (fun k => by have := k.1; omega) (fun k => by have := hZ _ k; omega))).trans hk
    refine (hseq (w.heap.size + 1)
      (fun pre g W => I pre g W ∧ W.heap[w.heap.size + 1]? = some (.loop (rec .ready none)) ∧ W.heap[w.heap.size]? = some (.deferred (some [])))
      (fun pre g W => ∃ c, Ix c pre g W ∧ W.heap[w.heap.size + 1]? = some (.loop (rec .done (some c))) ∧ W.heap[w.heap.size]? = some (.deferred (some [])))
      g0 W1 hb1
      (fun s g A B row hs hg' hr => ⟨hI s g A B row hs.1 hg' (hrow hr), hlies hg' hr (by omega) (by omega) hs.2.1, hlies hg' hr (by omega) (by omega) hs.2.2⟩)
      (fun s g A B row hs hg' hr => by
        obtain ⟨c, hc, hl, hk⟩ := hs
        exact ⟨c, hIx c s g A B row hc hg' (hrow hr), hlies hg' hr (by omega) (by omega) hl, hlies hg' hr (by omega) (by omega) hk⟩)
      (fun q e => ⟨(hg0 q e).1, by have := (hg0 q e).2; omega⟩) ?_ ⟨hI1, hL1, hK1⟩).mono ?_
    · -- one round
      rintro m pre x g W ⟨hi, hl, hk⟩ hlen
      have hlt : w.heap.size + 1 < W.heap.size := (Array.getElem?_eq_some_iff.1 hl).1
      have hy := run_yield (P := P) (args := encs x) hl (by rw [hrec]; exact hps x)
      rw [hrec] at hy
      refine ⟨fn, _, assign, body, hy, round_any hd (m := n - 1 - 1) (roundIn_of_wpIn hfn (hassign _ pre x g W _ hi ?_))⟩
      clear hy
      intro a' Wa hsa hia hax
      have hgq : ∀ q, g = some q → q < w.heap.size ∨ w.heap.size + 2 ≤ q := fun q e => hIg pre g W q hi e
      have hl := (hsa.same _ (.inl (by omega)) hlt (fun e => by have := hgq _ e.symm; omega)).trans hl
      have hk := (hsa.same w.heap.size (.inl (Nat.le_refl _)) (by omega) (fun e => by have := hgq _ e.symm; omega)).trans hk
      have hlt2 : w.heap.size + 1 < Wa.heap.size := (Array.getElem?_eq_some_iff.1 hl).1
      refine ⟨_, run_beginRound hl (by rw [hrec]), ?_⟩
      obtain ⟨Wb, hWb⟩ : ∃ Wb, Wa.putObj (w.heap.size + 1) (.loop { rec .ready none with state := .busy }) = Wb := ⟨_, rfl⟩
      have hl2 : Wb.heap[w.heap.size + 1]? = some (.loop { rec .ready none with state := .busy }) := by rw [← hWb]; exact World.putObj_heap_same hlt2
      have hk2 : Wb.heap[w.heap.size]? = some (.deferred (some [])) := by rw [← hWb]; exact (World.putObj_heap_other (by omega)).trans hk
      have hne : some (w.heap.size + 1) ≠ g := fun e => by have := hgq _ e.symm; omega
      have hIb : I pre g Wb := by rw [← hWb]; exact hI.putObj _ hia (by omega) hne
      have hAb : Ax x a' Wb := by rw [← hWb]; exact (hAx x a').putObj (s := ()) (g := none) _ hax (by omega) (by simp)
      have hzz : ∀ k, (W1.heap.size ≤ k ∨ Kz k) → (w.heap.size ≤ k ∨ Kz k) := fun k h => h.elim (fun h => .inl (by omega)) .inr
      have hsb : Spares (fun k => W1.heap.size ≤ k ∨ Kz k) g g Wa Wb := by
        rw [← hWb]; exact Spares.turned (grownBy_putObj' _ _ _) (fun j e hj => by cases e; rcases hj with h | h; exact absurd h (by omega); have := hKz _ h; omega)
      have hs2 : Spares (fun k => W1.heap.size ≤ k ∨ Kz k) g g W Wb := (hsa.imp (fun k h _ => hzz k h)).trans hsb
      rw [hWb]
      refine wpIn_mono (hbody _ pre x g a' _ (Array.getElem?_eq_some_iff.1 hl2).1 hIb hAb hlen) ?_
      have fin : ∀ (jump : Option Code) (g' : Option Nat) (W3 : World), Spares (fun k => w.heap.size ≤ k ∨ Kz k) g g' Wb W3 →
          (Instr.endRound (w.heap.size + 1) jump).run P W3 = .ok (.bool jump.isNone) (W3.putObj (w.heap.size + 1) (.loop (rec (if jump.isNone then .ready else .done) jump))) ∧
          (W3.putObj (w.heap.size + 1) (.loop (rec (if jump.isNone then .ready else .done) jump))).heap[w.heap.size + 1]? = some (.loop (rec (if jump.isNone then .ready else .done) jump)) ∧
          (W3.putObj (w.heap.size + 1) (.loop (rec (if jump.isNone then .ready else .done) jump))).heap[w.heap.size]? = some (.deferred (some [])) ∧
          Spares (fun k => W1.heap.size ≤ k ∨ Kz k) g g' W (W3.putObj (w.heap.size + 1) (.loop (rec (if jump.isNone then .ready else .done) jump))) := fun jump g' W3 hk3 => by
        have hl3 := (hk3.same _ (.inl (by omega)) (Array.getElem?_eq_some_iff.1 hl2).1 hne).trans hl2
        have hk4 := (hk3.same w.heap.size (.inl (Nat.le_refl _)) (Array.getElem?_eq_some_iff.1 hk2).1 (fun e => by have := hgq _ e.symm; omega)).trans hk2
        have := run_endRound (P := P) jump hl3
        rw [hrec] at this ⊢
        exact ⟨this, World.putObj_heap_same (Array.getElem?_eq_some_iff.1 hl3).1, (World.putObj_heap_other (by omega)).trans hk4,
          hs2.trans ((hk3.imp (fun k h _ => hzz k h)).trans (Spares.turned (grownBy_putObj' _ _ _) (fun j e hj => by cases e; rcases hj with h | h; exact absurd h (by omega); have := hKz _ h; omega)))⟩
      have hng : ∀ {g' : Option Nat}, (∀ q, g' = some q → q < w.heap.size ∨ w.heap.size + 2 ≤ q) → some (w.heap.size + 1) ≠ g' := fun h e => by have := h _ e.symm; omega
      rintro e a3 W3 hp
      cases e with
      | normal =>
        obtain ⟨g', hk3, hi3⟩ := hp
        obtain ⟨hr, hl4, hk4, hs4⟩ := fin none g' W3 hk3
        exact ⟨_, _, hr, g', hs4, .inl ⟨rfl, hI.putObj _ hi3 (by omega) (hng (fun q e => hIg _ _ _ q hi3 e)), hl4, hk4⟩⟩
      | ret =>
        obtain ⟨g', hk3, hi3⟩ := hp
        obtain ⟨hr, hl4, hk4, hs4⟩ := fin (some .ret) g' W3 hk3
        exact ⟨_, _, hr, g', hs4, .inr ⟨rfl, .ret, (hIx _).putObj _ hi3 (by omega) (hng (fun q e => hIxg _ _ _ _ q hi3 e)), hl4, hk4⟩⟩
      | exit id =>
        obtain ⟨g', hk3, hi3⟩ := hp
        obtain ⟨hr, hl4, hk4, hs4⟩ := fin (some (.exit id)) g' W3 hk3
        exact ⟨_, _, hr, g', hs4, .inr ⟨rfl, .exit id, (hIx _).putObj _ hi3 (by omega) (hng (fun q e => hIxg _ _ _ _ q hi3 e)), hl4, hk4⟩⟩
      | goto t =>
        obtain ⟨g', hk3, hi3⟩ := hp
        obtain ⟨hr, hl4, hk4, hs4⟩ := fin (some (.goto t)) g' W3 hk3
        exact ⟨_, _, hr, g', hs4, .inr ⟨rfl, .goto t, (hIx _).putObj _ hi3 (by omega) (hng (fun q e => hIxg _ _ _ _ q hi3 e)), hl4, hk4⟩⟩
      | panic ch => exact hp.elim
      | outgrown => exact hp.elim
    · -- behind the iterator
      rintro e W2 ⟨⟨v, rfl⟩, (⟨xs, g, hS, hi, hl, hk⟩ | ⟨pre, g, hSp, c, hi, hl, hk⟩)⟩
      · exact ⟨none, _, by have := run_endLoop (P := P) hl (by rw [hrec]; simp); rw [hrec] at this; exact this, hdone _ xs g _ rfl hS (hI.putObj _ hi (by omega) (fun e => by have := hIg _ _ _ _ hi e.symm; omega)) ((World.putObj_heap_other (by omega)).trans hk)⟩
      · exact ⟨some c, _, by have := run_endLoop (P := P) hl (by rw [hrec]; simp); rw [hrec] at this; exact this, hstop _ c pre g _ rfl hSp ((hIx c).putObj _ hi (by omega) (fun e => by have := hIxg _ _ _ _ _ hi e.symm; omega)) ((World.putObj_heap_other (by omega)).trans hk)⟩
structure Lies (K : Nat → Prop) (W W' : World) : Prop where
  size : W.heap.size ≤ W'.heap.size
  same : ∀ k, K k → k < W.heap.size → W'.heap[k]? = W.heap[k]?
theorem Lies.refl (K : Nat → Prop) (W : World) : Lies K W W := ⟨Nat.le_refl _, fun _ _ _ => rfl⟩
theorem Lies.trans {K : Nat → Prop} {A B C : World} (h : Lies K A B) (h' : Lies K B C) : Lies K A C := ⟨Nat.le_trans h.size h'.size, fun k hk hlt => (h'.same k hk (Nat.lt_of_lt_of_le hlt h.size)).trans (h.same k hk hlt)⟩
theorem Lies.below {K : Nat → Prop} {A B : World} (h : Below A.heap.size A B) : Lies K A B := ⟨h.size, fun k _ hk => h.block k hk⟩
theorem Lies.imp {K K' : Nat → Prop} {A B : World} (h : Lies K A B) (hk : ∀ k, K' k → K k) : Lies K' A B := ⟨h.size, fun k a => h.same k (hk k a)⟩
theorem Lies.grown {K : Nat → Prop} {A B : World} {row : Option Nat} (h : A.grownBy B row) (hr : ∀ r, row = some r → ¬ K r) : Lies K A B := ⟨h.size, fun k hk hlt => h.block k hlt (fun e => hr k e.symm hk)⟩
theorem Spares.lies {K K' : Nat → Prop} {g g' : Option Nat} {A B : World} (h : Spares K g g' A B) (hk : ∀ k, K' k → k < A.heap.size → K k ∧ some k ≠ g) : Lies K' A B := ⟨h.size, fun k a b => h.same k (hk k a b).1 b (hk k a b).2⟩
theorem Lies.cell {K : Nat → Prop} {A B : World} (h : Lies K A B) {p : Addr} {v : Value} (hk : K p.block) (hc : A.cell? p = some v) : B.cell? p = some v :=
  (World.cell?_of_block (h.same p.block hk (World.block_lt_of_cell? A p hc))).trans hc
theorem Lies.box {K : Nat → Prop} {A B : World} (h : Lies K A B) {b : Nat} {t : TypeId} {v : Value} (hk : K b) (hc : Boxed A b t v) : Boxed B b t v := (h.same b hk hc.lt).trans hc
theorem Spares.lt {K : Nat → Prop} {g g' : Option Nat} {A B : World} (h : Spares K g g' A B) (hg : ∀ q, g = some q → q < A.heap.size) : ∀ q, g' = some q → q < B.heap.size := by
  intro q e
  rcases h.own with e' | ⟨b, e', hb, hb2⟩
  · exact Nat.lt_of_lt_of_le (hg q (e' ▸ e)) h.size
  · rw [e] at e'; cases e'; exact hb2
theorem Spares.not {K Kz : Nat → Prop} {g g' : Option Nat} {A B : World} (h : Spares K g g' A B) (hn : ∀ k, Kz k → k < A.heap.size) (hg : ∀ q, g = some q → ¬ Kz q) : ∀ q, g' = some q → ¬ Kz q := by
  intro q e
  rcases h.own with e' | ⟨b, e', hb, _⟩
  · exact hg q (e' ▸ e)
  · rw [e] at e'; cases e'
    intro hk
    have := hn q hk
    omega
theorem collected {K : Nat → Prop} {W w1 : World} {n₀ B : Nat} {t e : TypeId} {size : Nat} {v v1 : Value} {k m : Nat} {xs ys : List Value}
    (hv : Boxed W B t v) (hte : t ≠ e) (hrow : W.ownsRow n₀ e size v k xs) (hKB : ¬ K B) (hB : n₀ ≤ B)
    (hown' : w1.ownsRow n₀ e size v1 m ys) (hg : W.grownBy w1 v.ownBlock) (hat : v1.ownBlock = v.ownBlock ∨ ∃ b, v1.ownBlock = some b ∧ W.heap.size ≤ b) :
    Boxed w1 B t v ∧ Boxed (w1.setCell ⟨B, 0, none⟩ v1) B t v1 ∧ (w1.setCell ⟨B, 0, none⟩ v1).ownsRow n₀ e size v1 m ys ∧ Spares K v.ownBlock v1.ownBlock W (w1.setCell ⟨B, 0, none⟩ v1) ∧ Below n₀ W (w1.setCell ⟨B, 0, none⟩ v1) := by
  have hv1 : Boxed w1 B t v := hv.kept hg (hv.not_row hte hrow)
  have hlt1 : ∀ b, v1.ownBlock = some b → b < (w1.setCell ⟨B, 0, none⟩ v1).heap.size := fun b e => by
    have h2 := (grownBy_setCell' w1 B v1).size
    rcases hown'.2 with ⟨rfl, _⟩ | ⟨g, cap, cur, rfl, _, hh, _⟩
    · simp [Value.ownBlock] at e
    · obtain rfl : g = b := by simpa [Value.ownBlock] using e
      exact Nat.lt_of_lt_of_le (Array.getElem?_eq_some_iff.1 hh).1 h2
  refine ⟨hv1, hv1.set v1, hown'.kept (grownBy_setCell' w1 B v1) (.inr (hv1.not_row hte hown').symm), ⟨?_, hat.imp id (fun ⟨b, e, hb⟩ => ⟨b, e, hb, hlt1 b e⟩), ?_⟩, ?_⟩
  · exact Nat.le_trans hg.size (grownBy_setCell' w1 B v1).size
  · intro k hk hlt hne
    refine ((grownBy_setCell' w1 B v1).block k (Nat.lt_of_lt_of_le hlt hg.size) (fun e => ?_)).trans (hg.block k hlt hne)
    cases e
    exact hKB hk
  · refine ((Below.refl n₀ W).grown hg (Nat.le_trans hB (Nat.le_of_lt hv.lt)) fun j ej => ?_).setCell (p := ⟨B, 0, none⟩) hB v1
    rcases hrow.2 with ⟨rfl, _⟩ | ⟨g, cap, cur, rfl, hb, _, _⟩
    · simp [Value.ownBlock] at ej
    · obtain rfl : g = j := by simpa [Value.ownBlock] using ej
      exact hb
end Go.Proofs.YtoanmbhenmlboaaDoorH
end
section
namespace Go.Proofs.YtoanmbhenmlboaaDoorH
open Go.RowKit Go.Proofs.YtoanmbhenmlboaaDoorW.PrintWords Go.Proofs.YtoanmbhenmlboaaDoorW.PrintLast Go.Proofs.YtoanmbhenmlboaaDoorW.PrintMore
theorem TabOk.lies {w A C : World} {K : Nat → Prop} (hw : TabOk w) (hA : Lies (fun k => k < w.heap.size) w A) (hK : ∀ k, k < w.heap.size → K k) (h : Lies K A C) : TabOk C := by
  have hc : ∀ {p : Addr} {v : Value}, w.cell? p = some v → C.cell? p = some v := fun {p v} hp =>
    h.cell (hK p.block (World.block_lt_of_cell? w p hp)) (hA.cell (World.block_lt_of_cell? w p hp) hp)
  refine ⟨hc hw.c0, hc hw.c1, hc hw.c2, hc hw.c3, hc hw.c4, hc hw.c5, ?_⟩
  obtain ⟨m, hm⟩ := hw.mx
  exact ⟨m, hc hm⟩
end Go.Proofs.YtoanmbhenmlboaaDoorH
end
section
namespace Go.Proofs.YtoanmbhenmlboaaDoorH
open Go
def splitL (c : UInt8) : List UInt8 → List (List UInt8)
  | [] => [[]]
  | b :: l => if b == c then [] :: splitL c l else match splitL c l with
    | [] => [[b]]
    | p :: ps => (b :: p) :: ps
theorem splitL_ne (c : UInt8) : ∀ l : List UInt8, splitL c l ≠ []
  | [] => by simp [splitL]
  | b :: l => by
    unfold splitL
    split
    · simp
    · split <;> simp
theorem splitL_cons_ne (c b : UInt8) (l : List UInt8) (h : (b == c) = false) : ∃ p ps, splitL c l = p :: ps ∧ splitL c (b :: l) = (b :: p) :: ps := by
  cases hs : splitL c l with
  | nil => exact absurd hs (splitL_ne c l)
  | cons p ps => exact ⟨p, ps, rfl, by rw [splitL, if_neg (by simp [h]), hs]⟩
theorem splitL_cons_eq (c b : UInt8) (l : List UInt8) (h : (b == c) = true) : splitL c (b :: l) = [] :: splitL c l := by rw [splitL, if_pos h]
theorem splitL_none (c : UInt8) : ∀ l : List UInt8, l.findIdx (· == c) = l.length → splitL c l = [l]
  | [], _ => rfl
  | b :: l, h => by
    rw [List.findIdx_cons] at h
    cases hb : b == c with
    | true => rw [hb] at h; simp at h
    | false =>
      rw [hb] at h
      simp only [cond_false, List.length_cons] at h
      obtain ⟨p, ps, h1, h2⟩ := splitL_cons_ne c b l hb
      rw [splitL_none c l (by omega)] at h1
      cases h1
      exact h2
theorem splitL_some (c : UInt8) : ∀ l : List UInt8, l.findIdx (· == c) < l.length → splitL c l = l.take (l.findIdx (· == c)) :: splitL c (l.drop (l.findIdx (· == c) + 1))
  | [], h => by simp at h
  | b :: l, h => by
    rw [List.findIdx_cons] at h ⊢
    cases hb : b == c with
    | true => rw [splitL_cons_eq c b l hb]; rfl
    | false =>
      rw [hb] at h
      simp only [cond_false, List.length_cons] at h ⊢
      obtain ⟨p, ps, h1, h2⟩ := splitL_cons_ne c b l hb
      have ih := splitL_some c l (by omega)
      rw [ih] at h1
      cases h1
      rw [h2]
      rfl
theorem splitL_append (c : UInt8) : ∀ a b : List UInt8, splitL c (a ++ c :: b) = splitL c a ++ splitL c b
  | [], b => by rw [List.nil_append, splitL_cons_eq c c b (by simp)]; rfl
  | x :: a, b => by
    have ih := splitL_append c a b
    rw [List.cons_append]
    cases hx : x == c with
    | true => rw [splitL_cons_eq c x _ hx, splitL_cons_eq c x _ hx, ih]; rfl
    | false =>
      obtain ⟨p, ps, h1, h2⟩ := splitL_cons_ne c x (a ++ c :: b) hx
      obtain ⟨p', ps', h3, h4⟩ := splitL_cons_ne c x a hx
      rw [h2, h4]
      rw [ih, h3] at h1
      rw [List.cons_append] at h1
      injection h1 with h5 h6
      subst h5 h6
      rfl
theorem splitL_size (c : UInt8) : ∀ (l : List UInt8) (p : List UInt8), p ∈ splitL c l → p.length ≤ l.length
  | [], p, h => by simp [splitL] at h; subst h; exact Nat.le_refl _
  | b :: l, p, h => by
    cases hb : b == c with
    | true =>
      rw [splitL_cons_eq c b l hb] at h
      rcases List.mem_cons.1 h with h | h
      · subst h; simp
      · have := splitL_size c l p h
        simp only [List.length_cons]; omega
    | false =>
      obtain ⟨q, qs, h1, h2⟩ := splitL_cons_ne c b l hb
      rw [h2] at h
      rcases List.mem_cons.1 h with h | h
      · subst h
        have := splitL_size c l q (by rw [h1]; exact List.mem_cons_self)
        simp only [List.length_cons]; omega
      · have := splitL_size c l p (by rw [h1]; exact List.mem_cons_of_mem _ h)
        simp only [List.length_cons]; omega
theorem splitL_count (c : UInt8) : ∀ l : List UInt8, (splitL c l).length ≤ l.length + 1
  | [] => by simp [splitL]
  | b :: l => by
    have ih := splitL_count c l
    cases hb : b == c with
    | true => rw [splitL_cons_eq c b l hb]; simp only [List.length_cons]; omega
    | false =>
      obtain ⟨q, qs, h1, h2⟩ := splitL_cons_ne c b l hb
      rw [h2]
      rw [h1] at ih
      simp only [List.length_cons] at ih ⊢; omega
theorem indexByte_at : ∀ (l : List UInt8) (c : UInt8), Lib.indexByte l c = if l.findIdx (· == c) < l.length then ((l.findIdx (· == c) : Nat) : Int) else -1
  | [], c => rfl
  | b :: l, c => by
    unfold Lib.indexByte
    rw [List.findIdx_cons, indexByte_at l c]
    cases h : b == c with
    | true => simp
    | false =>
      simp only [cond_false, List.length_cons]
      by_cases h2 : l.findIdx (· == c) < l.length
      · have e1 : (((List.findIdx (· == c) l : Nat) : Int) == -1) = false := by rw [beq_eq_false_iff_ne]; omega
        have e2 : List.findIdx (· == c) l + 1 < l.length + 1 := by omega
        simp only [if_pos h2, if_pos e2, e1, Bool.false_eq_true, if_false]
        omega
      · have e2 : ¬ List.findIdx (· == c) l + 1 < l.length + 1 := by omega
        simp only [if_neg h2, if_neg e2]
        rfl
theorem index_at (l : List UInt8) (c : UInt8) : Lib.index l [c] = if l.findIdx (· == c) < l.length then ((l.findIdx (· == c) : Nat) : Int) else -1 :=
  (Lib.index_one _ _).trans (indexByte_at l c)
end Go.Proofs.YtoanmbhenmlboaaDoorH
end
section
namespace Go.Proofs.YtoanmbhenmlboaaDoorH
open Go.RowKit Go.Shelf Go.Proofs.YtoanmbhenmlboaaDoorW.PrintWords Go.Proofs.YtoanmbhenmlboaaDoorW.PrintLast Go.Proofs.YtoanmbhenmlboaaDoorW.PrintMore
attribute [local go_sem] Oper.semAt_some
def partsB (s : ByteArray) : List ByteArray := (splitL 44 s.data.toList).map fun l => ⟨l.toArray⟩
theorem partsB_none (s : ByteArray) (h : s.data.toList.findIdx (· == 44) = s.data.toList.length) : partsB s = [s] := by
  unfold partsB
  rw [splitL_none _ _ h]
  show [(⟨s.data.toList.toArray⟩ : ByteArray)] = [s]
  rw [show (⟨s.data.toList.toArray⟩ : ByteArray) = s from bytes_ext (by simp)]
theorem partsB_some (s : ByteArray) (k : Nat) (h : s.data.toList.findIdx (· == 44) = k) (hk : k < s.size) : partsB s = s.extract 0 k :: partsB (s.extract (k + 1) s.size) := by
  rw [size_eq_length] at hk
  have := splitL_some 44 s.data.toList (by rw [h]; exact hk)
  unfold partsB
  rw [this, List.map_cons, h, extract_from]
  congr 1
  exact bytes_ext (by rw [extract_to])
theorem partsB_length (s : ByteArray) : (partsB s).length ≤ s.size + 1 := by
  unfold partsB
  rw [List.length_map, size_eq_length]
  exact splitL_count _ _
theorem partsB_size (s : ByteArray) : ∀ p ∈ partsB s, p.size ≤ s.size := by
  intro p hp
  obtain ⟨l, hl, rfl⟩ := List.mem_map.1 hp
  rw [size_eq_length s]
  exact splitL_size 44 _ l hl
def szAt (W : World) (b : Nat) : Nat := match W.cell? ⟨b, 0, none⟩ with | some (.string s) => s.size | _ => 0
theorem szAt_box {W : World} {b : Nat} {t : TypeId} {s : ByteArray} (h : Boxed W b t (.string s)) : szAt W b = s.size := by
  unfold szAt
  rw [h.cell]
theorem splitSeq_calls (s p : ByteArray) (k : Int) (w : World) :
    Calls Tryd.prog 81 #[.string s, .string p, .int .i64 k] w fun e w' => e = .returned (.func (.func 85) #[] #[.pointer (some ⟨w.heap.size + 1, 0, none⟩), .pointer (some ⟨w.heap.size, 0, none⟩), .pointer (some ⟨w.heap.size + 2, 0, none⟩)]) ∧
      w' = ((w.alloc (.cells #[.string s] 9)).alloc (.cells #[.string p] 9)).alloc (.cells #[.int .i64 k] 3) := by
  go_enter Tryd.func81, Tryd.ntmps81
  go_wp2
  go_ret
  exact ⟨rfl, rfl⟩
theorem SplitSeq_calls (s p : ByteArray) (w : World) :
    Calls Tryd.prog 74 #[.string s, .string p] w fun e w' => e = .returned (.func (.func 85) #[] #[.pointer (some ⟨w.heap.size + 1, 0, none⟩), .pointer (some ⟨w.heap.size, 0, none⟩), .pointer (some ⟨w.heap.size + 2, 0, none⟩)]) ∧
      w' = ((w.alloc (.cells #[.string s] 9)).alloc (.cells #[.string p] 9)).alloc (.cells #[.int .i64 0] 3) := by
  have H := Aside0.mk (splitSeq_calls s p 0 w)
  go_enter Tryd.func74, Tryd.ntmps74
  go_wp2_with fail
  refine H.out.mono ?_
  rintro e w' ⟨rfl, rfl⟩
  go_wp2
  go_ret
  exact ⟨rfl, rfl⟩
def Kz3 (n a b c : Nat) (k : Nat) : Prop := k < n ∨ k = a ∨ k = b ∨ k = c
set_option maxRecDepth 100000 in
set_option maxHeartbeats 2000000 in
theorem split_own (n : Nat) (hn : 1 ≤ n) (Bp Bs Bk : Nat) (s : ByteArray) (hs : s.size < 4294967281) (w : World) (hG : TabOk w) (W0 : World) (hw0 : Lies (fun k => k < w.heap.size) w W0)
    (hp0 : Boxed W0 Bp 9 (.string ⟨#[44]⟩)) (hs0 : Boxed W0 Bs 9 (.string s)) (hk0 : Boxed W0 Bk 3 (.int .i64 0)) (hne : Bp ≠ Bs) (hne2 : Bk ≠ Bs) (hBs : w.heap.size ≤ Bs) :
    SeqO Fence.wide n Tryd.prog 85 #[.pointer (some ⟨Bp, 0, none⟩), .pointer (some ⟨Bs, 0, none⟩), .pointer (some ⟨Bk, 0, none⟩)] (fun x : ByteArray => #[.string x]) (Kz3 w.heap.size Bp Bs Bk) (fun k => k = Bs) (fun ys => ys = partsB s) (fun pre => pre <+: partsB s) W0 := by
  intro l J Jx g0 W hW hJ hJx hg0 hY h0
  have hw1 : Lies (fun k => k < w.heap.size) w W := hw0.trans (Lies.below hW)
  have hp : Boxed W Bp 9 (.string ⟨#[44]⟩) := (hW.block _ hp0.lt).trans hp0
  have hsb : Boxed W Bs 9 (.string s) := (hW.block _ hs0.lt).trans hs0
  have hk : Boxed W Bk 3 (.int .i64 0) := (hW.block _ hk0.lt).trans hk0
  have l1 := hp.lt
  have l2 := hsb.lt
  have l3 := hk.lt
  have l4 := hw1.size
  clear hW hp0 hs0 hk0 hw0
  have hpc := hp.cell
  refine callsIn_of_wp Tryd.func85 rfl trivial ?_ rfl
  simp only [Tryd.ntmps85, List.size_toArray, List.length_cons, List.length_nil, Nat.reduceAdd, Nat.reduceSub, Array.replicate_succ, Array.replicate_zero, List.push_toArray, List.append_toArray, List.nil_append, List.cons_append]
  gi_wp2
  gi_loopw [7] (fun v7 wr => ∃ (r : ByteArray) (pre : List ByteArray) (g : Option Nat), r.size ≤ s.size ∧ Aside0 (partsB s = pre ++ partsB r) ∧ Aside0 (J pre g wr) ∧ Aside0 (∀ q, g = some q → ¬ Kz3 w.heap.size Bp Bs Bk q) ∧ Aside0 (Lies (fun k => (k < w.heap.size ∨ k = Bp) ∨ k = Bk) W wr) ∧ Aside0 (Boxed wr Bs 9 (.string r)))
    (fun _ wr => szAt wr Bs)
  case atStart => exact ⟨s, [], g0, Nat.le_refl _, ⟨rfl⟩, ⟨h0⟩, ⟨fun q e => (hg0 q e).1⟩, ⟨Lies.refl _ _⟩, ⟨hsb⟩⟩
  case round =>
    obtain ⟨r, pre, g, hrs, hE, hJs, hgq, hnx, hbx⟩ := hrel
    have hcp := (hnx.out.box (.inl (.inr rfl)) hp).cell
    have hck := (hnx.out.box (.inr rfl) hk).cell
    have hcs := hbx.out.cell
    obtain ⟨m, hm⟩ := (hG.lies hw1 (fun k hk => .inl (.inl hk)) hnx.out).mx
    have HC := Aside0.mk (Tryd.strings_Index r (⟨#[44]⟩ : ByteArray) m wr (by omega) hm)
    rw [show (⟨#[44]⟩ : ByteArray).data.toList = [44] from rfl, index_at] at HC
    obtain ⟨k, hkk⟩ : ∃ k, r.data.toList.findIdx (· == 44) = k := ⟨_, rfl⟩
    have hkle : k ≤ r.data.toList.length := by rw [← hkk]; exact List.findIdx_le_length
    rw [← size_eq_length] at hkle
    clear hm
    by_cases hlt : k < r.size
    · rw [hkk, ← size_eq_length, if_pos hlt] at HC
      have HP := Aside0.mk (partsB_some r k hkk hlt)
      clear hkk
      gi_wp2
      refine ⟨trivial, ?_⟩
      refine (callsIn_wide.2 HC.out).mono ?_
      rintro e w1 ⟨rfl, rfl⟩
      have HPP := Aside0.mk (show pre ++ [r.extract 0 k] <+: partsB s by rw [hE.out, HP.out]; exact ⟨_, by rw [List.append_assoc]; rfl⟩)
      obtain ⟨fn, tmps, assign, body, hy, hR⟩ := hY (n - 1) pre (r.extract 0 k) g w1 hJs.out HPP.out
      have HR := Aside0.mk hR
      clear hR HC
      gi_wp2
      refine HR.out.mono ?_
      rintro e W3 ⟨g', hsp, (⟨rfl, hJ3⟩ | ⟨rfl, hJx3⟩)⟩
      · have HJ3 := Aside0.mk hJ3
        have hlz : ∀ k, (((k < w.heap.size ∨ k = Bp) ∨ k = Bk) ∨ k = Bs) → k < w1.heap.size → (W.heap.size ≤ k ∨ Kz3 w.heap.size Bp Bs Bk k) ∧ some k ≠ g := fun k hk _ => by
          have hz : Kz3 w.heap.size Bp Bs Bk k := by
            unfold Kz3
            rcases hk with ((hk | hk) | hk) | hk
            · exact .inl hk
            · exact .inr (.inl hk)
            · exact .inr (.inr (.inr hk))
            · exact .inr (.inr (.inl hk))
          exact ⟨.inr hz, fun e => hgq.out k e.symm hz⟩
        have HL3 := Aside0.mk (hsp.lies hlz)
        have HG3 := Aside0.mk (hsp.not (Kz := Kz3 w.heap.size Bp Bs Bk) (fun k hk => by have := hnx.out.size; unfold Kz3 at hk; rcases hk with hk | hk | hk | hk <;> omega) hgq.out)
        have hb3 := HL3.out.box (.inr rfl) hbx.out
        have hl3 := HL3.out.imp (K' := fun k => (k < w.heap.size ∨ k = Bp) ∨ k = Bk) (fun k h => .inl h)
        have HX3 := Aside0.mk (hnx.out.trans hl3)
        have hcs3 := hb3.cell
        have hcf3 := hb3.frozen
        have hcp3 := (HX3.out.box (.inl (.inr rfl)) hp).cell
        have hz : (r.extract (k + 1) r.size).size = r.size - (k + 1) := by rw [size_eq_length, extract_from, List.length_drop, ← size_eq_length]
        have HB4 := Aside0.mk (hb3.set (.string (r.extract (k + 1) r.size)))
        have HJ4 := Aside0.mk (hJ _ _ _ _ _ HJ3.out (grownBy_setCell' W3 Bs (.string (r.extract (k + 1) r.size))) (fun q e => .inr (by cases e; rfl)))
        have HL4 := Aside0.mk (HX3.out.trans (Lies.grown (K := fun k => (k < w.heap.size ∨ k = Bp) ∨ k = Bk) (grownBy_setCell' W3 Bs (.string (r.extract (k + 1) r.size))) (fun q e h => by cases e; rcases h with (h | h) | h <;> omega)))
        have HZ := Aside0.mk (szAt_box hbx.out)
        have HZ4 := Aside0.mk (szAt_box HB4.out)
        clear hsp hJ3 hlz hb3 hl3
        gi_wp2
        go_roundw
        case rel => exact ⟨r.extract (k + 1) r.size, pre ++ [r.extract 0 k], g', by omega, ⟨by rw [hE.out, HP.out, List.append_assoc]; rfl⟩, HJ4, HG3, HL4, HB4⟩
        case measure => first | (rw [HZ.out, HZ4.out]; omega) | (simp only [HZ.out, HZ4.out]; omega)
      · gi_wp2
        refine bodyPost_ret (results_none rfl _ _ _) rfl ?_
        exact ⟨⟨_, rfl⟩, .inr ⟨_, g', HPP.out, hJx3⟩⟩
    · rw [hkk, ← size_eq_length, if_neg hlt] at HC
      have HP := Aside0.mk (partsB_none r (by rw [hkk, ← size_eq_length]; omega))
      clear hkk
      gi_wp2
      refine ⟨trivial, ?_⟩
      refine (callsIn_wide.2 HC.out).mono ?_
      rintro e w1 ⟨rfl, rfl⟩
      have HPP := Aside0.mk (show pre ++ [r] <+: partsB s by rw [hE.out, HP.out]; exact ⟨[], by rw [List.append_nil]⟩)
      have HE2 := Aside0.mk (show partsB s = pre ++ [r] by rw [hE.out, HP.out])
      obtain ⟨fn, tmps, assign, body, hy, hR⟩ := hY (n - 1) pre r g w1 hJs.out HPP.out
      have HR := Aside0.mk hR
      clear hR HC
      gi_wp2
      refine HR.out.mono ?_
      rintro e W3 ⟨g', hsp, (⟨rfl, hJ3⟩ | ⟨rfl, hJx3⟩)⟩
      · gi_wp2
        go_end0
        exact ⟨⟨_, rfl⟩, .inl ⟨_, g', rfl, by rw [HE2.out]; exact hJ3⟩⟩
      · gi_wp2
        go_end0
        exact ⟨⟨_, rfl⟩, .inr ⟨_, g', HPP.out, hJx3⟩⟩
end Go.Proofs.YtoanmbhenmlboaaDoorH
end
section
namespace Go.Proofs.YtoanmbhenmlboaaDoorH
open Go
theorem stepR_scope {P : Program} {b : Frame} {a : Act} {k : List Item} {cs : List Frame} {w : World} {c : Code} : step P (lone (b.atR a (.code (.scope c) :: k)) cs w) = .next (lone (b.atR a (.code c :: .inScope c :: k)) cs w) :=
  step_lone_go (by simp [stepG, stepG.exec, Frame.atR])
theorem stepR_inScope {P : Program} {b : Frame} {a : Act} {k : List Item} {cs : List Frame} {w : World} {c : Code} : step P (lone (b.atR a (.inScope c :: k)) cs w) = .next (lone (b.atR a k) cs w) :=
  step_lone_go (by simp [stepG, stepG.exec, Frame.atR])
theorem wpIn_scope_straight {F : Fence} {n : Nat} {P : Program} {Q : Exit → Act → World → Prop} {a : Act} {w : World} {c : Code} (h : c.wpIn F n P (Exit.noGoto Q) a w) : (Code.scope c).wpIn F n P Q a w := by
  intro b k cs hro hb hr
  have h0 : (lone (b.atR a (.code (.scope c) :: k)) cs w).fenced P F := fenced_calm hb hr rfl
  obtain ⟨e, a₁, w₁, hq, harr⟩ := h b (.inScope c :: k) cs hro hb hr
  cases e with
  | normal => exact ⟨.normal, a₁, w₁, hq, .head h0 stepR_scope (StepsIn.trans harr (.one (fenced_calm hb hr rfl) stepR_inScope))⟩
  | exit id =>
    have hx : exitTo id (.inScope c :: k) = exitTo id k := by simp [exitTo]
    exact ⟨.exit id, a₁, w₁, hq, fun k' hk => .head h0 stepR_scope (harr.1 k' (by rw [hx]; exact hk)),
      fun hr' hk => let ⟨k₁, h1, h2⟩ := harr.2 hr' (by rw [hx]; exact hk); ⟨k₁, h1, .head h0 stepR_scope h2⟩⟩
  | goto l => exact hq.elim
  | ret => exact ⟨_, a₁, w₁, hq, .of_steps (.one h0 stepR_scope) (show ArrivesIn _ _ _ _ k _ _ _ _ from harr)⟩
  | panic ch => exact ⟨_, a₁, w₁, hq, .of_steps (.one h0 stepR_scope) (show ArrivesIn _ _ _ _ k _ _ _ _ from harr)⟩
  | outgrown => exact ⟨_, a₁, w₁, hq, .of_steps (.one h0 stepR_scope) (show ArrivesIn _ _ _ _ k _ _ _ _ from harr)⟩
end Go.Proofs.YtoanmbhenmlboaaDoorH
end
section
namespace Go.Proofs.YtoanmbhenmlboaaDoorH
open Go Go.RowKit Go.Proofs.YtoanmbhenmlboaaDoorW.PrintWords Go.Proofs.YtoanmbhenmlboaaDoorW.PrintLast Go.Proofs.YtoanmbhenmlboaaDoorW.PrintMore
theorem any_append {F : Fence} {n : Nat} {P : Program} {ops : Array Oper} {o : Oper} {a : Act} {Q : Exit → Act → World → Prop} {K : Act → World → Prop} {W : World} (base : Nat) (hw : Region.wanted o (yielded ops a.tmps) = true) (s x : Operand) (t e : TypeId) (z : Value) (size bytes : Nat)
    (ho : o.op = .call { callee := .builtin .append, args := #[s, x], argTypes := #[t, t] })
    (ht : P.underlying t = some (.slice e)) (hinfo : (P.info? e).map (fun i => (i.zero, i.size, i.bytes)) = some (some z, size, bytes)) (hz : z.cells.size = size) (hs0 : 0 < size) (hb0 : 0 < bytes)
    (v : Value) (k : Nat) (xs ys : List Value) (hs : a.eval s = v) (hx : a.eval x = .slice (some ⟨W.heap.size, 0, none⟩) 1 1) (hys : ys.length = size) (h1 : ∀ u ∈ ys, u.oneCell' = true)
    (HO : W.ownsRow base e size v k xs) (hbase : base ≤ W.heap.size) (hl : (k + 1) * bytes ≤ 140737488355328)
    (h : ∀ v1 w1, w1.ownsRow base e size v1 (k + 1) (xs ++ ys) → W.grownBy w1 v.ownBlock → (v1.ownBlock = v.ownBlock ∨ ∃ b, v1.ownBlock = some b ∧ W.heap.size ≤ b) → K (a.put o.dst v1) w1) :
    if Region.wanted o (yielded ops a.tmps) = true then Oper.wpIn F n P o a (W.alloc (.cells ys.toArray e)) K Q else (∀ f, o.about P (W.alloc (.cells ys.toArray e)) a.eval = some f → F.fn f) ∧ K (a.put o.dst undef) (W.alloc (.cells ys.toArray e)) := by
  obtain ⟨i0, hi, hzz⟩ := Option.map_eq_some_iff.1 hinfo
  simp only [Prod.mk.injEq] at hzz
  obtain ⟨hz0, hz1, hz2⟩ := hzz
  have hlen : k + 1 ≤ 140737488355328 := Nat.le_trans (Nat.le_mul_of_pos_right _ hb0) hl
  rw [if_pos hw]
  obtain ⟨v1, w1, hr, hown, hg, _, hat⟩ := run_append_own_at (P := P) (W.alloc (.cells ys.toArray e)) base t o.type e i0 z size bytes ht hi hz0 hz1 hz2 hz hs0 v k xs (HO.alloc _) ⟨W.heap.size, 0, none⟩ 1 1 ys (by rw [hys]; simp)
    (by simpa using World.news_of_block (cs := ys.toArray) (t := e) (fr := (0, 0)) (heap_alloc_new W (.cells ys.toArray e))) h1 (by simp only [maxLen]; omega) hl (by simp; omega)
  unfold Oper.wpIn
  refine ⟨?_, ?_⟩
  · simp [Oper.about, ho, resolve, Target.leads, Sem.run_pure]
  · rw [Oper.semAt_plain F _ _ (by rw [ho]; intro c hc'; cases hc')]
    simp [execOp, ho, resolve, invoke, builtin, hs, hx, hr, Result.andThen]
    refine h v1 w1 hown (World.grownBy.trans (World.grownBy_alloc W _ _) hg) ?_
    rcases hat with hat | hat
    · exact .inl hat
    · exact .inr ⟨_, hat, by simp⟩
end Go.Proofs.YtoanmbhenmlboaaDoorH
end
section
namespace Go.Proofs.YtoanmbhenmlboaaDoorH
open Go.RowKit Go.Shelf Go.Proofs.YtoanmbhenmlboaaDoorW.PrintWords Go.Proofs.YtoanmbhenmlboaaDoorW.PrintLast Go.Proofs.YtoanmbhenmlboaaDoorW.PrintMore
attribute [local go_sem] Oper.semAt_some
def itemsP (s : ByteArray) : List ByteArray := ((partsB s).map trimS).filter fun x => decide (x.size ≠ 0)
def partItem (p : ByteArray) : List ByteArray := if (trimS p).size = 0 then [] else [trimS p]
theorem itemsP_flat (s : ByteArray) : itemsP s = (partsB s).flatMap partItem := by
  unfold itemsP
  induction partsB s with
  | nil => rfl
  | cons p l ih =>
    rw [List.map_cons, List.flatMap_cons, partItem]
    by_cases h : (trimS p).size = 0
    · rw [if_pos h, List.filter_cons_of_neg (by simpa using h), ih]; rfl
    · rw [if_neg h, List.filter_cons_of_pos (by simpa using h), ih]; rfl
def itemsF : Nat → List ByteArray → List (Nat × ByteArray)
  | _, [] => []
  | i, v :: l => ((itemsP v).map fun x => (i, x)) ++ itemsF (i + 1) l
theorem itemsF_take : ∀ (l : List ByteArray) (i k : Nat), k < l.length → itemsF i (l.take (k + 1)) = itemsF i (l.take k) ++ ((itemsP (l.getD k ByteArray.empty)).map fun x => (i + k, x))
  | [], i, k, h => absurd h (Nat.not_lt_zero _)
  | v :: l, i, 0, _ => by simp [itemsF]
  | v :: l, i, k + 1, h => by
    have ih := itemsF_take l (i + 1) k (by simpa using h)
    rw [List.take_succ_cons, itemsF, ih, List.take_succ_cons, itemsF, List.append_assoc, show i + 1 + k = i + (k + 1) by omega]
    rfl
theorem flat_prefix {a b : List ByteArray} (h : a <+: b) : a.flatMap partItem <+: b.flatMap partItem := by
  obtain ⟨r, rfl⟩ := h
  exact ⟨r.flatMap partItem, by rw [List.flatMap_append]⟩
theorem itemsF_drop : ∀ (l : List ByteArray) (i k : Nat), k ≤ l.length → itemsF i l = itemsF i (l.take k) ++ itemsF (i + k) (l.drop k)
  | l, i, 0, _ => by simp [itemsF]
  | [], i, k + 1, h => absurd h (by simp)
  | v :: l, i, k + 1, h => by
    have ih := itemsF_drop l (i + 1) k (by simpa using h)
    rw [itemsF, ih, List.take_succ_cons, itemsF, List.append_assoc, List.drop_succ_cons, show i + 1 + k = i + (k + 1) by omega]
def soFar (xs : List ByteArray) (k : Nat) (pre : List ByteArray) : List (Nat × ByteArray) := itemsF 0 (xs.take k) ++ ((pre.flatMap partItem).map fun y => (k, y))
theorem soFar_prefix (xs : List ByteArray) (k : Nat) (hk : k < xs.length) (x : ByteArray) (hT : itemsF 0 (xs.take (k + 1)) = itemsF 0 (xs.take k) ++ ((itemsP x).map fun y => (0 + k, y))) (pre : List ByteArray) (h : pre <+: partsB x) : soFar xs k pre <+: itemsF 0 xs := by
  obtain ⟨r, hr⟩ := flat_prefix h
  rw [itemsF_drop xs 0 (k + 1) (by omega), hT, itemsP_flat, ← hr, List.map_append]
  refine ⟨(r.map fun y => (0 + k, y)) ++ itemsF (0 + (k + 1)) (xs.drop (k + 1)), ?_⟩
  unfold soFar
  simp only [Nat.zero_add, List.append_assoc]
theorem soFar_snoc_nil (xs : List ByteArray) (k : Nat) (pre : List ByteArray) (p : ByteArray) (h : (trimS p).size = 0) : soFar xs k (pre ++ [p]) = soFar xs k pre := by
  unfold soFar
  rw [List.flatMap_append, List.flatMap_singleton, partItem, if_pos h, List.append_nil]
theorem soFar_snoc (xs : List ByteArray) (k : Nat) (pre : List ByteArray) (p : ByteArray) (h : ¬ (trimS p).size = 0) : soFar xs k (pre ++ [p]) = soFar xs k pre ++ [(k, trimS p)] := by
  unfold soFar
  rw [List.flatMap_append, List.flatMap_singleton, partItem, if_neg h, List.map_append, List.append_assoc]
  rfl
theorem soFar_whole (xs : List ByteArray) (k : Nat) (x : ByteArray) (hT : itemsF 0 (xs.take (k + 1)) = itemsF 0 (xs.take k) ++ ((itemsP x).map fun y => (0 + k, y))) : soFar xs k (partsB x) = itemsF 0 (xs.take (k + 1)) := by
  unfold soFar
  rw [hT, itemsP_flat, Nat.zero_add]
def KrI (n Bv Y r : Nat) (g : Option Nat) (j : Nat) : Prop := (j < n ∨ j = Bv) ∨ (Y ≤ j ∧ j ≤ r ∧ some j ≠ g)
def gF (g : Option Nat) (m : Nat) (g' : Option Nat) : Prop := ∀ q, g' = some q → some q = g ∨ m ≤ q
theorem gF.step {g g' g'' : Option Nat} {m : Nat} {K : Nat → Prop} {A B : World} (h : gF g m g') (hs : Spares K g' g'' A B) (hm : m ≤ A.heap.size) : gF g m g'' := by
  intro q e
  rcases hs.own with e' | ⟨b, e', hb, _⟩
  · exact h q (e' ▸ e)
  · rw [e] at e'; cases e'; exact .inr (by omega)
def encI (x : Nat × ByteArray) : Array Value := #[.int .i64 (x.1 : Int), .string x.2]
theorem items_calls (A0 : Option Addr) (n c : Nat) (w : World) :
    Calls Tryd.prog 57 #[.slice A0 n c] w fun e w' => e = .returned (.func (.func 73) #[] #[.pointer (some ⟨w.heap.size, 0, none⟩)]) ∧ w' = w.alloc (.cells #[.slice A0 n c] 38) := by
  go_enter Tryd.func57, Tryd.ntmps57
  go_wp2
  go_ret
  exact ⟨rfl, rfl⟩
def Marked (B : Nat) (ds : List Deferred) (g : Option Nat) (W : World) : Prop :=
  ∃ Ds : List Nat, ds = Ds.map (fun D => ({ target := .collected D, args := #[] } : Deferred)) ∧ Ds.Nodup ∧ ∀ D ∈ Ds, W.heap[D]? = some (.deferred (some [])) ∧ B ≤ D ∧ some D ≠ g
theorem Marked.nil (B : Nat) (g : Option Nat) (W : World) : Marked B [] g W := ⟨[], rfl, List.nodup_nil, fun _ h => absurd h List.not_mem_nil⟩
theorem Marked.lies {B : Nat} {ds : List Deferred} {g g' : Option Nat} {A C : World} (h : Marked B ds g A) (hs : Lies (fun k => B ≤ k ∧ k < A.heap.size ∧ some k ≠ g) A C) (hg : ∀ q, g' = some q → some q = g ∨ A.heap.size ≤ q) : Marked B ds g' C := by
  obtain ⟨Ds, e, hn, hD⟩ := h
  refine ⟨Ds, e, hn, fun D hm => ?_⟩
  obtain ⟨h1, h2, h3⟩ := hD D hm
  have hlt := (Array.getElem?_eq_some_iff.1 h1).1
  refine ⟨(hs.same D ⟨h2, hlt, h3⟩ hlt).trans h1, h2, fun e => ?_⟩
  rcases hg D e.symm with hg | hb
  · exact h3 hg
  · omega
theorem Marked.cons {B D : Nat} {ds : List Deferred} {g : Option Nat} {W : World} (h : Marked B ds g W) (hD : W.heap[D]? = some (.deferred (some []))) (hB : B ≤ D) (hg : some D ≠ g) (hnew : ∀ E, ({ target := .collected E, args := #[] } : Deferred) ∈ ds → E < D) :
    Marked B ({ target := .collected D, args := #[] } :: ds) g W := by
  obtain ⟨Ds, rfl, hn, hDs⟩ := h
  refine ⟨D :: Ds, rfl, List.nodup_cons.2 ⟨fun hm => ?_, hn⟩, fun E hE => ?_⟩
  · have := hnew D (List.mem_map.2 ⟨D, hm, rfl⟩)
    omega
  · rcases List.mem_cons.1 hE with rfl | hE
    · exact ⟨hD, hB, hg⟩
    · exact hDs E hE
theorem Marked.lt {B : Nat} {ds : List Deferred} {g : Option Nat} {W : World} (h : Marked B ds g W) : ∀ E, ({ target := .collected E, args := #[] } : Deferred) ∈ ds → E < W.heap.size := by
  obtain ⟨Ds, rfl, hn, hDs⟩ := h
  intro E hE
  obtain ⟨D, hD, he⟩ := List.mem_map.1 hE
  have : D = E := by injection he with h1 h2; injection h1
  subst this
  exact (Array.getElem?_eq_some_iff.1 (hDs D hD).1).1
theorem leave_marks {F : Fence} {n : Nat} {P : Program} {fn : Func} {tmps : Array Value} {R : Ending → World → Prop} {B : Nat} {g : Option Nat} (hres : ∀ (tmps : Array Value) (w : World), (results fn tmps).run P w = .ok (.tuple #[]) w)
    (C : World → Prop) (hC : ∀ W D, C W → B ≤ D → some D ≠ g → C (W.putObj D (.deferred none))) (hR : ∀ W, C W → R (.returned (.tuple #[])) W) : ∀ (ds : List Deferred) (W : World), C W → Marked B ds g W → LeavesInM F n P fn tmps R ds .returning W
  | [], W, hc, _ => ⟨_, hres tmps W, hR W hc⟩
  | d :: ds, W, hc, hm => by
    obtain ⟨Ds, e, hn, hD⟩ := hm
    cases Ds with
    | nil => cases e
    | cons D Ds =>
      rw [List.map_cons] at e
      injection e with e1 e2
      subst e1
      obtain ⟨h1, h2, h3⟩ := hD D List.mem_cons_self
      refine ⟨by simp, .inl ⟨D, _, rfl, run_takeDeferred h1, leave_marks hres C hC hR ds _ (hC W D hc h2 h3) ⟨Ds, e2, (List.nodup_cons.1 hn).2, fun E hE => ?_⟩⟩⟩
      obtain ⟨q1, q2, q3⟩ := hD E (List.mem_cons_of_mem _ hE)
      exact ⟨(World.putObj_heap_other (fun e => (List.nodup_cons.1 hn).1 (by subst e; exact hE))).trans q1, q2, q3⟩
set_option maxRecDepth 100000 in
set_option maxHeartbeats 2000000 in
theorem items_own (n : Nat) (hn : 5 ≤ n) (Bv : Nat) (A0 : Option Addr) (c0 : Nat) (xs : List ByteArray) (hxs : ∀ x ∈ xs, x.size ≤ 1000000) (hc0 : xs.length ≤ c0) (hlen : xs.length ≤ 1000000000) (w : World) (hG : TabOk w) (hr : Kd.C Kd.string w A0 xs.length xs)
    (W0 : World) (hw0 : Lies (fun k => k < w.heap.size) w W0) (hv0 : Boxed W0 Bv 38 (.slice A0 xs.length c0)) (hBv : w.heap.size ≤ Bv) :
    SeqO Fence.wide n Tryd.prog 73 #[.pointer (some ⟨Bv, 0, none⟩)] encI (fun k => k < w.heap.size ∨ k = Bv) (fun _ => False) (fun ys => ys = itemsF 0 xs) (fun pre => pre <+: itemsF 0 xs) W0 := by
  intro l J Jx g0 W hW hJ hJx hg0 hY h0
  have h1 : 1 ≤ n := by omega
  have hw1 : Lies (fun k => k < w.heap.size) w W := hw0.trans (Lies.below hW)
  have hv : Boxed W Bv 38 (.slice A0 xs.length c0) := (hW.block _ hv0.lt).trans hv0
  have l1 := hv.lt
  have l4 := hw1.size
  clear hW hv0 hw0
  have hvc := (hv.alloc (.cells #[.func (.yield l) #[] #[]] 107)).cell
  refine callsIn_of_wp_marks Tryd.func73 rfl trivial ?_ rfl
  simp only [Tryd.ntmps73, List.size_toArray, List.length_cons, List.length_nil, Nat.reduceAdd, Nat.reduceSub, Array.replicate_succ, Array.replicate_zero, List.push_toArray, List.append_toArray, List.nil_append, List.cons_append]
  gi_wp2
  refine wpIn_scope_straight ?_
  gi_wp2
  apply wpIn_label
  gi_wp2
  refine wpIn_loop (fun a W' => ∃ (k : Nat) (ds : List Deferred) (g : Option Nat) (u3 u4 u5 u6 u10 u11 u12 u13 u14 u15 u16 u17 u18 u19 u20 u21 u22 u23 u24 u25 u26 u27 u28 : Value), k ≤ xs.length ∧ a = { tmps := #[.func (.yield l) #[] #[], .pointer (some ⟨Bv, 0, none⟩), .pointer (some ⟨W.heap.size, 0, none⟩), u3, u4, u5, u6, .slice A0 xs.length c0, .int .i64 (xs.length : Int), .int .i64 (k : Int), u10, u11, u12, u13, u14, u15, u16, u17, u18, u19, u20, u21, u22, u23, u24, u25, u26, u27, u28], defers := ds } ∧ Aside0 (Marked W.heap.size ds g W') ∧ Aside0 (J (itemsF 0 (xs.take k)) g W') ∧
      Aside0 (∀ q, g = some q → (¬ (q < w.heap.size ∨ q = Bv) ∧ q ≠ W.heap.size) ∧ q < W'.heap.size) ∧ Aside0 (Lies (fun j => (j < w.heap.size ∨ j = Bv) ∨ j = W.heap.size) (W.alloc (.cells #[.func (.yield l) #[] #[]] 107)) W'))
    (fun a _ => xs.length - (intOf (a.tmps.getD 9 undef)).toNat) ?start ?round
  case start =>
    exact ⟨0, [], g0, undef, undef, undef, undef, undef, undef, undef, undef, undef, undef, undef, undef, undef, undef, undef, undef, undef, undef, undef, undef, undef, undef, undef, Nat.zero_le _, rfl, ⟨Marked.nil _ _ _⟩, ⟨hJ.alloc _ h0⟩,
      ⟨fun q e => ⟨⟨(hg0 q e).1, by have := (hg0 q e).2; omega⟩, by have := (hg0 q e).2; rw [World.size_alloc]; omega⟩⟩, ⟨Lies.refl _ _⟩⟩
  case round =>
    rintro a wr ⟨k, ds, g, u3, u4, u5, u6, u10, u11, u12, u13, u14, u15, u16, u17, u18, u19, u20, u21, u22, u23, u24, u25, u26, u27, u28, hk, rfl, hM, hJs, hgq, hnx⟩
    have hsz := hnx.out.size
    rw [World.size_alloc] at hsz
    have hYb := Aside0.mk (hnx.out.box (.inr rfl) (Boxed.new W 107 (.func (.yield l) #[] #[])))
    by_cases hlt : k < xs.length
    · obtain ⟨ad, e, hx0⟩ := at_str hr k hlt
      subst e
      have hadb : (ad.add k).block < w.heap.size := World.block_lt_of_cell? w _ hx0
      have hx1 := hw1.cell (p := ad.add k) hadb hx0
      have hx2 := hnx.out.cell (p := ad.add k) (.inl (.inl hadb)) ((Lies.below (K := fun j => j < w.heap.size) (below_alloc (Below.refl _ W) (.cells #[.func (.yield l) #[] #[]] 107))).cell (p := ad.add k) hadb hx1)
      have HT := Aside0.mk (itemsF_take xs 0 k hlt)
      have hxz := hxs _ (mem_getD xs ByteArray.empty k hlt)
      generalize xs.getD k ByteArray.empty = x at *
      have HC := Aside0.mk (SplitSeq_calls x ⟨#[44]⟩ (wr.alloc (.cells #[.int .i64 (k : Int)] 3)))
      clear hx0 hx1
      gi_wp2
      refine ⟨trivial, ?_⟩
      refine (callsIn_wide.2 HC.out).mono ?_
      rintro e w1 ⟨rfl, rfl⟩
      clear HC
      gi_wp2
      generalize hw4 : (((wr.alloc (.cells #[.int .i64 (k : Int)] 3)).alloc (.cells #[.string x] 9)).alloc (.cells #[.string ⟨#[44]⟩] 9)).alloc (.cells #[.int .i64 0] 3) = w4
      have s4 : w4.heap.size = wr.heap.size + 4 := by rw [← hw4]; simp only [World.size_alloc]
      have HW4 := Aside0.mk (show Below wr.heap.size wr w4 by rw [← hw4]; exact below_alloc (below_alloc (below_alloc (below_alloc (Below.refl _ _) _) _) _) _)
      have HBi := Aside0.mk (show Boxed w4 wr.heap.size 3 (.int .i64 (k : Int)) by rw [← hw4]; exact (((Boxed.new wr _ _).alloc _).alloc _).alloc _)
      have HBs := Aside0.mk (show Boxed w4 (wr.heap.size + 1) 9 (.string x) by
        have := Boxed.new (wr.alloc (.cells #[.int .i64 (k : Int)] 3)) 9 (.string x)
        rw [World.size_alloc] at this
        rw [← hw4]; exact (this.alloc _).alloc _)
      have HBp := Aside0.mk (show Boxed w4 (wr.heap.size + 1 + 1) 9 (.string ⟨#[44]⟩) by
        have := Boxed.new ((wr.alloc (.cells #[.int .i64 (k : Int)] 3)).alloc (.cells #[.string x] 9)) 9 (.string ⟨#[44]⟩)
        rw [World.size_alloc, World.size_alloc] at this
        rw [← hw4]; exact this.alloc _)
      have HBk := Aside0.mk (show Boxed w4 (wr.heap.size + 1 + 2) 3 (.int .i64 0) by
        have := Boxed.new (((wr.alloc (.cells #[.int .i64 (k : Int)] 3)).alloc (.cells #[.string x] 9)).alloc (.cells #[.string ⟨#[44]⟩] 9)) 3 (.int .i64 0)
        rw [World.size_alloc, World.size_alloc, World.size_alloc] at this
        rw [← hw4]; exact this)
      clear hw4
      have HJ4 := Aside0.mk (show J (soFar xs k []) g w4 by unfold soFar; rw [List.flatMap_nil, List.map_nil, List.append_nil]; exact hJ.step hJs.out (grown_below HW4.out))
      have HGL := Aside0.mk (show ∀ q, g = some q → q < wr.heap.size from fun q e => (hgq.out q e).2)
      have HLw := Aside0.mk (show Lies (fun j => j < w.heap.size) w w4 from hw1.trans ((Lies.below (K := fun j => j < w.heap.size) (below_alloc (Below.refl _ W) (.cells #[.func (.yield l) #[] #[]] 107))).trans ((hnx.out.imp (fun j h => .inl (.inl h))).trans (Lies.below HW4.out))))
      have HTW := Aside0.mk (show ∀ W', Lies (KrI w.heap.size Bv W.heap.size wr.heap.size g) w4 W' → TabOk W' from fun W' h => hG.lies HLw.out (fun j h => .inl (.inl h)) h)
      have HSQ := Aside0.mk (split_own (n - 1) (by omega) (wr.heap.size + 1 + 1) (wr.heap.size + 1) (wr.heap.size + 1 + 2) x (by omega) w hG w4 HLw.out HBp.out HBs.out HBk.out (by omega) (by omega) (by omega))
      have HAb : ∀ (T : List (Nat × ByteArray) → Option Nat → World → Prop), Abd (fun _ => False) W.heap.size T → Abd (fun j => j = wr.heap.size + 1) w4.heap.size (fun (pre : List ByteArray) g' W' => T (soFar xs k pre) g' W' ∧ gF g (wr.heap.size + 6) g' ∧ (∀ q, g' = some q → q < W'.heap.size) ∧ Lies (KrI w.heap.size Bv W.heap.size wr.heap.size g) w4 W') := by
        rintro T hT pre g' A C row ⟨hj, hgf, hlt', hl⟩ hgr hrow
        refine ⟨hT _ g' A C row hj hgr (fun r e => .inl ?_), hgf, fun q e => Nat.lt_of_lt_of_le (hlt' q e) hgr.size, hl.trans (Lies.grown hgr (fun r e hk => ?_))⟩
        · rcases hrow r e with ⟨h1, h2⟩ | h
          · exact ⟨by omega, h2⟩
          · refine ⟨by omega, fun e2 => ?_⟩
            rcases hgf r e2.symm with e3 | h3
            · have := HGL.out r e3.symm
              omega
            · omega
        · have : w4.heap.size ≤ r ∨ r = wr.heap.size + 1 := (hrow r e).imp (fun h => h.1) id
          rcases hk with (hk | hk) | hk <;> omega
      refine wpIn_range_own (F := Fence.wide) rfl rfl h1 (gf := 85) (lb := #[.pointer (some ⟨wr.heap.size + 1 + 1, 0, none⟩), .pointer (some ⟨wr.heap.size + 1, 0, none⟩), .pointer (some ⟨wr.heap.size + 1 + 2, 0, none⟩)]) rfl trivial (enters_of Tryd.func85 (by kernel_rfl) rfl) HSQ.out (Below.refl _ _)
        (fun r h => by omega) (fun r h => by unfold Kz3 at h; omega) (fun _ => rfl) g (fun q e => ⟨fun h => by have := hgq.out q e; unfold Kz3 at h; rcases h with h | h | h | h; exact this.1.1 (.inl h); all_goals omega, by have := HGL.out q e; omega⟩)
        (fun pre g' W' => J (soFar xs k pre) g' W' ∧ gF g (wr.heap.size + 6) g' ∧ (∀ q, g' = some q → q < W'.heap.size) ∧ Lies (KrI w.heap.size Bv W.heap.size wr.heap.size g) w4 W')
        (fun c pre g' W' => (Jx (soFar xs k pre) g' W' ∧ gF g (wr.heap.size + 6) g' ∧ (∀ q, g' = some q → q < W'.heap.size) ∧ Lies (KrI w.heap.size Bv W.heap.size wr.heap.size g) w4 W') ∧ c = .exit 0)
        (HAb J hJ) (fun c => Abd.and (HAb Jx hJx) (Abd.pure (β := List ByteArray) (fun _ _ => c = .exit 0)))
        ⟨HJ4.out, fun q e => .inl e.symm, fun q e => by have := HGL.out q e; omega, Lies.refl _ _⟩
        (fun pre g' W' q h e => by rcases h.2.1 q e with e2 | h2; have := HGL.out q e2.symm; omega; omega) (fun c pre g' W' q h e => by rcases h.1.2.1 q e with e2 | h2; have := HGL.out q e2.symm; omega; omega)
        (fun p a' _ => a' = { tmps := #[.func (.yield l) #[] #[], .pointer (some ⟨Bv, 0, none⟩), .pointer (some ⟨W.heap.size, 0, none⟩), .pointer (some ⟨wr.heap.size, 0, none⟩), .string x, .string p, u6, .slice (some ad) xs.length c0, .int .i64 (xs.length : Int), .int .i64 (k : Int), .bool true, .int .i64 (k : Int), .pointer (some (ad.add k)), .string x, .string x, .func (.func 85) #[] #[.pointer (some ⟨wr.heap.size + 1 + 1, 0, none⟩), .pointer (some ⟨wr.heap.size + 1, 0, none⟩), .pointer (some ⟨wr.heap.size + 1 + 2, 0, none⟩)], .string p, u17, u18, u19, u20, u21, u22, u23, u24, u25, u26, u27, u28], defers := [] }) (fun p a' _ _ _ _ _ h _ _ => h) ?assign ?body ?done ?stop
      case assign =>
        intro l' pre p g' W' K hI hK
        gi_wp2
        exact hK _ _ (Spares.refl _ _ _) hI rfl
      case body =>
        rintro l' pre p g' a' W' hW2 ⟨hj, hgf, hlt', hl⟩ rfl hsp
        have hpz : p.size ≤ x.size := partsB_size x p (hsp.subset (List.mem_append_right _ List.mem_cons_self))
        have HSP := Aside0.mk (soFar_prefix xs k hlt x HT.out _ hsp)
        have HC := Aside0.mk (octet_Trim.calls p (trimS p) W' (HTW.out W' hl) (by unfold octet_Trim.f; rw [if_pos (by omega)]))
        have HL := Aside0.mk hl
        have HJJ := Aside0.mk hj
        have HGF := Aside0.mk hgf
        have HLT := Aside0.mk hlt'
        clear hl hj hgf hlt' hsp
        obtain ⟨y, hy⟩ : ∃ y, trimS p = y := ⟨_, rfl⟩
        have HN := Aside0.mk (soFar_snoc_nil xs k pre p)
        have HS := Aside0.mk (soFar_snoc xs k pre p)
        rw [hy] at HC HN HS
        clear hy
        gi_wp2
        refine ⟨trivial, (fun _ => by omega), ?_⟩
        refine (CallsIn.inRound l' (callsIn_wide.2 HC.out)).mono ?_
        rintro e w5 ⟨rfl, b5⟩
        have HB5 := Aside0.mk b5
        have HL5 := Aside0.mk (HL.out.trans (Lies.below b5))
        have HJ5 := Aside0.mk (hJ.step HJJ.out (grown_below b5))
        have hz5 : wr.heap.size + 6 ≤ w5.heap.size := by have := b5.size; omega
        clear b5 HC
        by_cases h0 : y.size = 0
        · obtain rfl : y = ⟨#[]⟩ := ByteArray.ext (Array.eq_empty_of_size_eq_zero h0)
          gi_wp2
          refine ⟨fun _ h => (by cases h), ?_⟩
          gi_wp2
          exact ⟨g', Spares.below HB5.out, by rw [HN.out h0]; exact HJ5.out, HGF.out, fun q e => Nat.lt_of_lt_of_le (HLT.out q e) HB5.out.size, HL5.out⟩
        · have hne1 : (y.toList == ([] : List UInt8)) = false := by
            rw [ByteArray.toList_eq, beq_eq_false_iff_ne]
            intro e
            apply h0
            rw [size_eq_length, e]; rfl
          have hne2 : (y.toList = ([] : List UInt8)) = False := by simpa using hne1
          have hne3 : (y = (⟨#[]⟩ : ByteArray)) = False := by
            refine eq_false ?_
            rintro rfl
            exact h0 rfl
          rw [HS.out h0] at HSP
          obtain ⟨fn, tmps, assign, body, hy, hR⟩ := hY (n - 1 - 1 - 1) (soFar xs k pre) (k, y) g' w5 HJ5.out HSP.out
          have HR := Aside0.mk hR
          dsimp only [encI] at hy
          have hYc := ((HL5.out.imp (K' := fun j => j = W.heap.size) (fun j h => by subst h; exact .inr ⟨Nat.le_refl _, by omega, fun e => (hgq.out _ e.symm).1.2 rfl⟩)).box rfl ((Lies.below (K := fun j => j = W.heap.size) HW4.out).box rfl hYb.out)).cell
          have hic := (HL5.out.box (b := wr.heap.size) (.inr ⟨by omega, Nat.le_refl _, fun e => by have := HGL.out _ e.symm; omega⟩) HBi.out).cell
          clear hR
          gi_wp2
          refine ⟨(fun _ => by omega), ?_⟩
          refine RoundIn.mono (F := Fence.wide.inRound l') HR.out ?_
          rintro e W3 ⟨g3, hsp3, hJJ3⟩
          have HSP3 := Aside0.mk ((Spares.below (K := fun j => w4.heap.size ≤ j ∨ Kz3 w.heap.size (wr.heap.size + 1 + 1) (wr.heap.size + 1) (wr.heap.size + 1 + 2) j) (g := g') HB5.out).trans (hsp3.imp (fun j h _ => by
            rcases h with h | h
            · exact .inl (by omega)
            · unfold Kz3 at h
              rcases h with h | h | h | h
              · exact .inr (.inl h)
              · exact .inl (by omega)
              · exact .inl (by omega)
              · exact .inl (by omega))))
          have HL3 := Aside0.mk (HL5.out.trans (hsp3.lies (K' := KrI w.heap.size Bv W.heap.size wr.heap.size g) (fun j h _ => by
            refine ⟨?_, fun e => ?_⟩
            · rcases h with h | h
              · exact .inr h
              · exact .inl h.1
            · rcases HGF.out j e.symm with e2 | h2
              · rcases h with h | h
                · exact (hgq.out j e2.symm).1.1 h
                · exact h.2.2 e2
              · rcases h with (h | h) | h <;> omega)))
          have HG3 := Aside0.mk (HGF.out.step (A := w5) hsp3 hz5)
          have HT3 := Aside0.mk (hsp3.lt (fun q e => Nat.lt_of_lt_of_le (HLT.out q e) HB5.out.size))
          clear hsp3
          rcases hJJ3 with ⟨rfl, hJ3⟩ | ⟨rfl, hJx3⟩
          · gi_wp2
            exact ⟨g3, HSP3.out, by rw [HS.out h0]; exact hJ3, HG3.out, HT3.out, HL3.out⟩
          · gi_wp2
            exact ⟨g3, HSP3.out, ⟨by rw [HS.out h0]; exact hJx3, HG3.out, HT3.out, HL3.out⟩, rfl⟩
      case done =>
        rintro D ys g' W' hD rfl ⟨hj, hgf, hlt', hl⟩ hK
        rw [soFar_whole xs k x HT.out] at hj
        have HM2 := Aside0.mk (show Marked W.heap.size ({ target := .collected D, args := #[] } :: ds) g' W' from
          (hM.out.lies (g' := g') ((Lies.below HW4.out).trans (hl.imp (fun j h => .inr ⟨h.1, Nat.le_of_lt h.2.1, h.2.2⟩))) (fun q e => (hgf q e).imp id (fun h => by omega))).cons hK (by omega) (fun e => by rcases hgf D e.symm with e2 | h2; have := HGL.out D e2.symm; omega; omega) (fun E hE => by have := hM.out.lt E hE; omega))
        have HJ2 := Aside0.mk hj
        have HQ2 := Aside0.mk (show ∀ q, g' = some q → (¬ (q < w.heap.size ∨ q = Bv) ∧ q ≠ W.heap.size) ∧ q < W'.heap.size from fun q e => by
          refine ⟨?_, hlt' q e⟩
          rcases hgf q e with e2 | h2
          · exact (hgq.out q e2.symm).1
          · exact ⟨by omega, by omega⟩)
        have HN2 := Aside0.mk (hnx.out.trans ((Lies.below (K := fun j => (j < w.heap.size ∨ j = Bv) ∨ j = W.heap.size) HW4.out).trans (hl.imp (fun j h => by
          rcases h with h | h
          · exact .inl h
          · subst h
            exact .inr ⟨Nat.le_refl _, by omega, fun e => (hgq.out _ e.symm).1.2 rfl⟩))))
        clear hj hgf hlt' hl hK
        gi_wp2
        refine ⟨⟨k + 1, _, g', _, _, _, _, _, _, _, _, _, _, _, _, _, _, _, _, _, _, _, _, _, _, _, hlt, rfl, HM2, HJ2, HQ2, HN2⟩, ?_⟩
        simp [intOf]
        omega
      case stop =>
        rintro D c pre g' W' hD hsp ⟨⟨hj, hgf, hlt', hl⟩, rfl⟩ hK
        have HM2 := Aside0.mk (show Marked W.heap.size ({ target := .collected D, args := #[] } :: ds) g' W' from
          (hM.out.lies (g' := g') ((Lies.below HW4.out).trans (hl.imp (fun j h => .inr ⟨h.1, Nat.le_of_lt h.2.1, h.2.2⟩))) (fun q e => (hgf q e).imp id (fun h => by omega))).cons hK (by omega) (fun e => by rcases hgf D e.symm with e2 | h2; have := HGL.out D e2.symm; omega; omega) (fun E hE => by have := hM.out.lt E hE; omega))
        have HSP := Aside0.mk (soFar_prefix xs k hlt x HT.out _ hsp)
        have HJX := Aside0.mk hj
        clear hj hgf hlt' hl hK hsp
        gi_wp2
        exact leave_marks (B := W.heap.size) (g := g') (fun tmps w => results_none rfl tmps _ w) (fun W' => Jx (soFar xs k pre) g' W') (fun W' D hc hB hD => hJx.putObj _ hc hB hD) (fun W' hc => ⟨⟨_, rfl⟩, .inr ⟨_, g', HSP.out, hc⟩⟩) _ W' HJX.out HM2.out
    · obtain rfl : k = xs.length := by omega
      rw [List.take_length] at hJs
      gi_wp2
      refine leave_marks (B := W.heap.size) (g := g) (fun tmps w => results_none rfl tmps _ w) (fun W' => J (itemsF 0 xs) g W') (fun W' D hc hB hD => hJ.putObj _ hc hB hD) (fun W' hc => ⟨⟨_, rfl⟩, .inl ⟨_, g, rfl, hc⟩⟩) ds wr hJs.out hM.out
end Go.Proofs.YtoanmbhenmlboaaDoorH
end
section
namespace Go.Proofs.YtoanmbhenmlboaaDoor.Ps
open Go.RowKit Go.Proofs.YtoanmbhenmlboaaDoorH Go.Proofs.YtoanmbhenmlboaaDoorW.PrintWords Go.Proofs.YtoanmbhenmlboaaDoorW.PrintLast Go.Proofs.YtoanmbhenmlboaaDoorW.PrintMore
attribute [local go_sem] max2_int min2_int max_two min_two max_three min_three max_four min_four   -- for this text's walks alone
set_option linter.unusedVariables false
set_option linter.unusedSimpArgs false
def errW : Option Int → Value
  | none => .nilIface
  | some c => .iface 0 (.int .i64 c)
theorem errW_none : errW none = .nilIface := rfl
theorem errW_some (c : Int) : errW (some c) = .iface 0 (.int .i64 c) := rfl
theorem info9 : (Tryd.prog.info? 9).map (fun i => (i.zero, i.size, i.bytes)) = some (some (.string ⟨#[]⟩), 1, 16) := by kernel_rfl
structure S71 where
  f0 : ByteArray
  f1 : ByteArray
def z71 : S71 := ⟨(⟨#[]⟩ : ByteArray), (⟨#[]⟩ : ByteArray)⟩
def k71 : Kd S71 := Kd.iso (Kd.pair Kd.string Kd.string) (fun x : S71 => (x.f0, x.f1))
theorem k71_open {w : World} {x : S71} {cs : List Value} (h : k71.K w x cs) : cs = [.string x.f0, .string x.f1] := by
  obtain ⟨_, _, rfl, rfl, rfl⟩ := h
  exact rfl
theorem k71_mkM (w : World) (base : Nat) (ok : Nat → Prop) (x : S71)  : k71.M w base ok x [.string x.f0, .string x.f1] := ⟨[.string x.f0], [.string x.f1], rfl, rfl, rfl⟩
def rd_T71 (xs : List S71) (i : Int) : S71 := xs.getD i.toNat z71
theorem at_T71 {w : World} {A : Option Addr} {n : Nat} {xs : List S71} (h : Kd.C k71 w A n xs) (i : Int) (h0 : 0 ≤ i) (h1 : i < n) : ∃ ad , A = some ad ∧ w.cell? (ad.add (i.toNat * 2)) = some (.string (rd_T71 xs i).f0) ∧ w.cell? ⟨(ad.add (i.toNat * 2)).block, (ad.add (i.toNat * 2)).off + 1, none⟩ = some (.string (rd_T71 xs i).f1) := by
  obtain ⟨ad, c, e, _, hK, hc0⟩ := Kd.C_get h z71 i h0 h1
  have hc : ∀ j u, c[j]? = some u → w.cell? (ad.add (i.toNat * 2 + j)) = some u := hc0
  obtain rfl := k71_open hK
  exact ⟨ad, e, hc 0 _ rfl, by rw [← add_field _ _ 1 (by omega)]; exact hc 1 _ rfl⟩
end Go.Proofs.YtoanmbhenmlboaaDoor.Ps
end
section
namespace Go.Proofs.YtoanmbhenmlboaaDoor.Ps
open Go.RowKit Go.Proofs.YtoanmbhenmlboaaDoorH Go.Proofs.YtoanmbhenmlboaaDoorW.PrintWords Go.Proofs.YtoanmbhenmlboaaDoorW.PrintLast Go.Proofs.YtoanmbhenmlboaaDoorW.PrintMore
attribute [local go_sem] max2_int min2_int max_two min_two max_three min_three max_four min_four   -- for this text's walks alone
set_option linter.unusedVariables false
set_option linter.unusedSimpArgs false
def list_word.f (a0 : ByteArray) : Option (ByteArray) := (strings_Cut.f a0 (⟨#[59]⟩ : ByteArray)).bind fun bt101 => ((octet_Trim.f bt101.1).bind fun t104 => (some t104))
set_option maxHeartbeats 8000000 in
set_option maxRecDepth 100000 in
theorem list_word.calls (a0 : ByteArray) (r : ByteArray) (w : World) (hG : TabOk w) (h : list_word.f a0 = some r) :
    Calls Tryd.prog 59 #[.string a0] w fun e w' => e = .returned (.string r) ∧ Below w.heap.size w w' := by
  have HB := Aside0.mk (Below.refl w.heap.size w)
  have H : ((strings_Cut.f a0 (⟨#[59]⟩ : ByteArray)).bind fun bt101 => ((octet_Trim.f bt101.1).bind fun t104 => (some t104))) = some r := h
  clear h
  replace H := Option.bind_eq_some_iff.mp H
  obtain ⟨⟨t101, t102, t103⟩, A20, H⟩ := H
  replace H : ((octet_Trim.f t101).bind fun t104 => (some t104)) = some r := H
  have A2 := Aside0.mk A20
  clear A20
  replace H := Option.bind_eq_some_iff.mp H
  obtain ⟨t104, A30, H⟩ := H
  replace H : (some t104) = some r := H
  have A3 := Aside0.mk A30
  clear A30
  obtain rfl := Option.some.inj H
  go_enter Tryd.func59, Tryd.ntmps59
  go_wp2_with (first | ((with_reducible refine gate_callee (f := 76) rfl ?_); refine goesL_ (some 8) rfl rfl Tryd.func76 (by kernel_rfl) rfl #[.string a0, .string (⟨#[59]⟩ : ByteArray)] rfl (by (try simp only [List.map_toArray, List.map_cons, List.map_nil]); first | done | rfl | (simp only [List.length_drop, List.length_take]; rfl)) ?_; (with_reducible refine (strings_Cut.calls a0 (⟨#[59]⟩ : ByteArray) t101 t102 t103 _ ?side1 A2.out).mono ?_); (case side1 => first | exact hG | exact TabOk.drewN hG _ | exact TabOk.drewN (TabOk.drewN hG _) _ | exact TabOk.below hG (by repeat (first | (with_reducible first | exact HB.out | apply below_alloc | apply pw_below_drewN | apply below_drew1) | exact HB.out))); rintro e w4 ⟨rfl, hb⟩; refine ⟨_, rfl, ?_⟩; have n0_ := Aside0.mk (below_step (by repeat (first | (with_reducible first | exact HB.out | apply below_alloc | apply pw_below_drewN | apply below_drew1) | exact HB.out)) hb); clear HB; have HB := n0_; clear n0_; (try clear hb); (try clear hb2); (try clear hk); (try clear hi)) | ((with_reducible refine gate_callee (f := 75) rfl ?_); refine goesL_ (some 13) rfl rfl Tryd.func75 (by kernel_rfl) rfl #[.string t101] rfl (by (try simp only [List.map_toArray, List.map_cons, List.map_nil]); first | done | rfl | (simp only [List.length_drop, List.length_take]; rfl)) ?_; (with_reducible refine (octet_Trim.calls t101 t104 _ ?side1 A3.out).mono ?_); (case side1 => first | exact hG | exact TabOk.drewN hG _ | exact TabOk.drewN (TabOk.drewN hG _) _ | exact TabOk.below hG (by repeat (first | (with_reducible first | exact HB.out | apply below_alloc | apply pw_below_drewN | apply below_drew1) | exact HB.out))); rintro e w5 ⟨rfl, hb⟩; refine ⟨_, rfl, ?_⟩; have n0_ := Aside0.mk (below_step (by repeat (first | (with_reducible first | exact HB.out | apply below_alloc | apply pw_below_drewN | apply below_drew1) | exact HB.out)) hb); clear HB; have HB := n0_; clear n0_; (try clear hb); (try clear hb2); (try clear hk); (try clear hi)))
  go_ret
  exact ⟨by first | rfl | (simp [errW_none, errW_some] <;> rfl) | (simp [*, errW_none, errW_some] <;> rfl), by repeat (first | (with_reducible first | exact HB.out | apply below_alloc | apply pw_below_drewN | apply below_drew1) | exact HB.out)⟩
def slices_Index_int_int.l0 : Nat → List Int → Int → Int → Int → Option (Int)
  | 0, _, _, _, _ => none
  | k + 1, x0, x1, x7, x8 => if x8 < x7 then (if 0 ≤ x8 then (if x8 < (x0.length : Int) then (if x1 = (rd x0 x8) then (some x8) else (slices_Index_int_int.l0 k x0 x1 x7 (wrap64 (x8 + 1)))) else (none)) else (none)) else (some (-1))
def slices_Index_int_int.f (k : Nat) (l0 : List Int) (a1 : Int) : Option (Int) := slices_Index_int_int.l0 k l0 a1 (l0.length : Int) 0
theorem slices_Index_int_int.mono_l : ∀ k, (∀ y0 y1 y2 y3, LeO (slices_Index_int_int.l0 k y0 y1 y2 y3) (slices_Index_int_int.l0 (k + 1) y0 y1 y2 y3))
  | 0 => fun _ _ _ _ r h => by simp [slices_Index_int_int.l0] at h
  | k + 1 => by
    have ih0 := slices_Index_int_int.mono_l k
    · intro y0 y1 y2 y3
      unfold slices_Index_int_int.l0
      repeat' first
      | (with_reducible exact ih0 _ _ _ _)
      | (with_reducible exact LeO.refl _)
      | (with_reducible exact LeO.none _)
      | (with_reducible refine LeO.ite ?_ ?_)
      | (with_reducible refine LeO.bind ?_ (fun _ => ?_))
      | exact ih0 _ _ _ _
      | exact LeO.none _
      | refine LeO.ite ?_ ?_
      | refine LeO.bind ?_ (fun _ => ?_)
theorem slices_Index_int_int.mono : ∀ a0 a1 k, LeO (slices_Index_int_int.f k a0 a1) (slices_Index_int_int.f (k + 1) a0 a1) := by
  intro a0 a1 k
  have ih0 := slices_Index_int_int.mono_l k
  unfold slices_Index_int_int.f
  repeat' first
      | (with_reducible exact ih0 _ _ _ _)
      | (with_reducible exact LeO.refl _)
      | (with_reducible exact LeO.none _)
      | (with_reducible refine LeO.ite ?_ ?_)
      | (with_reducible refine LeO.bind ?_ (fun _ => ?_))
      | exact ih0 _ _ _ _
      | exact LeO.none _
      | refine LeO.ite ?_ ?_
      | refine LeO.bind ?_ (fun _ => ?_)
def slices_Contains_int_int.f (k : Nat) (l0 : List Int) (a1 : Int) : Option (Bool) := (slices_Index_int_int.f k l0 a1).bind fun t106 => (some (decide (t106 ≥ 0)))
theorem slices_Contains_int_int.mono : ∀ a0 a1 k, LeO (slices_Contains_int_int.f k a0 a1) (slices_Contains_int_int.f (k + 1) a0 a1) := by
  intro a0 a1 k
  unfold slices_Contains_int_int.f
  repeat' first
      | (with_reducible exact slices_Index_int_int.mono _ _ _)
      | (with_reducible exact LeO.refl _)
      | (with_reducible exact LeO.none _)
      | (with_reducible refine LeO.ite ?_ ?_)
      | (with_reducible refine LeO.bind ?_ (fun _ => ?_))
      | exact slices_Index_int_int.mono _ _ _
      | exact LeO.none _
      | refine LeO.ite ?_ ?_
      | refine LeO.bind ?_ (fun _ => ?_)
def slices_Index_string_string.l0 : Nat → List ByteArray → ByteArray → Int → Int → Option (Int)
  | 0, _, _, _, _ => none
  | k + 1, x0, x1, x7, x8 => if x8 < x7 then (if 0 ≤ x8 then (if x8 < (x0.length : Int) then (if x1.toList = (rdOf ByteArray.empty x0 x8).toList then (some x8) else (slices_Index_string_string.l0 k x0 x1 x7 (wrap64 (x8 + 1)))) else (none)) else (none)) else (some (-1))
def slices_Index_string_string.f (k : Nat) (l0 : List ByteArray) (a1 : ByteArray) : Option (Int) := slices_Index_string_string.l0 k l0 a1 (l0.length : Int) 0
theorem slices_Index_string_string.mono_l : ∀ k, (∀ y0 y1 y2 y3, LeO (slices_Index_string_string.l0 k y0 y1 y2 y3) (slices_Index_string_string.l0 (k + 1) y0 y1 y2 y3))
  | 0 => fun _ _ _ _ r h => by simp [slices_Index_string_string.l0] at h
  | k + 1 => by
    have ih0 := slices_Index_string_string.mono_l k
    · intro y0 y1 y2 y3
      unfold slices_Index_string_string.l0
      repeat' first
      | (with_reducible exact ih0 _ _ _ _)
      | (with_reducible exact LeO.refl _)
      | (with_reducible exact LeO.none _)
      | (with_reducible refine LeO.ite ?_ ?_)
      | (with_reducible refine LeO.bind ?_ (fun _ => ?_))
      | exact ih0 _ _ _ _
      | exact LeO.none _
      | refine LeO.ite ?_ ?_
      | refine LeO.bind ?_ (fun _ => ?_)
theorem slices_Index_string_string.mono : ∀ a0 a1 k, LeO (slices_Index_string_string.f k a0 a1) (slices_Index_string_string.f (k + 1) a0 a1) := by
  intro a0 a1 k
  have ih0 := slices_Index_string_string.mono_l k
  unfold slices_Index_string_string.f
  repeat' first
      | (with_reducible exact ih0 _ _ _ _)
      | (with_reducible exact LeO.refl _)
      | (with_reducible exact LeO.none _)
      | (with_reducible refine LeO.ite ?_ ?_)
      | (with_reducible refine LeO.bind ?_ (fun _ => ?_))
      | exact ih0 _ _ _ _
      | exact LeO.none _
      | refine LeO.ite ?_ ?_
      | refine LeO.bind ?_ (fun _ => ?_)
end Go.Proofs.YtoanmbhenmlboaaDoor.Ps
end
section
namespace Go.Proofs.YtoanmbhenmlboaaDoorH
open Go.RowKit Go.Shelf Go.Proofs.YtoanmbhenmlboaaDoorW.PrintWords Go.Proofs.YtoanmbhenmlboaaDoorW.PrintLast Go.Proofs.YtoanmbhenmlboaaDoorW.PrintMore Go.Proofs.YtoanmbhenmlboaaDoor.Ps
attribute [local go_sem] Oper.semAt_some
def sumS (l : List ByteArray) : Nat := (l.map fun x => x.size + 1).sum
theorem sumS_cons (x : ByteArray) (l : List ByteArray) : sumS (x :: l) = (x.size + 1) + sumS l := by simp [sumS]
theorem sumS_length : ∀ l : List ByteArray, l.length ≤ sumS l
  | [] => Nat.le_refl _
  | x :: l => by
    have := sumS_length l
    rw [sumS_cons, List.length_cons]
    omega
theorem sumS_at : ∀ (l : List ByteArray) (x : ByteArray), x ∈ l → x.size + 1 ≤ sumS l
  | y :: l, x, h => by
    rw [sumS_cons]
    rcases List.mem_cons.1 h with rfl | h
    · omega
    · have := sumS_at l x h
      omega
theorem itemsP_length (s : ByteArray) : (itemsP s).length ≤ s.size + 1 := by
  unfold itemsP
  exact Nat.le_trans (List.length_filter_le _ _) (by rw [List.length_map]; exact partsB_length s)
theorem itemsP_size (s : ByteArray) : ∀ y ∈ itemsP s, y.size ≤ s.size := by
  intro y hy
  unfold itemsP at hy
  obtain ⟨p, hp, rfl⟩ := List.mem_map.1 (List.mem_filter.1 hy).1
  exact Nat.le_trans (trimS_size p) (partsB_size s p hp)
theorem itemsF_length : ∀ (l : List ByteArray) (i : Nat), (itemsF i l).length ≤ sumS l
  | [], _ => Nat.zero_le _
  | v :: l, i => by
    have h1 := itemsF_length l (i + 1)
    have h2 := itemsP_length v
    rw [itemsF, sumS_cons, List.length_append, List.length_map]
    omega
theorem itemsF_mem : ∀ (l : List ByteArray) (i : Nat) (y : Nat × ByteArray), y ∈ itemsF i l → i ≤ y.1 ∧ y.1 < i + l.length ∧ y.2.size ≤ sumS l
  | [], _, y, h => absurd h List.not_mem_nil
  | v :: l, i, y, h => by
    rw [itemsF] at h
    rw [sumS_cons, List.length_cons]
    rcases List.mem_append.1 h with h | h
    · obtain ⟨z, hz, rfl⟩ := List.mem_map.1 h
      have := itemsP_size v z hz
      exact ⟨Nat.le_refl _, by omega, by show z.size ≤ _; omega⟩
    · have := itemsF_mem l (i + 1) y h
      omega
def itemsL (l : List ByteArray) : List ByteArray := (itemsF 0 l).map fun y => y.2
def snds (l : List (Nat × ByteArray)) : List ByteArray := l.map fun y => y.2
theorem results_cell1 {fn : Func} {p : Tmp} {ty : TypeId} (h : fn.results = #[.cell p ty]) (tmps : Array Value) (P : Program) (w : World) (a : Addr) (v : Value)
    (hp : tmps.getD p undef = .pointer (some a)) (hA : (isAgg ty).run P w = .ok false w) (hc : w.cell? a = some v) : (results fn tmps).run P w = .ok v w := by
  rw [Array.getD_eq_getD_getElem?] at hp
  simp only [results, h]
  simp [Sem.run_bind, Result.andThen, hp, loadVar, hA, asAddr, go_sem, hc]
def cutL (c : UInt8) (s : ByteArray) : ByteArray := ⟨(Lib.cut s.data.toList [c]).1.toArray⟩
def wordS (s : ByteArray) : ByteArray := trimS (cutL 59 s)
theorem cutL_size (c : UInt8) (s : ByteArray) : (cutL c s).size ≤ s.size := by
  show (Lib.cut s.data.toList [c]).1.length ≤ _
  rw [size_eq_length]
  unfold Lib.cut
  split
  · rw [List.length_take]; omega
  · exact Nat.le_refl _
theorem wordS_size (s : ByteArray) : (wordS s).size ≤ s.size := Nat.le_trans (trimS_size _) (cutL_size _ _)
theorem list_word_eq (s : ByteArray) (hs : s.size < 4294967281) : list_word.f s = some (wordS s) := by
  unfold list_word.f strings_Cut.f octet_Trim.f
  rw [if_pos hs, Option.bind_some]
  have h := cutL_size 59 s
  have h2 : (cutL 59 s).size ≤ 140737488355328 := by omega
  show ((if (cutL 59 s).size ≤ 140737488355328 then some (trimS (cutL 59 s)) else none).bind fun t => some t) = some (wordS s)
  rw [if_pos h2]
  rfl
theorem word_calls (s : ByteArray) (w : World) (hs : s.size < 4294967281) (hG : TabOk w) :
    Calls Tryd.prog 59 #[.string s] w fun e w' => e = .returned (.string (wordS s)) ∧ Below w.heap.size w w' := list_word.calls s (wordS s) w hG (list_word_eq s hs)
def hasB (l : List ByteArray) (n : ByteArray) : Bool := l.any fun y => alikeB (wordS y) n
theorem hasB_snoc (l : List ByteArray) (y n : ByteArray) : hasB (l ++ [y]) n = (hasB l n || alikeB (wordS y) n) := by
  unfold hasB
  rw [List.any_append]
  simp
set_option maxRecDepth 100000 in
set_option maxHeartbeats 2000000 in
theorem Has_in (n : Nat) (hn : 7 ≤ n) (q : ByteArray) (hq : q.size ≤ 1000000) (A0 : Option Addr) (c0 : Nat) (xs : List ByteArray) (hS : sumS xs ≤ 1000000) (hc0 : xs.length ≤ c0) (w : World) (hG : TabOk w) (hr : Kd.C Kd.string w A0 xs.length xs) :
    CallsIn Fence.wide n Tryd.prog 49 #[.string q, .slice A0 xs.length c0] w fun e w' => e = .returned (.bool (hasB (itemsL xs) q)) ∧ Below w.heap.size w w' := by
  have h1 : 1 ≤ n := by omega
  have hlen := sumS_length xs
  have HIT := Aside0.mk (items_calls A0 xs.length c0 ((w.alloc (.cells #[.string q] 9)).alloc (.cells #[.bool false] 4)))
  refine callsIn_of_wp_marks Tryd.func49 rfl trivial ?_ rfl
  simp only [Tryd.ntmps49, List.size_toArray, List.length_cons, List.length_nil, Nat.reduceAdd, Nat.reduceSub, Array.replicate_succ, Array.replicate_zero, List.push_toArray, List.append_toArray, List.nil_append, List.cons_append]
  gi_wp2
  refine ⟨trivial, ?_⟩
  refine (callsIn_wide.2 HIT.out).mono ?_
  rintro e w2 ⟨rfl, rfl⟩
  clear HIT
  gi_wp2
  have HB2 := Aside0.mk (show Below w.heap.size w (((w.alloc (.cells #[.string q] 9)).alloc (.cells #[.bool false] 4)).alloc (.cells #[.slice A0 xs.length c0] 38)) from below_alloc (below_alloc (below_alloc (Below.refl _ _) _) _) _)
  have HBq := Aside0.mk (show Boxed (((w.alloc (.cells #[.string q] 9)).alloc (.cells #[.bool false] 4)).alloc (.cells #[.slice A0 xs.length c0] 38)) w.heap.size 9 (.string q) from ((Boxed.new w _ _).alloc _).alloc _)
  have HBr := Aside0.mk (show Boxed (((w.alloc (.cells #[.string q] 9)).alloc (.cells #[.bool false] 4)).alloc (.cells #[.slice A0 xs.length c0] 38)) (w.heap.size + 1) 4 (.bool false) by
    have := Boxed.new (w.alloc (.cells #[.string q] 9)) 4 (.bool false)
    rw [World.size_alloc] at this
    exact this.alloc _)
  have HBv := Aside0.mk (show Boxed (((w.alloc (.cells #[.string q] 9)).alloc (.cells #[.bool false] 4)).alloc (.cells #[.slice A0 xs.length c0] 38)) (w.heap.size + 1 + 1) 38 (.slice A0 xs.length c0) by
    have := Boxed.new ((w.alloc (.cells #[.string q] 9)).alloc (.cells #[.bool false] 4)) 38 (.slice A0 xs.length c0)
    rwa [World.size_alloc, World.size_alloc] at this)
  have s2 : (((w.alloc (.cells #[.string q] 9)).alloc (.cells #[.bool false] 4)).alloc (.cells #[.slice A0 xs.length c0] 38)).heap.size = w.heap.size + 3 := by simp only [World.size_alloc]
  generalize (((w.alloc (.cells #[.string q] 9)).alloc (.cells #[.bool false] 4)).alloc (.cells #[.slice A0 xs.length c0] 38)) = w2 at *
  have HSQ := Aside0.mk (items_own (n - 1) (by omega) (w.heap.size + 1 + 1) A0 c0 xs (fun x hx => by have := sumS_at xs x hx; omega) hc0 (by omega) w hG hr w2 (Lies.below HB2.out) HBv.out (by omega))
  have HMM := Aside0.mk (itemsF_mem xs 0)
  refine wpIn_range_own (F := Fence.wide) rfl rfl h1 (gf := 73) (lb := #[.pointer (some ⟨w.heap.size + 1 + 1, 0, none⟩)]) (by first | rfl | simp) trivial (enters_of Tryd.func73 (by kernel_rfl) rfl) HSQ.out (Below.refl _ _) (fun r h => h.elim)
    (by rintro r (h | rfl) <;> omega) (fun _ => rfl) none (fun q e => by cases e)
    (fun pre g W => g = none ∧ (Boxed W w.heap.size 9 (.string q) ∧ (Boxed W (w.heap.size + 1) 4 (.bool false) ∧ (Below w.heap.size w W ∧ hasB (snds pre) q = false))))
    (fun c pre g W => g = none ∧ (Boxed W (w.heap.size + 1) 4 (.bool true) ∧ (Below w.heap.size w W ∧ (c = .ret ∧ hasB (snds pre) q = true))))
    (Abd.and (Abd.pure (β := List (Nat × ByteArray)) (fun _ g => g = none)) (Abd.and (Abd.block (fun _ => .cells #[.string q] 9 (0, 0)) (by omega) (fun h => h)) (Abd.and (Abd.block (fun _ => .cells #[.bool false] 4 (0, 0)) (by omega) (fun h => h)) (Abd.and (Abd.low (by omega) (Nat.le_refl _) (fun r h => h.elim)) (Abd.pure (fun pre _ => hasB (snds pre) q = false))))))
    (fun c => Abd.and (Abd.pure (β := List (Nat × ByteArray)) (fun _ g => g = none)) (Abd.and (Abd.block (fun _ => .cells #[.bool true] 4 (0, 0)) (by omega) (fun h => h)) (Abd.and (Abd.low (by omega) (Nat.le_refl _) (fun r h => h.elim)) (Abd.pure (fun pre _ => c = .ret ∧ hasB (snds pre) q = true)))))
    ⟨rfl, HBq.out, HBr.out, HB2.out, rfl⟩
    (fun pre g W q h e => by rw [h.1] at e; cases e) (fun c pre g W q h e => by rw [h.1] at e; cases e)
    (fun x a' _ => a' = { tmps := #[Value.string q, Value.slice A0 xs.length c0, Value.pointer (some { block := w.heap.size, off := 0 }), undef, Value.pointer (some { block := w.heap.size + 1, off := 0 }), undef, Value.string x.2, Value.slice A0 xs.length c0,
      Value.func (Fn.func 73) #[] #[Value.pointer (some { block := w.heap.size + 1 + 1, off := 0 })], Value.int IntKind.i64 ((x.1 : Nat) : Int), Value.string x.2, undef, undef, undef, undef], defers := [] })
    (fun x a' _ _ _ _ _ h _ _ => h) ?assign ?body ?done ?stop
  case assign =>
    intro l pre x g W K hI hK
    dsimp only [encI]
    gi_wp2
    exact hK _ _ (Spares.refl _ _ _) hI rfl
  case body =>
    rintro l pre ⟨at', y⟩ g a' W hW2 ⟨rfl, hbq, hbr, hBW, hno⟩ rfl hsp
    have hyz := (HMM.out (at', y) (hsp.subset (List.mem_append_right _ List.mem_cons_self))).2.2
    have HWD := Aside0.mk (fun W1 (hb : Below W.heap.size W W1) => word_calls y W1 (by show y.size < _; have : y.size ≤ sumS xs := hyz; omega) (hG.below (hBW.trans (hb.mono hBW.size))))
    have HAL := Aside0.mk (fun W1 (hb : Below W.heap.size W W1) => alike_calls (wordS y) q W1 (by have := wordS_size y; have : y.size ≤ sumS xs := hyz; omega) (by omega) (hG.below (hBW.trans (hb.mono hBW.size))))
    have hcq := hbq.cell
    have hmx : Tryd.prog.follows .mixedOrders = true := by kernel_rfl
    have hcd : W.drew.cell? ⟨w.heap.size, 0, none⟩ = some (.string q) := hcq
    gi_wp2
    gi_region_with_o (first
      | (refine ⟨trivial, (fun _ => by omega), ?_⟩; gi_at_call 59; refine (CallsIn.inRound l (callsIn_wide.2 (HWD.out W.drew (Below.refl _ _).drew))).mono ?_; rintro e w5 ⟨rfl, b5⟩; have HB5 := Aside0.mk (((Below.refl W.heap.size W).drew).trans (b5.mono (Nat.le_refl _))); have hcq5 := pw_cell_below b5 hcd; clear b5)
      | (refine ⟨trivial, (fun _ => by omega), ?_⟩; gi_at_call 58; refine (CallsIn.inRound l (callsIn_wide.2 (HAL.out w5 HB5.out))).mono ?_; rintro e w6 ⟨rfl, b6⟩; have HB6 := Aside0.mk (HB5.out.trans (b6.mono HB5.out.size)); clear b6))
    all_goals
      obtain ⟨b, hb⟩ : ∃ b, alikeB (wordS y) q = b := ⟨_, rfl⟩
      have HH := Aside0.mk (hasB_snoc (snds pre) y q)
      rw [hno, Bool.false_or, hb] at HH
      have HQ6 := Aside0.mk (show Boxed w6 w.heap.size 9 (.string q) from (HB6.out.block _ hbq.lt).trans hbq)
      have HR6 := Aside0.mk (show Boxed w6 (w.heap.size + 1) 4 (.bool false) from (HB6.out.block _ hbr.lt).trans hbr)
      have HW6 := Aside0.mk (hBW.trans (HB6.out.mono hBW.size))
      have hcl := HR6.out.cell
      have hfz := HR6.out.frozen
      rw [hb]
      clear hb
      cases b with
      | true =>
        gi_wp2
        refine ⟨none, (Spares.below HB6.out).trans (Spares.turned (grownBy_setCell' w6 (w.heap.size + 1) (.bool true)) (fun r e hk => by cases e; rcases hk with h | h | h <;> omega)), rfl, HR6.out.set _, HW6.out.setCell (p := ⟨w.heap.size + 1, 0, none⟩) (Nat.le_succ _) _, rfl, ?_⟩
        unfold snds at *
        rw [List.map_append]
        exact HH.out
      | false =>
        gi_wp2
        refine ⟨none, Spares.below HB6.out, rfl, HQ6.out, HR6.out, HW6.out, ?_⟩
        unfold snds at *
        rw [List.map_append]
        exact HH.out
  case done =>
    rintro D ys g W hD rfl ⟨rfl, hbq, hbr, hBW, hno⟩ hK
    have hcl := hbr.cell
    have hfz := hbr.frozen
    have hne : D ≠ w.heap.size + 1 := by omega
    have HK := Aside0.mk (show (W.setCell ⟨w.heap.size + 1, 0, none⟩ (.bool false)).heap[D]? = some (.deferred (some [])) from (Below.heap_setCell W _ _ D hne).trans hK)
    have HB := Aside0.mk (((hBW.setCell (p := ⟨w.heap.size + 1, 0, none⟩) (Nat.le_succ _) (.bool false))).grown (grownBy_putObj' _ D (.deferred none)) (Nat.le_trans hBW.size (grownBy_setCell' W (w.heap.size + 1) (.bool false)).size) (fun k e => by cases e; omega))
    have HX := Aside0.mk ((hbr.set (.bool false)).kept (grownBy_putObj' _ D (.deferred none)) (fun h => hne (by cases h; rfl)))
    clear hK
    gi_wp2
    refine ⟨by simp, .inl ⟨_, _, rfl, run_takeDeferred HK.out, ?_⟩⟩
    refine ⟨_, results_cell1 rfl _ _ _ ⟨w.heap.size + 1, 0, none⟩ (.bool false) rfl (run_isAgg_plain Tryd.underlying4 rfl _) HX.out.cell, ?_, HB.out⟩
    rw [show hasB (itemsL xs) q = false from hno]
  case stop =>
    rintro D c pre g W hD hsp ⟨rfl, hbr, hBW, rfl, hyes⟩ hK
    have hne : D ≠ w.heap.size + 1 := by omega
    have HK := Aside0.mk hK
    have HB := Aside0.mk (hBW.grown (grownBy_putObj' W D (.deferred none)) hBW.size (fun k e => by cases e; omega))
    have HX := Aside0.mk (hbr.kept (grownBy_putObj' W D (.deferred none)) (fun h => hne (by cases h; rfl)))
    have HH := Aside0.mk (show hasB (itemsL xs) q = true by
      obtain ⟨r, hr⟩ := hsp
      unfold itemsL
      rw [← hr, List.map_append]
      unfold hasB at *
      rw [List.any_append]
      unfold snds at hyes
      rw [hyes, Bool.true_or])
    clear hK hsp hyes
    gi_wp2
    refine ⟨by simp, .inl ⟨_, _, rfl, run_takeDeferred HK.out, ?_⟩⟩
    refine ⟨_, results_cell1 rfl _ _ _ ⟨w.heap.size + 1, 0, none⟩ (.bool true) rfl (run_isAgg_plain Tryd.underlying4 rfl _) HX.out.cell, ?_, HB.out⟩
    rw [HH.out]
end Go.Proofs.YtoanmbhenmlboaaDoorH
end
section
namespace Go.Proofs.YtoanmbhenmlboaaDoorH
open Go.RowKit Go.Shelf Go.Proofs.YtoanmbhenmlboaaDoorW.PrintWords Go.Proofs.YtoanmbhenmlboaaDoorW.PrintLast Go.Proofs.YtoanmbhenmlboaaDoorW.PrintMore Go.Proofs.YtoanmbhenmlboaaDoor.Ps
attribute [local go_sem] Oper.semAt_some
def codeS (y : ByteArray) : ByteArray := smallS (wordS y)
def codesL (l : List ByteArray) : List ByteArray := l.map codeS
def badW (l : List ByteArray) : Bool := l.any fun y => !(tokB (wordS y))
def codR (xs : List ByteArray) : List ByteArray × Int :=
  if xs.length = 0 then ([], 7) else if badW (itemsL xs) = true then ([], 2) else if (itemsL xs).length = 0 then ([], 2) else (codesL (itemsL xs), 0)
end Go.Proofs.YtoanmbhenmlboaaDoorH
end
section
namespace Go.Proofs.YtoanmbhenmlboaaDoorH
open Go.RowKit Go.Proofs.YtoanmbhenmlboaaDoorW.PrintWords Go.Proofs.YtoanmbhenmlboaaDoorW.PrintLast Go.Proofs.YtoanmbhenmlboaaDoorW.PrintMore
def numL : Int → Bool → List UInt8 → Option (Int × Bool)
  | n, big, [] => some (n, big)
  | n, big, c :: l =>
    if (c.toNat : Int) < 48 ∨ 57 < (c.toNat : Int) then none
    else if big = true then numL n true l
    else if n > (4611686018427387903 - ((c.toNat : Int) - 48)) / 10 then numL n true l
    else numL (10 * n + ((c.toNat : Int) - 48)) false l
def numR (s : ByteArray) : Int × Int := match numL 0 false s.data.toList with
  | none => (0, 2)
  | some (n, big) => if s.size = 0 then (0, 2) else if big = true then (0, 3) else (n, 0)
end Go.Proofs.YtoanmbhenmlboaaDoorH
end
section
namespace Go.Proofs.YtoanmbhenmlboaaDoorH
open Go.RowKit Go.Proofs.YtoanmbhenmlboaaDoorW.PrintWords Go.Proofs.YtoanmbhenmlboaaDoorW.PrintLast Go.Proofs.YtoanmbhenmlboaaDoorW.PrintMore
def list_Items.f (l0 : List ByteArray) : Option (List ByteArray) := if sumS l0 ≤ 1000000 then some (itemsL l0) else none
def list_Has.f (a0 : ByteArray) (l1 : List ByteArray) : Option Bool := if a0.size ≤ 1000000 ∧ sumS l1 ≤ 1000000 then some (hasB (itemsL l1) a0) else none
theorem list_Has.calls (a0 : ByteArray) (A1 : Option Addr) (c1 : Nat) (l1 : List ByteArray) (r : Bool) (w : World) (hr1 : Kd.C Kd.string w A1 l1.length l1) (hc1 : l1.length ≤ c1) (hG : TabOk w) (h : list_Has.f a0 l1 = some r) :
    Calls Tryd.prog 49 #[.string a0, .slice A1 l1.length c1] w fun e w' => e = .returned (.bool r) ∧ Below w.heap.size w w' := by
  unfold list_Has.f at h
  split at h
  · rename_i hs
    injection h with h
    subst h
    exact callsIn_wide.1 (Has_in 7 (Nat.le_refl _) a0 hs.1 A1 c1 l1 hs.2 hc1 w hG hr1)
  · cases h
def list_Codings.f (l0 : List ByteArray) : Option ((List ByteArray) × Int) := if sumS l0 ≤ 1000000 then some (codR l0) else none
def list_Number.f (a0 : ByteArray) : Option (Int × Int) := if a0.size ≤ 140737488355328 then some (numR a0) else none
end Go.Proofs.YtoanmbhenmlboaaDoorH
end
section
namespace Go.Proofs.YtoanmbhenmlboaaDoorH
open Go.RowKit Go.Proofs.YtoanmbhenmlboaaDoorW.PrintWords Go.Proofs.YtoanmbhenmlboaaDoorW.PrintLast Go.Proofs.YtoanmbhenmlboaaDoorW.PrintMore
def minI (l : List Int) : Int := (l.drop 1).foldl min (l.getD 0 0)
def maxI (l : List Int) : Int := (l.drop 1).foldl max (l.getD 0 0)
end Go.Proofs.YtoanmbhenmlboaaDoorH
end
section
namespace Go.Proofs.YtoanmbhenmlboaaDoorH
open Go.RowKit Go.Shelf Go.Proofs.YtoanmbhenmlboaaDoorW.PrintWords Go.Proofs.YtoanmbhenmlboaaDoorW.PrintLast Go.Proofs.YtoanmbhenmlboaaDoorW.PrintMore Go.Proofs.YtoanmbhenmlboaaDoor.Ps
attribute [local go_sem] Oper.semAt_some
def rowI (l : List Int) : Array Value := (l.map (Value.int .i64)).toArray
def RowAt (W : World) (B : Nat) (t : TypeId) (l : List Int) : Prop := W.heap[B]? = some (.cells (rowI l) t (0, 0))
theorem rowI_get (l : List Int) (i : Nat) (h : i < l.length) : (rowI l)[i]? = some (.int .i64 (l.getD i 0)) := by
  unfold rowI
  rw [List.getElem?_toArray, List.getElem?_map, List.getD_eq_getElem?_getD, List.getElem?_eq_getElem h]
  rfl
theorem RowAt.cell {W : World} {B : Nat} {t : TypeId} {l : List Int} (h : RowAt W B t l) (i : Nat) (hi : i < l.length) : W.cell? ⟨B, i, none⟩ = some (.int .i64 (l.getD i 0)) := by
  have := rowI_get l i hi
  simp [World.cell?, show W.heap[B]? = _ from h, this]
theorem RowAt.frozen {W : World} {B : Nat} {t : TypeId} {l : List Int} (h : RowAt W B t l) (i : Nat) : W.frozen? ⟨B, i, none⟩ = false := by simp [World.frozen?, show W.heap[B]? = _ from h]
theorem RowAt.lt {W : World} {B : Nat} {t : TypeId} {l : List Int} (h : RowAt W B t l) : B < W.heap.size := (Array.getElem?_eq_some_iff.1 h).1
theorem rowI_set (l : List Int) (i : Nat) (x : Int) : (rowI l).setIfInBounds i (.int .i64 x) = rowI (l.set i x) := by
  unfold rowI
  rw [List.setIfInBounds_toArray, List.map_set]
theorem RowAt.set {W : World} {B : Nat} {t : TypeId} {l : List Int} (h : RowAt W B t l) (i : Nat) (x : Int) : RowAt (W.setCell ⟨B, i, none⟩ (.int .i64 x)) B t (l.set i x) := by
  obtain ⟨hlt, hk⟩ := Array.getElem?_eq_some_iff.1 h
  show (W.heap.modify B _)[B]? = _
  rw [Array.getElem?_eq_getElem (by rw [Array.size_modify]; exact hlt), Array.getElem_modify_self, hk]
  show some (Obj.cells ((rowI l).setIfInBounds i (.int .i64 x)) t (0, 0)) = _
  rw [rowI_set]
theorem RowAt.reads {W : World} {B : Nat} {t : TypeId} {l : List Int} (h : RowAt W B t l) (hl : l.length ≤ 9223372036854775807) : Kd.C (Kd.int .i64) W (some ⟨B, 0, none⟩) l.length l := by
  refine ⟨rfl, hl, fun _ => ⟨_, rfl, fun j p hp => ⟨[.int .i64 p], rfl, rfl, fun i u hu => ?_⟩⟩⟩
  obtain ⟨hj, hjp⟩ := List.getElem?_eq_some_iff.1 hp
  have hi : i = 0 ∧ u = .int .i64 p := by
    cases i with
    | zero => exact ⟨rfl, by simpa using hu.symm⟩
    | succ i => simp at hu
  obtain ⟨rfl, rfl⟩ := hi
  have := h.cell j hj
  rw [List.getD_eq_getElem?_getD, List.getElem?_eq_getElem hj, Option.getD_some, hjp] at this
  rw [show (⟨B, 0, none⟩ : Addr).add (j * (Kd.int .i64).sz + 0) = ⟨B, j, none⟩ by
    show (⟨B, 0, none⟩ : Addr).add (j * 1 + 0) = _
    rw [Nat.mul_one, Nat.add_zero]
    unfold Addr.add
    split
    · rename_i h; rw [h]
    · simp]
  exact this
theorem RowAt.not_row {W : World} {B : Nat} {t e : TypeId} {l : List Int} (h : RowAt W B t l) (hte : t ≠ e) {base size k : Nat} {v : Value} {xs : List Value} (hr : W.ownsRow base e size v k xs) : some B ≠ v.ownBlock := by
  rcases hr.2 with ⟨rfl, _⟩ | ⟨g, cap, cur, rfl, _, hgb, _⟩
  · simp [Value.ownBlock]
  · intro e'
    obtain rfl : B = g := by simpa [Value.ownBlock] using e'
    have := (show W.heap[B]? = _ from h).symm.trans hgb
    simp at this
    exact hte this.2
theorem RowAt.kept {W W' : World} {row : Option Nat} {B : Nat} {t : TypeId} {l : List Int} (h : RowAt W B t l) (hg : W.grownBy W' row) (hne : some B ≠ row) : RowAt W' B t l := (hg.block B h.lt hne).trans h
def badN (l : List (Nat × ByteArray)) : Bool := l.any fun y => (numR y.2).2 == 2
def bigN (l : List (Nat × ByteArray)) : Bool := l.any fun y => (numR y.2).2 == 3
def nums (l : List (Nat × ByteArray)) : List Int := l.map fun y => (numR y.2).1
def metL (n : Nat) (l : List (Nat × ByteArray)) : List Int := l.foldl (fun m y => m.set y.1 (m.getD y.1 0 + 1)) (List.replicate n 0)
def lenR (xs : List ByteArray) : Int × Int :=
  if xs.length = 0 then (0, 7) else if badN (itemsF 0 xs) = true then (0, 2) else if (metL xs.length (itemsF 0 xs)).contains 0 = true then (0, 2) else if bigN (itemsF 0 xs) = true then (0, 3)
  else if minI (nums (itemsF 0 xs)) ≠ maxI (nums (itemsF 0 xs)) then (0, 2) else ((nums (itemsF 0 xs)).getD 0 0, 0)
def list_Length.f (l0 : List ByteArray) : Option (Int × Int) := if sumS l0 ≤ 1000000 then some (lenR l0) else none
end Go.Proofs.YtoanmbhenmlboaaDoorH
end
