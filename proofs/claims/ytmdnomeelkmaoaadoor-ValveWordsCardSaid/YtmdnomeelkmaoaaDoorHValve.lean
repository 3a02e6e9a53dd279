import Derived.Test.YtmdnomeelkmaoaaDoorProg
import Derived.Test.YtmdnomeelkmaoaaDoorWMore
import Derived.Test.YtmdnomeelkmaoaaDoorHLock
import Derived.Tactics
import Derived.Tactics2
import Derived.Defers
import Derived.Laws.Pointers
import Derived.Laws.LoneSync
import Derived.Laws.NewBlocks
import Derived.RegionTactic
import Derived.RegionCalls
import Derived.ChangeAlike
import Derived.Conc.SmallLaws
import Derived.Conc.EventLaws
import Derived.Outline
namespace Go.Proofs.YtmdnomeelkmaoaaDoorV
open Go.RowKit Go.Proofs.YtmdnomeelkmaoaaDoorW.PrintWords Go.Proofs.YtmdnomeelkmaoaaDoorW.PrintLast Go.Proofs.YtmdnomeelkmaoaaDoorW.PrintMore


/-! ### a valve in memory -/
/-- Block b is a valve: where it is, how often it was set, whether its channel is closed; st: the lock's word. -/
structure IsV (W : World) (b r : Nat) (at_ tr dn st : Int) (cl : Bool) : Prop where
  blk : W.heap[b]? = some (.cells #[.int .i32 at_, .int .i64 tr, .int .u32 dn, .int .i32 st, .int .u32 0, .chan (some r)] 66 (0, 0))
  chn : W.heap[r]? = some (.chan 0 #[] cl 0 0 false)
section
variable {W : World} {b r : Nat} {at_ tr dn st : Int} {cl : Bool}
theorem IsV.ne (h : IsV W b r at_ tr dn st cl) : b ≠ r := by
  rintro rfl
  have := h.blk.symm.trans h.chn
  simp at this
theorem IsV.c0 (h : IsV W b r at_ tr dn st cl) : W.cell? ⟨b, 0, none⟩ = some (.int .i32 at_) := (blk_cell h.blk 0).trans rfl
theorem IsV.c1 (h : IsV W b r at_ tr dn st cl) : W.cell? ⟨b, 1, none⟩ = some (.int .i64 tr) := (blk_cell h.blk 1).trans rfl
theorem IsV.c2 (h : IsV W b r at_ tr dn st cl) : W.cell? ⟨b, 2, none⟩ = some (.int .u32 dn) := (blk_cell h.blk 2).trans rfl
theorem IsV.c3 (h : IsV W b r at_ tr dn st cl) : W.cell? ⟨b, 3, none⟩ = some (.int .i32 st) := (blk_cell h.blk 3).trans rfl
theorem IsV.c5 (h : IsV W b r at_ tr dn st cl) : W.cell? ⟨b, 5, none⟩ = some (.chan (some r)) := (blk_cell h.blk 5).trans rfl
theorem IsV.fz (h : IsV W b r at_ tr dn st cl) (j : Nat) : W.frozen? ⟨b, j, none⟩ = false := blk_frozen h.blk j
theorem chn_set (h : W.heap[r]? = some (.chan 0 #[] cl 0 0 false)) (p : Addr) (v : Value) : (W.setCell p v).heap[r]? = some (.chan 0 #[] cl 0 0 false) := by
  simp only [World.setCell, Array.getElem?_modify]
  split
  · rw [h]; rfl
  · exact h
theorem IsV.s0 (h : IsV W b r at_ tr dn st cl) (x : Int) : IsV (W.setCell ⟨b, 0, none⟩ (.int .i32 x)) b r x tr dn st cl := ⟨by simpa using blk_set h.blk 0 (.int .i32 x), chn_set h.chn _ _⟩
theorem IsV.s1 (h : IsV W b r at_ tr dn st cl) (x : Int) : IsV (W.setCell ⟨b, 1, none⟩ (.int .i64 x)) b r at_ x dn st cl := ⟨by simpa using blk_set h.blk 1 (.int .i64 x), chn_set h.chn _ _⟩
theorem IsV.s2 (h : IsV W b r at_ tr dn st cl) (x : Int) : IsV (W.setCell ⟨b, 2, none⟩ (.int .u32 x)) b r at_ tr x st cl := ⟨by simpa using blk_set h.blk 2 (.int .u32 x), chn_set h.chn _ _⟩
theorem IsV.s3 (h : IsV W b r at_ tr dn st cl) (x : Int) : IsV (W.setCell ⟨b, 3, none⟩ (.int .i32 x)) b r at_ tr dn x cl := ⟨by simpa using blk_set h.blk 3 (.int .i32 x), chn_set h.chn _ _⟩
theorem IsV.alloc (h : IsV W b r at_ tr dn st cl) (o : Obj) : IsV (W.alloc o) b r at_ tr dn st cl := ⟨blk_alloc h.blk o, blk_alloc h.chn o⟩
theorem IsV.drew (h : IsV W b r at_ tr dn st cl) : IsV W.drew b r at_ tr dn st cl := ⟨h.blk, h.chn⟩
/-- The world in which the channel is closed. -/
def closeW (W : World) (r : Nat) : World := { W with heap := W.heap.setIfInBounds r (.chan 0 #[] true 0 0 false) }
theorem IsV.close (h : IsV W b r at_ tr dn st cl) : IsV (closeW W r) b r at_ tr dn st true := by
  have hne := h.ne
  have hr := blk_lt h.chn
  refine ⟨?_, ?_⟩
  · unfold closeW
    simp only [Array.getElem?_setIfInBounds]
    rw [if_neg (Ne.symm hne)]
    exact h.blk
  · unfold closeW
    simp [hr]
theorem closeW_cell (hr : W.heap[r]? = some (.chan 0 #[] cl 0 0 false)) (a : Addr) : (closeW W r).cell? a = W.cell? a := by
  unfold closeW World.cell?
  simp only [Array.getElem?_setIfInBounds]
  by_cases h : r = a.block
  · subst h
    have hlt := blk_lt hr
    rw [if_pos rfl, if_pos hlt, hr]
  · rw [if_neg h]
theorem below_closeW {B : Nat} {w : World} (h : Below B w W) (hr : B ≤ r) : Below B w (closeW W r) := by
  refine h.trans ⟨rfl, rfl, rfl, by unfold closeW; simp, fun i hi => ?_⟩
  unfold closeW
  simp only [Array.getElem?_setIfInBounds]
  rw [if_neg (by omega)]
theorem below_set {B : Nat} {w : World} (h : Below B w W) (hb : B ≤ b) (j : Nat) (v : Value) : Below B w (W.setCell ⟨b, j, none⟩ v) := h.setCell (p := ⟨b, j, none⟩) hb v
end

set_option maxHeartbeats 1600000 in
set_option maxRecDepth 100000 in
/-- The function that Once is handed: the channel is closed. -/
theorem closer_calls (b r : Nat) (pl : Addr) (at_ tr dn st : Int) (w : World) (hp : w.cell? pl = some (.pointer (some ⟨b, 0, none⟩))) (h : IsV w b r at_ tr dn st false) :
    Calls Tryd.prog 45 #[.pointer (some pl)] w fun e w' => e = .returned (.tuple #[]) ∧ w' = closeW w r := by
  have hc := run_close_open (P := Tryd.prog) (w := w) #[47] 0 h.chn
  have h5 := h.c5
  clear h
  go_enter Tryd.func45, Tryd.ntmps45
  go_wp2
  go_end0
  exact ⟨rfl, rfl⟩

set_option maxHeartbeats 1600000 in
set_option maxRecDepth 100000 in
/-- '(*sync.Once).doSlow', not yet done, the lock free. -/
theorem slow_calls (b r : Nat) (pl : Addr) (at_ tr : Int) (w : World) (hpb : b ≠ pl.block) (hp : w.cell? pl = some (.pointer (some ⟨b, 0, none⟩))) (h : IsV w b r at_ tr 0 0 false) :
    Calls Tryd.prog 58 #[.pointer (some ⟨b, 2, none⟩), .func (.func 45) #[] #[.pointer (some pl)]] w fun e w' => e = .returned (.tuple #[]) ∧
      w' = ((closeW (w.setCell ⟨b, 3, none⟩ (.int .i32 1)) r).drew.setCell ⟨b, 2, none⟩ (.int .u32 1)).setCell ⟨b, 3, none⟩ (.int .i32 0) := by
  have h1 := h.s3 1
  have hl := run_call_load (P := Tryd.prog) Tryd.func65 (by kernel_rfl) (by kernel_rfl) (by kernel_rfl) .u32 (by kernel_rfl) h1.c2
  have hp1 : (w.setCell ⟨b, 3, none⟩ (.int .i32 1)).cell? pl = some (.pointer (some ⟨b, 0, none⟩)) := (World.cell?_setCell_other _ ⟨b, 3, none⟩ pl _ (fun e => hpb (by rw [← e]))).trans hp
  have hnot : ∀ (x : Bool) (w : World), (Op.unary .not (.bool x)).run Tryd.prog w = .ok (.bool (!x)) w := fun _ _ => rfl
  have H1 := Aside0.mk h1
  have HP1 := Aside0.mk hp1
  have H0 := Aside0.mk h
  clear h1 hp1 h hp
  go_enter_defers Tryd.func58, Tryd.ntmps58
  go_wp2_with (first | (go_at_call 66; refine (lock_free ⟨b, 3, none⟩ _ H0.out.c3 (H0.out.fz 3)).mono ?_; rintro e w' ⟨rfl, rfl⟩) | (go_at_call 45; refine (closer_calls b r pl at_ tr 0 1 _ HP1.out H1.out).mono ?_; rintro e w' ⟨rfl, rfl⟩) | (go_at_call 57; go_in))
  -- two deferred calls, the last laid first
  refine leaves_cons (f := 68) (args := #[.pointer (some ⟨b, 2, none⟩), .bool true]) (by simp) (by simp [go_sem]) ?_
  refine (store_deferred ⟨b, 2, none⟩ (.int .u32 0) .returning _ H1.out.close.c2 (H1.out.close.fz 2)).mono ?_
  rintro e u' w'' ⟨rfl, rfl, rfl⟩
  refine leaves_cons (f := 67) (args := #[.pointer (some ⟨b, 3, none⟩)]) (by simp [settle]) (by simp [go_sem]) ?_
  refine (unlock_deferred ⟨b, 3, none⟩ _ _ (H1.out.close.drew.s2 1).c3 ((H1.out.close.drew.s2 1).fz 3)).mono ?_
  rintro e u' w'' ⟨rfl, rfl, rfl⟩
  simp [Leaves, settle, results, Tryd.results58]

set_option maxHeartbeats 1600000 in
set_option maxRecDepth 100000 in
theorem do_first (b r : Nat) (pl : Addr) (at_ tr : Int) (w : World) (hpb : b ≠ pl.block) (hp : w.cell? pl = some (.pointer (some ⟨b, 0, none⟩))) (h : IsV w b r at_ tr 0 0 false) :
    Calls Tryd.prog 44 #[.pointer (some ⟨b, 2, none⟩), .func (.func 45) #[] #[.pointer (some pl)]] w fun e w' => e = .returned (.tuple #[]) ∧
      w' = ((closeW (w.setCell ⟨b, 3, none⟩ (.int .i32 1)) r).drew.setCell ⟨b, 2, none⟩ (.int .u32 1)).setCell ⟨b, 3, none⟩ (.int .i32 0) := by
  have hl := run_call_load (P := Tryd.prog) Tryd.func65 (by kernel_rfl) (by kernel_rfl) (by kernel_rfl) .u32 (by kernel_rfl) h.c2
  have hnot : ∀ (x : Bool) (w : World), (Op.unary .not (.bool x)).run Tryd.prog w = .ok (.bool (!x)) w := fun _ _ => rfl
  have H := Aside0.mk (slow_calls b r pl at_ tr w hpb hp h)
  clear h hp
  go_enter Tryd.func44, Tryd.ntmps44
  go_wp2_with (first | (go_at_call 58; refine H.out.mono ?_; rintro e w' ⟨rfl, rfl⟩) | (go_at_call 57; go_in))
  go_end0
  exact ⟨rfl, rfl⟩

set_option maxHeartbeats 1600000 in
set_option maxRecDepth 100000 in
theorem do_done (b r : Nat) (at_ tr : Int) (fv : Value) (w : World) (h : IsV w b r at_ tr 1 0 true) :
    Calls Tryd.prog 44 #[.pointer (some ⟨b, 2, none⟩), fv] w fun e w' => e = .returned (.tuple #[]) ∧ w' = w := by
  have hl := run_call_load (P := Tryd.prog) Tryd.func65 (by kernel_rfl) (by kernel_rfl) (by kernel_rfl) .u32 (by kernel_rfl) h.c2
  have hnot : ∀ (x : Bool) (w : World), (Op.unary .not (.bool x)).run Tryd.prog w = .ok (.bool (!x)) w := fun _ _ => rfl
  clear h
  go_enter Tryd.func44, Tryd.ntmps44
  go_wp2
  go_end0
  exact ⟨rfl, rfl⟩

set_option maxHeartbeats 1600000 in
set_option maxRecDepth 100000 in
theorem new_calls (w : World) :
    Calls Tryd.prog 29 #[] w fun e w' => e = .returned (.pointer (some ⟨w.heap.size + 1, 0, none⟩)) ∧ IsV w' (w.heap.size + 1) w.heap.size 0 0 0 0 false ∧ Below w.heap.size w w' := by
  obtain ⟨i, hi, hz⟩ := Option.map_eq_some_iff.1 (show (Tryd.prog.info? 48).map (·.bytes) = some 0 by kernel_rfl)
  have hmk : ∀ W : World, (Instr.makeChan 47 (.int .i64 0)).run Tryd.prog W = .ok (.chan (some W.heap.size)) (W.alloc (.chan 0 #[] false 0 0 false)) := fun W => Conc.run_makeChan (P := Tryd.prog) (w := W) Tryd.underlying47 hi .i64 0 (by omega) (by omega)
  have hbd : ∀ W : World, (Instr.build 66 #[(3, .chan (some w.heap.size))]).run Tryd.prog W = .ok (.agg #[.int .i32 0, .int .i64 0, .int .u32 0, .int .i32 0, .int .u32 0, .chan (some w.heap.size)]) W := fun _ => by kernel_rfl
  go_enter Tryd.func29, Tryd.ntmps29
  go_wp2
  go_ret
  refine ⟨by simp [go_sem], ⟨heap_alloc2_new w _ _, heap_alloc2_old w _ _⟩, ((Below.refl _ _).alloc (Nat.le_refl _) _).alloc (by simp) _⟩

set_option maxHeartbeats 1600000 in
set_option maxRecDepth 100000 in
theorem add_calls (b : Nat) (tr : Int) (w : World) (hc : w.cell? ⟨b, 1, none⟩ = some (.int .i64 tr)) (hz : w.frozen? ⟨b, 1, none⟩ = false) :
    Calls Tryd.prog 42 #[.pointer (some ⟨b, 1, none⟩), .int .i64 1] w fun e w' => (∃ v, e = .returned v) ∧ w' = w.setCell ⟨b, 1, none⟩ (.int .i64 (wrap64 (tr + 1))) := by
  have hadd := run_call_add (P := Tryd.prog) Tryd.func55 (by kernel_rfl) (by kernel_rfl) (by kernel_rfl) .i64 (by kernel_rfl) (y := 1) (s := wrap64 (tr + 1)) hc hz (by simp [go_sem]; rw [IntKind.wrap_i64]; unfold wrap64; rfl)
  go_enter Tryd.func42, Tryd.ntmps42
  go_wp2
  go_ret
  exact ⟨⟨_, rfl⟩, rfl⟩

set_option maxHeartbeats 1600000 in
set_option maxRecDepth 100000 in
theorem cas_hit (b : Nat) (x : Int) (w : World) (hc : w.cell? ⟨b, 0, none⟩ = some (.int .i32 0)) (hz : w.frozen? ⟨b, 0, none⟩ = false) :
    Calls Tryd.prog 43 #[.pointer (some ⟨b, 0, none⟩), .int .i32 0, .int .i32 x] w fun e w' => e = .returned (.bool true) ∧ w' = w.setCell ⟨b, 0, none⟩ (.int .i32 x) := by
  have hcas := run_call_cas_hit (P := Tryd.prog) Tryd.func56 (by kernel_rfl) (by kernel_rfl) (by kernel_rfl) .i32 (by kernel_rfl) (y := x) hc hz
  go_enter Tryd.func43, Tryd.ntmps43
  go_wp2
  go_ret
  exact ⟨rfl, rfl⟩

set_option maxHeartbeats 1600000 in
set_option maxRecDepth 100000 in
theorem cas_miss (b : Nat) (x y : Int) (w : World) (hne : ¬ y = 0) (hc : w.cell? ⟨b, 0, none⟩ = some (.int .i32 y)) (hz : w.frozen? ⟨b, 0, none⟩ = false) :
    Calls Tryd.prog 43 #[.pointer (some ⟨b, 0, none⟩), .int .i32 0, .int .i32 x] w fun e w' => e = .returned (.bool false) ∧ w' = w := by
  have hcas := run_call_cas_miss (P := Tryd.prog) Tryd.func56 (by kernel_rfl) (by kernel_rfl) (by kernel_rfl) .i32 (by kernel_rfl) (y := x) hc hz hne
  go_enter Tryd.func43, Tryd.ntmps43
  go_wp2
  go_ret
  exact ⟨rfl, rfl⟩

/-- What a method of the valve turns: its own block, its channel. -/
structure Near (b r : Nat) (w w' : World) : Prop where
  cell : ∀ a : Addr, a.block ≠ b → w'.cell? a = w.cell? a
  below : ∀ (B : Nat) (w0 : World), Below B w0 w → B ≤ b → B ≤ r → Below B w0 w'
theorem Near.set (b r : Nat) (w : World) (j : Nat) (v : Value) : Near b r w (w.setCell ⟨b, j, none⟩ v) :=
  ⟨fun a h => World.cell?_setCell_other _ _ _ _ (by intro e; rw [← e] at h; exact h rfl), fun _ _ h hb _ => below_set h hb j v⟩
theorem Near.trans {b r : Nat} {w w1 w2 : World} (h : Near b r w w1) (k : Near b r w1 w2) : Near b r w w2 :=
  ⟨fun a ha => (k.cell a ha).trans (h.cell a ha), fun B w0 hB hb hr => k.below B w0 (h.below B w0 hB hb hr) hb hr⟩
theorem Near.drew (b r : Nat) (w : World) : Near b r w w.drew := ⟨fun _ _ => rfl, fun _ _ h _ _ => Below.drew h⟩
theorem Near.close {b r : Nat} {w : World} {cl : Bool} (h : w.heap[r]? = some (.chan 0 #[] cl 0 0 false)) : Near b r w (closeW w r) :=
  ⟨fun a _ => closeW_cell h a, fun _ _ hB _ hr => below_closeW hB hr⟩

theorem add_near {b r : Nat} {at_ tr dn st : Int} {cl : Bool} {w : World} (h : IsV w b r at_ tr dn st cl) :
    Calls Tryd.prog 42 #[.pointer (some ⟨b, 1, none⟩), .int .i64 1] w fun e w' => (∃ v, e = .returned v) ∧ IsV w' b r at_ (wrap64 (tr + 1)) dn st cl ∧ Near b r w w' :=
  (add_calls b tr w h.c1 (h.fz 1)).mono fun _ _ ⟨he, hw⟩ => ⟨he, hw ▸ h.s1 _, hw ▸ Near.set b r w 1 _⟩
theorem hit_near {b r : Nat} {tr dn st : Int} {cl : Bool} {w : World} (x : Int) (h : IsV w b r 0 tr dn st cl) :
    Calls Tryd.prog 43 #[.pointer (some ⟨b, 0, none⟩), .int .i32 0, .int .i32 x] w fun e w' => e = .returned (.bool true) ∧ IsV w' b r x tr dn st cl ∧ Near b r w w' :=
  (cas_hit b x w h.c0 (h.fz 0)).mono fun _ _ ⟨he, hw⟩ => ⟨he, hw ▸ h.s0 _, hw ▸ Near.set b r w 0 _⟩
theorem miss_near {b r : Nat} {at_ tr dn st : Int} {cl : Bool} {w : World} (x : Int) (hne : ¬ at_ = 0) (h : IsV w b r at_ tr dn st cl) :
    Calls Tryd.prog 43 #[.pointer (some ⟨b, 0, none⟩), .int .i32 0, .int .i32 x] w fun e w' => e = .returned (.bool false) ∧ w' = w :=
  cas_miss b x at_ w hne h.c0 (h.fz 0)
theorem first_near {b r : Nat} {pl : Addr} {at_ tr : Int} {w : World} (hpb : b ≠ pl.block) (hp : w.cell? pl = some (.pointer (some ⟨b, 0, none⟩))) (h : IsV w b r at_ tr 0 0 false) :
    Calls Tryd.prog 44 #[.pointer (some ⟨b, 2, none⟩), .func (.func 45) #[] #[.pointer (some pl)]] w fun e w' => e = .returned (.tuple #[]) ∧ IsV w' b r at_ tr 1 0 true ∧ Near b r w w' :=
  (do_first b r pl at_ tr w hpb hp h).mono fun _ _ ⟨he, hw⟩ => ⟨he, hw ▸ (((h.s3 1).close.drew).s2 1).s3 0,
    hw ▸ ((((Near.set b r w 3 _).trans (Near.close (h.s3 1).chn)).trans (Near.drew b r _)).trans (Near.set b r _ 2 _)).trans (Near.set b r _ 3 _)⟩

/-- A valve at at_, set tr times: closed just if it was set. -/
def Val (W : World) (b r : Nat) (at_ tr : Int) : Prop := IsV W b r at_ tr (if at_ = 0 then 0 else 1) 0 (decide (at_ ≠ 0))
/-- Where it goes, how often it was set then, and whether that was the first time. -/
def setAt (at_ x : Int) : Int := if 1 ≤ x ∧ x ≤ 7 ∧ at_ = 0 then x else at_
def setTr (tr x : Int) : Int := if 1 ≤ x ∧ x ≤ 7 then wrap64 (tr + 1) else tr
def setFirst (at_ x : Int) : Bool := decide (1 ≤ x ∧ x ≤ 7 ∧ at_ = 0)

set_option maxHeartbeats 1600000 in
set_option maxRecDepth 100000 in
theorem set_calls (b r : Nat) (at_ tr x : Int) (w0 w : World) (hx : (Lit.int .i64 x).wf = true) (h : Val w b r at_ tr) (hB : Below w0.heap.size w0 w) (hb : w0.heap.size ≤ b) (hr : w0.heap.size ≤ r) :
    Calls Tryd.prog 30 #[.pointer (some ⟨b, 0, none⟩), .int .i64 x] w fun e w' => e = .returned (.bool (setFirst at_ x)) ∧ Val w' b r (setAt at_ x) (setTr tr x) ∧ Below w0.heap.size w0 w' := by
  by_cases hv : 1 ≤ x ∧ x ≤ 7
  · have e3 : setTr tr x = wrap64 (tr + 1) := by unfold setTr; rw [if_pos hv]
    have hx32 : IntKind.i32.wrap x = x := by unfold IntKind.wrap; simp [IntKind.signed, IntKind.bits]; omega
    have hmf : ∀ (fn : Fn) (first cap : Array Value) (w : World), (Instr.makeFunc fn first cap).run Tryd.prog w = .ok (.func fn first cap) w := fun _ _ _ _ => rfl
    have HA := Aside0.mk (IsV.alloc h (.cells #[.pointer (some ⟨b, 0, none⟩)] 35))
    have HBA := Aside0.mk (hB.alloc hB.size (.cells #[.pointer (some ⟨b, 0, none⟩)] 35))
    have hlt : b < w.heap.size := blk_lt h.blk
    have HP0 := Aside0.mk (show (w.alloc (.cells #[.pointer (some ⟨b, 0, none⟩)] 35)).cell? ⟨w.heap.size, 0, none⟩ = some (.pointer (some ⟨b, 0, none⟩)) by simp)
    have HNB := Aside0.mk (show (⟨w.heap.size, 0, none⟩ : Addr).block ≠ b by simp; omega)
    have HV := Aside0.mk hv
    have HBR := Aside0.mk (And.intro hb hr)
    have h1 : ¬ x ≤ 0 := by omega
    have h8 : ¬ 8 ≤ x := by omega
    clear h hB hb hr hv hlt
    by_cases h0 : at_ = 0
    · subst h0
      have e1 : setFirst 0 x = true := by unfold setFirst; rw [decide_eq_true_iff]; have := HV.out; omega
      have e2 : setAt 0 x = x := by unfold setAt; have := HV.out; rw [if_pos (by omega)]
      rw [e1, e2, e3]
      clear e1 e2 e3
      go_enter Tryd.func30, Tryd.ntmps30
      go_wp2_with fail
      refine (add_near HA.out).mono ?_
      rintro e w1 ⟨⟨v, rfl⟩, h1', n1⟩
      have H1 := Aside0.mk h1'
      have N1 := Aside0.mk n1
      have hp1 := (n1.cell ⟨w.heap.size, 0, none⟩ HNB.out).trans HP0.out
      clear h1' n1
      go_wp2_with fail
      refine (hit_near x H1.out).mono ?_
      rintro e w2 ⟨rfl, h2', n2⟩
      have H2 := Aside0.mk h2'
      have N2 := Aside0.mk (N1.out.trans n2)
      have hp2 := (N2.out.cell ⟨w.heap.size, 0, none⟩ HNB.out).trans HP0.out
      have HP2 := Aside0.mk hp2
      clear h2' n2 hp1
      go_wp2_with fail
      refine (first_near (Ne.symm HNB.out) HP2.out H2.out).mono ?_
      rintro e w3 ⟨rfl, h3', n3⟩
      have H3 := Aside0.mk h3'
      have N3 := Aside0.mk (N2.out.trans n3)
      clear h3' n3 hp2
      go_wp2
      go_ret
      refine ⟨rfl, ?_, N3.out.below _ _ HBA.out HBR.out.1 HBR.out.2⟩
      have hne : x ≠ 0 := by have := HV.out; omega
      unfold Val
      rw [if_neg hne, decide_eq_true hne]
      exact H3.out
    · have e1 : setFirst at_ x = false := by unfold setFirst; rw [decide_eq_false_iff_not]; omega
      have e2 : setAt at_ x = at_ := by unfold setAt; rw [if_neg (by omega)]
      rw [e1, e2, e3]
      have hHA := HA.out
      rw [if_neg h0, decide_eq_true h0] at hHA
      have HA' := Aside0.mk hHA
      have H0 := Aside0.mk h0
      clear e1 e2 e3 hHA h0
      go_enter Tryd.func30, Tryd.ntmps30
      go_wp2_with fail
      refine (add_near HA'.out).mono ?_
      rintro e w1 ⟨⟨v, rfl⟩, h1', n1⟩
      have H1 := Aside0.mk h1'
      have N1 := Aside0.mk n1
      have hp1 := (n1.cell ⟨w.heap.size, 0, none⟩ HNB.out).trans HP0.out
      clear h1' n1
      go_wp2_with fail
      refine (miss_near x H0.out H1.out).mono ?_
      rintro e w' ⟨rfl, rfl⟩
      go_wp2_with fail
      refine (do_done b r at_ (wrap64 (tr + 1)) _ _ H1.out).mono ?_
      rintro e w' ⟨rfl, rfl⟩
      go_wp2
      go_ret
      refine ⟨rfl, ?_, N1.out.below _ _ HBA.out HBR.out.1 HBR.out.2⟩
      unfold Val
      rw [if_neg H0.out, decide_eq_true H0.out]
      exact H1.out
  · have e1 : setFirst at_ x = false := by unfold setFirst; rw [decide_eq_false_iff_not]; omega
    have e2 : setAt at_ x = at_ := by unfold setAt; rw [if_neg (by omega)]
    have e3 : setTr tr x = tr := by unfold setTr; rw [if_neg hv]
    rw [e1, e2, e3]
    have H := Aside0.mk (IsV.alloc h (.cells #[.pointer (some ⟨b, 0, none⟩)] 35))
    have HB := Aside0.mk (hB.alloc hB.size (.cells #[.pointer (some ⟨b, 0, none⟩)] 35))
    clear h hB e1 e2 e3 hb hr
    by_cases h0 : x ≤ 0
    · clear hv
      go_enter Tryd.func30, Tryd.ntmps30
      go_wp2
      go_ret
      exact ⟨rfl, H.out, HB.out⟩
    · have h8 : 8 ≤ x := by omega
      have h1 : 0 < x := by omega
      clear hv h0
      go_enter Tryd.func30, Tryd.ntmps30
      go_wp2
      go_ret
      exact ⟨rfl, H.out, HB.out⟩

set_option maxHeartbeats 1600000 in
set_option maxRecDepth 100000 in
theorem get_calls (b r : Nat) (at_ tr : Int) (w : World) (h : Val w b r at_ tr) (h0 : 0 ≤ at_) (h1 : at_ ≤ 7) :
    Calls Tryd.prog 31 #[.pointer (some ⟨b, 0, none⟩)] w fun e w' => e = .returned (.int .i64 at_) ∧ w' = w := by
  have hl := run_call_load (P := Tryd.prog) Tryd.func59 (by kernel_rfl) (by kernel_rfl) (by kernel_rfl) .i32 (by kernel_rfl) (IsV.c0 h)
  clear h
  go_enter Tryd.func31, Tryd.ntmps31
  go_wp2
  go_ret
  exact ⟨rfl, rfl⟩
end Go.Proofs.YtmdnomeelkmaoaaDoorV
