import Derived.RangeFuncNested
import Derived.RangeFuncBound
import Derived.RangeFuncCalls
import Derived.RangeFuncBox
section
namespace Go.Proofs.YtofegjgiocljlaaDoorH
open Go Go.RowKit
theorem room_none {F : Fence} (hd : F.depth = none) (k : Nat) : F.room k := fun d h => by rw [hd] at h; cases h
theorem round_any {F : Fence} (hd : F.depth = none) {m m' : Nat} {P : Program} {l : Nat} {f : FuncId} {tmps : Array Value} {assign body : Code} {w : World} {R : Ending → World → Prop}
    (h : RoundIn F m P l f tmps assign body w R) : RoundIn F m' P l f tmps assign body w R := ⟨h.1, fun c cs _ => h.2 c cs (room_none hd _)⟩
def Abd {β : Type} (Z : Nat → Prop) (B : Nat) (J : β → Option Nat → World → Prop) : Prop :=
  ∀ s g A C row, J s g A → A.grownBy C row → (∀ r, row = some r → (B ≤ r ∧ some r ≠ g) ∨ Z r) → J s g C
structure Spares (K : Nat → Prop) (g g' : Option Nat) (W W' : World) : Prop where
  size : W.heap.size ≤ W'.heap.size
  own : g' = g ∨ ∃ b, g' = some b ∧ W.heap.size ≤ b ∧ b < W'.heap.size
  same : ∀ k, K k → k < W.heap.size → some k ≠ g → W'.heap[k]? = W.heap[k]?
theorem Spares.refl (K : Nat → Prop) (g : Option Nat) (W : World) : Spares K g g W W := ⟨Nat.le_refl _, .inl rfl, fun _ _ _ _ => rfl⟩
theorem Spares.trans {K : Nat → Prop} {g g' g'' : Option Nat} {A B C : World} (h : Spares K g g' A B) (h' : Spares K g' g'' B C) : Spares K g g'' A C := by
  refine ⟨Nat.le_trans h.size h'.size, ?_, fun k hk hlt hne => ?_⟩
  · rcases h'.own with e | ⟨b, e, hb, hb2⟩
    · rcases h.own with e2 | ⟨b, e2, hb, hb2⟩
      · exact .inl (e.trans e2)
      · exact .inr ⟨b, e.trans e2, hb, Nat.lt_of_lt_of_le hb2 h'.size⟩
    · exact .inr ⟨b, e, Nat.le_trans h.size hb, hb2⟩
  · refine (h'.same k hk (Nat.lt_of_lt_of_le hlt h.size) ?_).trans (h.same k hk hlt hne)
    rcases h.own with e | ⟨b, e, hb, _⟩
    · rw [e]; exact hne
    · rw [e]; intro h; cases h; omega
theorem Spares.imp {K K' : Nat → Prop} {g g' : Option Nat} {A B : World} (h : Spares K g g' A B) (hk : ∀ k, K' k → k < A.heap.size → K k) : Spares K' g g' A B := ⟨h.size, h.own, fun k a b c => h.same k (hk k a b) b c⟩
theorem grown_below {W W' : World} (h : Below W.heap.size W W') : W.grownBy W' none := ⟨h.os, h.tape, h.output, h.size, fun k hk _ => h.block k hk⟩
theorem Spares.below {K : Nat → Prop} {g : Option Nat} {W W' : World} (h : Below W.heap.size W W') : Spares K g g W W' := ⟨h.size, .inl rfl, fun k _ hk _ => h.block k hk⟩
theorem Spares.turned {K : Nat → Prop} {g : Option Nat} {W W' : World} {row : Option Nat} (h : W.grownBy W' row) (hr : ∀ r, row = some r → K r → some r = g) : Spares K g g W W' :=
  ⟨h.size, .inl rfl, fun k hk hlt hne => h.block k hlt (fun e => hne (hr k e.symm hk))⟩
theorem Abd.step {β : Type} {Z : Nat → Prop} {B : Nat} {I : β → Option Nat → World → Prop} (h : Abd Z B I) {s : β} {g : Option Nat} {W W' : World} (hs : I s g W) (hb : W.grownBy W' none) : I s g W' := h s g W _ none hs hb (fun r e => by cases e)
theorem Abd.putObj {β : Type} {Z : Nat → Prop} {B : Nat} {I : β → Option Nat → World → Prop} (h : Abd Z B I) {s : β} {g : Option Nat} {W : World} {l : Nat} (o' : Obj) (hs : I s g W) (hB : B ≤ l) (hl : some l ≠ g) : I s g (W.putObj l o') :=
  h s g W _ (some l) hs (grownBy_putObj' W l o') (fun r e => by cases e; exact .inl ⟨hB, hl⟩)
theorem Abd.alloc {β : Type} {Z : Nat → Prop} {B : Nat} {I : β → Option Nat → World → Prop} (h : Abd Z B I) {s : β} {g : Option Nat} {W : World} (o : Obj) (hs : I s g W) : I s g (W.alloc o) :=
  h.step hs (World.grownBy_alloc W o none)
theorem Abd.and {β : Type} {Z : Nat → Prop} {B : Nat} {I I' : β → Option Nat → World → Prop} (h : Abd Z B I) (h' : Abd Z B I') : Abd Z B (fun s g W => I s g W ∧ I' s g W) := fun s g A C row hs hg hr => ⟨h s g A C row hs.1 hg hr, h' s g A C row hs.2 hg hr⟩
theorem Abd.pure {β : Type} {Z : Nat → Prop} {B : Nat} (p : β → Option Nat → Prop) : Abd Z B (fun s g (_ : World) => p s g) := fun _ _ _ _ _ hs _ _ => hs
theorem Abd.imp {β : Type} {Z Z' : Nat → Prop} {B B' : Nat} {I : β → Option Nat → World → Prop} (h : Abd Z B I) (hB : B ≤ B') (hZ : ∀ r, Z' r → Z r) : Abd Z' B' I := fun s g A C row hs hg hr => h s g A C row hs hg (fun r e => (hr r e).elim (fun k => .inl ⟨Nat.le_trans hB k.1, k.2⟩) (fun k => .inr (hZ r k)))
theorem Abd.low {β : Type} {Z : Nat → Prop} {B n₀ : Nat} {w : World} (hB : n₀ ≤ B) (hw : n₀ ≤ w.heap.size) (hZ : ∀ r, Z r → n₀ ≤ r) : Abd Z B (fun (_ : β) _ W => Below n₀ w W) := fun _ _ _ _ _ hs hg hr =>
  hs.grown hg (Nat.le_trans hw hs.size) (fun k e => (hr k e).elim (fun h => Nat.le_trans hB h.1) (fun h => hZ k h))
theorem Abd.block {β : Type} {Z : Nat → Prop} {B b : Nat} (f : β → Obj) (hB : b < B) (hZ : ¬ Z b) : Abd Z B (fun (s : β) _ W => W.heap[b]? = some (f s)) := fun _ _ _ _ _ hs hg hr =>
  (hg.block b (Array.getElem?_eq_some_iff.1 hs).1 (fun e => (hr b e.symm).elim (fun h => by omega) (fun h => hZ h))).trans hs
def SeqO {α : Type} (F : Fence) (n : Nat) (P : Program) (gf : Nat) (lb : Array Value) (encs : α → Array Value) (Kz Z : Nat → Prop) (S Sp : List α → Prop) (w : World) : Prop :=
  ∀ (l : Nat) (J Jx : List α → Option Nat → World → Prop) (g0 : Option Nat) (W : World), Below w.heap.size w W → Abd Z W.heap.size J → Abd Z W.heap.size Jx → (∀ q, g0 = some q → ¬ Kz q ∧ q < W.heap.size) →
    (∀ m pre x g W1, J pre g W1 → Sp (pre ++ [x]) → YieldAt F m P l (encs x) W1 fun e W' => ∃ g', Spares (fun k => W.heap.size ≤ k ∨ Kz k) g g' W1 W' ∧
      ((e = .returned (.bool true) ∧ J (pre ++ [x]) g' W') ∨ (e = .returned (.bool false) ∧ Jx (pre ++ [x]) g' W'))) →
    J [] g0 W →
    CallsIn F n P gf (#[.func (.yield l) #[] #[]] ++ lb) W fun e W' => (∃ v, e = .returned v) ∧ ((∃ xs g, S xs ∧ J xs g W') ∨ (∃ pre g, Sp pre ∧ Jx pre g W'))
def leftO {α : Type} (K : Nat → Prop) (I : List α → Option Nat → World → Prop) (Ix : Code → List α → Option Nat → World → Prop) (xs : List α) (g : Option Nat) (W : World) : Exit → Act → World → Prop
  | .normal, _, W' => ∃ g', Spares K g g' W W' ∧ I xs g' W'
  | .ret, _, W' => ∃ g', Spares K g g' W W' ∧ Ix .ret xs g' W'
  | .exit id, _, W' => ∃ g', Spares K g g' W W' ∧ Ix (.exit id) xs g' W'
  | .goto t, _, W' => ∃ g', Spares K g g' W W' ∧ Ix (.goto t) xs g' W'
  | .panic _, _, _ => False
  | .outgrown, _, _ => False
theorem wpIn_range_own {F : Fence} {n : Nat} {P : Program} {α : Type} {f : Operand} {ps : Array Tmp} {assign body : Code} {Q : Exit → Act → World → Prop} {a : Act} {w : World}
    (hd : F.depth = none) (hro : F.round = none) (h1 : 1 ≤ n) {gf : Nat} {lb : Array Value} (hf : a.eval f = .func (.func gf) #[] lb) (hFg : F.fn gf) (eg : ∀ args w, (callFunc gf args).run P w = .ok (.enter gf args) w)
    {encs : α → Array Value} {Kz Z : Nat → Prop} {S Sp : List α → Prop} {w0 : World} (hseq : SeqO F (n - 1) P gf lb encs Kz Z S Sp w0)
    (hb0 : Below w0.heap.size w0 w) (hZ : ∀ r, Z r → r < w.heap.size) (hKz : ∀ r, Kz r → r < w.heap.size) (hps : ∀ x, (encs x).size = ps.size)
    (g0 : Option Nat) (hg0 : ∀ q, g0 = some q → ¬ Kz q ∧ q < w.heap.size) (I : List α → Option Nat → World → Prop) (Ix : Code → List α → Option Nat → World → Prop) (hI : Abd Z w.heap.size I) (hIx : ∀ c, Abd Z w.heap.size (Ix c)) (h0 : I [] g0 w)
    (hIg : ∀ pre g W q, I pre g W → g = some q → q < w.heap.size ∨ w.heap.size + 2 ≤ q) (hIxg : ∀ c pre g W q, Ix c pre g W → g = some q → q < w.heap.size ∨ w.heap.size + 2 ≤ q)
    (Ax : α → Act → World → Prop) (hAx : ∀ x a', Abd (fun _ => False) w.heap.size (fun (_ : Unit) (_ : Option Nat) W => Ax x a' W))
    (hassign : ∀ (l : Nat) (pre : List α) (x : α) (g : Option Nat) (W : World) (K : Act → World → Prop), I pre g W → (∀ a' W', Spares (fun k => w.heap.size ≤ k ∨ Kz k) g g W W' → I pre g W' → Ax x a' W' → K a' W') →
      assign.wpIn (F.inRound l) (n - 1 - 1) P (Exit.then K (fun _ _ _ => False)) { tmps := (ps.zip (encs x)).foldl (fun t (p, v) => t.setIfInBounds p v) a.tmps, defers := [] } W)
    (hbody : ∀ (l : Nat) (pre : List α) (x : α) (g : Option Nat) (a' : Act) (W : World), w.heap.size + 2 ≤ W.heap.size → I pre g W → Ax x a' W → Sp (pre ++ [x]) → body.wpIn (F.inRound l) (n - 1 - 1) P (leftO (fun k => w.heap.size ≤ k ∨ Kz k) I Ix (pre ++ [x]) g W) a' W)
    (hdone : ∀ (D : Nat) (xs : List α) (g : Option Nat) (W : World), D = w.heap.size → S xs → I xs g W → W.heap[D]? = some (.deferred (some [])) → Q .normal { a with defers := { target := .collected D, args := #[] } :: a.defers } W)
    (hstop : ∀ (D : Nat) (c : Code) (pre : List α) (g : Option Nat) (W : World), D = w.heap.size → Sp pre → Ix c pre g W → W.heap[D]? = some (.deferred (some [])) → c.wpIn F n P Q { a with defers := { target := .collected D, args := #[] } :: a.defers } W) :
    (Code.rangeFunc f ps assign body).wpIn F n P Q a w := by
  refine wpIn_rangeFunc ?_
  intro fn hfn
  rw [hro]
  obtain ⟨rec, hrec⟩ : ∃ rec : LoopState → Option Code → Loop, rec = fun st pe => { state := st, pending := pe, fn, tmps := a.tmps, params := ps, assign, body, defers := w.heap.size } := ⟨_, rfl⟩
  obtain ⟨W1, hW1⟩ : ∃ W1, (w.alloc (.deferred (some []))).alloc (.loop (rec .ready none)) = W1 := ⟨_, rfl⟩
  have hsz : W1.heap.size = w.heap.size + 2 := by rw [← hW1, World.size_alloc, World.size_alloc]
  have hL1 : W1.heap[w.heap.size + 1]? = some (.loop (rec .ready none)) := by
    rw [← hW1]; have := World.alloc_heap_new (w.alloc (.deferred (some []))) (.loop (rec .ready none)); rwa [World.size_alloc] at this
  have hK1 : W1.heap[w.heap.size]? = some (.deferred (some [])) := by
    rw [← hW1]; exact (Below.heap_alloc _ _ _ (by simp)).trans (World.alloc_heap_new w _)
  have hI1 : I [] g0 W1 := by rw [← hW1]; exact hI.alloc _ (hI.alloc _ h0)
  have hb1 : Below w0.heap.size w0 W1 := by
    rw [← hW1]; exact hb0.trans ((((Below.refl _ w).alloc (Nat.le_refl _) _).alloc (by simp) _).mono hb0.size)
  refine ⟨w.heap.size + 1, [{ target := .collected w.heap.size, args := #[] }], W1, { target := .fn (.func gf) lb, args := #[.func (.yield (w.heap.size + 1)) #[] #[]] }, W1, gf,
    #[.func (.yield (w.heap.size + 1)) #[] #[]] ++ lb, W1, ?_, ?_, ?_, ?_, fun _ => h1, ?_⟩
  · rw [← hW1, hrec]; exact run_enterLoop_outer _ _ _ _ _
  · simp only [resolve, hf]
    simp [go_sem]
  · intro f' hf'; simp [Target.leads] at hf'; subst hf'; exact hFg
  · simp [invoke, go_sem, eg]
  · -- which blocks the iterator turns, said of the caller's side
    have hrow : ∀ {g : Option Nat} {row : Option Nat}, (∀ r, row = some r → (W1.heap.size ≤ r ∧ some r ≠ g) ∨ Z r) → (∀ r, row = some r → (w.heap.size ≤ r ∧ some r ≠ g) ∨ Z r) :=
      fun hr r e => (hr r e).elim (fun k => .inl ⟨by have := k.1; omega, k.2⟩) .inr
    have hlies : ∀ {A C : World} {g : Option Nat} {row : Option Nat} {k : Nat} {o : Obj}, A.grownBy C row → (∀ r, row = some r → (W1.heap.size ≤ r ∧ some r ≠ g) ∨ Z r) → w.heap.size ≤ k → k < W1.heap.size → A.heap[k]? = some o → C.heap[k]? = some o :=
      fun hg' hr h2 h3 hk => (hg'.block _ (Array.getElem?_eq_some_iff.1 hk).1 (fun e => (hr _ e.symm).elim (fun k => by have := k.1; omega) (fun k => by have := hZ _ k; omega))).trans hk
    refine (hseq (w.heap.size + 1)
      (fun pre g W => I pre g W ∧ W.heap[w.heap.size + 1]? = some (.loop (rec .ready none)) ∧ W.heap[w.heap.size]? = some (.deferred (some [])))
      (fun pre g W => ∃ c, Ix c pre g W ∧ W.heap[w.heap.size + 1]? = some (.loop (rec .done (some c))) ∧ W.heap[w.heap.size]? = some (.deferred (some [])))
      g0 W1 hb1
      (fun s g A B row hs hg' hr => ⟨hI s g A B row hs.1 hg' (hrow hr), hlies hg' hr (by omega) (by omega) hs.2.1, hlies hg' hr (by omega) (by omega) hs.2.2⟩)
      (fun s g A B row hs hg' hr => by
        obtain ⟨c, hc, hl, hk⟩ := hs
        exact ⟨c, hIx c s g A B row hc hg' (hrow hr), hlies hg' hr (by omega) (by omega) hl, hlies hg' hr (by omega) (by omega) hk⟩)
      (fun q e => ⟨(hg0 q e).1, by have := (hg0 q e).2; omega⟩) ?_ ⟨hI1, hL1, hK1⟩).mono ?_
    · -- one round
      rintro m pre x g W ⟨hi, hl, hk⟩ hlen
      have hlt : w.heap.size + 1 < W.heap.size := (Array.getElem?_eq_some_iff.1 hl).1
      have hy := run_yield (P := P) (args := encs x) hl (by rw [hrec]; exact hps x)
      rw [hrec] at hy
      refine ⟨fn, _, assign, body, hy, round_any hd (m := n - 1 - 1) (roundIn_of_wpIn hfn (hassign _ pre x g W _ hi ?_))⟩
      clear hy
      intro a' Wa hsa hia hax
      have hgq : ∀ q, g = some q → q < w.heap.size ∨ w.heap.size + 2 ≤ q := fun q e => hIg pre g W q hi e
      have hl := (hsa.same _ (.inl (by omega)) hlt (fun e => by have := hgq _ e.symm; omega)).trans hl
      have hk := (hsa.same w.heap.size (.inl (Nat.le_refl _)) (by omega) (fun e => by have := hgq _ e.symm; omega)).trans hk
      have hlt2 : w.heap.size + 1 < Wa.heap.size := (Array.getElem?_eq_some_iff.1 hl).1
      refine ⟨_, run_beginRound hl (by rw [hrec]), ?_⟩
      obtain ⟨Wb, hWb⟩ : ∃ Wb, Wa.putObj (w.heap.size + 1) (.loop { rec .ready none with state := .busy }) = Wb := ⟨_, rfl⟩
      have hl2 : Wb.heap[w.heap.size + 1]? = some (.loop { rec .ready none with state := .busy }) := by rw [← hWb]; exact World.putObj_heap_same hlt2
      have hk2 : Wb.heap[w.heap.size]? = some (.deferred (some [])) := by rw [← hWb]; exact (World.putObj_heap_other (by omega)).trans hk
      have hne : some (w.heap.size + 1) ≠ g := fun e => by have := hgq _ e.symm; omega
      have hIb : I pre g Wb := by rw [← hWb]; exact hI.putObj _ hia (by omega) hne
      have hAb : Ax x a' Wb := by rw [← hWb]; exact (hAx x a').putObj (s := ()) (g := none) _ hax (by omega) (by simp)
      have hzz : ∀ k, (W1.heap.size ≤ k ∨ Kz k) → (w.heap.size ≤ k ∨ Kz k) := fun k h => h.elim (fun h => .inl (by omega)) .inr
      have hsb : Spares (fun k => W1.heap.size ≤ k ∨ Kz k) g g Wa Wb := by
        rw [← hWb]; exact Spares.turned (grownBy_putObj' _ _ _) (fun j e hj => by cases e; rcases hj with h | h; exact absurd h (by omega); have := hKz _ h; omega)
      have hs2 : Spares (fun k => W1.heap.size ≤ k ∨ Kz k) g g W Wb := (hsa.imp (fun k h _ => hzz k h)).trans hsb
      rw [hWb]
      refine wpIn_mono (hbody _ pre x g a' _ (Array.getElem?_eq_some_iff.1 hl2).1 hIb hAb hlen) ?_
      have fin : ∀ (jump : Option Code) (g' : Option Nat) (W3 : World), Spares (fun k => w.heap.size ≤ k ∨ Kz k) g g' Wb W3 →
          (Instr.endRound (w.heap.size + 1) jump).run P W3 = .ok (.bool jump.isNone) (W3.putObj (w.heap.size + 1) (.loop (rec (if jump.isNone then .ready else .done) jump))) ∧
          (W3.putObj (w.heap.size + 1) (.loop (rec (if jump.isNone then .ready else .done) jump))).heap[w.heap.size + 1]? = some (.loop (rec (if jump.isNone then .ready else .done) jump)) ∧
          (W3.putObj (w.heap.size + 1) (.loop (rec (if jump.isNone then .ready else .done) jump))).heap[w.heap.size]? = some (.deferred (some [])) ∧
          Spares (fun k => W1.heap.size ≤ k ∨ Kz k) g g' W (W3.putObj (w.heap.size + 1) (.loop (rec (if jump.isNone then .ready else .done) jump))) := fun jump g' W3 hk3 => by
        have hl3 := (hk3.same _ (.inl (by omega)) (Array.getElem?_eq_some_iff.1 hl2).1 hne).trans hl2
        have hk4 := (hk3.same w.heap.size (.inl (Nat.le_refl _)) (Array.getElem?_eq_some_iff.1 hk2).1 (fun e => by have := hgq _ e.symm; omega)).trans hk2
        have := run_endRound (P := P) jump hl3
        rw [hrec] at this ⊢
        exact ⟨this, World.putObj_heap_same (Array.getElem?_eq_some_iff.1 hl3).1, (World.putObj_heap_other (by omega)).trans hk4,
          hs2.trans ((hk3.imp (fun k h _ => hzz k h)).trans (Spares.turned (grownBy_putObj' _ _ _) (fun j e hj => by cases e; rcases hj with h | h; exact absurd h (by omega); have := hKz _ h; omega)))⟩
      have hng : ∀ {g' : Option Nat}, (∀ q, g' = some q → q < w.heap.size ∨ w.heap.size + 2 ≤ q) → some (w.heap.size + 1) ≠ g' := fun h e => by have := h _ e.symm; omega
      rintro e a3 W3 hp
      cases e with
      | normal =>
        obtain ⟨g', hk3, hi3⟩ := hp
        obtain ⟨hr, hl4, hk4, hs4⟩ := fin none g' W3 hk3
        exact ⟨_, _, hr, g', hs4, .inl ⟨rfl, hI.putObj _ hi3 (by omega) (hng (fun q e => hIg _ _ _ q hi3 e)), hl4, hk4⟩⟩
      | ret =>
        obtain ⟨g', hk3, hi3⟩ := hp
        obtain ⟨hr, hl4, hk4, hs4⟩ := fin (some .ret) g' W3 hk3
        exact ⟨_, _, hr, g', hs4, .inr ⟨rfl, .ret, (hIx _).putObj _ hi3 (by omega) (hng (fun q e => hIxg _ _ _ _ q hi3 e)), hl4, hk4⟩⟩
      | exit id =>
        obtain ⟨g', hk3, hi3⟩ := hp
        obtain ⟨hr, hl4, hk4, hs4⟩ := fin (some (.exit id)) g' W3 hk3
        exact ⟨_, _, hr, g', hs4, .inr ⟨rfl, .exit id, (hIx _).putObj _ hi3 (by omega) (hng (fun q e => hIxg _ _ _ _ q hi3 e)), hl4, hk4⟩⟩
      | goto t =>
        obtain ⟨g', hk3, hi3⟩ := hp
        obtain ⟨hr, hl4, hk4, hs4⟩ := fin (some (.goto t)) g' W3 hk3
        exact ⟨_, _, hr, g', hs4, .inr ⟨rfl, .goto t, (hIx _).putObj _ hi3 (by omega) (hng (fun q e => hIxg _ _ _ _ q hi3 e)), hl4, hk4⟩⟩
      | panic ch => exact hp.elim
      | outgrown => exact hp.elim
    · -- behind the iterator
      rintro e W2 ⟨⟨v, rfl⟩, (⟨xs, g, hS, hi, hl, hk⟩ | ⟨pre, g, hSp, c, hi, hl, hk⟩)⟩
      · exact ⟨none, _, by have := run_endLoop (P := P) hl (by rw [hrec]; simp); rw [hrec] at this; exact this, hdone _ xs g _ rfl hS (hI.putObj _ hi (by omega) (fun e => by have := hIg _ _ _ _ hi e.symm; omega)) ((World.putObj_heap_other (by omega)).trans hk)⟩
      · exact ⟨some c, _, by have := run_endLoop (P := P) hl (by rw [hrec]; simp); rw [hrec] at this; exact this, hstop _ c pre g _ rfl hSp ((hIx c).putObj _ hi (by omega) (fun e => by have := hIxg _ _ _ _ _ hi e.symm; omega)) ((World.putObj_heap_other (by omega)).trans hk)⟩
structure Lies (K : Nat → Prop) (W W' : World) : Prop where
  size : W.heap.size ≤ W'.heap.size
  same : ∀ k, K k → k < W.heap.size → W'.heap[k]? = W.heap[k]?
theorem Lies.refl (K : Nat → Prop) (W : World) : Lies K W W := ⟨Nat.le_refl _, fun _ _ _ => rfl⟩
theorem Lies.trans {K : Nat → Prop} {A B C : World} (h : Lies K A B) (h' : Lies K B C) : Lies K A C := ⟨Nat.le_trans h.size h'.size, fun k hk hlt => (h'.same k hk (Nat.lt_of_lt_of_le hlt h.size)).trans (h.same k hk hlt)⟩
theorem Lies.below {K : Nat → Prop} {A B : World} (h : Below A.heap.size A B) : Lies K A B := ⟨h.size, fun k _ hk => h.block k hk⟩
theorem Lies.imp {K K' : Nat → Prop} {A B : World} (h : Lies K A B) (hk : ∀ k, K' k → K k) : Lies K' A B := ⟨h.size, fun k a => h.same k (hk k a)⟩
theorem Lies.grown {K : Nat → Prop} {A B : World} {row : Option Nat} (h : A.grownBy B row) (hr : ∀ r, row = some r → ¬ K r) : Lies K A B := ⟨h.size, fun k hk hlt => h.block k hlt (fun e => hr k e.symm hk)⟩
theorem Spares.lies {K K' : Nat → Prop} {g g' : Option Nat} {A B : World} (h : Spares K g g' A B) (hk : ∀ k, K' k → k < A.heap.size → K k ∧ some k ≠ g) : Lies K' A B := ⟨h.size, fun k a b => h.same k (hk k a b).1 b (hk k a b).2⟩
theorem Lies.cell {K : Nat → Prop} {A B : World} (h : Lies K A B) {p : Addr} {v : Value} (hk : K p.block) (hc : A.cell? p = some v) : B.cell? p = some v :=
  (World.cell?_of_block (h.same p.block hk (World.block_lt_of_cell? A p hc))).trans hc
theorem Lies.box {K : Nat → Prop} {A B : World} (h : Lies K A B) {b : Nat} {t : TypeId} {v : Value} (hk : K b) (hc : Boxed A b t v) : Boxed B b t v := (h.same b hk hc.lt).trans hc
theorem Spares.lt {K : Nat → Prop} {g g' : Option Nat} {A B : World} (h : Spares K g g' A B) (hg : ∀ q, g = some q → q < A.heap.size) : ∀ q, g' = some q → q < B.heap.size := by
  intro q e
  rcases h.own with e' | ⟨b, e', hb, hb2⟩
  · exact Nat.lt_of_lt_of_le (hg q (e' ▸ e)) h.size
  · rw [e] at e'; cases e'; exact hb2
theorem Spares.not {K Kz : Nat → Prop} {g g' : Option Nat} {A B : World} (h : Spares K g g' A B) (hn : ∀ k, Kz k → k < A.heap.size) (hg : ∀ q, g = some q → ¬ Kz q) : ∀ q, g' = some q → ¬ Kz q := by
  intro q e
  rcases h.own with e' | ⟨b, e', hb, _⟩
  · exact hg q (e' ▸ e)
  · rw [e] at e'; cases e'
    intro hk
    have := hn q hk
    omega
theorem collected {K : Nat → Prop} {W w1 : World} {n₀ B : Nat} {t e : TypeId} {size : Nat} {v v1 : Value} {k m : Nat} {xs ys : List Value}
    (hv : Boxed W B t v) (hte : t ≠ e) (hrow : W.ownsRow n₀ e size v k xs) (hKB : ¬ K B) (hB : n₀ ≤ B)
    (hown' : w1.ownsRow n₀ e size v1 m ys) (hg : W.grownBy w1 v.ownBlock) (hat : v1.ownBlock = v.ownBlock ∨ ∃ b, v1.ownBlock = some b ∧ W.heap.size ≤ b) :
    Boxed w1 B t v ∧ Boxed (w1.setCell ⟨B, 0, none⟩ v1) B t v1 ∧ (w1.setCell ⟨B, 0, none⟩ v1).ownsRow n₀ e size v1 m ys ∧ Spares K v.ownBlock v1.ownBlock W (w1.setCell ⟨B, 0, none⟩ v1) ∧ Below n₀ W (w1.setCell ⟨B, 0, none⟩ v1) := by
  have hv1 : Boxed w1 B t v := hv.kept hg (hv.not_row hte hrow)
  have hlt1 : ∀ b, v1.ownBlock = some b → b < (w1.setCell ⟨B, 0, none⟩ v1).heap.size := fun b e => by
    have h2 := (grownBy_setCell' w1 B v1).size
    rcases hown'.2 with ⟨rfl, _⟩ | ⟨g, cap, cur, rfl, _, hh, _⟩
    · simp [Value.ownBlock] at e
    · obtain rfl : g = b := by simpa [Value.ownBlock] using e
      exact Nat.lt_of_lt_of_le (Array.getElem?_eq_some_iff.1 hh).1 h2
  refine ⟨hv1, hv1.set v1, hown'.kept (grownBy_setCell' w1 B v1) (.inr (hv1.not_row hte hown').symm), ⟨?_, hat.imp id (fun ⟨b, e, hb⟩ => ⟨b, e, hb, hlt1 b e⟩), ?_⟩, ?_⟩
  · exact Nat.le_trans hg.size (grownBy_setCell' w1 B v1).size
  · intro k hk hlt hne
    refine ((grownBy_setCell' w1 B v1).block k (Nat.lt_of_lt_of_le hlt hg.size) (fun e => ?_)).trans (hg.block k hlt hne)
    cases e
    exact hKB hk
  · refine ((Below.refl n₀ W).grown hg (Nat.le_trans hB (Nat.le_of_lt hv.lt)) fun j ej => ?_).setCell (p := ⟨B, 0, none⟩) hB v1
    rcases hrow.2 with ⟨rfl, _⟩ | ⟨g, cap, cur, rfl, hb, _, _⟩
    · simp [Value.ownBlock] at ej
    · obtain rfl : g = j := by simpa [Value.ownBlock] using ej
      exact hb
end Go.Proofs.YtofegjgiocljlaaDoorH
end
