import Derived.Test.YtoanmbhenmlboaaDoorZFramingNeverBothP4
section
namespace Go.Proofs.YtoanmbhenmlboaaDoorH
open Go.RowKit Go.Shelf Go.Proofs.YtoanmbhenmlboaaDoorW.PrintWords Go.Proofs.YtoanmbhenmlboaaDoorW.PrintLast Go.Proofs.YtoanmbhenmlboaaDoorW.PrintMore Go.Proofs.YtoanmbhenmlboaaDoor.Ps
attribute [local go_sem] Oper.semAt_some
def rowI (l : List Int) : Array Value := (l.map (Value.int .i64)).toArray
def RowAt (W : World) (B : Nat) (t : TypeId) (l : List Int) : Prop := W.heap[B]? = some (.cells (rowI l) t (0, 0))
theorem rowI_get (l : List Int) (i : Nat) (h : i < l.length) : (rowI l)[i]? = some (.int .i64 (l.getD i 0)) := by
  unfold rowI
  rw [List.getElem?_toArray, List.getElem?_map, List.getD_eq_getElem?_getD, List.getElem?_eq_getElem h]
  rfl
theorem RowAt.cell {W : World} {B : Nat} {t : TypeId} {l : List Int} (h : RowAt W B t l) (i : Nat) (hi : i < l.length) : W.cell? ⟨B, i, none⟩ = some (.int .i64 (l.getD i 0)) := by
  have := rowI_get l i hi
  simp [World.cell?, show W.heap[B]? = _ from h, this]
theorem RowAt.frozen {W : World} {B : Nat} {t : TypeId} {l : List Int} (h : RowAt W B t l) (i : Nat) : W.frozen? ⟨B, i, none⟩ = false := by simp [World.frozen?, show W.heap[B]? = _ from h]
theorem RowAt.lt {W : World} {B : Nat} {t : TypeId} {l : List Int} (h : RowAt W B t l) : B < W.heap.size := (Array.getElem?_eq_some_iff.1 h).1
theorem rowI_set (l : List Int) (i : Nat) (x : Int) : (rowI l).setIfInBounds i (.int .i64 x) = rowI (l.set i x) := by
  unfold rowI
  rw [List.setIfInBounds_toArray, List.map_set]
theorem RowAt.set {W : World} {B : Nat} {t : TypeId} {l : List Int} (h : RowAt W B t l) (i : Nat) (x : Int) : RowAt (W.setCell ⟨B, i, none⟩ (.int .i64 x)) B t (l.set i x) := by
  obtain ⟨hlt, hk⟩ := Array.getElem?_eq_some_iff.1 h
  show (W.heap.modify B _)[B]? = _
  rw [Array.getElem?_eq_getElem (by rw [Array.size_modify]; exact hlt), Array.getElem_modify_self, hk]
  show some (Obj.cells ((rowI l).setIfInBounds i (.int .i64 x)) t (0, 0)) = _
  rw [rowI_set]
theorem RowAt.reads {W : World} {B : Nat} {t : TypeId} {l : List Int} (h : RowAt W B t l) (hl : l.length ≤ 9223372036854775807) : Kd.C (Kd.int .i64) W (some ⟨B, 0, none⟩) l.length l := by
  refine ⟨rfl, hl, fun _ => ⟨_, rfl, fun j p hp => ⟨[.int .i64 p], rfl, rfl, fun i u hu => ?_⟩⟩⟩
  obtain ⟨hj, hjp⟩ := List.getElem?_eq_some_iff.1 hp
  have hi : i = 0 ∧ u = .int .i64 p := by
    cases i with
    | zero => exact ⟨rfl, by simpa using hu.symm⟩
    | succ i => simp at hu
  obtain ⟨rfl, rfl⟩ := hi
  have := h.cell j hj
  rw [List.getD_eq_getElem?_getD, List.getElem?_eq_getElem hj, Option.getD_some, hjp] at this
  rw [show (⟨B, 0, none⟩ : Addr).add (j * (Kd.int .i64).sz + 0) = ⟨B, j, none⟩ by
    show (⟨B, 0, none⟩ : Addr).add (j * 1 + 0) = _
    rw [Nat.mul_one, Nat.add_zero]
    unfold Addr.add
    split
    · rename_i h; rw [h]
    · simp]
  exact this
theorem RowAt.not_row {W : World} {B : Nat} {t e : TypeId} {l : List Int} (h : RowAt W B t l) (hte : t ≠ e) {base size k : Nat} {v : Value} {xs : List Value} (hr : W.ownsRow base e size v k xs) : some B ≠ v.ownBlock := by
  rcases hr.2 with ⟨rfl, _⟩ | ⟨g, cap, cur, rfl, _, hgb, _⟩
  · simp [Value.ownBlock]
  · intro e'
    obtain rfl : B = g := by simpa [Value.ownBlock] using e'
    have := (show W.heap[B]? = _ from h).symm.trans hgb
    simp at this
    exact hte this.2
theorem RowAt.kept {W W' : World} {row : Option Nat} {B : Nat} {t : TypeId} {l : List Int} (h : RowAt W B t l) (hg : W.grownBy W' row) (hne : some B ≠ row) : RowAt W' B t l := (hg.block B h.lt hne).trans h
theorem made_rowI (n : Nat) : madeCells #[.int .i64 0] n = rowI (List.replicate n 0) := by
  apply Array.ext
  · unfold madeCells rowI; simp
  · intro i h1 h2
    unfold madeCells rowI
    simp [Nat.mod_one]
theorem grownBy_setAt (W : World) (b i : Nat) (v : Value) : W.grownBy (W.setCell ⟨b, i, none⟩ v) (some b) :=
  ⟨rfl, rfl, rfl, (KeepsWalks.setCell W _ v).size, fun k _ hk => Below.heap_setCell _ _ _ k (fun e => hk (by rw [e]))⟩
def badN (l : List (Nat × ByteArray)) : Bool := l.any fun y => (numR y.2).2 == 2
def bigN (l : List (Nat × ByteArray)) : Bool := l.any fun y => (numR y.2).2 == 3
def nums (l : List (Nat × ByteArray)) : List Int := l.map fun y => (numR y.2).1
def metL (n : Nat) (l : List (Nat × ByteArray)) : List Int := l.foldl (fun m y => m.set y.1 (m.getD y.1 0 + 1)) (List.replicate n 0)
theorem metL_snoc (n : Nat) (l : List (Nat × ByteArray)) (y : Nat × ByteArray) : metL n (l ++ [y]) = (metL n l).set y.1 ((metL n l).getD y.1 0 + 1) := by
  unfold metL
  rw [List.foldl_append]
  rfl
theorem metL_length (n : Nat) : ∀ l : List (Nat × ByteArray), (metL n l).length = n := by
  intro l
  unfold metL
  have : ∀ (m : List Int), (l.foldl (fun m y => m.set y.1 (m.getD y.1 0 + 1)) m).length = m.length := by
    induction l with
    | nil => exact fun _ => rfl
    | cons y l ih => intro m; rw [List.foldl_cons, ih, List.length_set]
  rw [this, List.length_replicate]
theorem getD_set (m : List Int) (i j : Nat) (x : Int) : (m.set i x).getD j 0 = if i = j ∧ j < m.length then x else m.getD j 0 := by
  rw [List.getD_eq_getElem?_getD, List.getD_eq_getElem?_getD, List.getElem?_set]
  by_cases h : i = j
  · subst h
    by_cases h2 : i < m.length
    · simp [h2]
    · simp [h2]
  · simp [h]
theorem metL_range (n : Nat) (l : List (Nat × ByteArray)) (j : Nat) : 0 ≤ (metL n l).getD j 0 ∧ (metL n l).getD j 0 ≤ l.length := by
  have key : ∀ (l : List (Nat × ByteArray)) (m : List Int) (c : Int), (∀ j, 0 ≤ m.getD j 0 ∧ m.getD j 0 ≤ c) → ∀ j, 0 ≤ (l.foldl (fun m y => m.set y.1 (m.getD y.1 0 + 1)) m).getD j 0 ∧ (l.foldl (fun m y => m.set y.1 (m.getD y.1 0 + 1)) m).getD j 0 ≤ c + (l.length : Int) := by
    intro l
    induction l with
    | nil => intro m c h j; have := h j; simpa using this
    | cons y l ih =>
      intro m c h j
      have := ih (m.set y.1 (m.getD y.1 0 + 1)) (c + 1) (fun j => by
        rw [getD_set]
        have h1 := h j
        have h2 := h y.1
        split <;> omega) j
      rw [List.foldl_cons, List.length_cons]
      omega
  have := key l (List.replicate n 0) 0 (fun j => by
    rw [List.getD_eq_getElem?_getD, List.getElem?_replicate]
    split <;> simp) j
  unfold metL
  omega
theorem met_empty (n : Nat) (hn : 0 < n) : (metL n []).contains 0 = true := by
  unfold metL
  rw [List.foldl_nil]
  exact List.contains_iff_mem.2 (List.mem_replicate.2 ⟨by omega, rfl⟩)
def lenR (xs : List ByteArray) : Int × Int :=
  if xs.length = 0 then (0, 7) else if badN (itemsF 0 xs) = true then (0, 2) else if (metL xs.length (itemsF 0 xs)).contains 0 = true then (0, 2) else if bigN (itemsF 0 xs) = true then (0, 3)
  else if minI (nums (itemsF 0 xs)) ≠ maxI (nums (itemsF 0 xs)) then (0, 2) else ((nums (itemsF 0 xs)).getD 0 0, 0)
theorem badN_snoc (l : List (Nat × ByteArray)) (y : Nat × ByteArray) : badN (l ++ [y]) = (badN l || ((numR y.2).2 == 2)) := by
  unfold badN
  rw [List.any_append]
  simp
theorem bigN_snoc (l : List (Nat × ByteArray)) (y : Nat × ByteArray) : bigN (l ++ [y]) = (bigN l || ((numR y.2).2 == 3)) := by
  unfold bigN
  rw [List.any_append]
  simp
theorem infoU64 : (Tryd.prog.info? 55).map (fun i => (i.zero, i.size, i.bytes)) = some (some (.int .u64 0), 1, 8) := by kernel_rfl
theorem infoI64 : (Tryd.prog.info? 3).map (fun i => (i.zero, i.size, i.bytes)) = some (some (.int .i64 0), 1, 8) := by kernel_rfl
def u64V (l : List Int) : List Value := l.map (Value.int .u64)
theorem u64V_flat : ∀ l : List Int, l.flatMap (fun x => [Value.int .u64 x]) = u64V l
  | [] => rfl
  | x :: l => by rw [List.flatMap_cons, u64V_flat l]; rfl
theorem contains_ev (l : List Int) (a : Int) (hl : l.length < 4611686018427387904) : ∃ k, slices_Contains_int_int.f k l a = some (l.contains a) := by
  have key : ∀ (d i k : Nat), i ≤ l.length → l.length - i = d → d < k → (∀ j, j < i → l.getD j 0 ≠ a) → ∃ q : Int, slices_Index_int_int.l0 k l a (l.length : Int) (i : Int) = some q ∧ decide (q ≥ 0) = l.contains a := by
    intro d
    induction d with
    | zero =>
      intro i k h1 h2 h3 h4
      obtain ⟨k, rfl⟩ : ∃ m, k = m + 1 := ⟨k - 1, by omega⟩
      refine ⟨-1, by rw [slices_Index_int_int.l0, if_neg (by omega)], ?_⟩
      have : l.contains a = false := by
        rw [Bool.eq_false_iff]
        intro hc
        obtain ⟨j, hj, he⟩ := List.getElem_of_mem (List.contains_iff_mem.1 hc)
        refine h4 j (by omega) ?_
        rw [List.getD_eq_getElem?_getD, List.getElem?_eq_getElem hj]
        exact he
      rw [this]
      rfl
    | succ d ih =>
      intro i k h1 h2 h3 h4
      obtain ⟨k, rfl⟩ : ∃ m, k = m + 1 := ⟨k - 1, by omega⟩
      have hi : i < l.length := by omega
      have hrd : rd l (i : Int) = l.getD i 0 := by unfold rd; rw [Int.toNat_natCast]
      rw [slices_Index_int_int.l0, if_pos (by omega), if_pos (by omega), if_pos (by omega), hrd]
      by_cases he : a = l.getD i 0
      · rw [if_pos he]
        refine ⟨i, rfl, ?_⟩
        have : l.contains a = true := List.contains_iff_mem.2 (by rw [he]; exact mem_getD l 0 i hi)
        rw [this]
        simp
      · rw [if_neg he, show wrap64 ((i : Int) + 1) = ((i + 1 : Nat) : Int) by unfold wrap64; omega]
        refine ih (i + 1) k (by omega) (by omega) (by omega) (fun j hj => ?_)
        rcases Nat.lt_or_ge j i with h | h
        · exact h4 j h
        · obtain rfl : j = i := by omega
          exact fun e => he e.symm
  obtain ⟨q, h1, h2⟩ := key l.length 0 (l.length + 1) (Nat.zero_le _) rfl (by omega) (fun j hj => absurd hj (Nat.not_lt_zero _))
  refine ⟨l.length + 1, ?_⟩
  show (slices_Index_int_int.l0 (l.length + 1) l a (l.length : Int) 0).bind _ = _
  rw [show ((0 : Nat) : Int) = 0 from rfl] at h1
  rw [h1, Option.bind_some, h2]
set_option maxRecDepth 100000 in
set_option maxHeartbeats 4000000 in
theorem Length_in (n : Nat) (hn : 7 ≤ n) (A0 : Option Addr) (c0 : Nat) (xs : List ByteArray) (hS : sumS xs ≤ 1000000) (hc0 : xs.length ≤ c0) (w : World) (hG : TabOk w) (hr : Kd.C Kd.string w A0 xs.length xs) :
    CallsIn Fence.wide n Tryd.prog 54 #[.slice A0 xs.length c0] w fun e w' => ∃ (n er : Int), e = .returned (.tuple #[.int .u64 n, .int .i64 er]) ∧ lenR xs = (n, er) ∧ Below w.heap.size w w' := by
  have h1 : 1 ≤ n := by omega
  have hlen := sumS_length xs
  have bA : ∀ W : World, (isAgg 55).run Tryd.prog W = .ok false W := run_isAgg_plain Tryd.underlying55 rfl
  have bB : ∀ W : World, (isAgg 26).run Tryd.prog W = .ok false W := run_isAgg_plain Tryd.underlying26 rfl
  refine callsIn_of_wp_marks Tryd.func54 rfl trivial ?_ rfl
  simp only [Tryd.ntmps54, List.size_toArray, List.length_cons, List.length_nil, Nat.reduceAdd, Nat.reduceSub, Array.replicate_succ, Array.replicate_zero, List.push_toArray, List.append_toArray, List.nil_append, List.cons_append]
  by_cases hx0 : xs.length = 0
  · have hz : (xs.length : Int) = 0 := by omega
    have hz2 : ((xs.length : Int) == 0) = true := by rw [hz]; rfl
    have e1 := Aside0.mk (show lenR xs = (0, 7) by unfold lenR; rw [if_pos hx0])
    have b1 : Boxed ((w.alloc (.cells #[.int .u64 0] 55)).alloc (.cells #[.int .i64 7] 26)) w.heap.size 55 (.int .u64 0) := (Boxed.new w _ _).alloc _
    have b2 : Boxed ((w.alloc (.cells #[.int .u64 0] 55)).alloc (.cells #[.int .i64 7] 26)) (w.heap.size + 1) 26 (.int .i64 7) := by
      have := Boxed.new (w.alloc (.cells #[.int .u64 0] 55)) 26 (.int .i64 7)
      rwa [World.size_alloc] at this
    have B1 := Aside0.mk b1
    have B2 := Aside0.mk b2
    clear b1 b2
    gi_wp2
    refine ⟨_, results_cells2 rfl _ _ _ ⟨w.heap.size, 0, none⟩ ⟨w.heap.size + 1, 0, none⟩ (.int .u64 0) (.int .i64 7) rfl (bA _) B1.out.cell rfl (bB _) B2.out.cell, ?_⟩
    exact ⟨0, 7, rfl, e1.out, below_alloc (below_alloc (Below.refl _ _) _) _⟩
  · have hz : ¬ (xs.length : Int) = 0 := by omega
    have hmk := print_make (P := Tryd.prog) 102 3 .i64 8 Tryd.underlying102 infoI64 (by decide) xs.length (by omega)
    gi_wp2
    refine ⟨trivial, ?_⟩
    refine (callsIn_wide.2 (items_calls A0 xs.length c0 _)).mono ?_
    rintro e w2 ⟨rfl, rfl⟩
    gi_wp2
    have s2 : (((((((w.alloc (.cells #[.int .u64 0] 55)).alloc (.cells #[.int .i64 0] 26)).alloc (.cells #[.slice none 0 0] 101)).alloc (.cells #[.bool false] 4)).alloc (.cells (madeCells #[.int .i64 0] xs.length) 3)).alloc (.cells #[.slice (some ⟨w.heap.size + 1 + 1 + 1 + 1, 0, none⟩) xs.length xs.length] 102)).alloc (.cells #[.slice A0 xs.length c0] 38)).heap.size = w.heap.size + 7 := by simp only [World.size_alloc]
    have HB2 := Aside0.mk (show Below w.heap.size w (((((((w.alloc (.cells #[.int .u64 0] 55)).alloc (.cells #[.int .i64 0] 26)).alloc (.cells #[.slice none 0 0] 101)).alloc (.cells #[.bool false] 4)).alloc (.cells (madeCells #[.int .i64 0] xs.length) 3)).alloc (.cells #[.slice (some ⟨w.heap.size + 1 + 1 + 1 + 1, 0, none⟩) xs.length xs.length] 102)).alloc (.cells #[.slice A0 xs.length c0] 38)) from below_alloc (below_alloc (below_alloc (below_alloc (below_alloc (below_alloc (below_alloc (Below.refl _ _) _) _) _) _) _) _) _)
    generalize hw2 : (((((((w.alloc (.cells #[.int .u64 0] 55)).alloc (.cells #[.int .i64 0] 26)).alloc (.cells #[.slice none 0 0] 101)).alloc (.cells #[.bool false] 4)).alloc (.cells (madeCells #[.int .i64 0] xs.length) 3)).alloc (.cells #[.slice (some ⟨w.heap.size + 1 + 1 + 1 + 1, 0, none⟩) xs.length xs.length] 102)).alloc (.cells #[.slice A0 xs.length c0] 38)) = w2 at *
    have HR1 := Aside0.mk (show Boxed w2 (w.heap.size) 55 (.int .u64 0) by
      have h := Boxed.new w 55 (.int .u64 0)
      have e : w.heap.size = w.heap.size := by simp only [World.size_alloc]
      rw [e] at h
      rw [← hw2]
      exact (((((h.alloc _).alloc _).alloc _).alloc _).alloc _).alloc _)
    have HR2 := Aside0.mk (show Boxed w2 (w.heap.size + 1) 26 (.int .i64 0) by
      have h := Boxed.new (w.alloc (.cells #[.int .u64 0] 55)) 26 (.int .i64 0)
      have e : (w.alloc (.cells #[.int .u64 0] 55)).heap.size = w.heap.size + 1 := by simp only [World.size_alloc]
      rw [e] at h
      rw [← hw2]
      exact ((((h.alloc _).alloc _).alloc _).alloc _).alloc _)
    have HBo := Aside0.mk (show Boxed w2 (w.heap.size + 1 + 1) 101 (.slice none 0 0) by
      have h := Boxed.new ((w.alloc (.cells #[.int .u64 0] 55)).alloc (.cells #[.int .i64 0] 26)) 101 (.slice none 0 0)
      have e : ((w.alloc (.cells #[.int .u64 0] 55)).alloc (.cells #[.int .i64 0] 26)).heap.size = w.heap.size + 1 + 1 := by simp only [World.size_alloc]
      rw [e] at h
      rw [← hw2]
      exact (((h.alloc _).alloc _).alloc _).alloc _)
    have HBg := Aside0.mk (show Boxed w2 (w.heap.size + 1 + 1 + 1) 4 (.bool false) by
      have h := Boxed.new (((w.alloc (.cells #[.int .u64 0] 55)).alloc (.cells #[.int .i64 0] 26)).alloc (.cells #[.slice none 0 0] 101)) 4 (.bool false)
      have e : (((w.alloc (.cells #[.int .u64 0] 55)).alloc (.cells #[.int .i64 0] 26)).alloc (.cells #[.slice none 0 0] 101)).heap.size = w.heap.size + 1 + 1 + 1 := by simp only [World.size_alloc]
      rw [e] at h
      rw [← hw2]
      exact ((h.alloc _).alloc _).alloc _)
    have HMr := Aside0.mk (show RowAt w2 (w.heap.size + 1 + 1 + 1 + 1) 3 (List.replicate xs.length 0) by
      have h := World.alloc_heap_new ((((w.alloc (.cells #[.int .u64 0] 55)).alloc (.cells #[.int .i64 0] 26)).alloc (.cells #[.slice none 0 0] 101)).alloc (.cells #[.bool false] 4)) (.cells (madeCells #[.int .i64 0] xs.length) 3)
      rw [made_rowI] at h
      have e : ((((w.alloc (.cells #[.int .u64 0] 55)).alloc (.cells #[.int .i64 0] 26)).alloc (.cells #[.slice none 0 0] 101)).alloc (.cells #[.bool false] 4)).heap.size = w.heap.size + 1 + 1 + 1 + 1 := by simp only [World.size_alloc]
      rw [e] at h
      rw [← hw2]
      have hm : RowAt (((((w.alloc (.cells #[.int .u64 0] 55)).alloc (.cells #[.int .i64 0] 26)).alloc (.cells #[.slice none 0 0] 101)).alloc (.cells #[.bool false] 4)).alloc (.cells (madeCells #[.int .i64 0] xs.length) 3)) (w.heap.size + 1 + 1 + 1 + 1) 3 (List.replicate xs.length 0) := by rw [made_rowI]; exact h
      exact (Below.heap_alloc _ _ _ (by rw [World.size_alloc]; have := hm.lt; omega)).trans ((Below.heap_alloc _ _ _ hm.lt).trans hm))
    have HMv := Aside0.mk (show Boxed w2 (w.heap.size + 1 + 1 + 1 + 1 + 1) 102 (.slice (some ⟨w.heap.size + 1 + 1 + 1 + 1, 0, none⟩) xs.length xs.length) by
      have h := Boxed.new (((((w.alloc (.cells #[.int .u64 0] 55)).alloc (.cells #[.int .i64 0] 26)).alloc (.cells #[.slice none 0 0] 101)).alloc (.cells #[.bool false] 4)).alloc (.cells (madeCells #[.int .i64 0] xs.length) 3)) 102 (.slice (some ⟨w.heap.size + 1 + 1 + 1 + 1, 0, none⟩) xs.length xs.length)
      have e : (((((w.alloc (.cells #[.int .u64 0] 55)).alloc (.cells #[.int .i64 0] 26)).alloc (.cells #[.slice none 0 0] 101)).alloc (.cells #[.bool false] 4)).alloc (.cells (madeCells #[.int .i64 0] xs.length) 3)).heap.size = w.heap.size + 1 + 1 + 1 + 1 + 1 := by simp only [World.size_alloc]
      rw [e] at h
      rw [← hw2]
      exact h.alloc _)
    have HBv := Aside0.mk (show Boxed w2 (w.heap.size + 1 + 1 + 1 + 1 + 1 + 1) 38 (.slice A0 xs.length c0) by
      have h := Boxed.new ((((((w.alloc (.cells #[.int .u64 0] 55)).alloc (.cells #[.int .i64 0] 26)).alloc (.cells #[.slice none 0 0] 101)).alloc (.cells #[.bool false] 4)).alloc (.cells (madeCells #[.int .i64 0] xs.length) 3)).alloc (.cells #[.slice (some ⟨w.heap.size + 1 + 1 + 1 + 1, 0, none⟩) xs.length xs.length] 102)) 38 (.slice A0 xs.length c0)
      have e : ((((((w.alloc (.cells #[.int .u64 0] 55)).alloc (.cells #[.int .i64 0] 26)).alloc (.cells #[.slice none 0 0] 101)).alloc (.cells #[.bool false] 4)).alloc (.cells (madeCells #[.int .i64 0] xs.length) 3)).alloc (.cells #[.slice (some ⟨w.heap.size + 1 + 1 + 1 + 1, 0, none⟩) xs.length xs.length] 102)).heap.size = w.heap.size + 1 + 1 + 1 + 1 + 1 + 1 := by simp only [World.size_alloc]
      rw [e] at h
      rw [← hw2]
      exact h)
    clear hw2 hmk
    have HSQ := Aside0.mk (items_own (n - 1) (by omega) (w.heap.size + 1 + 1 + 1 + 1 + 1 + 1) A0 c0 xs (fun x hx => by have := sumS_at xs x hx; omega) hc0 (by omega) w hG hr w2 (Lies.below HB2.out) HBv.out (by omega))
    have HMM := Aside0.mk (itemsF_mem xs 0)
    have HLL := Aside0.mk (itemsF_length xs 0)
    refine wpIn_range_own (F := Fence.wide) rfl rfl h1 (gf := 73) (lb := #[.pointer (some ⟨w.heap.size + 1 + 1 + 1 + 1 + 1 + 1, 0, none⟩)]) (by first | rfl | simp) trivial (enters_of Tryd.func73 (by kernel_rfl) rfl) HSQ.out (Below.refl _ _) (fun r h => h.elim)
      (by rintro r (h | rfl) <;> omega) (fun _ => rfl) none (fun q e => by cases e)
      (fun pre g W => ((∀ q, g = some q → w.heap.size + 9 ≤ q) ∧ ∃ v, v.ownBlock = g ∧ Boxed W (w.heap.size + 1 + 1) 101 v ∧ W.ownsRow w.heap.size 55 1 v pre.length (u64V (nums pre))) ∧ (Boxed W w.heap.size 55 (.int .u64 0) ∧ (Boxed W (w.heap.size + 1) 26 (.int .i64 0) ∧ (Boxed W (w.heap.size + 1 + 1 + 1) 4 (.bool (bigN pre)) ∧ (RowAt W (w.heap.size + 1 + 1 + 1 + 1) 3 (metL xs.length pre) ∧ (Boxed W (w.heap.size + 1 + 1 + 1 + 1 + 1) 102 (.slice (some ⟨w.heap.size + 1 + 1 + 1 + 1, 0, none⟩) xs.length xs.length) ∧ (Below w.heap.size w W ∧ badN pre = false)))))))
      (fun c pre g W => (∀ q, g = some q → w.heap.size + 9 ≤ q) ∧ (Boxed W w.heap.size 55 (.int .u64 0) ∧ (Boxed W (w.heap.size + 1) 26 (.int .i64 2) ∧ (Below w.heap.size w W ∧ (c = .ret ∧ badN pre = true)))))
      (Abd.and (Abd.rowed (fun pre => pre.length) (fun pre => u64V (nums pre)) _ (by omega) (by omega) (fun h => h) (fun r h => h.elim)) (Abd.and (Abd.block (fun _ => .cells #[.int .u64 0] 55 (0, 0)) (by omega) (fun h => h)) (Abd.and (Abd.block (fun _ => .cells #[.int .i64 0] 26 (0, 0)) (by omega) (fun h => h)) (Abd.and (Abd.block (fun pre => .cells #[.bool (bigN pre)] 4 (0, 0)) (by omega) (fun h => h)) (Abd.and (Abd.block (fun pre => .cells (rowI (metL xs.length pre)) 3 (0, 0)) (by omega) (fun h => h)) (Abd.and (Abd.block (fun _ => .cells #[.slice (some ⟨w.heap.size + 1 + 1 + 1 + 1, 0, none⟩) xs.length xs.length] 102 (0, 0)) (by omega) (fun h => h)) (Abd.and (Abd.low (by omega) (Nat.le_refl _) (fun r h => h.elim)) (Abd.pure (β := List (Nat × ByteArray)) (fun pre _ => badN pre = false)))))))))
      (fun c => Abd.and (Abd.pure (β := List (Nat × ByteArray)) (fun _ g => ∀ q, g = some q → w.heap.size + 9 ≤ q)) (Abd.and (Abd.block (fun _ => .cells #[.int .u64 0] 55 (0, 0)) (by omega) (fun h => h)) (Abd.and (Abd.block (fun _ => .cells #[.int .i64 2] 26 (0, 0)) (by omega) (fun h => h)) (Abd.and (Abd.low (by omega) (Nat.le_refl _) (fun r h => h.elim)) (Abd.pure (fun pre _ => c = .ret ∧ badN pre = true))))))
      ⟨⟨(fun q e => by cases e), _, rfl, HBo.out, World.ownsRow_nil _ _ _ _⟩, HR1.out, HR2.out, HBg.out, HMr.out, HMv.out, HB2.out, rfl⟩
      (fun pre g W q h e => .inr (by have := h.1.1 q e; omega)) (fun c pre g W q h e => .inr (by have := h.1 q e; omega))
      (fun x a' _ => a' = { tmps := #[.slice A0 xs.length c0, undef, .pointer (some ⟨w.heap.size, 0, none⟩), .pointer (some ⟨w.heap.size + 1, 0, none⟩), .pointer (some ⟨w.heap.size + 1 + 1, 0, none⟩), .pointer (some ⟨w.heap.size + 1 + 1 + 1, 0, none⟩), .pointer (some ⟨w.heap.size + 1 + 1 + 1 + 1 + 1, 0, none⟩), .int .i64 ((x.1 : Nat) : Int), .string x.2, undef, undef, .slice A0 xs.length c0, .int .i64 (xs.length : Int), .bool false, .slice A0 xs.length c0, .int .i64 (xs.length : Int), .slice (some ⟨w.heap.size + 1 + 1 + 1 + 1, 0, none⟩) xs.length xs.length, .slice A0 xs.length c0, .func (.func 73) #[] #[.pointer (some ⟨w.heap.size + 1 + 1 + 1 + 1 + 1 + 1, 0, none⟩)], .int .i64 ((x.1 : Nat) : Int), .string x.2, undef, undef, undef, undef, undef, undef, undef, undef, undef, undef, undef, undef, undef, undef, undef, undef, undef, undef, undef, undef, undef, undef, undef, undef, undef, undef, undef, undef, undef, undef, undef, undef, undef, undef, undef, undef, undef], defers := [] })
      (fun x a' _ _ _ _ _ h _ _ => h) ?assign ?body ?done ?stop
    case assign =>
      intro l pre x g W K hI hK
      dsimp only [encI]
      gi_wp2
      exact hK _ _ (Spares.refl _ _ _) hI rfl
    case body =>
      rintro l pre ⟨at', y⟩ g a' W hW2 ⟨⟨hgq, v, rfl, hbw, hrow⟩, hr1, hr2, hbg, hmr, hmv, hBW, hno⟩ rfl hsp
      have hmem := HMM.out (at', y) (hsp.subset (List.mem_append_right _ List.mem_cons_self))
      have hat1 : at' < xs.length := by have := hmem.2.1; simpa using this
      have hyz : y.size ≤ sumS xs := hmem.2.2
      have hpl : pre.length + 1 ≤ 1000000 := by
        have h1 := hsp.length_le
        have h2 := HLL.out
        rw [List.length_append, List.length_singleton] at h1
        omega
      have hmg := metL_range xs.length pre at'
      have hci := hmr.cell at' (by rw [metL_length]; exact hat1)
      have hfi := hmr.frozen at'
      have hcm := hmv.cell
      have HMS := Aside0.mk (metL_snoc xs.length pre (at', y))
      dsimp only at HMS
      generalize hmx : (metL xs.length pre).getD at' 0 = mx at *
      have hgw := grownBy_setAt W (w.heap.size + 1 + 1 + 1 + 1) at' (.int .i64 (mx + 1))
      have HX1 := Aside0.mk (hr1.kept hgw (by intro e; have := Option.some.inj e; omega))
      have HX2 := Aside0.mk (hr2.kept hgw (by intro e; have := Option.some.inj e; omega))
      have HXo := Aside0.mk (hbw.kept hgw (by intro e; have := Option.some.inj e; omega))
      have HXg := Aside0.mk (hbg.kept hgw (by intro e; have := Option.some.inj e; omega))
      have HXv := Aside0.mk (hmv.kept hgw (by intro e; have := Option.some.inj e; omega))
      have HXm := Aside0.mk (hmr.set at' (mx + 1))
      have HXr := Aside0.mk (own_move hrow (fun k hk => hgw.block k (own_lt hrow k hk) (by rw [← hk]; exact (hmr.not_row (by decide) hrow).symm)))
      have HXW := Aside0.mk (hBW.setCell (p := ⟨w.heap.size + 1 + 1 + 1 + 1, at', none⟩) (by show w.heap.size ≤ w.heap.size + 1 + 1 + 1 + 1; omega) (.int .i64 (mx + 1)))
      have HXs := Aside0.mk (show Spares (fun k => w2.heap.size ≤ k ∨ k < w.heap.size ∨ k = w.heap.size + 1 + 1 + 1 + 1 + 1 + 1) v.ownBlock v.ownBlock W (W.setCell ⟨w.heap.size + 1 + 1 + 1 + 1, at', none⟩ (.int .i64 (mx + 1))) from Spares.turned hgw (fun r e hk => by cases e; rcases hk with h | h | h <;> omega))
      have HXz := Aside0.mk (show W.heap.size ≤ (W.setCell ⟨w.heap.size + 1 + 1 + 1 + 1, at', none⟩ (.int .i64 (mx + 1))).heap.size from hgw.size)
      have HNB := Aside0.mk (number_calls y (W.setCell ⟨w.heap.size + 1 + 1 + 1 + 1, at', none⟩ (.int .i64 (mx + 1))) (by omega))
      have HH := Aside0.mk (badN_snoc pre (at', y))
      rw [hno, Bool.false_or] at HH
      have HG := Aside0.mk (bigN_snoc pre (at', y))
      dsimp only at HH HG
      have HGQ := Aside0.mk hgq
      clear hgq hrow hBW hbw hsp hr1 hr2 hno hbg hmr hmv hgw hmem hmx
      have hwr : IntKind.i64.wrap (mx + 1) = mx + 1 := by
        unfold IntKind.wrap
        simp [IntKind.bits, IntKind.signed]
        omega
      gi_wp2
      refine ⟨trivial, (fun _ => by omega), ?_⟩
      refine (CallsIn.inRound l (callsIn_wide.2 HNB.out)).mono ?_
      rintro e w5 ⟨nv, er, rfl, hnr, b5⟩
      have HB5 := Aside0.mk b5
      have hd1 : (numR y).1 = nv := by rw [hnr]
      have hd2 : (numR y).2 = er := by rw [hnr]
      rw [hd2] at HH HG
      have hnv := Aside0.mk hd1
      clear hnr b5 hd1 hd2 HNB
      generalize hW1 : W.setCell ⟨w.heap.size + 1 + 1 + 1 + 1, at', none⟩ (.int .i64 (mx + 1)) = W1 at *
      have HY1 := Aside0.mk (show Boxed w5 w.heap.size 55 (.int .u64 0) from (HB5.out.block _ HX1.out.lt).trans HX1.out)
      have HY2 := Aside0.mk (show Boxed w5 (w.heap.size + 1) 26 (.int .i64 0) from (HB5.out.block _ HX2.out.lt).trans HX2.out)
      have HYo := Aside0.mk (show Boxed w5 (w.heap.size + 1 + 1) 101 v from (HB5.out.block _ HXo.out.lt).trans HXo.out)
      have HYg := Aside0.mk (show Boxed w5 (w.heap.size + 1 + 1 + 1) 4 (.bool (bigN pre)) from (HB5.out.block _ HXg.out.lt).trans HXg.out)
      have HYm := Aside0.mk (show RowAt w5 (w.heap.size + 1 + 1 + 1 + 1) 3 ((metL xs.length pre).set at' (mx + 1)) from (HB5.out.block _ HXm.out.lt).trans HXm.out)
      have HYv := Aside0.mk (show Boxed w5 (w.heap.size + 1 + 1 + 1 + 1 + 1) 102 (.slice (some ⟨w.heap.size + 1 + 1 + 1 + 1, 0, none⟩) xs.length xs.length) from (HB5.out.block _ HXv.out.lt).trans HXv.out)
      have HYr := Aside0.mk (show w5.ownsRow w.heap.size 55 1 v pre.length (u64V (nums pre)) from own_move HXr.out (fun k hk => HB5.out.block k (own_lt HXr.out k hk)))
      have HW5 := Aside0.mk (HXW.out.trans (HB5.out.mono HXW.out.size))
      have HS5 := Aside0.mk (HXs.out.trans (Spares.below HB5.out))
      have HZ5 := Aside0.mk (show w2.heap.size + 2 ≤ w5.heap.size from by have := HXz.out; have := HB5.out.size; omega)
      clear HX1 HX2 HXo HXg HXm HXv HXr HXW HXs HXz HB5 hW1
      by_cases he2 : er = 2
      · subst he2
        have hc1 := HY1.out.cell
        have hf1 := HY1.out.frozen
        have hc2 := (HY2.out.kept (grownBy_setCell' w5 w.heap.size (.int .u64 0)) (by intro e; have := Option.some.inj e; omega)).cell
        have hf2 := (HY2.out.kept (grownBy_setCell' w5 w.heap.size (.int .u64 0)) (by intro e; have := Option.some.inj e; omega)).frozen
        gi_wp2
        refine ⟨v.ownBlock, (HS5.out.trans (Spares.turned (grownBy_setCell' w5 w.heap.size (.int .u64 0)) (fun r e hk => by cases e; rcases hk with h | h | h <;> omega))).trans (Spares.turned (grownBy_setCell' _ (w.heap.size + 1) (.int .i64 2)) (fun r e hk => by cases e; rcases hk with h | h | h <;> omega)),
          HGQ.out, (HY1.out.set _).other (by omega) _, (HY2.out.other (by omega) _).set _, (HW5.out.setCell (p := ⟨w.heap.size, 0, none⟩) (Nat.le_refl _) _).setCell (p := ⟨w.heap.size + 1, 0, none⟩) (Nat.le_succ _) _, rfl, ?_⟩
        rw [HH.out]
        rfl
      · have he2b : (er == 2) = false := by simpa using he2
        rw [he2b] at HH
        have hcg := HYg.out.cell
        have hfg := HYg.out.frozen
        have HGE := Aside0.mk (show bigN (pre ++ [(at', y)]) = (bigN pre || (er == 3)) from HG.out)
        cases hb0 : bigN pre with
        | true =>
          rw [hb0] at hcg HYg HGE
          have hgb := grownBy_setCell' w5 (w.heap.size + 1 + 1 + 1) (.bool true)
          have HZ1 := Aside0.mk (HY1.out.kept hgb (by intro e; have := Option.some.inj e; omega))
          have HZ2 := Aside0.mk (HY2.out.kept hgb (by intro e; have := Option.some.inj e; omega))
          have HZo := Aside0.mk (HYo.out.kept hgb (by intro e; have := Option.some.inj e; omega))
          have HZv := Aside0.mk (HYv.out.kept hgb (by intro e; have := Option.some.inj e; omega))
          have HZm := Aside0.mk (HYm.out.kept hgb (by intro e; have := Option.some.inj e; omega))
          have HZg := Aside0.mk (HYg.out.set (.bool true))
          have HZr := Aside0.mk (own_move HYr.out (fun k hk => hgb.block k (own_lt HYr.out k hk) (by rw [← hk]; exact (HYg.out.not_row (by decide) HYr.out).symm)))
          have HW6 := Aside0.mk (HW5.out.setCell (p := ⟨w.heap.size + 1 + 1 + 1, 0, none⟩) (by show w.heap.size ≤ w.heap.size + 1 + 1 + 1; omega) (.bool true))
          have HS6 := Aside0.mk (HS5.out.trans (Spares.turned hgb (fun r e hk => by cases e; rcases hk with h | h | h <;> omega)))
          have HZ6 := Aside0.mk (show w2.heap.size + 2 ≤ (w5.setCell ⟨w.heap.size + 1 + 1 + 1, 0, none⟩ (.bool true)).heap.size from Nat.le_trans HZ5.out hgb.size)
          have hcc := HZo.out.cell
          clear hgb HS5 HW5 HYr HYo
          gi_wp2_with (gi_at_builtin; refine halt ?_)
          refine unhalt ?_
          have s6 : Value.slice (some ⟨w5.heap.size, 0, none⟩) 1 1 = Value.slice (some ⟨(w5.setCell ⟨w.heap.size + 1 + 1 + 1, 0, none⟩ (.bool true)).heap.size, 0, none⟩) 1 1 := by rw [show (w5.setCell ⟨w.heap.size + 1 + 1 + 1, 0, none⟩ (.bool true)).heap.size = w5.heap.size by simp]
          generalize hw6 : w5.setCell ⟨w.heap.size + 1 + 1 + 1, 0, none⟩ (.bool true) = w6 at *
          refine in_append w.heap.size rfl _ _ 101 55 (.int .u64 0) 1 8 rfl Tryd.underlying101 infoU64 rfl (by decide) (by omega) v pre.length (u64V (nums pre)) [.int .u64 nv] rfl ?hx rfl ?one HZr.out ?base ?lim ?_
          case hx => exact s6
          case one =>
            intro u hu
            rcases List.mem_singleton.1 hu with rfl
            rfl
          case base => exact HW6.out.size
          case lim => omega
          intro v1 w3 ho3 hg3 hat3
          obtain ⟨g', cap', rfl⟩ := ownsRow_succ ho3
          obtain ⟨hv1, hv2, hr2, hk2, hb2⟩ := collected (K := fun k => w2.heap.size ≤ k ∨ k < w.heap.size ∨ k = w.heap.size + 1 + 1 + 1 + 1 + 1 + 1) HZo.out (by decide) HZr.out (by omega) (Nat.le_add_right _ 2) ho3 hg3 hat3
          have HE1 := Aside0.mk ((HZ1.out.kept hg3 (fun e => by have := HGQ.out _ e.symm; omega)).other (B' := w.heap.size + 1 + 1) (by omega) (Value.slice (some { block := g', off := 0 }) (pre.length + 1) cap'))
          have HE2 := Aside0.mk (collected_box (B := w.heap.size + 1 + 1) hg3 HZr.out HZ2.out (by decide) (by omega) (Value.slice (some { block := g', off := 0 }) (pre.length + 1) cap'))
          have HEg := Aside0.mk (collected_box (B := w.heap.size + 1 + 1) hg3 HZr.out HZg.out (by decide) (by omega) (Value.slice (some { block := g', off := 0 }) (pre.length + 1) cap'))
          have HEv := Aside0.mk (collected_box (B := w.heap.size + 1 + 1) hg3 HZr.out HZv.out (by decide) (by omega) (Value.slice (some { block := g', off := 0 }) (pre.length + 1) cap'))
          have HEm := Aside0.mk ((HZm.out.kept hg3 (HZm.out.not_row (by decide) HZr.out)).kept (grownBy_setCell' w3 (w.heap.size + 1 + 1) (Value.slice (some { block := g', off := 0 }) (pre.length + 1) cap')) (by intro e; have := Option.some.inj e; omega))
          have hc1 := hv1.cell
          have hf1 := hv1.frozen
          have HV2 := Aside0.mk hv2
          have HRR := Aside0.mk hr2
          have HK2 := Aside0.mk hk2
          have HB3 := Aside0.mk hb2
          clear hv1 hv2 hr2 hk2 hb2 ho3 hg3 hat3
          gi_wp2
          refine ⟨_, HS6.out.trans HK2.out, ⟨HK2.out.ge (n := w.heap.size + 9) (by have := HZ6.out; omega) HGQ.out, _, rfl, HV2.out, ?_⟩, HE1.out, HE2.out, ?_, ?_, HEv.out, HW6.out.trans HB3.out, HH.out⟩
          · rw [List.length_append]
            unfold nums u64V at *
            rw [List.map_append, List.map_append, List.map_singleton, List.map_singleton]
            dsimp only
            rw [hnv.out]
            exact HRR.out
          · rw [HGE.out]
            exact HEg.out
          · rw [HMS.out]
            exact HEm.out
        | false =>
          rw [hb0] at hcg HYg HGE
          have hgb := grownBy_setCell' w5 (w.heap.size + 1 + 1 + 1) (.bool (er == 3))
          have HZ1 := Aside0.mk (HY1.out.kept hgb (by intro e; have := Option.some.inj e; omega))
          have HZ2 := Aside0.mk (HY2.out.kept hgb (by intro e; have := Option.some.inj e; omega))
          have HZo := Aside0.mk (HYo.out.kept hgb (by intro e; have := Option.some.inj e; omega))
          have HZv := Aside0.mk (HYv.out.kept hgb (by intro e; have := Option.some.inj e; omega))
          have HZm := Aside0.mk (HYm.out.kept hgb (by intro e; have := Option.some.inj e; omega))
          have HZg := Aside0.mk (HYg.out.set (.bool (er == 3)))
          have HZr := Aside0.mk (own_move HYr.out (fun k hk => hgb.block k (own_lt HYr.out k hk) (by rw [← hk]; exact (HYg.out.not_row (by decide) HYr.out).symm)))
          have HW6 := Aside0.mk (HW5.out.setCell (p := ⟨w.heap.size + 1 + 1 + 1, 0, none⟩) (by show w.heap.size ≤ w.heap.size + 1 + 1 + 1; omega) (.bool (er == 3)))
          have HS6 := Aside0.mk (HS5.out.trans (Spares.turned hgb (fun r e hk => by cases e; rcases hk with h | h | h <;> omega)))
          have HZ6 := Aside0.mk (show w2.heap.size + 2 ≤ (w5.setCell ⟨w.heap.size + 1 + 1 + 1, 0, none⟩ (.bool (er == 3))).heap.size from Nat.le_trans HZ5.out hgb.size)
          have hcc := HZo.out.cell
          clear hgb HS5 HW5 HYr HYo
          gi_wp2_with (gi_at_builtin; refine halt ?_)
          refine unhalt ?_
          have s6 : Value.slice (some ⟨w5.heap.size, 0, none⟩) 1 1 = Value.slice (some ⟨(w5.setCell ⟨w.heap.size + 1 + 1 + 1, 0, none⟩ (.bool (er == 3))).heap.size, 0, none⟩) 1 1 := by rw [show (w5.setCell ⟨w.heap.size + 1 + 1 + 1, 0, none⟩ (.bool (er == 3))).heap.size = w5.heap.size by simp]
          generalize hw6 : w5.setCell ⟨w.heap.size + 1 + 1 + 1, 0, none⟩ (.bool (er == 3)) = w6 at *
          refine in_append w.heap.size rfl _ _ 101 55 (.int .u64 0) 1 8 rfl Tryd.underlying101 infoU64 rfl (by decide) (by omega) v pre.length (u64V (nums pre)) [.int .u64 nv] rfl ?hx rfl ?one HZr.out ?base ?lim ?_
          case hx => exact s6
          case one =>
            intro u hu
            rcases List.mem_singleton.1 hu with rfl
            rfl
          case base => exact HW6.out.size
          case lim => omega
          intro v1 w3 ho3 hg3 hat3
          obtain ⟨g', cap', rfl⟩ := ownsRow_succ ho3
          obtain ⟨hv1, hv2, hr2, hk2, hb2⟩ := collected (K := fun k => w2.heap.size ≤ k ∨ k < w.heap.size ∨ k = w.heap.size + 1 + 1 + 1 + 1 + 1 + 1) HZo.out (by decide) HZr.out (by omega) (Nat.le_add_right _ 2) ho3 hg3 hat3
          have HE1 := Aside0.mk ((HZ1.out.kept hg3 (fun e => by have := HGQ.out _ e.symm; omega)).other (B' := w.heap.size + 1 + 1) (by omega) (Value.slice (some { block := g', off := 0 }) (pre.length + 1) cap'))
          have HE2 := Aside0.mk (collected_box (B := w.heap.size + 1 + 1) hg3 HZr.out HZ2.out (by decide) (by omega) (Value.slice (some { block := g', off := 0 }) (pre.length + 1) cap'))
          have HEg := Aside0.mk (collected_box (B := w.heap.size + 1 + 1) hg3 HZr.out HZg.out (by decide) (by omega) (Value.slice (some { block := g', off := 0 }) (pre.length + 1) cap'))
          have HEv := Aside0.mk (collected_box (B := w.heap.size + 1 + 1) hg3 HZr.out HZv.out (by decide) (by omega) (Value.slice (some { block := g', off := 0 }) (pre.length + 1) cap'))
          have HEm := Aside0.mk ((HZm.out.kept hg3 (HZm.out.not_row (by decide) HZr.out)).kept (grownBy_setCell' w3 (w.heap.size + 1 + 1) (Value.slice (some { block := g', off := 0 }) (pre.length + 1) cap')) (by intro e; have := Option.some.inj e; omega))
          have hc1 := hv1.cell
          have hf1 := hv1.frozen
          have HV2 := Aside0.mk hv2
          have HRR := Aside0.mk hr2
          have HK2 := Aside0.mk hk2
          have HB3 := Aside0.mk hb2
          clear hv1 hv2 hr2 hk2 hb2 ho3 hg3 hat3
          gi_wp2
          refine ⟨_, HS6.out.trans HK2.out, ⟨HK2.out.ge (n := w.heap.size + 9) (by have := HZ6.out; omega) HGQ.out, _, rfl, HV2.out, ?_⟩, HE1.out, HE2.out, ?_, ?_, HEv.out, HW6.out.trans HB3.out, HH.out⟩
          · rw [List.length_append]
            unfold nums u64V at *
            rw [List.map_append, List.map_append, List.map_singleton, List.map_singleton]
            dsimp only
            rw [hnv.out]
            exact HRR.out
          · rw [HGE.out]
            exact HEg.out
          · rw [HMS.out]
            exact HEm.out
    case done =>
      rintro D ys g W hD rfl ⟨⟨hgq, v, rfl, hbw, hrow⟩, hr1, hr2, hbg, hmr, hmv, hBW, hno⟩ hK
      obtain ⟨a0, c1, hv0, hcl1⟩ := owns_slice2 hrow
      subst hv0
      have hmc := hmv.cell
      have hml : (metL xs.length (itemsF 0 xs)).length = xs.length := metL_length _ _
      have HCO := Aside0.mk (contains_ev (metL xs.length (itemsF 0 xs)) 0 (by omega))
      have HRD := Aside0.mk (hmr.reads (by omega))
      rw [hml] at HRD
      have HSW := Aside0.mk hBW
      have HS1' := Aside0.mk hr1
      have HS2' := Aside0.mk hr2
      have HSg' := Aside0.mk hbg
      have HSo' := Aside0.mk hbw
      have HSr' := Aside0.mk hrow
      have HK' := Aside0.mk hK
      have HNO := Aside0.mk hno
      have hKlt : D < W.heap.size := (Array.getElem?_eq_some_iff.1 hK).1
      have hDn : w.heap.size ≤ D := by omega
      clear hBW hr1 hr2 hbg hbw hrow hK hno hmv hgq hmr hD
      generalize hM : metL xs.length (itemsF 0 xs) = M at *
      obtain ⟨kc, hkc⟩ := HCO.out
      have HKC := Aside0.mk hkc
      clear hkc HCO
      have hcc0 := slices_Contains_int_int.calls kc (some ⟨w.heap.size + 1 + 1 + 1 + 1, 0, none⟩) xs.length M 0 (M.contains 0) W (by rw [hml]; exact HRD.out) (by omega) (hG.below HSW.out) HKC.out
      rw [hml] at hcc0
      have HCC := Aside0.mk hcc0
      clear hcc0
      gi_wp2
      refine ⟨trivial, ?_⟩
      refine (callsIn_wide.2 HCC.out).mono ?_
      rintro e w3 ⟨rfl, b3⟩
      have HB3 := Aside0.mk b3.below
      have HBW := Aside0.mk (HSW.out.trans (b3.below.mono HSW.out.size))
      have HS1 := Aside0.mk (show Boxed w3 w.heap.size 55 (.int .u64 0) from (HB3.out.block _ HS1'.out.lt).trans HS1'.out)
      have HS2 := Aside0.mk (show Boxed w3 (w.heap.size + 1) 26 (.int .i64 0) from (HB3.out.block _ HS2'.out.lt).trans HS2'.out)
      have HSG := Aside0.mk (show Boxed w3 (w.heap.size + 1 + 1 + 1) 4 (.bool (bigN (itemsF 0 xs))) from (HB3.out.block _ HSg'.out.lt).trans HSg'.out)
      have HSO := Aside0.mk (show Boxed w3 (w.heap.size + 1 + 1) 101 (.slice a0 (itemsF 0 xs).length c1) from (HB3.out.block _ HSo'.out.lt).trans HSo'.out)
      have HSR := Aside0.mk (show w3.ownsRow w.heap.size 55 1 (.slice a0 (itemsF 0 xs).length c1) (itemsF 0 xs).length (u64V (nums (itemsF 0 xs))) from own_move HSr'.out (fun k hk => HB3.out.block k (own_lt HSr'.out k hk)))
      have HSK := Aside0.mk (show w3.heap[D]? = some (.deferred (some [])) from (HB3.out.block _ hKlt).trans HK'.out)
      clear b3 HS1' HS2' HSg' HSo' HSr' HK' HB3 HRD HKC
      cases hM0 : M.contains 0 with
      | true =>
        obtain ⟨q1, q2, q3, q4, _⟩ := closed2 (n₀ := w.heap.size) HS1.out HS2.out (by omega) (Nat.le_refl _) (by omega) (by omega) HSK.out (.int .u64 0) (.int .i64 2)
        have Q1 := Aside0.mk q1
        have Q2 := Aside0.mk q2
        have Q3 := Aside0.mk q3
        have Q4 := Aside0.mk (HBW.out.trans q4)
        have hcc1 := HS1.out.cell
        have hff1 := HS1.out.frozen
        have hcc2 := (HS2.out.other (by omega) (.int .u64 0) : Boxed (w3.setCell ⟨w.heap.size, 0, none⟩ (.int .u64 0)) (w.heap.size + 1) 26 (.int .i64 0)).cell
        have hff2 := (HS2.out.other (by omega) (.int .u64 0) : Boxed (w3.setCell ⟨w.heap.size, 0, none⟩ (.int .u64 0)) (w.heap.size + 1) 26 (.int .i64 0)).frozen
        have HE := Aside0.mk (show lenR xs = (0, 2) by
          unfold lenR
          rw [if_neg hx0, if_neg (by rw [HNO.out]; decide), hM, if_pos hM0])
        clear q1 q2 q3 q4 HSR HSO
        gi_wp2
        refine ⟨by simp, .inl ⟨_, _, rfl, run_takeDeferred Q1.out, ?_⟩⟩
        refine ⟨_, results_cells2 rfl _ _ _ ⟨w.heap.size, 0, none⟩ ⟨w.heap.size + 1, 0, none⟩ (.int .u64 0) (.int .i64 2) rfl (bA _) Q2.out.cell rfl (bB _) Q3.out.cell, ?_⟩
        exact ⟨0, 2, rfl, HE.out, Q4.out⟩
      | false =>
        have hgc := HSG.out.cell
        cases hB : bigN (itemsF 0 xs) with
        | true =>
          rw [hB] at hgc
          obtain ⟨q1, q2, q3, q4, _⟩ := closed2 (n₀ := w.heap.size) HS1.out HS2.out (by omega) (Nat.le_refl _) (by omega) (by omega) HSK.out (.int .u64 0) (.int .i64 3)
          have Q1 := Aside0.mk q1
          have Q2 := Aside0.mk q2
          have Q3 := Aside0.mk q3
          have Q4 := Aside0.mk (HBW.out.trans q4)
          have hcc1 := HS1.out.cell
          have hff1 := HS1.out.frozen
          have hcc2 := (HS2.out.other (by omega) (.int .u64 0) : Boxed (w3.setCell ⟨w.heap.size, 0, none⟩ (.int .u64 0)) (w.heap.size + 1) 26 (.int .i64 0)).cell
          have hff2 := (HS2.out.other (by omega) (.int .u64 0) : Boxed (w3.setCell ⟨w.heap.size, 0, none⟩ (.int .u64 0)) (w.heap.size + 1) 26 (.int .i64 0)).frozen
          have HE := Aside0.mk (show lenR xs = (0, 3) by
            unfold lenR
            rw [if_neg hx0, if_neg (by rw [HNO.out]; decide), hM, if_neg (by rw [hM0]; decide), if_pos hB])
          clear q1 q2 q3 q4 HSR HSO
          gi_wp2
          refine ⟨by simp, .inl ⟨_, _, rfl, run_takeDeferred Q1.out, ?_⟩⟩
          refine ⟨_, results_cells2 rfl _ _ _ ⟨w.heap.size, 0, none⟩ ⟨w.heap.size + 1, 0, none⟩ (.int .u64 0) (.int .i64 3) rfl (bA _) Q2.out.cell rfl (bB _) Q3.out.cell, ?_⟩
          exact ⟨0, 3, rfl, HE.out, Q4.out⟩
        | false =>
          rw [hB] at hgc
          have hnl : (nums (itemsF 0 xs)).length = (itemsF 0 xs).length := by unfold nums; rw [List.length_map]
          have hpos : 0 < (itemsF 0 xs).length := by
            rcases Nat.eq_zero_or_pos (itemsF 0 xs).length with h | h
            · exfalso
              have := met_empty xs.length (by omega)
              rw [← List.length_eq_zero_iff.1 h, hM, hM0] at this
              cases this
            · exact h
          have hlt := HLL.out
          obtain ⟨hq1, hq2, hreads⟩ := Kd.R_reads' (row_of_owns (Kd.int .u64) (fun x => [Value.int .u64 x]) (fun _ => rfl) (fun _ _ => rfl) (by
            rw [show (nums (itemsF 0 xs)).flatMap (fun x => [Value.int .u64 x]) = u64V (nums (itemsF 0 xs)) from u64V_flat _, hnl]; exact HSR.out) : Kd.R (Kd.int .u64) 55 w3 w.heap.size (fun _ => True) (.slice a0 (itemsF 0 xs).length c1) (nums (itemsF 0 xs)))
          clear hq1 hq2
          obtain ⟨a1, ea1, h0c⟩ := at_u64 hreads 0 (by omega)
          subst ea1
          have hmin := min_calls (some a1) c1 (nums (itemsF 0 xs)) w3.drew hreads (by omega) (by omega)
          have hmax := max_calls (some a1) c1 (nums (itemsF 0 xs)) w3.drew hreads (by omega) (by omega)
          rw [hnl] at hmin hmax
          have HMI := Aside0.mk hmin
          have HMA := Aside0.mk hmax
          have h0d : w3.drew.cell? (a1.add 0) = some (.int .u64 ((nums (itemsF 0 xs)).getD 0 0)) := h0c
          have hoc := HSO.out.cell
          have hod : w3.drew.cell? ⟨w.heap.size + 1 + 1, 0, none⟩ = some (.slice (some a1) (itemsF 0 xs).length c1) := hoc
          have HT1 := Aside0.mk (show Boxed w3.drew w.heap.size 55 (.int .u64 0) from HS1.out)
          have HT2 := Aside0.mk (show Boxed w3.drew (w.heap.size + 1) 26 (.int .i64 0) from HS2.out)
          have HTK := Aside0.mk (show w3.drew.heap[D]? = some (.deferred (some [])) from HSK.out)
          have HTW := Aside0.mk (show Below w.heap.size w w3.drew from HBW.out.drew)
          have hmx : Tryd.prog.follows .mixedOrders = true := by kernel_rfl
          have HNL := Aside0.mk (show lenR xs = if minI (nums (itemsF 0 xs)) ≠ maxI (nums (itemsF 0 xs)) then (0, 2) else ((nums (itemsF 0 xs)).getD 0 0, 0) by
            unfold lenR
            rw [if_neg hx0, if_neg (by rw [HNO.out]; decide), hM, if_neg (by rw [hM0]; decide), if_neg (by rw [hB]; decide)])
          have H0D := Aside0.mk h0d
          have HOD := Aside0.mk hod
          clear hreads hmin hmax h0c h0d HSR HSO HSG HS1 HS2 HSK HBW hcl1 hml hnl hlt HNO hoc hM hM0 hB hmc
          generalize nums (itemsF 0 xs) = nl at *
          generalize (itemsF 0 xs).length = il at *
          generalize nl.getD 0 0 = n0 at *
          gi_wp2
          refine wpIn_region_any hmx ?_
          change wpAnyIn _ _ _ _ _ _ _ _ _ w3.drew
          generalize w3.drew = w4 at *
          refine wpAnyIn_ready (rs := [0, 2]) (by kernel_rfl) (by simp) ?_
          refine AllReadyIn.cons rfl (fun K hK => ?_) ?_
          ·
            go_simp
            refine hK _ _ ?_
            clear hK K
            refine wpAnyIn_ready (rs := [1, 2]) (by kernel_rfl) (by simp) ?_
            refine AllReadyIn.cons rfl (fun K hK => ?_) ?_
            ·
              go_simp
              refine ⟨trivial, ?_⟩
              refine (callsIn_wide.2 HMI.out).mono ?_
              rintro e w5 ⟨rfl, h5⟩
              obtain rfl := h5.symm
              refine hK _ _ ?_
              clear hK K
              refine wpAnyIn_ready (rs := [2]) (by kernel_rfl) (by simp) ?_
              refine AllReadyIn.cons rfl (fun K hK => ?_) ?_
              ·
                go_simp
                refine hK _ _ ?_
                clear hK K
                refine wpAnyIn_ready (rs := [3]) (by kernel_rfl) (by simp) ?_
                refine AllReadyIn.cons rfl (fun K hK => ?_) ?_
                ·
                  go_simp
                  refine ⟨trivial, ?_⟩
                  refine (callsIn_wide.2 HMA.out).mono ?_
                  rintro e w7 ⟨rfl, h5⟩
                  obtain rfl := h5.symm
                  refine hK _ _ ?_
                  clear hK K
                  refine wpAnyIn_ready (rs := [4]) (by kernel_rfl) (by simp) ?_
                  refine AllReadyIn.cons rfl (fun K hK => ?_) ?_
                  ·
                    go_simp
                    refine hK _ _ ?_
                    clear hK K
                    refine wpAnyIn_ready (rs := [5]) (by kernel_rfl) (by simp) ?_
                    refine AllReadyIn.cons rfl (fun K hK => ?_) ?_
                    ·
                      go_simp
                      refine hK _ _ ?_
                      clear hK K
                      refine wpAnyIn_done (by kernel_rfl) ?_ _
                      have H0C := H0D.out
                      have h0d : w4.cell? a1 = some (.int .u64 n0) := H0C
                      by_cases hne : minI nl = maxI nl
                      · have hne2 : (minI nl == maxI nl) = true := by rw [hne]; exact beq_self_eq_true _
                        obtain ⟨q1, q2, q3, q4, _⟩ := closed2 (n₀ := w.heap.size) HT1.out HT2.out (by omega) (Nat.le_refl _) (by omega) (by omega) HTK.out (.int .u64 n0) (.int .i64 0)
                        have Q1 := Aside0.mk q1
                        have Q2 := Aside0.mk q2
                        have Q3 := Aside0.mk q3
                        have Q4 := Aside0.mk (HTW.out.trans q4)
                        have hcc1 := HT1.out.cell
                        have hff1 := HT1.out.frozen
                        have hcc2 := (HT2.out.other (by omega) (.int .u64 n0) : Boxed (w4.setCell ⟨w.heap.size, 0, none⟩ (.int .u64 n0)) (w.heap.size + 1) 26 (.int .i64 0)).cell
                        have hff2 := (HT2.out.other (by omega) (.int .u64 n0) : Boxed (w4.setCell ⟨w.heap.size, 0, none⟩ (.int .u64 n0)) (w.heap.size + 1) 26 (.int .i64 0)).frozen
                        have HE := Aside0.mk (show lenR xs = (n0, 0) by
                          exact HNL.out.trans (if_neg (fun h => h hne)))
                        clear q1 q2 q3 q4
                        gi_wp2
                        refine ⟨by simp, .inl ⟨_, _, rfl, run_takeDeferred Q1.out, ?_⟩⟩
                        refine ⟨_, results_cells2 rfl _ _ _ ⟨w.heap.size, 0, none⟩ ⟨w.heap.size + 1, 0, none⟩ (.int .u64 n0) (.int .i64 0) rfl (bA _) Q2.out.cell rfl (bB _) Q3.out.cell, ?_⟩
                        exact ⟨n0, 0, rfl, HE.out, Q4.out⟩
                      · have hne2 : (minI nl == maxI nl) = false := by simpa using hne
                        obtain ⟨q1, q2, q3, q4, _⟩ := closed2 (n₀ := w.heap.size) HT1.out HT2.out (by omega) (Nat.le_refl _) (by omega) (by omega) HTK.out (.int .u64 0) (.int .i64 2)
                        have Q1 := Aside0.mk q1
                        have Q2 := Aside0.mk q2
                        have Q3 := Aside0.mk q3
                        have Q4 := Aside0.mk (HTW.out.trans q4)
                        have hcc1 := HT1.out.cell
                        have hff1 := HT1.out.frozen
                        have hcc2 := (HT2.out.other (by omega) (.int .u64 0) : Boxed (w4.setCell ⟨w.heap.size, 0, none⟩ (.int .u64 0)) (w.heap.size + 1) 26 (.int .i64 0)).cell
                        have hff2 := (HT2.out.other (by omega) (.int .u64 0) : Boxed (w4.setCell ⟨w.heap.size, 0, none⟩ (.int .u64 0)) (w.heap.size + 1) 26 (.int .i64 0)).frozen
                        have HE := Aside0.mk (show lenR xs = (0, 2) by
                          exact HNL.out.trans (if_pos hne))
                        clear q1 q2 q3 q4
                        gi_wp2
                        refine ⟨by simp, .inl ⟨_, _, rfl, run_takeDeferred Q1.out, ?_⟩⟩
                        refine ⟨_, results_cells2 rfl _ _ _ ⟨w.heap.size, 0, none⟩ ⟨w.heap.size + 1, 0, none⟩ (.int .u64 0) (.int .i64 2) rfl (bA _) Q2.out.cell rfl (bB _) Q3.out.cell, ?_⟩
                        exact ⟨0, 2, rfl, HE.out, Q4.out⟩
                    exact AllReadyIn.nil
                  exact AllReadyIn.nil
                exact AllReadyIn.nil
              exact AllReadyIn.nil
            refine AllReadyIn.cons rfl (fun K hK => ?_) ?_
            ·
              go_simp
              refine hK _ _ ?_
              clear hK K
              refine wpAnyIn_ready (rs := [1]) (by kernel_rfl) (by simp) ?_
              refine AllReadyIn.cons rfl (fun K hK => ?_) ?_
              ·
                go_simp
                refine ⟨trivial, ?_⟩
                refine (callsIn_wide.2 HMI.out).mono ?_
                rintro e w5 ⟨rfl, h5⟩
                obtain rfl := h5.symm
                refine hK _ _ ?_
                clear hK K
                refine wpAnyIn_ready (rs := [3]) (by kernel_rfl) (by simp) ?_
                refine AllReadyIn.cons rfl (fun K hK => ?_) ?_
                ·
                  go_simp
                  refine ⟨trivial, ?_⟩
                  refine (callsIn_wide.2 HMA.out).mono ?_
                  rintro e w7 ⟨rfl, h5⟩
                  obtain rfl := h5.symm
                  refine hK _ _ ?_
                  clear hK K
                  refine wpAnyIn_ready (rs := [4]) (by kernel_rfl) (by simp) ?_
                  refine AllReadyIn.cons rfl (fun K hK => ?_) ?_
                  ·
                    go_simp
                    refine hK _ _ ?_
                    clear hK K
                    refine wpAnyIn_ready (rs := [5]) (by kernel_rfl) (by simp) ?_
                    refine AllReadyIn.cons rfl (fun K hK => ?_) ?_
                    ·
                      go_simp
                      refine hK _ _ ?_
                      clear hK K
                      refine wpAnyIn_done (by kernel_rfl) ?_ _
                      have H0C := H0D.out
                      have h0d : w4.cell? a1 = some (.int .u64 n0) := H0C
                      by_cases hne : minI nl = maxI nl
                      · have hne2 : (minI nl == maxI nl) = true := by rw [hne]; exact beq_self_eq_true _
                        obtain ⟨q1, q2, q3, q4, _⟩ := closed2 (n₀ := w.heap.size) HT1.out HT2.out (by omega) (Nat.le_refl _) (by omega) (by omega) HTK.out (.int .u64 n0) (.int .i64 0)
                        have Q1 := Aside0.mk q1
                        have Q2 := Aside0.mk q2
                        have Q3 := Aside0.mk q3
                        have Q4 := Aside0.mk (HTW.out.trans q4)
                        have hcc1 := HT1.out.cell
                        have hff1 := HT1.out.frozen
                        have hcc2 := (HT2.out.other (by omega) (.int .u64 n0) : Boxed (w4.setCell ⟨w.heap.size, 0, none⟩ (.int .u64 n0)) (w.heap.size + 1) 26 (.int .i64 0)).cell
                        have hff2 := (HT2.out.other (by omega) (.int .u64 n0) : Boxed (w4.setCell ⟨w.heap.size, 0, none⟩ (.int .u64 n0)) (w.heap.size + 1) 26 (.int .i64 0)).frozen
                        have HE := Aside0.mk (show lenR xs = (n0, 0) by
                          exact HNL.out.trans (if_neg (fun h => h hne)))
                        clear q1 q2 q3 q4
                        gi_wp2
                        refine ⟨by simp, .inl ⟨_, _, rfl, run_takeDeferred Q1.out, ?_⟩⟩
                        refine ⟨_, results_cells2 rfl _ _ _ ⟨w.heap.size, 0, none⟩ ⟨w.heap.size + 1, 0, none⟩ (.int .u64 n0) (.int .i64 0) rfl (bA _) Q2.out.cell rfl (bB _) Q3.out.cell, ?_⟩
                        exact ⟨n0, 0, rfl, HE.out, Q4.out⟩
                      · have hne2 : (minI nl == maxI nl) = false := by simpa using hne
                        obtain ⟨q1, q2, q3, q4, _⟩ := closed2 (n₀ := w.heap.size) HT1.out HT2.out (by omega) (Nat.le_refl _) (by omega) (by omega) HTK.out (.int .u64 0) (.int .i64 2)
                        have Q1 := Aside0.mk q1
                        have Q2 := Aside0.mk q2
                        have Q3 := Aside0.mk q3
                        have Q4 := Aside0.mk (HTW.out.trans q4)
                        have hcc1 := HT1.out.cell
                        have hff1 := HT1.out.frozen
                        have hcc2 := (HT2.out.other (by omega) (.int .u64 0) : Boxed (w4.setCell ⟨w.heap.size, 0, none⟩ (.int .u64 0)) (w.heap.size + 1) 26 (.int .i64 0)).cell
                        have hff2 := (HT2.out.other (by omega) (.int .u64 0) : Boxed (w4.setCell ⟨w.heap.size, 0, none⟩ (.int .u64 0)) (w.heap.size + 1) 26 (.int .i64 0)).frozen
                        have HE := Aside0.mk (show lenR xs = (0, 2) by
                          exact HNL.out.trans (if_pos hne))
                        clear q1 q2 q3 q4
                        gi_wp2
                        refine ⟨by simp, .inl ⟨_, _, rfl, run_takeDeferred Q1.out, ?_⟩⟩
                        refine ⟨_, results_cells2 rfl _ _ _ ⟨w.heap.size, 0, none⟩ ⟨w.heap.size + 1, 0, none⟩ (.int .u64 0) (.int .i64 2) rfl (bA _) Q2.out.cell rfl (bB _) Q3.out.cell, ?_⟩
                        exact ⟨0, 2, rfl, HE.out, Q4.out⟩
                    exact AllReadyIn.nil
                  exact AllReadyIn.nil
                exact AllReadyIn.nil
              exact AllReadyIn.nil
            exact AllReadyIn.nil
          refine AllReadyIn.cons rfl (fun K hK => ?_) ?_
          ·
            go_simp
            refine hK _ _ ?_
            clear hK K
            refine wpAnyIn_ready (rs := [0]) (by kernel_rfl) (by simp) ?_
            refine AllReadyIn.cons rfl (fun K hK => ?_) ?_
            ·
              go_simp
              refine hK _ _ ?_
              clear hK K
              refine wpAnyIn_ready (rs := [1]) (by kernel_rfl) (by simp) ?_
              refine AllReadyIn.cons rfl (fun K hK => ?_) ?_
              ·
                go_simp
                refine ⟨trivial, ?_⟩
                refine (callsIn_wide.2 HMI.out).mono ?_
                rintro e w5 ⟨rfl, h5⟩
                obtain rfl := h5.symm
                refine hK _ _ ?_
                clear hK K
                refine wpAnyIn_ready (rs := [3]) (by kernel_rfl) (by simp) ?_
                refine AllReadyIn.cons rfl (fun K hK => ?_) ?_
                ·
                  go_simp
                  refine ⟨trivial, ?_⟩
                  refine (callsIn_wide.2 HMA.out).mono ?_
                  rintro e w7 ⟨rfl, h5⟩
                  obtain rfl := h5.symm
                  refine hK _ _ ?_
                  clear hK K
                  refine wpAnyIn_ready (rs := [4]) (by kernel_rfl) (by simp) ?_
                  refine AllReadyIn.cons rfl (fun K hK => ?_) ?_
                  ·
                    go_simp
                    refine hK _ _ ?_
                    clear hK K
                    refine wpAnyIn_ready (rs := [5]) (by kernel_rfl) (by simp) ?_
                    refine AllReadyIn.cons rfl (fun K hK => ?_) ?_
                    ·
                      go_simp
                      refine hK _ _ ?_
                      clear hK K
                      refine wpAnyIn_done (by kernel_rfl) ?_ _
                      have H0C := H0D.out
                      have h0d : w4.cell? a1 = some (.int .u64 n0) := H0C
                      by_cases hne : minI nl = maxI nl
                      · have hne2 : (minI nl == maxI nl) = true := by rw [hne]; exact beq_self_eq_true _
                        obtain ⟨q1, q2, q3, q4, _⟩ := closed2 (n₀ := w.heap.size) HT1.out HT2.out (by omega) (Nat.le_refl _) (by omega) (by omega) HTK.out (.int .u64 n0) (.int .i64 0)
                        have Q1 := Aside0.mk q1
                        have Q2 := Aside0.mk q2
                        have Q3 := Aside0.mk q3
                        have Q4 := Aside0.mk (HTW.out.trans q4)
                        have hcc1 := HT1.out.cell
                        have hff1 := HT1.out.frozen
                        have hcc2 := (HT2.out.other (by omega) (.int .u64 n0) : Boxed (w4.setCell ⟨w.heap.size, 0, none⟩ (.int .u64 n0)) (w.heap.size + 1) 26 (.int .i64 0)).cell
                        have hff2 := (HT2.out.other (by omega) (.int .u64 n0) : Boxed (w4.setCell ⟨w.heap.size, 0, none⟩ (.int .u64 n0)) (w.heap.size + 1) 26 (.int .i64 0)).frozen
                        have HE := Aside0.mk (show lenR xs = (n0, 0) by
                          exact HNL.out.trans (if_neg (fun h => h hne)))
                        clear q1 q2 q3 q4
                        gi_wp2
                        refine ⟨by simp, .inl ⟨_, _, rfl, run_takeDeferred Q1.out, ?_⟩⟩
                        refine ⟨_, results_cells2 rfl _ _ _ ⟨w.heap.size, 0, none⟩ ⟨w.heap.size + 1, 0, none⟩ (.int .u64 n0) (.int .i64 0) rfl (bA _) Q2.out.cell rfl (bB _) Q3.out.cell, ?_⟩
                        exact ⟨n0, 0, rfl, HE.out, Q4.out⟩
                      · have hne2 : (minI nl == maxI nl) = false := by simpa using hne
                        obtain ⟨q1, q2, q3, q4, _⟩ := closed2 (n₀ := w.heap.size) HT1.out HT2.out (by omega) (Nat.le_refl _) (by omega) (by omega) HTK.out (.int .u64 0) (.int .i64 2)
                        have Q1 := Aside0.mk q1
                        have Q2 := Aside0.mk q2
                        have Q3 := Aside0.mk q3
                        have Q4 := Aside0.mk (HTW.out.trans q4)
                        have hcc1 := HT1.out.cell
                        have hff1 := HT1.out.frozen
                        have hcc2 := (HT2.out.other (by omega) (.int .u64 0) : Boxed (w4.setCell ⟨w.heap.size, 0, none⟩ (.int .u64 0)) (w.heap.size + 1) 26 (.int .i64 0)).cell
                        have hff2 := (HT2.out.other (by omega) (.int .u64 0) : Boxed (w4.setCell ⟨w.heap.size, 0, none⟩ (.int .u64 0)) (w.heap.size + 1) 26 (.int .i64 0)).frozen
                        have HE := Aside0.mk (show lenR xs = (0, 2) by
                          exact HNL.out.trans (if_pos hne))
                        clear q1 q2 q3 q4
                        gi_wp2
                        refine ⟨by simp, .inl ⟨_, _, rfl, run_takeDeferred Q1.out, ?_⟩⟩
                        refine ⟨_, results_cells2 rfl _ _ _ ⟨w.heap.size, 0, none⟩ ⟨w.heap.size + 1, 0, none⟩ (.int .u64 0) (.int .i64 2) rfl (bA _) Q2.out.cell rfl (bB _) Q3.out.cell, ?_⟩
                        exact ⟨0, 2, rfl, HE.out, Q4.out⟩
                    exact AllReadyIn.nil
                  exact AllReadyIn.nil
                exact AllReadyIn.nil
              exact AllReadyIn.nil
            exact AllReadyIn.nil
          exact AllReadyIn.nil
    case stop =>
      rintro D c pre g W hD hsp ⟨hgq, hr1, hr2, hBW, rfl, hyes⟩ hK
      have HK := Aside0.mk hK
      have HB := Aside0.mk (hBW.grown (grownBy_putObj' W D (.deferred none)) hBW.size (fun k e => by cases e; omega))
      have HX1 := Aside0.mk (hr1.kept (grownBy_putObj' W D (.deferred none)) (fun h => by cases h; omega))
      have HX2 := Aside0.mk (hr2.kept (grownBy_putObj' W D (.deferred none)) (fun h => by cases h; omega))
      have HE := Aside0.mk (show lenR xs = (0, 2) by
        obtain ⟨r, hr⟩ := hsp
        have hb : badN (itemsF 0 xs) = true := by
          rw [← hr]
          unfold badN at *
          rw [List.any_append, hyes, Bool.true_or]
        unfold lenR
        rw [if_neg hx0, if_pos hb])
      clear hK hsp hyes
      gi_wp2
      refine ⟨by simp, .inl ⟨_, _, rfl, run_takeDeferred HK.out, ?_⟩⟩
      refine ⟨_, results_cells2 rfl _ _ _ ⟨w.heap.size, 0, none⟩ ⟨w.heap.size + 1, 0, none⟩ (.int .u64 0) (.int .i64 2) rfl (bA _) HX1.out.cell rfl (bB _) HX2.out.cell, ?_⟩
      exact ⟨0, 2, rfl, HE.out, HB.out⟩
def list_Length.f (l0 : List ByteArray) : Option (Int × Int) := if sumS l0 ≤ 1000000 then some (lenR l0) else none
theorem list_Length.calls (A0 : Option Addr) (c0 : Nat) (l0 : List ByteArray) (r1 : Int) (r2 : Int) (w : World) (hr0 : Kd.C Kd.string w A0 l0.length l0) (hc0 : l0.length ≤ c0) (hG : TabOk w) (h : list_Length.f l0 = some (r1, r2)) :
    Calls Tryd.prog 54 #[.slice A0 l0.length c0] w fun e w' => e = .returned (.tuple #[.int .u64 r1, .int .i64 r2]) ∧ Below w.heap.size w w' := by
  unfold list_Length.f at h
  split at h
  · rename_i hs
    injection h with h
    refine (callsIn_wide.1 (Length_in 7 (Nat.le_refl _) A0 c0 l0 hs hc0 w hG hr0)).mono ?_
    rintro e w' ⟨n, er, rfl, hr, hb⟩
    rw [h] at hr
    cases hr
    exact ⟨rfl, hb⟩
  · cases h
end Go.Proofs.YtoanmbhenmlboaaDoorH
end
