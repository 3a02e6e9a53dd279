import Derived.Test.YtdkecmjoenfjdaaDoorHOctet
namespace Go.Proofs.YtdkecmjoenfjdaaDoorH
open Go.RowKit Go.Proofs.YtdkecmjoenfjdaaDoorW.PrintWords Go.Proofs.YtdkecmjoenfjdaaDoorW.PrintLast Go.Proofs.YtdkecmjoenfjdaaDoorW.PrintMore

/-! ### octet.Small: letters made small, in place, in a copy -/
def smallI (c : Int) : Int := if 65 ≤ c ∧ c ≤ 90 then c + 32 else c
def smallL (s : ByteArray) : List Int := (bytesOf s).map smallI
def smallS (s : ByteArray) : ByteArray := strOfNums (smallL s)
theorem smallL_length (s : ByteArray) : (smallL s).length = s.size := by unfold smallL; rw [List.length_map, bytesOf_length]
theorem smallL_at (s : ByteArray) (j : Nat) (h : j < s.size) : (smallL s).getD j 0 = smallI (bt s j) := by
  have h' : j < (bytesOf s).length := by rw [bytesOf_length]; exact h
  rw [← rd_bytesOf]
  unfold smallL rd
  rw [List.getD_eq_getElem?_getD, List.getElem?_map, List.getElem?_eq_getElem h', Int.toNat_natCast, List.getD_eq_getElem?_getD, List.getElem?_eq_getElem h']
  rfl

/-- The copy, some of whose letters have been made small. -/
structure SmallAt (w : World) (s : ByteArray) (k : Nat) (wr : World) : Prop where
  below : Below w.heap.size w wr
  size : w.heap.size < wr.heap.size
  low : ∀ j : Nat, j < k → wr.cell? ⟨w.heap.size, j, none⟩ = some (.int .u8 (smallI (bt s j)))
  high : ∀ j : Nat, k ≤ j → j < s.size → wr.cell? ⟨w.heap.size, j, none⟩ = some (.int .u8 (bt s j))
  free : ∀ j : Nat, j < s.size → wr.frozen? ⟨w.heap.size, j, none⟩ = false

theorem SmallAt.start (w : World) (s : ByteArray) (e : TypeId) : SmallAt w s 0 (Lib.bytesWorld w e s) := by
  refine ⟨bytes_below (Below.refl _ _) (Nat.le_refl _) e s, by rw [Lib.bytesWorld_size]; omega, fun j h => by omega, fun j _ h => bytes_cell w e s j h (Below.refl _ _), fun j h => ?_⟩
  have h2 : j < (Lib.bytesCells w e s).size := by
    unfold Lib.bytesCells
    have : s.data.size = s.size := rfl
    simp
    omega
  simp only [World.frozen?, Lib.bytesWorld_at_new]
  simp
  omega

theorem SmallAt.same {w : World} {s : ByteArray} {k : Nat} {wr : World} (h : SmallAt w s k wr) (hk : k < s.size) (hs : smallI (bt s k) = bt s k) : SmallAt w s (k + 1) wr := by
  refine ⟨h.below, h.size, fun j hj => ?_, fun j h1 h2 => h.high j (by omega) h2, h.free⟩
  rcases Nat.lt_succ_iff_lt_or_eq.1 hj with h1 | h1
  · exact h.low j h1
  · subst h1; rw [hs]; exact h.high j (Nat.le_refl _) hk

theorem SmallAt.put {w : World} {s : ByteArray} {k : Nat} {wr : World} (h : SmallAt w s k wr) (hk : k < s.size) {v : Int} (hv : v = smallI (bt s k)) : SmallAt w s (k + 1) (wr.setCell ⟨w.heap.size, k, none⟩ (.int .u8 v)) := by
  subst hv
  have hc := h.high k (Nat.le_refl _) hk
  refine ⟨h.below.setCell (p := ⟨w.heap.size, k, none⟩) (Nat.le_refl _) _, by simpa using h.size, fun j hj => ?_, fun j h1 h2 => ?_, fun j hj => by rw [World.frozen?_setCell]; exact h.free j hj⟩
  · rcases Nat.lt_succ_iff_lt_or_eq.1 hj with h1 | h1
    · rw [World.cell?_setCell_other _ _ _ _ (by intro e; injection e with _ e2; omega)]
      exact h.low j h1
    · subst h1
      exact World.cell?_setCell_same' _ _ _ (by rw [hc]; rfl)
  · rw [World.cell?_setCell_other _ _ _ _ (by intro e; injection e with _ e2; omega)]
    exact h.high j (by omega) h2

set_option maxHeartbeats 800000 in
set_option maxRecDepth 100000 in
theorem small_calls (s : ByteArray) (w : World) (hs : s.size ≤ 140737488355328) (hG : TabOk w) :
    Calls Tryd.prog 72 #[.string s] w fun e w' => e = .returned (.string (smallS s)) ∧ Below w.heap.size w w' := by
  have kb := fun W => print_bytes (P := Tryd.prog) 9 80 5 Tryd.underlying9 Tryd.underlying80 Tryd.underlying5 s W
  have HS := Aside0.mk (SmallAt.start w s 5)
  have HG := Aside0.mk hG
  clear hG
  go_enter Tryd.func72, Tryd.ntmps72
  go_wp2
  clear kb
  go_loopw [10] (fun i wr => ∃ k : Nat, k ≤ s.size ∧ i = .int .i64 k ∧ Aside0 (SmallAt w s k wr)) (fun i _ => s.size - (intOf i).toNat)
  case atStart => exact ⟨0, Nat.zero_le _, rfl, HS⟩
  case round =>
    obtain ⟨k, hk, rfl, hr⟩ := hrel
    have hGr := HG.out.below hr.out.below
    have e2 := hGr.c2
    have e3 := hGr.c3
    clear hGr
    by_cases hlt : k < s.size
    · have hc := hr.out.high k (Nat.le_refl _) hlt
      have hf := hr.out.free k hlt
      have hrg := bt_range s k
      generalize hbt : bt s (k : Int) = c at hc hrg
      have HBT := Aside0.mk hbt
      clear hbt
      by_cases h1 : 65 ≤ c
      · by_cases h2 : c ≤ 90
        · go_wp2
          go_roundw
          case rel => exact ⟨k + 1, by omega, by go_num, ⟨hr.out.put hlt (by rw [HBT.out]; unfold smallI; rw [if_pos ⟨h1, h2⟩])⟩⟩
          case measure => simp [intOf]; omega
        · have h2' : 90 < c := by omega
          clear h2
          go_wp2
          go_roundw
          case rel => exact ⟨k + 1, by omega, by go_num, ⟨hr.out.same hlt (by rw [HBT.out]; unfold smallI; rw [if_neg (by omega)])⟩⟩
          case measure => simp [intOf]; omega
      · have h1' : c < 65 := by omega
        clear h1
        go_wp2
        go_roundw
        case rel => exact ⟨k + 1, by omega, by go_num, ⟨hr.out.same hlt (by rw [HBT.out]; unfold smallI; rw [if_neg (by omega)])⟩⟩
        case measure => simp [intOf]; omega
    · have hke : k = s.size := by omega
      have hcv := run_convert_bytes_arg (P := Tryd.prog) wr 80 5 Tryd.underlying80 Tryd.underlying5 w.heap.size 0 s.size (grownCap w s.size 0 5) (smallL s) (smallL_length s) (fun i hi => by
        rw [Nat.zero_add, hr.out.low i (by omega), smallL_at s i hi]) 9 Tryd.underlying9
      clear hke
      go_wp2
      go_ret
      exact ⟨rfl, hr.out.below⟩
end Go.Proofs.YtdkecmjoenfjdaaDoorH
