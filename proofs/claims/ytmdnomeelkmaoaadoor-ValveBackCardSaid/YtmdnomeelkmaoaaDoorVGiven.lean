import Derived.Test.YtmdnomeelkmaoaaDoorVBase
import Derived.Test.YtmdnomeelkmaoaaDoorHValveWakes
import Derived.Test.YtmdnomeelkmaoaaDoorShelf
namespace Go.Proofs.YtmdnomeelkmaoaaDoorV
open Go.RowKit Go.Proofs.YtmdnomeelkmaoaaDoorW.PrintWords Go.Proofs.YtmdnomeelkmaoaaDoorW.PrintLast Go.Proofs.YtmdnomeelkmaoaaDoorW.PrintMore

def wordF (n : Int) : ByteArray := if 0 ≤ n ∧ n < 8 then wordsL.getD n.toNat ByteArray.empty else ⟨#[]⟩
set_option maxHeartbeats 800000 in
set_option maxRecDepth 100000 in
theorem word_calls (n : Int) (w : World) (hG : TabOk w) :
    Calls Tryd.prog 12 #[.int .i64 n] w fun e w' => e = .returned (.string (wordF n)) ∧ w' = w := by
  have HG := Aside0.mk hG
  clear hG
  by_cases hn : n < 0
  · have HF := Aside0.mk (show wordF n = ⟨#[]⟩ from if_neg (by omega))
    go_enter Tryd.func12, Tryd.ntmps12
    go_wp2
    go_ret
    exact ⟨by rw [HF.out]; first | rfl | (rw [List.getD_eq_getElem?_getD]; rfl), rfl⟩
  · by_cases h8 : n < 8
    · have HF := Aside0.mk (show wordF n = wordsL.getD n.toNat ByteArray.empty from if_pos (by omega))
      have hc := HG.out.at_ n.toNat (by omega)
      go_enter Tryd.func12, Tryd.ntmps12
      go_wp2
      go_ret
      exact ⟨by rw [HF.out]; first | rfl | (rw [List.getD_eq_getElem?_getD]; rfl), rfl⟩
    · have HF := Aside0.mk (show wordF n = ⟨#[]⟩ from if_neg (by omega))
      go_enter Tryd.func12, Tryd.ntmps12
      go_wp2
      go_ret
      exact ⟨by rw [HF.out]; first | rfl | (rw [List.getD_eq_getElem?_getD]; rfl), rfl⟩

set_option maxHeartbeats 800000 in
set_option maxRecDepth 100000 in
theorem find_calls (s : ByteArray) (w : World) (hG : TabOk w) :
    Calls Tryd.prog 11 #[.string s] w fun e w' => e = .returned (.tuple #[.int .i64 (max (Lib.idxOfS wordsL s) 0), .bool (decide (0 ≤ Lib.idxOfS wordsL s))]) ∧ w' = w := by
  have H := Aside0.mk (Tryd.slices_Index_string 0 0 8 8 wordsL s w (by decide) (by decide) (fun j hj => by
    have := hG.at_ j hj
    simpa using this))
  have HE := Aside0.mk (show wordsL.take 8 = wordsL from rfl)
  clear hG
  go_enter Tryd.func11, Tryd.ntmps11
  go_wp2_with fail
  refine H.out.mono ?_
  rintro e w1 ⟨rfl, rfl⟩
  rw [HE.out]
  obtain ⟨i, hi0⟩ : ∃ i, Lib.idxOfS wordsL s = i := ⟨_, rfl⟩
  have HI := Aside0.mk hi0
  rw [hi0]
  clear hi0
  by_cases hi : 0 ≤ i
  · go_wp2
    go_ret2
    exact ⟨by rw [HI.out]; first | rfl | simp [hi] | (simp; omega), rfl⟩
  · go_wp2
    go_ret2
    exact ⟨by rw [HI.out]; first | rfl | simp [hi] | (simp; omega), rfl⟩

def valve_Word.f (a0 : Int) : Option ByteArray := some (wordF a0)
theorem valve_Word.calls (a0 : Int) (r : ByteArray) (w : World) (hG : TabOk w) (h : valve_Word.f a0 = some r) :
    Calls Tryd.prog 12 #[.int .i64 a0] w fun e w' => e = .returned (.string r) ∧ Below w.heap.size w w' := by
  unfold valve_Word.f at h
  injection h with h
  subst h
  exact (word_calls a0 w hG).mono fun e w' ⟨h1, h2⟩ => ⟨h1, h2 ▸ Below.refl _ _⟩
def valve_Find.f (a0 : ByteArray) : Option (Int × Bool) := some (max (Lib.idxOfS wordsL a0) 0, decide (0 ≤ Lib.idxOfS wordsL a0))
theorem valve_Find.calls (a0 : ByteArray) (r1 : Int) (r2 : Bool) (w : World) (hG : TabOk w) (h : valve_Find.f a0 = some (r1, r2)) :
    Calls Tryd.prog 11 #[.string a0] w fun e w' => e = .returned (.tuple #[.int .i64 r1, .bool r2]) ∧ Below w.heap.size w w' := by
  unfold valve_Find.f at h
  injection h with h
  injection h with h1 h2
  subst h1 h2
  exact (find_calls a0 w hG).mono fun e w' ⟨h1, h2⟩ => ⟨h1, h2 ▸ Below.refl _ _⟩
def catchpitlaw19_wakes.f : Option Bool := some true
theorem catchpitlaw19_wakes.calls (r : Bool) (w : World) (_hG : TabOk w) (h : catchpitlaw19_wakes.f = some r) :
    Calls Tryd.prog 10 #[] w fun e w' => e = .returned (.bool r) ∧ Below w.heap.size w w' := by
  injection h with h
  subst h
  exact wakes_calls w
end Go.Proofs.YtmdnomeelkmaoaaDoorV
