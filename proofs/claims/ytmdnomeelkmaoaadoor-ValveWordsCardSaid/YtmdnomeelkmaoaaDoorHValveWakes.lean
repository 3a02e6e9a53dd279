import Derived.Test.YtmdnomeelkmaoaaDoorHValve
import Derived.Deep.QuietTactic
import Derived.BigQuiet
namespace Go.Proofs.YtmdnomeelkmaoaaDoorV
open Go.RowKit Go.Proofs.YtmdnomeelkmaoaaDoorW.PrintWords Go.Proofs.YtmdnomeelkmaoaaDoorW.PrintLast Go.Proofs.YtmdnomeelkmaoaaDoorW.PrintMore

theorem setTr_one (n x : Int) (h : 1 ≤ x ∧ x ≤ 7) (hn : 0 ≤ n ∧ n ≤ 1000) : setTr n x = n + 1 := by
  unfold setTr
  rw [if_pos h]
  unfold wrap64
  omega
theorem setAt_none (a x : Int) (h : a ≠ 0) : setAt a x = a := by
  unfold setAt
  rw [if_neg (by omega)]
theorem setAt_some (x : Int) (h : 1 ≤ x ∧ x ≤ 7) : setAt 0 x = x := by
  unfold setAt
  rw [if_pos (by omega)]

set_option maxHeartbeats 1600000 in
set_option maxRecDepth 100000 in
theorem wakes_calls (w : World) :
    Calls Tryd.prog 10 #[] w fun e w' => e = .returned (.bool true) ∧ Below w.heap.size w w' := by
  have HN := Aside0.mk (new_calls w)
  go_enter Tryd.func10, Tryd.ntmps10
  go_wp2_with fail
  refine HN.out.mono ?_
  rintro e w1 ⟨rfl, h1, b1⟩
  have V1 := Aside0.mk (show Val w1 (w.heap.size + 1) w.heap.size 0 0 from h1)
  have B1 := Aside0.mk b1
  clear h1 b1
  go_wp2_with fail
  refine (set_calls (w.heap.size + 1) w.heap.size 0 0 5 w w1 (by decide) V1.out B1.out (by omega) (by omega)).mono ?_
  rintro e w2 ⟨rfl, v2, b2⟩
  have V2 := Aside0.mk (show Val w2 (w.heap.size + 1) w.heap.size 5 1 by rw [setAt_some 5 (by omega), setTr_one 0 5 (by omega) (by omega)] at v2; exact v2)
  have B2 := Aside0.mk b2
  clear v2 b2
  have e2 : setFirst 0 5 = true := by decide
  rw [e2]
  clear e2
  go_wp2_with fail
  refine (set_calls (w.heap.size + 1) w.heap.size 5 1 1 w w2 (by decide) V2.out B2.out (by omega) (by omega)).mono ?_
  rintro e w3 ⟨rfl, v3, b3⟩
  have V3 := Aside0.mk (show Val w3 (w.heap.size + 1) w.heap.size 5 2 by rw [setAt_none 5 1 (by omega), setTr_one 1 1 (by omega) (by omega)] at v3; exact v3)
  have B3 := Aside0.mk b3
  clear v3 b3
  have e3 : setFirst 5 1 = false := by decide
  rw [e3]
  clear e3
  go_wp2_with fail
  refine (get_calls (w.heap.size + 1) w.heap.size 5 2 w3 V3.out (by omega) (by omega)).mono ?_
  rintro e w4 ⟨rfl, rfl⟩
  go_wp2
  go_ret
  exact ⟨rfl, B3.out⟩
end Go.Proofs.YtmdnomeelkmaoaaDoorV
