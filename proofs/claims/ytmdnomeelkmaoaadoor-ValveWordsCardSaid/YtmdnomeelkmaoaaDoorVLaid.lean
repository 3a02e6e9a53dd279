import Derived.Test.YtmdnomeelkmaoaaDoorVBase
import Derived.Test.YtmdnomeelkmaoaaDoorRows
import Derived.LaidSub
import Derived.MakeChecks
import Derived.ProofKit
import Derived.OpenShut
import Derived.LaidMore
namespace Go.Proofs.YtmdnomeelkmaoaaDoorV
open Go.RowKit Go.ChangeShapes Go.WideShapes Go.ChangeAt

theorem eight_of {α : Type} {l : List α} (h : l.length = 8) : ∃ a b c d e f g i, l = [a, b, c, d, e, f, g, i] := by
  match l, h with
  | [a, b, c, d, e, f, g, i], _ => exact ⟨a, b, c, d, e, f, g, i, rfl⟩

theorem cells_of_word {W : World} {cs : List Value} {y : DataW Unit × List MemPlace} {m : Nat} {s : List UInt8}
    (hd : DataW.trod (fun _ => ()) Tryd.prog W 0 (fun _ => true) false m 9 cs = some y) (hy : y.1 = .lit (.string s)) : cs = [.string ⟨s.toArray⟩] := by
  obtain ⟨x, e1, e2, _⟩ := DataW.trod_string Tryd.underlying9 hd
  rw [e2] at hy
  simp only [DataW.lit.injEq, Lit.string.injEq] at hy
  rw [e1, ← hy]

theorem tabOk_of_laid {W : World} {L : List (String × DataW Unit)} (h : laidMetH Tryd.prog L W) (hp : (L.all fun x => x.2.handleName?.isNone) = true)
    (hf : L.filter (fun x => x.1 == "catchpit/valve.words") = [("catchpit/valve.words", Go.Proofs.YtmdnomeelkmaoaaDoor.Rows.laid_catchpit_valve_words)]) : TabOk W := by
  rw [MakeChecks.laidMetH_plain _ _ _ hp] at h
  have h2 := laidMet.filter (fun x => x.1 == "catchpit/valve.words") h
  rw [hf] at h2
  obtain ⟨ps, ⟨g, t, cs, fuel, p, q, hg, ht, hv, hd, _, _⟩, _, _⟩ := h2
  obtain rfl := Option.some.inj ((show Tryd.prog.globalNamed "catchpit/valve.words" = some 0 by kernel_rfl).symm.trans hg)
  obtain rfl := Option.some.inj ((show (Tryd.prog.globals[0]?).map (·.type) = some 41 by kernel_rfl).symm.trans ht)
  have c1 : Tryd.prog.cellsOf 9 = 1 := by kernel_rfl
  have c8 : Tryd.prog.cellsOf 41 = 8 := by kernel_rfl
  have hc := World.var?_cell hg hv
  obtain ⟨xs, m, _, ex, hn, hl, hel⟩ := DataW.trod_array Tryd.underlying41 hd
  rw [c8] at hn
  have at_ : ∀ j, cs[j]? = cs.toList[j]? := fun j => (Array.getElem?_toList ..).symm
  obtain ⟨a, b, c, d, e, f, g, i, hcs⟩ := eight_of hn
  obtain ⟨a', b', c', d', e', f', g', i', rfl⟩ := eight_of hl
  have hy := congrArg Prod.fst ex
  simp only [Go.Proofs.YtmdnomeelkmaoaaDoor.Rows.laid_catchpit_valve_words, List.map_cons, List.map_nil, DataW.agg.injEq, List.cons.injEq, and_true] at hy
  simp only [c1, hcs] at hel
  have h0 := hel 0 (by simp)
  have h1 := hel 1 (by simp)
  have h2 := hel 2 (by simp)
  have h3 := hel 3 (by simp)
  have h4 := hel 4 (by simp)
  have h5 := hel 5 (by simp)
  have h6 := hel 6 (by simp)
  have h7 := hel 7 (by simp)
  simp at h0 h1 h2 h3 h4 h5 h6 h7
  have e0 := cells_of_word h0 hy.1.symm
  have e1 := cells_of_word h1 hy.2.1.symm
  have e2 := cells_of_word h2 hy.2.2.1.symm
  have e3 := cells_of_word h3 hy.2.2.2.1.symm
  have e4 := cells_of_word h4 hy.2.2.2.2.1.symm
  have e5 := cells_of_word h5 hy.2.2.2.2.2.1.symm
  have e6 := cells_of_word h6 hy.2.2.2.2.2.2.1.symm
  have e7 := cells_of_word h7 hy.2.2.2.2.2.2.2.symm
  simp only [List.cons.injEq, and_true] at e0 e1 e2 e3 e4 e5 e6 e7
  refine ⟨fun j hj => ?_⟩
  rw [hc j, at_ j, hcs]
  subst e0 e1 e2 e3 e4 e5 e6 e7
  match j, hj with
  | 0, _ => rfl
  | 1, _ => rfl
  | 2, _ => rfl
  | 3, _ => rfl
  | 4, _ => rfl
  | 5, _ => rfl
  | 6, _ => rfl
  | 7, _ => rfl
end Go.Proofs.YtmdnomeelkmaoaaDoorV
