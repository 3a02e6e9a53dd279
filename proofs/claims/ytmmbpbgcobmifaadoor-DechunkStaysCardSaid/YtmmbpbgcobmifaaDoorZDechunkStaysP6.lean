import Derived.Test.YtmmbpbgcobmifaaDoorZDechunkStaysP5
import Derived.OpenShut
namespace Go.Proofs.YtmmbpbgcobmifaaDoorW.PrintWords
end Go.Proofs.YtmmbpbgcobmifaaDoorW.PrintWords
section
namespace Go.Proofs.YtmmbpbgcobmifaaDoorH
set_option linter.unusedVariables false
set_option linter.unusedSimpArgs false
open Go.RowKit Go.ChangeShapes Go.WideShapes Go.ChangeAt Go.Proofs.YtmmbpbgcobmifaaDoorW.PrintWords
theorem Opens.struct3 {P : Program} {α0 α1 α2 : Type} {d0 : Kd α0} {d1 : Kd α1} {d2 : Kd α2} {t : TypeId} {f0 f1 f2 : Field} {G0 : α0 → Prop} {G1 : α1 → Prop} {G2 : α2 → Prop}
    (h0 : Opens P d0 f0.type G0) (h1 : Opens P d1 f1.type G1) (h2 : Opens P d2 f2.type G2) (hu : P.underlying t = some (.struct #[f0, f1, f2]))
    (o0 : f0.offset = 0) (o1 : f1.offset = d0.sz) (o2 : f2.offset = d0.sz + d1.sz) (hc : P.cellsOf t = d0.sz + (d1.sz + d2.sz)) :
    Opens P (Kd.pair d0 (Kd.pair d1 d2)) t (fun x => G0 x.1 ∧ G1 x.2.1 ∧ G2 x.2.2) := by
  refine ⟨hc, fun {H enc W fuel cs x} hx hl => ?_⟩
  obtain ⟨xs, n, _, rfl, hn, hlen, hf⟩ := DataW.trod_struct hu hx
  match xs, hlen with
  | [y0, y1, y2], _ =>
    have e0 := hf 0 f0 rfl
    have e1 := hf 1 f1 rfl
    have e2 := hf 2 f2 rfl
    have hw : ∀ x, x ∈ DataW.weights P t (.agg [y0.1, y1.1, y2.1]) → x ≤ reachBytes := hl
    rw [weights_agg hu] at hw
    obtain ⟨x0, k0, g0⟩ := h0.open_ e0 (fun x hx => hw x (DataW.weights_mem_each (j := 0) rfl rfl x hx))
    obtain ⟨x1, k1, g1⟩ := h1.open_ e1 (fun x hx => hw x (DataW.weights_mem_each (j := 1) rfl rfl x hx))
    obtain ⟨x2, k2, g2⟩ := h2.open_ e2 (fun x hx => hw x (DataW.weights_mem_each (j := 2) rfl rfl x hx))
    refine ⟨(x0, x1, x2), ⟨_, _, ?_, k0, _, _, rfl, k1, k2⟩, g0, g1, g2⟩
    rw [o0, o1, o2, h0.cells, h1.cells, h2.cells]
    rw [hc] at hn
    have hz : (cs.drop (d0.sz + d1.sz)).take d2.sz = cs.drop (d0.sz + d1.sz) := List.take_of_length_le (by rw [List.length_drop]; omega)
    have hdt : ∀ (a n : Nat), cs.drop a = (cs.drop a).take n ++ cs.drop (a + n) := fun a n => by rw [← List.drop_drop, List.take_append_drop]
    rw [hz, ← hdt, List.drop_zero, List.take_append_drop]
set_option maxRecDepth 100000 in
theorem lim_open {H : Type} {enc : TypeId × Value → H} {W : World} {fuel : Nat} {cs : Array Value} {x : DataW H × List MemPlace}
    (hx : DataW.trod enc Tryd.prog W 0 (fun _ => true) true fuel 23 cs.toList = some x) (hl : Light Tryd.prog 23 x.1) :
    ∃ a b c : Int, cs = #[.int .i64 a, .int .i64 b, .int .i64 c] ∧ (Lit.int .i64 a).wf = true ∧ (Lit.int .i64 b).wf = true ∧ (Lit.int .i64 c).wf = true := by
  have oi := Opens.int Tryd.underlying3 (by kernel_rfl)
  obtain ⟨⟨a, b, c⟩, hK, h1, h2, h3⟩ := (Opens.struct3 oi oi oi Tryd.underlying23 rfl rfl rfl (by kernel_rfl)).open_ hx hl
  obtain ⟨_, _, e, rfl, _, _, rfl, rfl, rfl⟩ := hK
  exact ⟨a, b, c, Array.toList_inj.1 e, h1, h2, h3⟩
end Go.Proofs.YtmmbpbgcobmifaaDoorH
end
