import Derived.Test.YtdkecmjoenfjdaaDoorWMore
import Derived.Test.YtdkecmjoenfjdaaDoorProg
import Derived.Test.YtdkecmjoenfjdaaDoorWSized
import Derived.Below
import Derived.Outline
import Derived.Shelf.Vars
namespace Go.Proofs.YtdkecmjoenfjdaaDoorH
open Go.RowKit Go.Proofs.YtdkecmjoenfjdaaDoorW.PrintWords Go.Proofs.YtdkecmjoenfjdaaDoorW.PrintLast Go.Proofs.YtdkecmjoenfjdaaDoorW.PrintMore

/-- The library's own variable internal/bytealg.MaxLen, where the program has it, holds some number. -/
def MxOk (w : World) : Prop := ∃ m : Int, w.cell? ⟨1, 0, none⟩ = some (.int .i64 m)
theorem MxOk.below {w w1 : World} (h : MxOk w) (hb : Below w.heap.size w w1) : MxOk w1 := by
  obtain ⟨m, hm⟩ := h
  exact ⟨m, pw_cell_below hb hm⟩
/-- A world of the form's shape has it. -/
theorem MxOk.of_shaped {w : World} (h : w.ShapedOpen Tryd.prog) : MxOk w := by
  exact Go.Proofs.cell_of_shapedOpen_int (zero := #[.int .i64 0]) (t := 3) h (of_decide_eq_true (by kernel_rfl)) (by kernel_rfl) rfl (by kernel_rfl) (by kernel_rfl) Tryd.underlying3

/-- The table of the bounds of letters and digits lies where the program's text lays it. -/
structure TabOk (w : World) : Prop where
  c0 : w.cell? ⟨0, 0, none⟩ = some (.int .u8 48)
  c1 : w.cell? ⟨0, 1, none⟩ = some (.int .u8 57)
  c2 : w.cell? ⟨0, 2, none⟩ = some (.int .u8 65)
  c3 : w.cell? ⟨0, 3, none⟩ = some (.int .u8 90)
  c4 : w.cell? ⟨0, 4, none⟩ = some (.int .u8 97)
  c5 : w.cell? ⟨0, 5, none⟩ = some (.int .u8 122)
  mx : MxOk w

theorem TabOk.below {w w1 : World} (h : TabOk w) (hb : Below w.heap.size w w1) : TabOk w1 :=
  ⟨pw_cell_below hb h.c0, pw_cell_below hb h.c1, pw_cell_below hb h.c2, pw_cell_below hb h.c3, pw_cell_below hb h.c4, pw_cell_below hb h.c5, h.mx.below hb⟩
theorem TabOk.drawn {w w1 : World} (h : TabOk w) (hb : Drawn0 w w1) : TabOk w1 := h.below hb.below
theorem TabOk.drewN {w : World} (h : TabOk w) (n : Nat) : TabOk (w.drewN n) := h.drawn ⟨⟨n, rfl⟩⟩
theorem TabOk.lt {w : World} (h : TabOk w) : 0 < w.heap.size := World.block_lt_of_cell? w _ h.c0
end Go.Proofs.YtdkecmjoenfjdaaDoorH
