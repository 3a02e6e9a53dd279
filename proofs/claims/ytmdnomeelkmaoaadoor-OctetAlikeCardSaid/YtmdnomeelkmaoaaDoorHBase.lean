import Derived.Test.YtmdnomeelkmaoaaDoorWMore
import Derived.Test.YtmdnomeelkmaoaaDoorProg
import Derived.Test.YtmdnomeelkmaoaaDoorWSized
import Derived.Below
import Derived.Outline
namespace Go.Proofs.YtmdnomeelkmaoaaDoorH
open Go.RowKit Go.Proofs.YtmdnomeelkmaoaaDoorW.PrintWords Go.Proofs.YtmdnomeelkmaoaaDoorW.PrintLast Go.Proofs.YtmdnomeelkmaoaaDoorW.PrintMore

/-- The table of the bounds of letters and digits lies where the program's text lays it. -/
structure TabOk (w : World) : Prop where
  c0 : w.cell? ⟨1, 0, none⟩ = some (.int .u8 48)
  c1 : w.cell? ⟨1, 1, none⟩ = some (.int .u8 57)
  c2 : w.cell? ⟨1, 2, none⟩ = some (.int .u8 65)
  c3 : w.cell? ⟨1, 3, none⟩ = some (.int .u8 90)
  c4 : w.cell? ⟨1, 4, none⟩ = some (.int .u8 97)
  c5 : w.cell? ⟨1, 5, none⟩ = some (.int .u8 122)

theorem TabOk.below {w w1 : World} (h : TabOk w) (hb : Below w.heap.size w w1) : TabOk w1 :=
  ⟨pw_cell_below hb h.c0, pw_cell_below hb h.c1, pw_cell_below hb h.c2, pw_cell_below hb h.c3, pw_cell_below hb h.c4, pw_cell_below hb h.c5⟩
theorem TabOk.drawn {w w1 : World} (h : TabOk w) (hb : Drawn0 w w1) : TabOk w1 := h.below hb.below
theorem TabOk.drewN {w : World} (h : TabOk w) (n : Nat) : TabOk (w.drewN n) := h.drawn ⟨⟨n, rfl⟩⟩
theorem TabOk.lt {w : World} (h : TabOk w) : 1 < w.heap.size := World.block_lt_of_cell? w _ h.c0
end Go.Proofs.YtmdnomeelkmaoaaDoorH
