import Derived.Test.YtmdnomeelkmaoaaDoorWMore
import Derived.Test.YtmdnomeelkmaoaaDoorProg
import Derived.Test.YtmdnomeelkmaoaaDoorWSized
import Derived.Below
import Derived.Outline
namespace Go.Proofs.YtmdnomeelkmaoaaDoorV
open Go.RowKit Go.Proofs.YtmdnomeelkmaoaaDoorW.PrintWords Go.Proofs.YtmdnomeelkmaoaaDoorW.PrintLast Go.Proofs.YtmdnomeelkmaoaaDoorW.PrintMore

/-- The outcomes' words, as bytes. -/
def wordsL : List ByteArray := [⟨#[114, 117, 110, 110, 105, 110, 103]⟩, ⟨#[99, 111, 109, 112, 108, 101, 116, 101]⟩, ⟨#[98, 97, 100, 45, 102, 114, 97, 109, 105, 110, 103]⟩, ⟨#[108, 105, 109, 105, 116, 45, 101, 120, 99, 101, 101, 100, 101, 100]⟩, ⟨#[117, 112, 115, 116, 114, 101, 97, 109, 45, 116, 114, 117, 110, 99, 97, 116, 101, 100]⟩, ⟨#[116, 105, 109, 101, 111, 117, 116]⟩, ⟨#[100, 111, 119, 110, 115, 116, 114, 101, 97, 109, 45, 103, 111, 110, 101]⟩, ⟨#[101, 120, 112, 101, 99, 116, 45, 114, 101, 106, 101, 99, 116, 101, 100]⟩]
/-- The table of the words lies where the program's text lays it. -/
structure TabOk (w : World) : Prop where
  at_ : ∀ j : Nat, j < 8 → w.cell? ⟨0, j, none⟩ = some (.string (wordsL.getD j ByteArray.empty))

theorem TabOk.below {w w1 : World} (h : TabOk w) (hb : Below w.heap.size w w1) : TabOk w1 := ⟨fun j hj => pw_cell_below hb (h.at_ j hj)⟩
theorem TabOk.drawn {w w1 : World} (h : TabOk w) (hb : Drawn0 w w1) : TabOk w1 := h.below hb.below
theorem TabOk.drewN {w : World} (h : TabOk w) (n : Nat) : TabOk (w.drewN n) := h.drawn ⟨⟨n, rfl⟩⟩
theorem TabOk.lt {w : World} (h : TabOk w) : 0 < w.heap.size := World.block_lt_of_cell? w _ (h.at_ 0 (by omega))
end Go.Proofs.YtmdnomeelkmaoaaDoorV
