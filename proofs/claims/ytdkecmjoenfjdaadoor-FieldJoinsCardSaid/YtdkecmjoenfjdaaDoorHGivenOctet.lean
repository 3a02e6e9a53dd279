import Derived.Test.YtdkecmjoenfjdaaDoorHSmall
import Derived.Test.YtdkecmjoenfjdaaDoorShelf
import Derived.Shelf.Strings.SlTrimAscii
namespace Go.Proofs.YtdkecmjoenfjdaaDoorH
open Go.RowKit Go.Proofs.YtdkecmjoenfjdaaDoorW.PrintWords Go.Proofs.YtdkecmjoenfjdaaDoorW.PrintLast Go.Proofs.YtdkecmjoenfjdaaDoorW.PrintMore

/-! ### octet.Trim -/
def trimL (l : List UInt8) : List UInt8 := Lib.trimS l [32, 9]
def trimS (s : ByteArray) : ByteArray := ⟨(trimL s.data.toList).toArray⟩

set_option maxHeartbeats 800000 in
set_option maxRecDepth 100000 in
theorem trim_calls (s : ByteArray) (w : World) (hs : s.size ≤ 140737488355328) :
    Calls Tryd.prog 39 #[.string s] w fun e w' => e = .returned (.string (trimS s)) ∧ Below w.heap.size w w' := by
  have H := Aside0.mk (Any.strings_Trim_laid Tryd.lays160 (by kernel_rfl) s ⟨#[32, 9]⟩ w (by omega) (by decide) (ascii_of_all (by decide)))
  go_enter Tryd.func39, Tryd.ntmps39
  go_wp2_with fail
  refine H.out.mono ?_
  rintro e w' ⟨rfl, hb⟩
  have HB := Aside0.mk hb
  clear hb
  go_wp2
  go_ret
  exact ⟨rfl, HB.out⟩

/-! ### in the form in which the printed texts take them -/
def octet_Text.f (a0 : ByteArray) : Option Bool := if a0.size ≤ 140737488355328 then some (allB textI a0) else none
theorem octet_Text.calls (a0 : ByteArray) (r : Bool) (w : World) (hG : TabOk w) (h : octet_Text.f a0 = some r) :
    Calls Tryd.prog 71 #[.string a0] w fun e w' => e = .returned (.bool r) ∧ Below w.heap.size w w' := by
  unfold octet_Text.f at h
  split at h
  · injection h with h; subst h; exact text_calls a0 w (by assumption) hG
  · cases h

def octet_Token.f (a0 : ByteArray) : Option Bool := if a0.size ≤ 140737488355328 then some (tokB a0) else none
theorem octet_Token.calls (a0 : ByteArray) (r : Bool) (w : World) (hG : TabOk w) (h : octet_Token.f a0 = some r) :
    Calls Tryd.prog 43 #[.string a0] w fun e w' => e = .returned (.bool r) ∧ Below w.heap.size w w' := by
  unfold octet_Token.f at h
  split at h
  · injection h with h; subst h; exact token_calls a0 w (by assumption) hG
  · cases h

def octet_Small.f (a0 : ByteArray) : Option ByteArray := if a0.size ≤ 140737488355328 then some (smallS a0) else none
theorem octet_Small.calls (a0 : ByteArray) (r : ByteArray) (w : World) (hG : TabOk w) (h : octet_Small.f a0 = some r) :
    Calls Tryd.prog 72 #[.string a0] w fun e w' => e = .returned (.string r) ∧ Below w.heap.size w w' := by
  unfold octet_Small.f at h
  split at h
  · injection h with h; subst h; exact small_calls a0 w (by assumption) hG
  · cases h

def octet_Trim.f (a0 : ByteArray) : Option ByteArray := if a0.size ≤ 140737488355328 then some (trimS a0) else none
theorem octet_Trim.calls (a0 : ByteArray) (r : ByteArray) (w : World) (_hG : TabOk w) (h : octet_Trim.f a0 = some r) :
    Calls Tryd.prog 39 #[.string a0] w fun e w' => e = .returned (.string r) ∧ Below w.heap.size w w' := by
  unfold octet_Trim.f at h
  split at h
  · injection h with h; subst h; exact trim_calls a0 w (by assumption)
  · cases h
end Go.Proofs.YtdkecmjoenfjdaaDoorH
