-- Laid by this session's own program gprint.py (wip/tools), out of the kit's print and of texts of this session. Lean checks it.
import Derived.Test.YtehojohacombkaaGx0
import Derived.Test.YtehojohacombkaaGLexPTokens
import Derived.Test.YtehojohacombkaaGd5
namespace Go.Proofs.Ytehojohacombkaa.G
open Go.RowKit Go.Proofs.YtehojohacombkaaW.PrintWords Go.Proofs.YtehojohacombkaaW.PrintLast Go.Proofs.YtehojohacombkaaW.PrintMore
set_option linter.unusedVariables false
set_option linter.unusedSimpArgs false

/-! ### good_Good: function 13 -/
def good_Good.f (a0 : ByteArray) : Option (Bool × Int) := if (a0.size : Int) > 300 then some (false, 1200) else some (Go.Proofs.Ytehojohacombkaa.Gd.good (byt a0), 0)
theorem good_Good.calls (a0 : ByteArray) (r1 : Bool) (r2 : Int) (w : World) (hm : MaxOk w) (h : good_Good.f a0 = some (r1, r2)) :
 Calls Try.prog 13 #[.string a0] w fun e w' => e = .returned (.tuple #[.bool r1, .int .i64 r2]) ∧ Below w.heap.size w w' := by
 unfold good_Good.f at h
 by_cases c : (a0.size : Int) > 300
 · rw [if_pos c] at h
   simp only [Option.some.injEq, Prod.mk.injEq] at h
   obtain ⟨rfl, rfl⟩ := h
   exact Gd.long_any a0 (by omega) w hm
 · rw [if_neg c] at h
   simp only [Option.some.injEq, Prod.mk.injEq] at h
   obtain ⟨rfl, rfl⟩ := h
   exact Gd.good_any a0 (by omega) w hm


end Go.Proofs.Ytehojohacombkaa.G
