-- Laid by this session's own program gprint.py (wip/tools), out of the kit's print and of texts of this session. Lean checks it.
import Derived.Test.YtehojohacombkaaGx0
import Derived.Test.YtehojohacombkaaRt2
namespace Go.Proofs.Ytehojohacombkaa.G
open Go.RowKit Go.Proofs.YtehojohacombkaaW.PrintWords Go.Proofs.YtehojohacombkaaW.PrintLast Go.Proofs.YtehojohacombkaaW.PrintMore
set_option linter.unusedVariables false
set_option linter.unusedSimpArgs false

/-! ### minuetref9_token: function 49 -/
def minuetref9_token.f (a0 : ByteArray) (a1 : Int) : Option (Int × Int × Int) := if a0.size ≤ 300 ∧ 0 ≤ a1 ∧ a1 < (a0.size : Int) then some ((Go.Proofs.Ytehojohacombkaa.Lx.tk ((byt a0).drop a1.toNat)).1, a1, a1 + (((Go.Proofs.Ytehojohacombkaa.Lx.tk ((byt a0).drop a1.toNat)).2 : Nat) : Int)) else none
theorem minuetref9_token.calls (a0 : ByteArray) (a1 : Int) (r1 : Int) (r2 : Int) (r3 : Int) (w : World) (h : minuetref9_token.f a0 a1 = some (r1, r2, r3)) :
 Calls Try.prog 49 #[.string a0, .int .i64 a1] w fun e w' => e = .returned (.agg #[.int .i64 r1, .int .i64 r2, .int .i64 r3]) ∧ Below w.heap.size w w' := by
 unfold minuetref9_token.f at h
 by_cases c : a0.size ≤ 300 ∧ 0 ≤ a1 ∧ a1 < (a0.size : Int)
 · rw [if_pos c] at h
   simp only [Option.some.injEq, Prod.mk.injEq] at h
   obtain ⟨rfl, rfl, rfl⟩ := h
   exact Rt.token_any a0 a1 c.1 c.2.1 c.2.2 w
 · rw [if_neg c] at h; cases h


end Go.Proofs.Ytehojohacombkaa.G
