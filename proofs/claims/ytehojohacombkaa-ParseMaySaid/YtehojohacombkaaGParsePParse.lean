-- Laid by this session's own program gprint.py (wip/tools), out of the kit's print and of texts of this session. Lean checks it.
import Derived.Test.YtehojohacombkaaGx0
import Derived.Test.YtehojohacombkaaGLexPTokens
import Derived.Test.YtehojohacombkaaPp8
namespace Go.Proofs.Ytehojohacombkaa.G
open Go.RowKit Go.Proofs.YtehojohacombkaaW.PrintWords Go.Proofs.YtehojohacombkaaW.PrintLast Go.Proofs.YtehojohacombkaaW.PrintMore
set_option linter.unusedVariables false
set_option linter.unusedSimpArgs false

/-! ### parse_Parse: function 14 -/
def parse_Parse.f (a0 : ByteArray) : Option (Int × Int × (List (S34)) × Int) := if (a0.size : Int) > 300 then some (0, 0, [], 1100) else some (0, ((Go.Proofs.Ytehojohacombkaa.Ps.nodesN (byt a0)).length : Int), Go.Proofs.Ytehojohacombkaa.Ps.nodesN (byt a0), 0)
theorem parse_Parse.calls (a0 : ByteArray) (r1 : Int) (r2 : Int) (r3 : List (S34)) (r4 : Int) (w : World) (hm : MaxOk w) (h : parse_Parse.f a0 = some (r1, r2, r3, r4)) :
 Calls Try.prog 14 #[.string a0] w fun e w' => ∃ v2_ : Value, e = .returned (.tuple #[.agg #[.int .i64 r1, .int .i64 r2, v2_], .int .i64 r4]) ∧ Kd.S k34 34 w' w.heap.size (fun _ => True) v2_ r3 ∧ Below w.heap.size w w' := by
 unfold parse_Parse.f at h
 by_cases c : (a0.size : Int) > 300
 · rw [if_pos c] at h
   simp only [Option.some.injEq, Prod.mk.injEq] at h
   obtain ⟨rfl, rfl, rfl, rfl⟩ := h
   exact (Ps.long_any a0 (by omega) w hm).mono fun e w' ⟨he, hb⟩ => ⟨.slice none 0 0, he, Kd.S_nil _ _ _ _ _, hb⟩
 · rw [if_neg c] at h
   simp only [Option.some.injEq, Prod.mk.injEq] at h
   obtain ⟨rfl, rfl, rfl, rfl⟩ := h
   exact Ps.parse_any a0 (by omega) w hm


end Go.Proofs.Ytehojohacombkaa.G
