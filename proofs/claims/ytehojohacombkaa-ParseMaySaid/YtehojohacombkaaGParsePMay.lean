-- Laid by this session's own program gprint.py (wip/tools), out of the kit's print and of texts of this session. Lean checks it.
import Derived.Test.YtehojohacombkaaGx0
import Derived.Test.YtehojohacombkaaPy3
namespace Go.Proofs.Ytehojohacombkaa.G
open Go.RowKit Go.Proofs.YtehojohacombkaaW.PrintWords Go.Proofs.YtehojohacombkaaW.PrintLast Go.Proofs.YtehojohacombkaaW.PrintMore
set_option linter.unusedVariables false
set_option linter.unusedSimpArgs false

/-! ### parse_May: function 21 -/
def parse_May.ok (l : List (S34)) : Bool := l.all fun x => (Lit.int .i64 x.f0).wf && (x.f4.all (fun k => (Lit.int .i64 k).wf) && decide (x.f4.length < 4611686018427387904))
def parse_May.f (a0_0 : Int) (a0_1 : Int) (l0_2 : List (S34)) (a1 : Int) : Option Bool := if parse_May.ok l0_2 = true then some (Go.Proofs.Ytehojohacombkaa.Ps.mayT a0_0 a0_1 a1 l0_2) else none
theorem parse_May.calls (a0_0 : Int) (a0_1 : Int) (A0_2 : Option Addr) (c0_2 : Nat) (l0_2 : List (S34)) (a1 : Int) (r : Bool) (w : World) (hr0_2 : Kd.C k34 w A0_2 l0_2.length l0_2) (hc0_2 : l0_2.length ≤ c0_2) (h : parse_May.f a0_0 a0_1 l0_2 a1 = some r) :
 Calls Try.prog 21 #[.agg #[.int .i64 a0_0, .int .i64 a0_1, .slice A0_2 l0_2.length c0_2], .int .i64 a1] w fun e w' => e = .returned (.bool r) ∧ Below w.heap.size w w' := by
 unfold parse_May.f at h
 by_cases c : parse_May.ok l0_2 = true
 · rw [if_pos c] at h
   simp only [Option.some.injEq] at h
   subst h
   have c2 : ∀ x ∈ l0_2, (Lit.int .i64 x.f0).wf = true ∧ (∀ k ∈ x.f4, (Lit.int .i64 k).wf = true) ∧ x.f4.length < 4611686018427387904 := by
    intro x hx
    have h1 := List.all_eq_true.1 c x hx
    rw [Bool.and_eq_true, Bool.and_eq_true] at h1
    exact ⟨h1.1, fun k hk => List.all_eq_true.1 h1.2.1 k hk, of_decide_eq_true h1.2.2⟩
   exact Ps.may_any a0_0 a0_1 a1 A0_2 c0_2 l0_2 w hr0_2 (fun x hx => (c2 x hx).1) (fun x hx => (c2 x hx).2.1) (fun x hx => (c2 x hx).2.2)
 · rw [if_neg c] at h
   cases h


end Go.Proofs.Ytehojohacombkaa.G
