/- The plain law Composes: no program in sight but the printed function. -/
import Derived.Test.YtldaokclpkcmmaaK3
import Derived.Test.YtldaokclpkcmmaaK4
import Derived.Test.YtldaokclpkcmmaaLk2
import Derived.Test.YtldaokclpkcmmaaGMinuetlaw4PComposes
namespace Go.Proofs.Ytldaokclpkcmmaa.Pl
open Go.RowKit Go.Proofs.Ytldaokclpkcmmaa.G Go.Proofs.YtldaokclpkcmmaaW.PrintWords Go.Proofs.YtldaokclpkcmmaaW.PrintLast Go.Proofs.YtldaokclpkcmmaaW.PrintMore
set_option linter.unusedVariables false
set_option linter.unusedSimpArgs false
theorem cp_len (a b : List Cm) : (cpM a b).1.length < 4611686018427387904 := by
  by_cases h : mayB a = true ∧ mayB b = true ∧ tos a = froms b ∧ mayB (norm (emit a b)) = true
  · rw [cpM_ok h.1 h.2.1 h.2.2.1 h.2.2.2]
    obtain ⟨p1, _, _⟩ := may_bounds h.2.2.2
    show (norm (emit a b)).length < _
    omega
  · rw [cpM_err h]; simp
theorem Composes_pure {ok : Cm → Prop} (a b : List Cm) (_h : ∀ c ∈ a, ok c) (hl : a.length * 32 ≤ 140737488351232) (_h2 : ∀ c ∈ b, ok c) (hl2 : b.length * 32 ≤ 140737488351232) : ∃ k, minuetlaw4_Composes.f k a b = some true := by
  refine Ev.rounds (Ev.congr (fun k => by rw [minuetlaw4_Composes.f]) ?_)
  simp only [Lend_eq a hl, Lend_eq b hl2, Option.bind_some]
  refine Ev.bind (Compose_ev a b) ?_
  refine Ev.bind (rCompose_ev a b) ?_
  have hi := cp_len a b
  refine Ev.bind (Same_refl _ hi) ?_
  simp only [if_true, num_eq, Option.bind_some, bne_self_eq_false]
  refine Ev.step (fun k => by rw [minuetlaw4_Composes.j0]) ?_
  simp only [Bool.false_eq_true, if_false]
  obtain ⟨ys, hy⟩ := Spoil_ev _ hi
  refine Ev.bind hy ?_
  refine Ev.bind (Kept_ev a hl) ?_
  simp only [if_true]
  refine Ev.bind (Kept_ev b hl2) ?_
  simp only [if_true]
  refine Ev.bind awake4 ?_
  exact Ev.now _
end Go.Proofs.Ytldaokclpkcmmaa.Pl
