/- The plain law CursorEnds: no program in sight but the printed function. -/
import Derived.Test.YtbkkcoppncgegaaC1
import Derived.Test.YtbkkcoppncgegaaGMinuetlaw6PCursorEnds
namespace Go.Proofs.Ytbkkcoppncgegaa.Pl
open Go.RowKit Go.Proofs.Ytbkkcoppncgegaa.G Go.Proofs.YtbkkcoppncgegaaW.PrintWords Go.Proofs.YtbkkcoppncgegaaW.PrintLast Go.Proofs.YtbkkcoppncgegaaW.PrintMore
set_option linter.unusedVariables false
set_option linter.unusedSimpArgs false

theorem CursorEnds_pure {ok : Cm → Prop} (cs : List Cm) (_h : ∀ a ∈ cs, ok a) (_h2 : cs.length * 32 ≤ 140737488351232) : ∃ k, minuetlaw6_CursorEnds.f k cs = some true := by
  refine Ev.rounds (Ev.congr (fun k => by rw [minuetlaw6_CursorEnds.f]) (Ev.bind awake6 ?_))
  simp only [if_true]
  refine Ev.bind (rLengths_ev cs) ?_
  by_cases h : mayB cs = true
  · have hf := froms_le (may_bounds h).2.1
    simp only [lens_ok cs h, if_true]
    refine Ev.bind (Move_ev cs 0 false) ?_
    refine Ev.bind (Move_ev cs (froms cs) true) ?_
    simp only [move_ok false h (Int.le_refl 0) hf.1, move_ok true h hf.1 (Int.le_refl _), mv_start, mv_end (may_solid h), num_eq, Option.bind_some, if_true, beq_self_eq_true]
    exact Ev.now _
  · simp only [lens_err cs h, show ¬ ((200 : Int) = 0) by omega, if_false]
    exact Ev.now _
end Go.Proofs.Ytbkkcoppncgegaa.Pl
