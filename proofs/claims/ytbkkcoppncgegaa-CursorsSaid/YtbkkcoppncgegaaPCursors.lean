/- The plain law Cursors: no program in sight but the printed function. -/
import Derived.Test.YtbkkcoppncgegaaC1
import Derived.Test.YtbkkcoppncgegaaLk
import Derived.Test.YtbkkcoppncgegaaGMinuetlaw6PCursors
namespace Go.Proofs.Ytbkkcoppncgegaa.Pl
open Go.RowKit Go.Proofs.Ytbkkcoppncgegaa.G Go.Proofs.YtbkkcoppncgegaaW.PrintWords Go.Proofs.YtbkkcoppncgegaaW.PrintLast Go.Proofs.YtbkkcoppncgegaaW.PrintMore
set_option linter.unusedVariables false
set_option linter.unusedSimpArgs false
theorem Cursors_pure {ok : Cm → Prop} (cs : List Cm) (at_ : Int) (behind : Bool) (_h : ∀ c ∈ cs, ok c) (hl : cs.length * 32 ≤ 140737488351232) (_ha : (Lit.int .i64 at_).wf = true) : ∃ k, minuetlaw6_Cursors.f k cs at_ behind = some true := by
  refine Ev.rounds (Ev.congr (fun k => by rw [minuetlaw6_Cursors.f]) ?_)
  simp only [Lend_eq cs hl, Option.bind_some]
  refine Ev.bind (Move_ev cs at_ behind) ?_
  refine Ev.bind (rMove_ev cs at_ behind) ?_
  simp only [num_eq, Option.bind_some, if_true]
  refine Ev.bind (Kept_ev cs hl) ?_
  simp only [if_true]
  refine Ev.bind awake6 ?_
  exact Ev.now _
end Go.Proofs.Ytbkkcoppncgegaa.Pl
