/- The plain law Applies: no program in sight but the printed function. -/
import Derived.Test.YtbkkcoppncgegaaA1
import Derived.Test.YtbkkcoppncgegaaLk
import Derived.Test.YtbkkcoppncgegaaGMinuetlaw3PApplies
namespace Go.Proofs.Ytbkkcoppncgegaa.Pl
open Go.RowKit Go.Proofs.Ytbkkcoppncgegaa.G Go.Proofs.YtbkkcoppncgegaaW.PrintWords Go.Proofs.YtbkkcoppncgegaaW.PrintLast Go.Proofs.YtbkkcoppncgegaaW.PrintMore
set_option linter.unusedVariables false
set_option linter.unusedSimpArgs false
theorem Applies_pure {ok : Cm → Prop} (s : ByteArray) (cs : List Cm) (_hs : s.size ≤ 140737488351232) (_h : ∀ c ∈ cs, ok c) (hl : cs.length * 32 ≤ 140737488351232) : ∃ k, minuetlaw3_Applies.f k s cs = some true := by
  refine Ev.rounds (Ev.congr (fun k => by rw [minuetlaw3_Applies.f]) ?_)
  simp only [Lend_eq cs hl, Option.bind_some]
  refine Ev.bind (Apply_ev s cs) ?_
  refine Ev.bind (rApply_ev s cs) ?_
  simp only [num_eq, Option.bind_some, if_true]
  refine Ev.bind (Kept_ev cs hl) ?_
  simp only [if_true]
  refine Ev.bind awake3 ?_
  exact Ev.now _
end Go.Proofs.Ytbkkcoppncgegaa.Pl
