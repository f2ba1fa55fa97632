/- The plain law CompsAll: no program in sight but the printed function. -/
import Derived.Test.YtbkkcoppncgegaaD2
import Derived.Test.YtbkkcoppncgegaaLk2
import Derived.Test.YtbkkcoppncgegaaGMinuetlaw2PCompsAll
namespace Go.Proofs.Ytbkkcoppncgegaa.Pl
open Go.RowKit Go.Proofs.Ytbkkcoppncgegaa.G Go.Proofs.YtbkkcoppncgegaaW.PrintWords Go.Proofs.YtbkkcoppncgegaaW.PrintLast Go.Proofs.YtbkkcoppncgegaaW.PrintMore
set_option linter.unusedVariables false
set_option linter.unusedSimpArgs false
theorem normal_small (cs : List Cm) (hl : cs.length < 4398046511104) : (normal cs).1.length < 4611686018427387904 := by
  unfold normal
  split
  · have := fold_len cs []
    simp only [List.length_nil] at this
    show (norm cs).length < _
    unfold norm; omega
  · simp
theorem CompsAll_pure {ok : Cm → Prop} (cs : List Cm) (_h : ∀ c ∈ cs, ok c) (hl : cs.length * 32 ≤ 140737488351232) : ∃ k, minuetlaw2_CompsAll.f k cs = some true := by
  refine Ev.rounds (Ev.congr (fun k => by rw [minuetlaw2_CompsAll.f]) ?_)
  simp only [Lend_eq cs hl, Option.bind_some]
  refine Ev.bind (Normal_ev cs) ?_
  refine Ev.bind (rNormal_ev cs) ?_
  refine Ev.bind (Lengths_ev cs) ?_
  refine Ev.bind (rLengths_ev cs) ?_
  have hi := normal_small cs (by omega)
  refine Ev.bind (Same_refl _ hi) ?_
  simp only [if_true, num_eq, Option.bind_some]
  refine Ev.bind (May_ev cs) ?_
  refine Ev.bind (rCompsMay_ev cs) ?_
  simp only [bne_self_eq_false, Bool.false_eq_true, if_false]
  refine Ev.bind (Kept_ev cs hl) ?_
  refine Ev.step (fun k => by rw [minuetlaw2_CompsAll.j0]) ?_
  simp only [Bool.not_true, Bool.false_eq_true, if_false]
  obtain ⟨ys, hy⟩ := Spoil_ev _ hi
  refine Ev.bind hy ?_
  refine Ev.bind (Kept_ev cs hl) ?_
  simp only [if_true]
  refine Ev.bind awake2 ?_
  exact Ev.now _
end Go.Proofs.Ytbkkcoppncgegaa.Pl
