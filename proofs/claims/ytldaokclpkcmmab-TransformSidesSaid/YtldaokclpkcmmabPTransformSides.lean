/- The plain law TransformSides: no program in sight but the printed function. -/
import Derived.Test.YtldaokclpkcmmabT4
import Derived.Test.YtldaokclpkcmmabGMinuetlaw5PTransformSides
namespace Go.Proofs.Ytldaokclpkcmmab.Pl
open Go.RowKit Go.Proofs.Ytldaokclpkcmmab.G Go.Proofs.YtldaokclpkcmmabW.PrintWords Go.Proofs.YtldaokclpkcmmabW.PrintLast Go.Proofs.YtldaokclpkcmmabW.PrintMore
set_option linter.unusedVariables false
set_option linter.unusedSimpArgs false
theorem TransformSides_pure {ok : Cm → Prop} (a b : List Cm) (f : Bool) (_h : ∀ c ∈ a, ok c) (_hl : a.length * 32 ≤ 140737488351232) (_h2 : ∀ c ∈ b, ok c) (_hl2 : b.length * 32 ≤ 140737488351232) : ∃ k, minuetlaw5_TransformSides.f k a b f = some true := by
  refine Ev.rounds (Ev.congr (fun k => by rw [minuetlaw5_TransformSides.f]) (Ev.bind awake5 ?_))
  simp only [if_true]
  refine Ev.bind (Transform_ev a b f) ?_
  refine Ev.bind (Transform_ev b a (!f)) ?_
  rw [trM_swap]
  simp only [num_eq, Option.bind_some, if_true]
  rcases trM_cases f a b with ⟨p, q, e, _, _, _, _, _, hp, hq⟩ | e
  · obtain ⟨p1, _, _⟩ := may_bounds hp; obtain ⟨q1, _, _⟩ := may_bounds hq
    rw [e]
    refine Ev.bind (Same_refl p (by omega)) ?_
    simp only [if_true]
    exact Ev.bind (Same_refl q (by omega)) (Ev.now _)
  · rw [e]
    refine Ev.bind (Same_refl [] (by simp)) ?_
    simp only [if_true]
    exact Ev.bind (Same_refl [] (by simp)) (Ev.now _)
end Go.Proofs.Ytldaokclpkcmmab.Pl
