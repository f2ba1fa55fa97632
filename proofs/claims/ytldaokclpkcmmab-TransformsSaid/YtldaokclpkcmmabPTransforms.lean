/- The plain law Transforms: no program in sight but the printed function. -/
import Derived.Test.YtldaokclpkcmmabT3
import Derived.Test.YtldaokclpkcmmabT4
import Derived.Test.YtldaokclpkcmmabLk2
import Derived.Test.YtldaokclpkcmmabGMinuetlaw5PTransforms
namespace Go.Proofs.Ytldaokclpkcmmab.Pl
open Go.RowKit Go.Proofs.Ytldaokclpkcmmab.G Go.Proofs.YtldaokclpkcmmabW.PrintWords Go.Proofs.YtldaokclpkcmmabW.PrintLast Go.Proofs.YtldaokclpkcmmabW.PrintMore
set_option linter.unusedVariables false
set_option linter.unusedSimpArgs false
theorem tr_lens (f : Bool) (a b : List Cm) : (trM f a b).1.length < 4611686018427387904 ∧ (trM f a b).2.1.length < 4611686018427387904 := by
  rcases trM_cases f a b with ⟨p, q, e, _, _, _, _, _, hp, hq⟩ | e
  · obtain ⟨p1, _, _⟩ := may_bounds hp; obtain ⟨q1, _, _⟩ := may_bounds hq
    rw [e]
    exact ⟨by show p.length < _; omega, by show q.length < _; omega⟩
  · rw [e]; exact ⟨by simp, by simp⟩
theorem Transforms_pure {ok : Cm → Prop} (a b : List Cm) (f : Bool) (_h : ∀ c ∈ a, ok c) (hl : a.length * 32 ≤ 140737488351232) (_h2 : ∀ c ∈ b, ok c) (hl2 : b.length * 32 ≤ 140737488351232) : ∃ k, minuetlaw5_Transforms.f k a b f = some true := by
  refine Ev.rounds (Ev.congr (fun k => by rw [minuetlaw5_Transforms.f]) ?_)
  simp only [Lend_eq a hl, Lend_eq b hl2, Option.bind_some]
  refine Ev.bind (Transform_ev a b f) ?_
  refine Ev.bind (rTransform_ev a b f) ?_
  obtain ⟨h1, h2⟩ := tr_lens f a b
  refine Ev.bind (Same_refl _ h1) ?_
  simp only [if_true]
  refine Ev.bind (Same_refl _ h2) ?_
  simp only [if_true, num_eq, Option.bind_some, bne_self_eq_false]
  refine Ev.step (fun k => by rw [minuetlaw5_Transforms.j0]) ?_
  simp only [Bool.false_eq_true, if_false]
  obtain ⟨ys, hy⟩ := Spoil_ev _ h1
  refine Ev.bind hy ?_
  obtain ⟨zs, hz⟩ := Spoil_ev _ h2
  refine Ev.bind hz ?_
  refine Ev.bind (Kept_ev a hl) ?_
  simp only [if_true]
  refine Ev.bind (Kept_ev b hl2) ?_
  simp only [if_true]
  refine Ev.bind awake5 ?_
  exact Ev.now _
end Go.Proofs.Ytldaokclpkcmmab.Pl
