/- Package invert is awake. -/
import Derived.Test.YtldaokclpkcmmaaM7
import Derived.Test.YtldaokclpkcmmaaGMinuetlaw7qawake
namespace Go.Proofs.Ytldaokclpkcmmaa.Pl
open Go.RowKit Go.Proofs.Ytldaokclpkcmmaa.G Go.Proofs.YtldaokclpkcmmaaW.PrintWords Go.Proofs.YtldaokclpkcmmaaW.PrintLast Go.Proofs.YtldaokclpkcmmaaW.PrintMore
set_option linter.unusedVariables false
set_option linter.unusedSimpArgs false
theorem awake7 : Ev (fun k => minuetlaw7_awake.f k) true := by
  have n1 : ivM (⟨#[97, 98, 99, 100, 101, 102]⟩ : ByteArray) [(⟨0, 2, ⟨#[]⟩⟩ : Cm), ⟨1, 0, ⟨#[120, 121]⟩⟩, ⟨2, 3, ⟨#[]⟩⟩, ⟨0, 1, ⟨#[]⟩⟩] = ([(⟨0, 2, ⟨#[]⟩⟩ : Cm), ⟨1, 0, ⟨#[99, 100, 101]⟩⟩, ⟨2, 2, ⟨#[]⟩⟩, ⟨0, 1, ⟨#[]⟩⟩], 0) := by rfl
  have n2 : ivM (⟨#[97, 98, 99]⟩ : ByteArray) [(⟨0, 2, ⟨#[]⟩⟩ : Cm)] = ([], 700) := by rfl
  refine Ev.congr (fun k => by rw [minuetlaw7_awake.f]) (Ev.bind (Invert_ev _ _) ?_)
  refine Ev.bind (Invert_ev _ _) ?_
  rw [n1, n2]
  refine Ev.bind (Same_refl _ (by simp)) ?_
  simp only [num_eq, Option.bind_some, if_true]
  exact Ev.now _
end Go.Proofs.Ytldaokclpkcmmaa.Pl
