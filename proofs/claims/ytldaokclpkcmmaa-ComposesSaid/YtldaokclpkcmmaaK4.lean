/- Package compose is awake; what is kept all. -/
import Derived.Test.YtldaokclpkcmmaaK2
import Derived.Test.YtldaokclpkcmmaaK1q
import Derived.Test.YtldaokclpkcmmaaGMinuetlaw4qawake
namespace Go.Proofs.Ytldaokclpkcmmaa.Pl
open Go.RowKit Go.Proofs.Ytldaokclpkcmmaa.G Go.Proofs.YtldaokclpkcmmaaW.PrintWords Go.Proofs.YtldaokclpkcmmaaW.PrintLast Go.Proofs.YtldaokclpkcmmaaW.PrintMore
set_option linter.unusedVariables false
set_option linter.unusedSimpArgs false
theorem awake4 : Ev (fun k => minuetlaw4_awake.f k) true := by
  have n1 : cpM [(⟨0, 2, ⟨#[]⟩⟩ : Cm), ⟨1, 0, ⟨#[120, 121]⟩⟩, ⟨0, 1, ⟨#[]⟩⟩] [(⟨0, 1, ⟨#[]⟩⟩ : Cm), ⟨1, 0, ⟨#[122]⟩⟩, ⟨2, 2, ⟨#[]⟩⟩, ⟨0, 2, ⟨#[]⟩⟩] = ([(⟨0, 1, ⟨#[]⟩⟩ : Cm), ⟨1, 0, ⟨#[122, 121]⟩⟩, ⟨2, 1, ⟨#[]⟩⟩, ⟨0, 1, ⟨#[]⟩⟩], 0) := by rfl
  have n2 : cpM [(⟨0, 2, ⟨#[]⟩⟩ : Cm), ⟨1, 0, ⟨#[120, 121]⟩⟩, ⟨0, 1, ⟨#[]⟩⟩] [(⟨0, 2, ⟨#[]⟩⟩ : Cm), ⟨1, 0, ⟨#[120, 121]⟩⟩, ⟨0, 1, ⟨#[]⟩⟩] = ([], 400) := by rfl
  have n3 : cpM [(⟨0, 2, ⟨#[]⟩⟩ : Cm), ⟨1, 0, ⟨#[120, 121]⟩⟩, ⟨0, 1, ⟨#[]⟩⟩] [(⟨0, 1, ⟨#[]⟩⟩ : Cm), ⟨2, 2, ⟨#[]⟩⟩, ⟨1, 0, ⟨#[122]⟩⟩, ⟨0, 2, ⟨#[]⟩⟩] = ([], 400) := by rfl
  refine Ev.congr (fun k => by rw [minuetlaw4_awake.f]) ?_
  simp only [Option.bind_some]
  refine Ev.bind (Compose_ev _ _) ?_
  refine Ev.bind (Compose_ev _ _) ?_
  refine Ev.bind (Compose_ev _ _) ?_
  rw [n1, n2, n3]
  refine Ev.bind (Same_refl _ (by simp)) ?_
  simp only [num_eq, Option.bind_some, if_true]
  exact Ev.now _
end Go.Proofs.Ytldaokclpkcmmaa.Pl
