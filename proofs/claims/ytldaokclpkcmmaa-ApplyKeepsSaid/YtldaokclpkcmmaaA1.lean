/- Package apply is awake. -/
import Derived.Test.YtldaokclpkcmmaaM6
import Derived.Test.YtldaokclpkcmmaaGMinuetlaw3qawake
namespace Go.Proofs.Ytldaokclpkcmmaa.Pl
open Go.RowKit Go.Proofs.Ytldaokclpkcmmaa.G Go.Proofs.YtldaokclpkcmmaaW.PrintWords Go.Proofs.YtldaokclpkcmmaaW.PrintLast Go.Proofs.YtldaokclpkcmmaaW.PrintMore
set_option linter.unusedVariables false
set_option linter.unusedSimpArgs false
theorem awake3 : Ev (fun k => minuetlaw3_awake.f k) true := by
  have n1 : apM (⟨#[97, 98, 99, 100, 101, 102]⟩ : ByteArray) [(⟨0, 2, ⟨#[]⟩⟩ : Cm), ⟨1, 0, ⟨#[120, 121]⟩⟩, ⟨2, 3, ⟨#[]⟩⟩, ⟨0, 1, ⟨#[]⟩⟩] = (⟨#[97, 98, 120, 121, 102]⟩, 0) := by rfl
  have n2 : apM (⟨#[97, 98, 99]⟩ : ByteArray) [(⟨0, 2, ⟨#[]⟩⟩ : Cm)] = (⟨#[]⟩, 300) := by rfl
  have n3 : apM (⟨#[]⟩ : ByteArray) ([] : List Cm) = (⟨#[]⟩, 0) := by rfl
  refine Ev.congr (fun k => by rw [minuetlaw3_awake.f]) (Ev.bind (Apply_ev _ _) ?_)
  refine Ev.bind (Apply_ev _ _) ?_
  refine Ev.bind (Apply_ev _ _) ?_
  rw [n1, n2, n3]
  simp only [num_eq, Option.bind_some, if_true, bl_to, bl]
  exact Ev.now _
end Go.Proofs.Ytldaokclpkcmmaa.Pl
