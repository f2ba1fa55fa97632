/- Package comp is awake. -/
import Derived.Test.YtgbajaljfbgilaaB2
import Derived.Test.YtgbajaljfbgilaaM3b
import Derived.Test.YtgbajaljfbgilaaGMinuetlaw2qawake
namespace Go.Proofs.Ytgbajaljfbgilaa.Pl
open Go.RowKit Go.Proofs.Ytgbajaljfbgilaa.G Go.Proofs.YtgbajaljfbgilaaW.PrintWords Go.Proofs.YtgbajaljfbgilaaW.PrintLast Go.Proofs.YtgbajaljfbgilaaW.PrintMore
set_option linter.unusedVariables false
set_option linter.unusedSimpArgs false
theorem awake2 : Ev (fun k => minuetlaw2_awake.f k) true := by
  have n1 : normal [(⟨0, 2, ⟨#[]⟩⟩ : Cm), ⟨2, 1, ⟨#[]⟩⟩, ⟨1, 0, ⟨#[97]⟩⟩, ⟨0, 0, ⟨#[]⟩⟩, ⟨1, 0, ⟨#[98]⟩⟩, ⟨2, 3, ⟨#[]⟩⟩] = ([⟨0, 2, ⟨#[]⟩⟩, ⟨1, 0, ⟨#[97, 98]⟩⟩, ⟨2, 4, ⟨#[]⟩⟩], 0) := by rfl
  have n2 : normal [(⟨0, -1, ⟨#[]⟩⟩ : Cm)] = ([], 200) := by rfl
  have l1 : lens [(⟨0, 2, ⟨#[]⟩⟩ : Cm), ⟨1, 0, ⟨#[97, 98]⟩⟩, ⟨2, 4, ⟨#[]⟩⟩] = (6, 4, 0) := by rfl
  have l2 : lens [(⟨0, 0, ⟨#[]⟩⟩ : Cm)] = (0, 0, 200) := by rfl
  have m1 : mayB [] = true := by rfl
  have m2 : mayB [(⟨0, 1, ⟨#[]⟩⟩ : Cm), ⟨0, 1, ⟨#[]⟩⟩] = false := by rfl
  refine Ev.congr (fun k => by rw [minuetlaw2_awake.f]) (Ev.bind (Normal_ev _) ?_)
  rw [n1]
  refine Ev.bind (Lengths_ev _) ?_
  refine Ev.bind (Lengths_ev _) ?_
  refine Ev.bind (Normal_ev _) ?_
  refine Ev.bind (Same_refl _ (by simp)) ?_
  simp only [l1, l2, n2, num_eq, Option.bind_some, if_true]
  refine Ev.bind (May_ev _) ?_
  simp only [m1, if_true]
  refine Ev.bind (May_ev _) ?_
  simp only [m2, Bool.not_false]
  exact Ev.now _
end Go.Proofs.Ytgbajaljfbgilaa.Pl
