/- SpoilComps returns. -/
import Derived.Test.YtldaokclpkcmmabLk
import Derived.Test.YtldaokclpkcmmabGMinuetlaw0PSpoilComps
namespace Go.Proofs.Ytldaokclpkcmmab.Pl
open Go.RowKit Go.Proofs.Ytldaokclpkcmmab.G Go.Proofs.YtldaokclpkcmmabW.PrintWords Go.Proofs.YtldaokclpkcmmabW.PrintLast Go.Proofs.YtldaokclpkcmmabW.PrintMore
set_option linter.unusedVariables false
set_option linter.unusedSimpArgs false
theorem Spoil_l0 : ∀ (n : Nat) (xs : List Cm) (i : Nat), xs.length = i + n → xs.length < 4611686018427387904 → ∃ ys, Ev (fun k => minuetlaw0_SpoilComps.l0 k xs (i : Int)) ys := by
  intro n
  induction n with
  | zero =>
    intro xs i e h
    refine ⟨xs, Ev.step (fun k => by rw [minuetlaw0_SpoilComps.l0]) ?_⟩
    simp only [if_neg (show ¬ (i : Int) < (xs.length : Int) by omega)]
    exact Ev.now _
  | succ n ih =>
    intro xs i e h
    obtain ⟨ys, hy⟩ := ih (xs.set i (⟨(rd_T37 xs (i : Int)).f0, Go.bits .xor .i64 ((rd_T37 xs (i : Int)).f1) 90, (rd_T37 xs (i : Int)).f2⟩ : Cm)) (i + 1) (by rw [List.length_set]; omega) (by rw [List.length_set]; omega)
    refine ⟨ys, Ev.step (fun k => by rw [minuetlaw0_SpoilComps.l0]) ?_⟩
    simp only [if_pos (show (i : Int) < (xs.length : Int) by omega), if_pos (show 0 ≤ (i : Int) by omega), Int.toNat_natCast]
    rw [show wrap64 ((i : Int) + 1) = ((i + 1 : Nat) : Int) by rw [w64 (by omega) (by omega)]; omega]
    exact hy
theorem Spoil_ev (xs : List Cm) (h : xs.length < 4611686018427387904) : ∃ ys, Ev (fun k => minuetlaw0_SpoilComps.f k xs) ys := by
  have := Spoil_l0 xs.length xs 0 (by omega) h
  simpa [minuetlaw0_SpoilComps.f] using this
end Go.Proofs.Ytldaokclpkcmmab.Pl
