/- Pieces lent and kept: what LendComps and KeptComps come to. -/
import Derived.Test.YtldaokclpkcmmabB2
import Derived.Test.YtldaokclpkcmmabGZ5
import Derived.Test.YtldaokclpkcmmabGZ3
namespace Go.Proofs.Ytldaokclpkcmmab.Pl
open Go.RowKit Go.Proofs.Ytldaokclpkcmmab.G Go.Proofs.YtldaokclpkcmmabW.PrintWords Go.Proofs.YtldaokclpkcmmabW.PrintLast Go.Proofs.YtldaokclpkcmmabW.PrintMore
set_option linter.unusedVariables false
set_option linter.unusedSimpArgs false
theorem Copy_is (a : List Cm) (h : a.length < 4398046511104) : minuetlaw0_CopyComps.f a = some a := by
  unfold minuetlaw0_CopyComps.f
  simp only [Option.bind_some, List.length_nil, Nat.zero_add, if_pos h, List.nil_append]
theorem Lend_eq (a : List Cm) (h : a.length * 32 ≤ 140737488351232) : minuetlaw0_LendComps.f a = some a := by
  unfold minuetlaw0_LendComps.f
  rw [Copy_is a (by omega)]
  simp only [Option.bind_some, List.length_cons, List.length_nil, Nat.zero_add, List.length_append]
  rw [if_pos (by omega), if_pos (by omega), if_pos (by omega)]
  simp
theorem Kept_ev (a : List Cm) (h : a.length * 32 ≤ 140737488351232) : Ev (fun k => minuetlaw0_KeptComps.f k a a) true := by
  refine Ev.congr (fun k => by rw [minuetlaw0_KeptComps.f, if_pos rfl]) (Same_refl a (by omega))
end Go.Proofs.Ytldaokclpkcmmab.Pl
