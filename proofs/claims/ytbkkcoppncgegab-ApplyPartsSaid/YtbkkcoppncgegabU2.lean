/- int(uint(a) % uint(n + 1)), and an error's number. -/
import Derived.Test.YtbkkcoppncgegabM2
import Derived.Test.YtbkkcoppncgegabGMinuetlaw0PNum
namespace Go.Proofs.Ytbkkcoppncgegab.Pl
open Go.RowKit Go.Proofs.Ytbkkcoppncgegab.G Go.Proofs.YtbkkcoppncgegabW.PrintWords Go.Proofs.YtbkkcoppncgegabW.PrintLast Go.Proofs.YtbkkcoppncgegabW.PrintMore
set_option linter.unusedVariables false
set_option linter.unusedSimpArgs false
theorem num_eq (x : Int) : minuetlaw0_Num.f x = some x := rfl
theorem u64w (n : Int) : IntKind.u64.wrap n = n % 18446744073709551616 := by simp [IntKind.wrap, IntKind.bits, IntKind.signed]
/-- int(uint(a) % uint(n + 1)) lies from 0 to n. -/
theorem modix (a n : Int) (h0 : 0 ≤ n) (h1 : n < 4611686018427387904) : 0 ≤ wrap64 (Int.tmod (IntKind.u64.wrap a) (IntKind.u64.wrap (wrap64 (n + 1)))) ∧ wrap64 (Int.tmod (IntKind.u64.wrap a) (IntKind.u64.wrap (wrap64 (n + 1)))) ≤ n := by
  have e1 : wrap64 (n + 1) = n + 1 := w64 (by omega) (by omega)
  have e2 : IntKind.u64.wrap (n + 1) = n + 1 := by rw [u64w]; omega
  have e3 : 0 ≤ IntKind.u64.wrap a := by rw [u64w]; omega
  rw [e1, e2, Int.tmod_eq_emod_of_nonneg e3]
  clear e1 e2
  generalize IntKind.u64.wrap a = u at e3 ⊢
  have h2 := Int.emod_nonneg u (show n + 1 ≠ 0 by omega)
  have h3 := Int.emod_lt_of_pos u (show 0 < n + 1 by omega)
  generalize u % (n + 1) = v at h2 h3 ⊢
  rw [w64 (by omega) (by omega)]
  omega
theorem u64_ne (n : Int) (h0 : 0 ≤ n) (h1 : n < 4611686018427387904) : ¬ IntKind.u64.wrap (wrap64 (n + 1)) = 0 := by
  have e1 : wrap64 (n + 1) = n + 1 := w64 (by omega) (by omega)
  have e2 : IntKind.u64.wrap (n + 1) = n + 1 := by rw [u64w]; omega
  rw [e1, e2]; omega
end Go.Proofs.Ytbkkcoppncgegab.Pl
