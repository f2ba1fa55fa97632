/- The laws of the language: awake. -/
import Derived.Test.YtehojohacombkaaGd5
import Derived.Test.YtehojohacombkaaGMinuetlaw12qawake
namespace Go.Proofs.Ytehojohacombkaa.Pl
open Go.RowKit Go.Proofs.Ytehojohacombkaa.G Go.Proofs.Ytehojohacombkaa.Lx Go.Proofs.YtehojohacombkaaW.PrintWords Go.Proofs.YtehojohacombkaaW.PrintLast Go.Proofs.YtehojohacombkaaW.PrintMore
set_option linter.unusedVariables false
set_option linter.unusedSimpArgs false
set_option maxRecDepth 100000 in
theorem awake12 : minuetlaw12_awake.f = some true := by decide +kernel
theorem umod12 (a n : Int) (h : 0 < n) (h1 : n ≤ 4096) : 0 ≤ Int.tmod (IntKind.u64.wrap a) n ∧ Int.tmod (IntKind.u64.wrap a) n < n ∧ wrap64 (Int.tmod (IntKind.u64.wrap a) n) = Int.tmod (IntKind.u64.wrap a) n := by
  have h0 : 0 ≤ IntKind.u64.wrap a := by simp only [IntKind.wrap, IntKind.signed, IntKind.bits]; first | omega | (simp; omega)
  have a1 : 0 ≤ Int.tmod (IntKind.u64.wrap a) n := Int.tmod_nonneg _ h0
  have a2 : Int.tmod (IntKind.u64.wrap a) n < n := Int.tmod_lt_of_pos _ h
  exact ⟨a1, a2, w64 (by omega) (by omega)⟩
end Go.Proofs.Ytehojohacombkaa.Pl
