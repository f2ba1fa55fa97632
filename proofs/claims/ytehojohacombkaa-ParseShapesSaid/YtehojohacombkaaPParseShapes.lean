/- The plain law ParseShapes: texts and the shapes of their trees. -/
import Derived.Test.YtehojohacombkaaPa
import Derived.Test.YtehojohacombkaaGMinuetlaw11PParseShapes
namespace Go.Proofs.Ytehojohacombkaa.Pl
open Go.RowKit Go.Proofs.Ytehojohacombkaa.G Go.Proofs.Ytehojohacombkaa.Lx Go.Proofs.YtehojohacombkaaW.PrintWords Go.Proofs.YtehojohacombkaaW.PrintLast Go.Proofs.YtehojohacombkaaW.PrintMore
set_option linter.unusedVariables false
set_option linter.unusedSimpArgs false
set_option maxRecDepth 100000 in
theorem ParseShapes_pure (a0 : Int) (_h : (Lit.int .i64 a0).wf = true) : ∃ k, minuetlaw11_ParseShapes.f k a0 = some true := by
  refine ⟨100, ?_⟩
  unfold minuetlaw11_ParseShapes.f
  rw [awake11_k 100 (by decide)]
  obtain ⟨h0, h1, h2⟩ := umod11 a0 38 (by decide) (by decide)
  rw [h2]
  generalize Int.tmod (IntKind.u64.wrap a0) 38 = j at h0 h1
  clear h2 _h
  obtain ⟨n, rfl⟩ := Int.eq_ofNat_of_zero_le h0
  have hn : n < 38 := by omega
  clear h0 h1
  revert n
  decide +kernel
end Go.Proofs.Ytehojohacombkaa.Pl
