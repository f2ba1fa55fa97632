/- The plain law ParseDeep: brackets as deep as may be are lists; one more is an error. -/
import Derived.Test.YtehojohacombkaaPa
import Derived.Test.YtehojohacombkaaGMinuetlaw11PParseDeep
namespace Go.Proofs.Ytehojohacombkaa.Pl
open Go.RowKit Go.Proofs.Ytehojohacombkaa.G Go.Proofs.Ytehojohacombkaa.Lx Go.Proofs.YtehojohacombkaaW.PrintWords Go.Proofs.YtehojohacombkaaW.PrintLast Go.Proofs.YtehojohacombkaaW.PrintMore
set_option linter.unusedVariables false
set_option linter.unusedSimpArgs false
set_option maxRecDepth 100000 in
theorem ParseDeep_pure (a0 : Int) (a1 : Bool) (_h : (Lit.int .i64 a0).wf = true) : ∃ k, minuetlaw11_ParseDeep.f k a0 a1 = some true := by
  refine ⟨200, ?_⟩
  unfold minuetlaw11_ParseDeep.f
  rw [awake11_k 200 (by decide)]
  have hb : 0 ≤ Go.bits .and .i64 a0 15 ∧ Go.bits .and .i64 a0 15 ≤ 15 := and_mask a0 15 (by decide)
  generalize Go.bits .and .i64 a0 15 = j at hb
  obtain ⟨h0, h1⟩ := hb
  obtain ⟨n, rfl⟩ := Int.eq_ofNat_of_zero_le h0
  have hn : n < 16 := by omega
  clear h0 h1 _h
  revert n
  revert a1
  decide +kernel
end Go.Proofs.Ytehojohacombkaa.Pl
