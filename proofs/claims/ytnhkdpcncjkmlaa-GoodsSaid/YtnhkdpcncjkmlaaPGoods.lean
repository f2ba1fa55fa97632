/- The plain law Goods: both are the same plain model. -/
import Derived.Test.YtnhkdpcncjkmlaaGa
import Derived.Test.YtnhkdpcncjkmlaaGMinuetlaw12PGoods
namespace Go.Proofs.Ytnhkdpcncjkmlaa.Pl
open Go.RowKit Go.Proofs.Ytnhkdpcncjkmlaa.G Go.Proofs.Ytnhkdpcncjkmlaa.Lx Go.Proofs.YtnhkdpcncjkmlaaW.PrintWords Go.Proofs.YtnhkdpcncjkmlaaW.PrintLast Go.Proofs.YtnhkdpcncjkmlaaW.PrintMore
set_option linter.unusedVariables false
set_option linter.unusedSimpArgs false
theorem goods_same (s : ByteArray) : minuetref9_Good.f s = good_Good.f s := rfl
theorem Goods_pure (s : ByteArray) (_hs : s.size ≤ 140737488351232) : ∃ _k : Nat, minuetlaw12_Goods.f s = some true := by
  refine ⟨0, ?_⟩
  rw [minuetlaw12_Goods.f, goods_same, awake12]
  unfold good_Good.f
  by_cases c : (s.size : Int) > 300
  · rw [if_pos c]; rfl
  · rw [if_neg c]
    simp only [opt_some, beq_self_eq_true, if_true, num_eq]
end Go.Proofs.Ytnhkdpcncjkmlaa.Pl
