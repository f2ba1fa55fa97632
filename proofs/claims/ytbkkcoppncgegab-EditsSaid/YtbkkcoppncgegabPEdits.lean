/- The plain law Edits: no program in sight but the printed function. -/
import Derived.Test.YtbkkcoppncgegabE2
import Derived.Test.YtbkkcoppncgegabE3
import Derived.Test.YtbkkcoppncgegabGMinuetlaw8PEdits
namespace Go.Proofs.Ytbkkcoppncgegab.Pl
open Go.RowKit Go.Proofs.Ytbkkcoppncgegab.G Go.Proofs.YtbkkcoppncgegabW.PrintWords Go.Proofs.YtbkkcoppncgegabW.PrintLast Go.Proofs.YtbkkcoppncgegabW.PrintMore
set_option linter.unusedVariables false
set_option linter.unusedSimpArgs false
theorem mk4_len (a : Int) (p : ByteArray) (c b : Int) : (mk4 a p c b).length ≤ 4 := by
  have := fold_len (raw4 a p c b) []
  simpa [mk4, norm, raw4] using this
theorem mkM_len (s : ByteArray) (at_ cut : Int) (p : ByteArray) : (mkM s at_ cut p).1.length ≤ 4 := by
  unfold mkM; split
  · split
    · exact mk4_len _ _ _ _
    · simp
  · simp
theorem btM_len (s t : ByteArray) : (btM s t).1.length ≤ 4 := by
  unfold btM; split
  · exact mk4_len _ _ _ _
  · simp
theorem Edits_pure (s t : ByteArray) (at_ cut : Int) (_hs : s.size ≤ 140737488351232) (ht : t.size ≤ 140737488351232) (_ha : (Lit.int .i64 at_).wf = true) (_hc : (Lit.int .i64 cut).wf = true) : ∃ k, minuetlaw8_Edits.f k s t at_ cut = some true := by
  refine Ev.rounds (Ev.congr (fun k => by rw [minuetlaw8_Edits.f]) ?_)
  refine Ev.bind (Make_ev s at_ cut t ht) ?_
  refine Ev.bind (rMake_ev s at_ cut t ht) ?_
  refine Ev.bind (Between_ev s t) ?_
  refine Ev.bind (rBetween_ev s t) ?_
  refine Ev.bind (Same_refl _ (by have := mkM_len s at_ cut t; omega)) ?_
  simp only [if_true, num_eq, Option.bind_some]
  refine Ev.bind (Same_refl _ (by have := btM_len s t; omega)) ?_
  simp only [if_true, num_eq, Option.bind_some]
  refine Ev.bind awake8 ?_
  exact Ev.now _
end Go.Proofs.Ytbkkcoppncgegab.Pl
