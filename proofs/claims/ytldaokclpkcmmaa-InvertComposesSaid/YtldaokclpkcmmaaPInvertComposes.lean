/- The plain law InvertComposes: no program in sight but the printed function. -/
import Derived.Test.YtldaokclpkcmmaaK4
import Derived.Test.YtldaokclpkcmmaaV1
import Derived.Test.YtldaokclpkcmmaaGMinuetlaw7PInvertComposes
namespace Go.Proofs.Ytldaokclpkcmmaa.Pl
open Go.RowKit Go.Proofs.Ytldaokclpkcmmaa.G Go.Proofs.YtldaokclpkcmmaaW.PrintWords Go.Proofs.YtldaokclpkcmmaaW.PrintLast Go.Proofs.YtldaokclpkcmmaaW.PrintMore
set_option linter.unusedVariables false
set_option linter.unusedSimpArgs false
theorem InvertComposes_pure {ok : Cm → Prop} (s : ByteArray) (cs : List Cm) (_hs : s.size ≤ 140737488351232) (_h : ∀ c ∈ cs, ok c) (_hl : cs.length * 32 ≤ 140737488351232) : ∃ k, minuetlaw7_InvertComposes.f k s cs = some true := by
  refine Ev.rounds (Ev.congr (fun k => by rw [minuetlaw7_InvertComposes.f]) (Ev.bind awake7 ?_))
  simp only [if_true]
  refine Ev.bind (Invert_ev s cs) ?_
  simp only [num_eq, Option.bind_some]
  by_cases h : mayB cs = true ∧ froms cs = (s.size : Int)
  · obtain ⟨hm, e⟩ := h
    obtain ⟨h1, h2, h3⟩ := may_bounds hm
    obtain ⟨v1, v2, v3⟩ := iv_may hm e
    have hb := bk_good h2 (bl s)
    have hsl : froms cs = ((bl s).length : Int) := by rw [bl_len]; exact e
    rw [ivM_ok hm e]
    simp only [if_true]
    refine Ev.step (fun k => by rw [minuetlaw7_InvertComposes.j0]) ?_
    by_cases hbig : (cs.length : Int) > 1000
    · simp only [decide_eq_true hbig, if_true, num_eq, Option.bind_some]
      by_cases hz : ((norm (bk (bl s) cs)).length : Int) = 0
      · simp only [if_pos hz]; exact Ev.now _
      · simp only [if_neg hz, beq_self_eq_true]; exact Ev.now _
    · simp only [decide_eq_false hbig, Bool.false_eq_true, if_false]
      have hlen : (norm (bk (bl s) cs)).length ≤ cs.length := by
        have := fold_len (bk (bl s) cs) []
        simp only [List.length_nil, bk_len] at this
        unfold norm; omega
      obtain ⟨x, ex, mx, fx, tx, lx, apx⟩ := cp_all hm v1 v2.symm (by omega)
      refine Ev.bind (Compose_ev _ _) ?_
      rw [ex]
      refine Ev.bind (Apply_ev _ _) ?_
      refine Ev.bind (rLengths_ev _) ?_
      refine Ev.bind (rLengths_ev _) ?_
      have p1 : ap (bl s) x = bl s := by rw [apx _ (by omega), ap_norm hb, ap_bk h2 _ hsl]
      rw [apM_ok mx (by rw [fx, e]), p1, lens_ok _ hm, lens_ok _ v1, v2, v3]
      simp only [num_eq, Option.bind_some, if_true, bs_bl, beq_self_eq_true]
      exact Ev.now _
  · rw [ivM_err h]
    simp only [Int.reduceEq, if_false]
    refine Ev.step (fun k => by rw [minuetlaw7_InvertComposes.j0]) ?_
    simp only [if_true, List.length_nil]
    exact Ev.now _
end Go.Proofs.Ytldaokclpkcmmaa.Pl
