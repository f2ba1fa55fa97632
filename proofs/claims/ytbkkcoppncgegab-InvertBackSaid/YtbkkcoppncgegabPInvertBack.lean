/- The plain law InvertBack: no program in sight but the printed function. -/
import Derived.Test.YtbkkcoppncgegabV1
import Derived.Test.YtbkkcoppncgegabGMinuetlaw7PInvertBack
namespace Go.Proofs.Ytbkkcoppncgegab.Pl
open Go.RowKit Go.Proofs.Ytbkkcoppncgegab.G Go.Proofs.YtbkkcoppncgegabW.PrintWords Go.Proofs.YtbkkcoppncgegabW.PrintLast Go.Proofs.YtbkkcoppncgegabW.PrintMore
set_option linter.unusedVariables false
set_option linter.unusedSimpArgs false
theorem InvertBack_pure {ok : Cm → Prop} (s : ByteArray) (cs : List Cm) (_hs : s.size ≤ 140737488351232) (_h : ∀ c ∈ cs, ok c) (_hl : cs.length * 32 ≤ 140737488351232) : ∃ k, minuetlaw7_InvertBack.f k s cs = some true := by
  refine Ev.rounds (Ev.congr (fun k => by rw [minuetlaw7_InvertBack.f]) (Ev.bind awake7 ?_))
  simp only [if_true]
  refine Ev.bind (Apply_ev s cs) ?_
  refine Ev.bind (Invert_ev s cs) ?_
  simp only [num_eq, Option.bind_some]
  by_cases h : mayB cs = true ∧ froms cs = (s.size : Int)
  · obtain ⟨hm, e⟩ := h
    obtain ⟨h1, h2, h3⟩ := may_bounds hm
    obtain ⟨v1, v2, v3⟩ := iv_may hm e
    have hb := bk_good h2 (bl s)
    have hsl : froms cs = ((bl s).length : Int) := by rw [bl_len]; exact e
    have htz : froms (norm (bk (bl s) cs)) = ((bs (ap (bl s) cs)).size : Int) := by rw [v2, bs_size]; exact (ap_len h2 _ (by omega)).symm
    have hap : bs (ap (bl (bs (ap (bl s) cs))) (norm (bk (bl s) cs))) = s := by rw [bl_bs, ap_norm hb, ap_bk h2 _ hsl, bs_bl]
    have hbk : norm (bk (bl (bs (ap (bl s) cs))) (norm (bk (bl s) cs))) = cs := by
      have ht : froms (bk (bl s) cs) ≤ ((ap (bl s) cs).length : Int) := by rw [(bk_meas h2 _ (by omega)).1]; have := ap_len h2 (bl s) (by omega); omega
      rw [bl_bs, bk_norm hb _ ht, bk_bk h2 _ hsl, norm_of_nf (may_nf hm)]
    rw [apM_ok hm e, ivM_ok hm e]
    simp only [if_true]
    refine Ev.bind (Apply_ev _ _) ?_
    refine Ev.bind (Invert_ev _ _) ?_
    rw [apM_ok v1 htz, ivM_ok v1 htz, hap, hbk]
    simp only [if_true]
    refine Ev.bind (Same_refl cs (by omega)) ?_
    exact Ev.now _
  · rw [apM_err h, ivM_err h]
    simp only [Int.reduceEq, if_false, if_true]
    exact Ev.now _
end Go.Proofs.Ytbkkcoppncgegab.Pl
