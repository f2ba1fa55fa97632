/- The plain law CompSizes: no program in sight but the printed function. -/
import Derived.Test.YtbkkcoppncgegaaD2
import Derived.Test.YtbkkcoppncgegaaU2
import Derived.Test.YtbkkcoppncgegaaGMinuetlaw2PCompSizes
namespace Go.Proofs.Ytbkkcoppncgegaa.Pl
open Go.RowKit Go.Proofs.Ytbkkcoppncgegaa.G Go.Proofs.YtbkkcoppncgegaaW.PrintWords Go.Proofs.YtbkkcoppncgegaaW.PrintLast Go.Proofs.YtbkkcoppncgegaaW.PrintMore
set_option linter.unusedVariables false
set_option linter.unusedSimpArgs false
theorem CompSizes_pure {ok : Cm → Prop} (cs : List Cm) (a : Int) (_h : ∀ a ∈ cs, ok a) (hl : cs.length * 32 ≤ 140737488351232) (_ha : (Lit.int .i64 a).wf = true) : ∃ k, minuetlaw2_CompSizes.f k cs a = some true := by
  refine Ev.rounds (Ev.congr (fun k => by rw [minuetlaw2_CompSizes.f]) (Ev.bind awake2 ?_))
  simp only [if_true]
  refine Ev.bind (Lengths_ev cs) ?_
  by_cases h : mayB cs = true
  · have hx := modix a (cs.length : Int) (by omega) (by omega)
    have hn := u64_ne (cs.length : Int) (by omega) (by omega)
    simp only [lens_ok cs h, num_eq, Option.bind_some, if_true, if_neg hn]
    generalize wrap64 (Int.tmod (IntKind.u64.wrap a) (IntKind.u64.wrap (wrap64 ((cs.length : Int) + 1)))) = i at hx ⊢
    simp only [if_pos hx.1, if_pos hx.2]
    have hp := may_parts (a := cs.take i.toNat) (b := cs.drop i.toNat) (by rw [List.take_append_drop]; exact h)
    have e1 : froms cs = froms (cs.take i.toNat) + froms (cs.drop i.toNat) := by rw [← froms_append, List.take_append_drop]
    have e2 : tos cs = tos (cs.take i.toNat) + tos (cs.drop i.toNat) := by rw [← tos_append, List.take_append_drop]
    obtain ⟨_, g, t⟩ := may_bounds h
    have f := froms_le g; have u := tos_le g
    refine Ev.bind (Lengths_ev _) ?_
    refine Ev.bind (Lengths_ev _) ?_
    have w1 : wrap64 (froms (cs.take i.toNat) + froms (cs.drop i.toNat)) = froms cs := by rw [← e1]; exact w64 (by omega) (by omega)
    have w2 : wrap64 (tos (cs.take i.toNat) + tos (cs.drop i.toNat)) = tos cs := by rw [← e2]; exact w64 (by omega) (by omega)
    simp only [lens_ok _ hp.1, lens_ok _ hp.2, num_eq, Option.bind_some, if_true, w1, w2, beq_self_eq_true]
    exact Ev.now _
  · simp only [lens_err cs h, num_eq, Option.bind_some, show ¬ ((200 : Int) = 0) by omega, if_false, if_true]
    refine Ev.bind (May_ev cs) ?_
    have h' : mayB cs = false := by simpa using h
    simp only [h', Bool.not_false]
    exact Ev.now _
end Go.Proofs.Ytbkkcoppncgegaa.Pl
