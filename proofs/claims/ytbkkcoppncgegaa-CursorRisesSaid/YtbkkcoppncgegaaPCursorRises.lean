/- The plain law CursorRises: no program in sight but the printed function. -/
import Derived.Test.YtbkkcoppncgegaaC1
import Derived.Test.YtbkkcoppncgegaaGMinuetlaw6PCursorRises
namespace Go.Proofs.Ytbkkcoppncgegaa.Pl
open Go.RowKit Go.Proofs.Ytbkkcoppncgegaa.G Go.Proofs.YtbkkcoppncgegaaW.PrintWords Go.Proofs.YtbkkcoppncgegaaW.PrintLast Go.Proofs.YtbkkcoppncgegaaW.PrintMore
set_option linter.unusedVariables false
set_option linter.unusedSimpArgs false

theorem CursorRises_pure {ok : Cm → Prop} (cs : List Cm) (a b : Int) (_h : ∀ a ∈ cs, ok a) (_h2 : cs.length * 32 ≤ 140737488351232) (_ha : (Lit.int .i64 a).wf = true) (_hb : (Lit.int .i64 b).wf = true) : ∃ k, minuetlaw6_CursorRises.f k cs a b = some true := by
  refine Ev.rounds (Ev.congr (fun k => by rw [minuetlaw6_CursorRises.f]) (Ev.bind awake6 ?_))
  simp only [if_true]
  refine Ev.bind (rLengths_ev cs) ?_
  by_cases h : mayB cs = true
  · obtain ⟨_, hg, ht⟩ := may_bounds h
    have hf := froms_le hg
    have hs := may_solid h
    simp only [lens_ok cs h, if_true, if_neg (u64_ne (froms cs) hf.1 (by omega))]
    have hx := modix a (froms cs) hf.1 (by omega)
    have hy := modix b (froms cs) hf.1 (by omega)
    generalize wrap64 (Int.tmod (IntKind.u64.wrap a) (IntKind.u64.wrap (wrap64 (froms cs + 1)))) = x at hx ⊢
    generalize wrap64 (Int.tmod (IntKind.u64.wrap b) (IntKind.u64.wrap (wrap64 (froms cs + 1)))) = y at hy ⊢
    have h3 : 0 ≤ mn x y ∧ mn x y ≤ mx x y ∧ mx x y ≤ froms cs := by unfold mn mx; split <;> split <;> omega
    refine Ev.bind (Move_ev cs (mn x y) false) ?_
    refine Ev.bind (Move_ev cs (mx x y) false) ?_
    refine Ev.bind (Move_ev cs (mx x y) true) ?_
    simp only [move_ok false h h3.1 (by omega), move_ok false h (show 0 ≤ mx x y by omega) h3.2.2, move_ok true h (show 0 ≤ mx x y by omega) h3.2.2, num_eq, Option.bind_some, if_true]
    have m1 := (mv_range (b := false) hs (mn x y) h3.1 (by omega)).1
    have m2 := mv_mono hs false (mn x y) (mx x y) h3.1 h3.2.1 h3.2.2
    have m3 := mv_behind hs (mx x y) (by omega) h3.2.2
    have m4 := (mv_range (b := true) hs (mx x y) (by omega) h3.2.2).2
    simp only [ge_iff_le, if_pos m1, if_pos m2, if_pos m3, decide_eq_true m4]
    exact Ev.now _
  · simp only [lens_err cs h, show ¬ ((200 : Int) = 0) by omega, if_false]
    refine Ev.bind (Move_ev cs 0 true) ?_
    simp only [move_bad true (fun hh : _ ∧ _ ∧ _ => h hh.1), num_eq, Option.bind_some, beq_self_eq_true]
    exact Ev.now _
end Go.Proofs.Ytbkkcoppncgegaa.Pl
