/- The plain law ComposeNothing: no program in sight but the printed function. -/
import Derived.Test.YtldaokclpkcmmaaK4
import Derived.Test.YtldaokclpkcmmaaGMinuetlaw4PComposeNothing
namespace Go.Proofs.Ytldaokclpkcmmaa.Pl
open Go.RowKit Go.Proofs.Ytldaokclpkcmmaa.G Go.Proofs.YtldaokclpkcmmaaW.PrintWords Go.Proofs.YtldaokclpkcmmaaW.PrintLast Go.Proofs.YtldaokclpkcmmaaW.PrintMore
set_option linter.unusedVariables false
set_option linter.unusedSimpArgs false
theorem cp_keep_a {a : List Cm} (ha : mayB a = true) : cpM (kq (froms a)) a = (a, 0) := by
  obtain ⟨a1, a2, a3⟩ := may_bounds ha
  obtain ⟨_, _, _, pa1, pa2⟩ := (may_iff a).1 ha
  have h0 := (froms_le a2).1
  have e : emit (kq (froms a)) a = a := em_keep_a _ a (may_ok ha) (Nat.le_refl _)
  have en : norm (emit (kq (froms a)) a) = a := by rw [e, norm_of_nf (may_nf ha)]
  rw [cpM_ok (kq_may h0 pa1) ha (kq_tos _) (by rw [en]; exact ha), en]
theorem cp_keep_b {a : List Cm} (ha : mayB a = true) : cpM a (kq (tos a)) = (a, 0) := by
  obtain ⟨a1, a2, a3⟩ := may_bounds ha
  obtain ⟨_, _, _, pa1, pa2⟩ := (may_iff a).1 ha
  have h0 := (tos_le a2).1
  have e : emit a (kq (tos a)) = a := em_keep_b _ a (may_ok ha) (Nat.le_refl _)
  have en : norm (emit a (kq (tos a))) = a := by rw [e, norm_of_nf (may_nf ha)]
  rw [cpM_ok ha (kq_may h0 pa2) (kq_froms _).symm (by rw [en]; exact ha), en]
theorem ComposeNothing_pure {ok : Cm → Prop} (a : List Cm) (_h : ∀ c ∈ a, ok c) (_hl : a.length * 32 ≤ 140737488351232) : ∃ k, minuetlaw4_ComposeNothing.f k a = some true := by
  refine Ev.rounds (Ev.congr (fun k => by rw [minuetlaw4_ComposeNothing.f]) (Ev.bind awake4 ?_))
  simp only [if_true]
  refine Ev.bind (rLengths_ev a) ?_
  by_cases ha : mayB a = true
  · obtain ⟨a1, a2, a3⟩ := may_bounds ha
    obtain ⟨_, _, _, pa1, pa2⟩ := (may_iff a).1 ha
    have f0 := (froms_le a2).1; have t0 := (tos_le a2).1
    rw [lens_ok a ha]
    simp only [if_true]
    have fin : Ev (fun k => minuetlaw4_ComposeNothing.j1 k a (tos a) (kq (froms a)) (kq (tos a))) true := by
      refine Ev.step (fun k => by rw [minuetlaw4_ComposeNothing.j1]) ?_
      refine Ev.bind (Compose_ev _ _) ?_
      refine Ev.bind (Compose_ev _ _) ?_
      refine Ev.bind (Compose_ev _ _) ?_
      rw [cp_keep_a ha, cp_keep_b ha]
      have hw : wrap64 (tos a + 1) = tos a + 1 := w64 (by omega) (by omega)
      rw [hw, cpM_err (a := a) (b := [(⟨0, tos a + 1, ⟨#[]⟩⟩ : Cm)]) (fun hh => by have := hh.2.2.1; simp [froms] at this; omega)]
      simp only [num_eq, Option.bind_some, if_true]
      refine Ev.bind (Same_refl a (by omega)) ?_
      simp only [if_true]
      refine Ev.bind (Same_refl a (by omega)) ?_
      simp only [if_true, beq_self_eq_true]
      exact Ev.now _
    have two : Ev (fun k => minuetlaw4_ComposeNothing.j0 k a (tos a) (kq (froms a)) []) true := by
      refine Ev.step (fun k => by rw [minuetlaw4_ComposeNothing.j0]) ?_
      by_cases ht : tos a > 0
      · simp only [if_pos ht]
        rw [kq_pos ht] at fin
        exact fin
      · have e : tos a = 0 := by omega
        simp only [if_neg ht]
        have : kq (tos a) = [] := by rw [kq, if_pos e]
        rw [this] at fin
        exact fin
    by_cases hf : froms a > 0
    · simp only [if_pos hf]
      rw [kq_pos hf] at two
      exact two
    · have e : froms a = 0 := by omega
      simp only [if_neg hf]
      have : kq (froms a) = [] := by rw [kq, if_pos e]
      rw [this] at two
      exact two
  · rw [lens_err a ha]
    simp only [Int.reduceEq, if_false]
    refine Ev.bind (Compose_ev _ _) ?_
    rw [cpM_err (fun hh => ha hh.1)]
    simp only [num_eq, Option.bind_some, beq_self_eq_true]
    exact Ev.now _
end Go.Proofs.Ytldaokclpkcmmaa.Pl
