/- The plain law ComposeDoes: no program in sight but the printed function. -/
import Derived.Test.YtldaokclpkcmmaaK4
import Derived.Test.YtldaokclpkcmmaaGMinuetlaw4PComposeDoes
namespace Go.Proofs.Ytldaokclpkcmmaa.Pl
open Go.RowKit Go.Proofs.Ytldaokclpkcmmaa.G Go.Proofs.YtldaokclpkcmmaaW.PrintWords Go.Proofs.YtldaokclpkcmmaaW.PrintLast Go.Proofs.YtldaokclpkcmmaaW.PrintMore
set_option linter.unusedVariables false
set_option linter.unusedSimpArgs false
theorem ComposeDoes_pure {ok : Cm → Prop} (s : ByteArray) (a b : List Cm) (_hs : s.size ≤ 140737488351232) (_h : ∀ c ∈ a, ok c) (_hl : a.length * 32 ≤ 140737488351232) (_h2 : ∀ c ∈ b, ok c) (_hl2 : b.length * 32 ≤ 140737488351232) : ∃ k, minuetlaw4_ComposeDoes.f k s a b = some true := by
  refine Ev.rounds (Ev.congr (fun k => by rw [minuetlaw4_ComposeDoes.f]) (Ev.bind awake4 ?_))
  simp only [if_true]
  refine Ev.bind (Apply_ev s a) ?_
  refine Ev.bind (Apply_ev _ b) ?_
  refine Ev.bind (Compose_ev a b) ?_
  simp only [num_eq, Option.bind_some]
  have out : ∀ u cs e, Ev (fun k => minuetlaw4_ComposeDoes.j0 k s a b u cs e true) true := by
    intro u cs e
    refine Ev.step (fun k => by rw [minuetlaw4_ComposeDoes.j0]) ?_
    simp only [if_true]; exact Ev.now _
  by_cases h1 : mayB a = true ∧ froms a = (s.size : Int)
  · obtain ⟨ha, e1⟩ := h1
    obtain ⟨a1, a2, a3⟩ := may_bounds ha
    obtain ⟨_, _, _, pa1, pa2⟩ := (may_iff a).1 ha
    have hsl : froms a = ((bl s).length : Int) := by rw [bl_len]; exact e1
    have hlen := ap_len a2 (bl s) (by omega)
    rw [apM_ok ha e1]
    simp only [if_true]
    by_cases h2 : mayB b = true ∧ froms b = ((bs (ap (bl s) a)).size : Int)
    · obtain ⟨hb, e2⟩ := h2
      obtain ⟨b1, b2, b3⟩ := may_bounds hb
      have hbal : tos a = froms b := by rw [e2, bs_size]; exact hlen.symm
      rw [apM_ok hb e2]
      refine Ev.step (fun k => by rw [minuetlaw4_ComposeDoes.j0]) ?_
      simp only [bne_self_eq_false, Bool.false_eq_true, if_false]
      by_cases hm : mayB (norm (emit a b)) = true
      · have e := emit_ok ha hb hbal
        have ef : froms (norm (emit a b)) = (s.size : Int) := by rw [norm_froms e.good, e.fr, e1]
        have et : ap (bl s) (norm (emit a b)) = ap (ap (bl s) a) b := by rw [ap_norm e.good, e.app _ (by omega)]
        rw [cpM_ok ha hb hbal hm]
        refine Ev.bind (Apply_ev s _) ?_
        rw [apM_ok hm ef, et, bl_bs]
        have fin : Ev (fun k => minuetlaw4_ComposeDoes.j1 k (bs (ap (ap (bl s) a) b)) (norm (emit a b)) 0 (bs (ap (ap (bl s) a) b)) 0 false) true := by
          refine Ev.step (fun k => by rw [minuetlaw4_ComposeDoes.j1]) ?_
          simp only [Bool.false_eq_true, if_false, num_eq, Option.bind_some, if_true]
          refine Ev.bind (rCompsMay_ev _) ?_
          rw [hm]; exact Ev.now _
        by_cases hbig : wrap64 (wrap64 ((a.length : Int) + (b.length : Int)) + (s.size : Int)) > 1000
        · simp only [if_pos hbig]; exact fin
        · simp only [if_neg hbig]; exact fin
      · have hl : ¬ a.length + b.length ≤ 4096 := fun hh => hm (emit_may ha hb hbal hh)
        have hbig : wrap64 (wrap64 ((a.length : Int) + (b.length : Int)) + (s.size : Int)) > 1000 := by
          rw [show wrap64 ((a.length : Int) + (b.length : Int)) = (a.length : Int) + (b.length : Int) from w64 (by omega) (by omega), w64 (by omega) (by omega)]; omega
        rw [cpM_err (fun hh => hm hh.2.2.2)]
        refine Ev.bind (Apply_ev s _) ?_
        simp only [if_pos hbig, num_eq, Option.bind_some]
        refine Ev.step (fun k => by rw [minuetlaw4_ComposeDoes.j1]) ?_
        simp only [beq_self_eq_true, if_true]; exact Ev.now _
    · rw [apM_err h2]
      have : ((300 : Int) != 0) = true := by decide
      simp only [this]
      exact out _ _ _
  · rw [apM_err h1]
    simp only [Int.reduceEq, if_false]
    exact out _ _ _
end Go.Proofs.Ytldaokclpkcmmaa.Pl
