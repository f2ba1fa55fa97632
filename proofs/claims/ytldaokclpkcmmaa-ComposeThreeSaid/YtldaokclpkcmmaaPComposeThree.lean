/- The plain law ComposeThree: no program in sight but the printed function. -/
import Derived.Test.YtldaokclpkcmmaaK4
import Derived.Test.YtldaokclpkcmmaaE22
import Derived.Test.YtldaokclpkcmmaaE6
import Derived.Test.YtldaokclpkcmmaaGMinuetlaw4PComposeThree
namespace Go.Proofs.Ytldaokclpkcmmaa.Pl
open Go.RowKit Go.Proofs.Ytldaokclpkcmmaa.G Go.Proofs.YtldaokclpkcmmaaW.PrintWords Go.Proofs.YtldaokclpkcmmaaW.PrintLast Go.Proofs.YtldaokclpkcmmaaW.PrintMore
set_option linter.unusedVariables false
set_option linter.unusedSimpArgs false
theorem ComposeThree_pure {ok : Cm → Prop} (s : ByteArray) (a b : List Cm) (put : ByteArray) (_hs : s.size ≤ 140737488351232) (_h : ∀ c ∈ a, ok c) (_hl : a.length * 32 ≤ 140737488351232) (_h2 : ∀ c ∈ b, ok c) (_hl2 : b.length * 32 ≤ 140737488351232) (_hp : put.size ≤ 140737488351232) : ∃ k, minuetlaw4_ComposeThree.f k s a b put = some true := by
  refine Ev.rounds (Ev.congr (fun k => by rw [minuetlaw4_ComposeThree.f]) (Ev.bind awake4 ?_))
  simp only [if_true]
  refine Ev.bind (rApply_ev s a) ?_
  refine Ev.bind (rApply_ev _ b) ?_
  have out : ∀ c, Ev (fun k => minuetlaw4_ComposeThree.j0 k s a b put c true) true := by
    intro c
    refine Ev.step (fun k => by rw [minuetlaw4_ComposeThree.j0]) ?_
    simp only [if_true]; exact Ev.now _
  by_cases h1 : mayB a = true ∧ froms a = (s.size : Int)
  · obtain ⟨ha, e1⟩ := h1
    obtain ⟨a1, a2, a3⟩ := may_bounds ha
    obtain ⟨_, _, _, pa1, pa2⟩ := (may_iff a).1 ha
    have hsl : froms a = ((bl s).length : Int) := by rw [bl_len]; exact e1
    have hlen := ap_len a2 (bl s) (by omega)
    rw [apM_ok ha e1]
    by_cases h2 : mayB b = true ∧ froms b = ((bs (ap (bl s) a)).size : Int)
    · obtain ⟨hb, e2⟩ := h2
      obtain ⟨b1, b2, b3⟩ := may_bounds hb
      obtain ⟨_, _, _, pb1, pb2⟩ := (may_iff b).1 hb
      have hbal : tos a = froms b := by rw [e2, bs_size]; exact hlen.symm
      rw [apM_ok hb e2, bl_bs]
      refine Ev.bind (rBetween_ev _ put) ?_
      simp only [if_true]
      have hlen2 := ap_len b2 (ap (bl s) a) (by rw [← hbal]; omega)
      by_cases h3 : (bs (ap (ap (bl s) a) b)).size ≤ 4096 ∧ put.size ≤ 4096
      · obtain ⟨c, ec, mc, fc, tc, lc, apc⟩ := bt_all h3.1 h3.2
        simp only [ec, if_true]
        by_cases hbig : wrap64 (wrap64 (wrap64 ((a.length : Int) + (b.length : Int)) + (s.size : Int)) + (put.size : Int)) > 1000
        · simp only [decide_eq_true hbig]; exact out _
        · simp only [decide_eq_false hbig]
          rw [show wrap64 ((a.length : Int) + (b.length : Int)) = (a.length : Int) + (b.length : Int) from w64 (by omega) (by omega), show wrap64 ((a.length : Int) + (b.length : Int) + (s.size : Int)) = (a.length : Int) + (b.length : Int) + (s.size : Int) from w64 (by omega) (by omega), w64 (by omega) (by omega)] at hbig
          rw [bs_size] at fc
          obtain ⟨x, ex, mx, fx, tx, lx, apx⟩ := cp_all ha hb hbal (by omega)
          obtain ⟨y, ey, my, fy, ty, ly, apy⟩ := cp_all mx mc (by rw [tx, fc]; exact hlen2.symm) (by omega)
          obtain ⟨z, ez, mz, fz, tz, lz, apz⟩ := cp_all hb mc (by rw [fc]; exact hlen2.symm) (by omega)
          obtain ⟨w, ew, mw, fw, tw, lw, apw⟩ := cp_all ha mz (by rw [fz]; exact hbal) (by omega)
          refine Ev.step (fun k => by rw [minuetlaw4_ComposeThree.j0]) ?_
          simp only [Bool.false_eq_true, if_false]
          refine Ev.bind (Compose_ev a b) ?_
          rw [ex]
          refine Ev.bind (Compose_ev x c) ?_
          refine Ev.bind (Compose_ev b c) ?_
          rw [ez]
          refine Ev.bind (Compose_ev a z) ?_
          rw [ey, ew]
          simp only [num_eq, Option.bind_some, if_true, bne_self_eq_false]
          refine Ev.step (fun k => by rw [minuetlaw4_ComposeThree.j1]) ?_
          simp only [Bool.false_eq_true, if_false]
          refine Ev.bind (rApply_ev s y) ?_
          refine Ev.bind (rApply_ev s w) ?_
          rw [apM_ok my (by rw [fy, fx, e1]), apM_ok mw (by rw [fw, e1])]
          rw [bl_bs] at apc
          have p1 : ap (bl s) y = bl put := by rw [apy _ (by rw [fx]; omega), apx _ (by omega), apc]
          have p2 : ap (bl s) w = bl put := by rw [apw _ (by omega), apz _ (by rw [← hbal]; omega), apc]
          rw [p1, p2]
          simp only [if_true, bs_bl, beq_self_eq_true]
          exact Ev.now _
      · simp only [btM_err h3, Int.reduceEq, if_false]
        exact out _
    · rw [apM_err h2]
      refine Ev.bind (rBetween_ev _ put) ?_
      simp only [Int.reduceEq, if_false]
      exact out _
  · rw [apM_err h1]
    refine Ev.bind (rBetween_ev _ put) ?_
    simp only [Int.reduceEq, if_false]
    exact out _
end Go.Proofs.Ytldaokclpkcmmaa.Pl
