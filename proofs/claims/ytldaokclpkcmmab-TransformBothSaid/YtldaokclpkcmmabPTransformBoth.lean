/- The plain law TransformBoth: no program in sight but the printed function. -/
import Derived.Test.YtldaokclpkcmmabM6r
import Derived.Test.YtldaokclpkcmmabT2
import Derived.Test.YtldaokclpkcmmabK3
import Derived.Test.YtldaokclpkcmmabT4
import Derived.Test.YtldaokclpkcmmabE22
import Derived.Test.YtldaokclpkcmmabE6
import Derived.Test.YtldaokclpkcmmabGMinuetlaw5PTransformBoth
namespace Go.Proofs.Ytldaokclpkcmmab.Pl
open Go.RowKit Go.Proofs.Ytldaokclpkcmmab.G Go.Proofs.YtldaokclpkcmmabW.PrintWords Go.Proofs.YtldaokclpkcmmabW.PrintLast Go.Proofs.YtldaokclpkcmmabW.PrintMore
set_option linter.unusedVariables false
set_option linter.unusedSimpArgs false
theorem opt_some' {α β : Type} (x : α) (g : α → Option β) : (some x).bind g = g x := Eq.trans rfl rfl
theorem w_six {x y z u v w : Int} (hx : 0 ≤ x ∧ x ≤ 16777216) (hy : 0 ≤ y ∧ y ≤ 16777216) (hz : 0 ≤ z ∧ z ≤ 16777216) (hu : 0 ≤ u ∧ u ≤ 16777216) (hv : 0 ≤ v ∧ v ≤ 16777216) (hw : 0 ≤ w ∧ w ≤ 16777216) :
    wrap64 (wrap64 (wrap64 (wrap64 (wrap64 (x + y) + z) + u) + v) + w) = x + y + z + u + v + w := by
  rw [w64 (x := x + y) (by omega) (by omega), w64 (x := x + y + z) (by omega) (by omega), w64 (x := x + y + z + u) (by omega) (by omega), w64 (x := x + y + z + u + v) (by omega) (by omega), w64 (by omega) (by omega)]
theorem psz_tos {a : List Cm} (h : ∀ c ∈ a, good c) : psz a ≤ tos a := by
  induction a with
  | nil => simp [psz, tos]
  | cons c r ih =>
    have := ih (fun d hd => h d (List.mem_cons_of_mem _ hd))
    have hc := h c List.mem_cons_self
    rw [tos_cons]
    simp only [psz]
    have hz := good_sz hc
    by_cases k : c.f0 = 2
    · rw [if_pos k]; have := hc.2.2.2 (by omega); omega
    · rw [if_neg k]
      have : (c.f2.size : Int) ≤ sz c := by unfold sz; have := hc.1; omega
      omega
theorem tos_froms {a : List Cm} (h : ∀ c ∈ a, good c) : tos a ≤ froms a + psz a := by
  induction a with
  | nil => simp [psz, tos, froms]
  | cons c r ih =>
    have := ih (fun d hd => h d (List.mem_cons_of_mem _ hd))
    have hc := h c List.mem_cons_self
    rw [tos_cons, froms_cons hc]
    simp only [psz]
    have := hc.1
    by_cases k : c.f0 = 2
    · rw [if_pos k]; omega
    · rw [if_neg k]; unfold sz; omega
/-- All that is asked, for edits that fit and are small. -/
theorem both_ok {f : Bool} {s put : ByteArray} {a b c : List Cm} (ha : mayB a = true) (hb : mayB b = true) (hc : mayB c = true) (e1 : froms a = (s.size : Int)) (e2 : froms b = (s.size : Int)) (ec : froms c = tos b) (et : tos c = (put.size : Int)) (lc : c.length ≤ 4)
    (hs : (a.length : Int) + (b.length : Int) + (s.size : Int) + (put.size : Int) + psz a + psz b ≤ 1000) :
    ∃ x x' y y' d z z', trM f a b = (x, x', 0) ∧ trM f x c = (y, y', 0) ∧ cpM b c = (d, 0) ∧ trM f a d = (z, z', 0) ∧ mayB y = true ∧ froms y = (put.size : Int) := by
  obtain ⟨a1, a2, a3⟩ := may_bounds ha
  obtain ⟨b1, b2, b3⟩ := may_bounds hb
  obtain ⟨c1, c2, c3⟩ := may_bounds hc
  have pa := psz_nonneg a; have pb := psz_nonneg b
  have ta := tos_froms a2; have tb := tos_froms b2
  obtain ⟨x, x', hx, mx, mx', fx, fx', tx, bx, lx, lx', -⟩ := tr_all (f := f) ha hb (by omega) (by omega) (by omega) (by omega)
  obtain ⟨x1, x2, x3⟩ := may_bounds mx
  have px := psz_tos x2; have pc := psz_tos c2
  obtain ⟨y, y', hy, my, my', fy, fy', -⟩ := tr_all (f := f) mx hc (by omega) (by omega) (by omega) (by omega)
  obtain ⟨d, hd, md, fd, td, ld, -⟩ := cp_all hb hc ec.symm (by omega)
  obtain ⟨d1, d2, d3⟩ := may_bounds md
  have pd := psz_tos d2
  obtain ⟨z, z', hz, -⟩ := tr_all (f := f) ha md (by omega) (by omega) (by omega) (by omega)
  exact ⟨x, x', y, y', d, z, z', hx, hy, hd, hz, my, by omega⟩
theorem TransformBoth_pure {ok : Cm → Prop} (s : ByteArray) (a b : List Cm) (put : ByteArray) (f : Bool) (_hs : s.size ≤ 140737488351232) (_h : ∀ c ∈ a, ok c) (hl : a.length * 32 ≤ 140737488351232) (_h2 : ∀ c ∈ b, ok c) (_hl2 : b.length * 32 ≤ 140737488351232) (_hp : put.size ≤ 140737488351232) : ∃ k, minuetlaw5_TransformBoth.f k s a b put f = some true := by
  have la : a.length < 4611686018427387904 := by omega
  clear hl _hl2 _hs _hp _h _h2
  refine Ev.rounds (Ev.congr (fun k => by rw [minuetlaw5_TransformBoth.f]) (Ev.bind awake5 ?_))
  simp only [if_true]
  refine Ev.bind (rApply_ev s b) ?_
  refine Ev.bind (rBetween_ev _ put) ?_
  refine Ev.bind (rCompose_ev b _) ?_
  have out : ∀ c d, Ev (fun k => minuetlaw5_TransformBoth.j0 k a b put f c d true) true := by
    intro c d
    refine Ev.step (fun k => by rw [minuetlaw5_TransformBoth.j0]) ?_
    simp only [if_true]; exact Ev.now _
  by_cases h0 : mayB b = true ∧ froms b = (s.size : Int)
  · obtain ⟨hb, e2⟩ := h0
    rw [apM_ok hb e2]
    simp only [if_true]
    obtain ⟨b1, b2, b3⟩ := may_bounds hb
    obtain ⟨_, _, _, pb1, pb2⟩ := (may_iff b).1 hb
    have tb0 := (tos_le b2).1
    have ht : ((bs (ap (bl s) b)).size : Int) = tos b := by
      rw [bs_size]
      exact ap_len b2 (bl s) (by rw [bl_len]; omega)
    generalize bs (ap (bl s) b) = t at ht ⊢
    by_cases h1 : t.size ≤ 4096 ∧ put.size ≤ 4096
    · obtain ⟨c, ebt, mc, fc, tc, lc, -⟩ := bt_all h1.1 h1.2
      rw [ebt]
      simp only [if_true]
      rw [ht] at fc
      by_cases h2 : mayB (norm (emit b c)) = true
      · have ecp := cpM_ok hb mc fc.symm h2
        rw [ecp]
        simp only [if_true]
        refine Ev.bind (puts_any a la) ?_
        refine Ev.bind (puts_ev hb) ?_
        have main : (mayB a = true ∧ froms a = (s.size : Int) → (a.length : Int) + (b.length : Int) + (s.size : Int) + (put.size : Int) + psz a + psz b ≤ 1000) → Ev (fun k => minuetlaw5_TransformBoth.j0 k a b put f c (norm (emit b c)) false) true := by
          intro hsm
          refine Ev.step (fun k => by rw [minuetlaw5_TransformBoth.j0]) ?_
          simp only [Bool.false_eq_true, if_false]
          refine Ev.bind (Transform_ev a b f) ?_
          refine Ev.bind (Transform_ev _ c f) ?_
          refine Ev.bind (Transform_ev a (norm (emit b c)) f) ?_
          by_cases ha : mayB a = true ∧ froms a = (s.size : Int)
          · obtain ⟨x, x', y, y', d, z, z', k1, k2, k3, k4, my, fy⟩ := both_ok (f := f) ha.1 hb mc ha.2 e2 fc tc lc (hsm ha)
            rw [ecp] at k3
            have ed : norm (emit b c) = d := congrArg Prod.fst k3
            rw [ed, k1, k4, k2]
            refine Ev.congr (fun k => by rw [num_eq, opt_some']) ?_
            simp only [if_true]
            refine Ev.bind (rApply_ev put y) ?_
            refine Ev.bind (rLengths_ev y) ?_
            obtain ⟨y1, y2, y3⟩ := may_bounds my
            rw [apM_ok my fy, lens_ok y my]
            refine Ev.congr (fun k => by rw [opt_some']) ?_
            simp only [if_true]
            refine Ev.congr (fun k => by rw [opt_some']) ?_
            simp only [if_true, fy]
            have hu : ((bs (ap (bl put) y)).size : Int) = tos y := by
              rw [bs_size]
              exact ap_len y2 (bl put) (by rw [bl_len]; omega)
            rw [hu]
            simp only [beq_self_eq_true]
            exact Ev.now _
          · have fd : froms (norm (emit b c)) = (s.size : Int) := by
              have eo := emit_ok hb mc fc.symm
              rw [norm_froms eo.good, eo.fr, e2]
            rw [trM_err (a := a) (b := b) (fun hh => ha ⟨hh.1, hh.2.2.1.trans e2⟩), trM_err (a := a) (b := norm (emit b c)) (fun hh => ha ⟨hh.1, hh.2.2.1.trans fd⟩)]
            refine Ev.congr (fun k => by rw [num_eq, opt_some']) ?_
            simp only [Int.reduceEq, if_false]
            refine Ev.congr (fun k => by rw [opt_some']) ?_
            simp only [if_true]
            refine Ev.congr (fun k => by rw [opt_some']) ?_
            simp only [beq_self_eq_true]
            exact Ev.now _
        by_cases ha : mayB a = true ∧ froms a = (s.size : Int)
        · obtain ⟨a1, a2, a3⟩ := may_bounds ha.1
          have pna := psz_nonneg a; have pnb := psz_nonneg b
          have pta := psz_tot a2; have ptb := psz_tot b2
          have ta0 := tot_nonneg a2
          have p0 : (0 : Int) ≤ psz a := pna
          rw [pw_psz a 0 (Int.le_refl _) (by omega), Int.zero_add, w_six ⟨by omega, by omega⟩ ⟨by omega, by omega⟩ ⟨by omega, by omega⟩ ⟨by omega, by omega⟩ ⟨by omega, by omega⟩ ⟨by omega, by omega⟩]
          by_cases hbig : (a.length : Int) + (b.length : Int) + (s.size : Int) + (put.size : Int) + psz a + psz b > 1000
          · rw [decide_eq_true hbig]; exact out _ _
          · rw [decide_eq_false hbig]; exact main (fun _ => Int.not_lt.1 hbig)
        · generalize hD : decide (wrap64 (wrap64 (wrap64 (wrap64 (wrap64 ((a.length : Int) + (b.length : Int)) + (s.size : Int)) + (put.size : Int)) + pw a 0) + psz b) > 1000) = D
          cases D with
          | true => exact out _ _
          | false => exact main (fun hh => absurd hh ha)
      · rw [cpM_err (fun hh => h2 hh.2.2.2)]
        simp only [Int.reduceEq, if_false]
        exact out _ _
    · rw [btM_err h1]
      simp only [Int.reduceEq, if_false]
      exact out _ _
  · rw [apM_err h0]
    simp only [Int.reduceEq, if_false]
    exact out _ _
end Go.Proofs.Ytldaokclpkcmmab.Pl
