/- The plain law TransformMeets: no program in sight but the printed function. -/
import Derived.Test.YtldaokclpkcmmabT4
import Derived.Test.YtldaokclpkcmmabM6
import Derived.Test.YtldaokclpkcmmabGMinuetlaw5PTransformMeets
namespace Go.Proofs.Ytldaokclpkcmmab.Pl
open Go.RowKit Go.Proofs.Ytldaokclpkcmmab.G Go.Proofs.YtldaokclpkcmmabW.PrintWords Go.Proofs.YtldaokclpkcmmabW.PrintLast Go.Proofs.YtldaokclpkcmmabW.PrintMore
set_option linter.unusedVariables false
set_option linter.unusedSimpArgs false
theorem opt_some {α β : Type} (x : α) (g : α → Option β) : (some x).bind g = g x := Eq.trans rfl rfl
theorem w_three {x y : Nat} {z : Int} (hx : x ≤ 4096) (hy : y ≤ 4096) (h0 : 0 ≤ z) (h1 : z ≤ 4096) : wrap64 (wrap64 ((x : Int) + (y : Int)) + z) = (x : Int) + (y : Int) + z := by
  rw [w64 (x := (x : Int) + (y : Int)) (by omega) (by omega), w64 (by omega) (by omega)]
theorem w_two {x y : Int} (hx : 0 ≤ x) (hx1 : x ≤ 4096) (hy : 0 ≤ y) (hy1 : y ≤ 16777216) : wrap64 (x + y) = x + y := w64 (by omega) (by omega)
theorem TransformMeets_pure {ok : Cm → Prop} (s : ByteArray) (a b : List Cm) (f : Bool) (_hs : s.size ≤ 140737488351232) (_h : ∀ c ∈ a, ok c) (_hl : a.length * 32 ≤ 140737488351232) (_h2 : ∀ c ∈ b, ok c) (_hl2 : b.length * 32 ≤ 140737488351232) : ∃ k, minuetlaw5_TransformMeets.f k s a b f = some true := by
  refine Ev.rounds (Ev.congr (fun k => by rw [minuetlaw5_TransformMeets.f]) (Ev.bind awake5 ?_))
  simp only [if_true]
  refine Ev.bind (Apply_ev s a) ?_
  refine Ev.bind (Apply_ev s b) ?_
  refine Ev.bind (Transform_ev a b f) ?_
  simp only [num_eq, Option.bind_some]
  have out : ∀ u t p q e, Ev (fun k => minuetlaw5_TransformMeets.j0 k s a b u t p q e true) true := by
    intro u t p q e
    refine Ev.step (fun k => by rw [minuetlaw5_TransformMeets.j0]) ?_
    simp only [if_true]; exact Ev.now _
  by_cases h1 : mayB a = true ∧ froms a = (s.size : Int)
  · obtain ⟨ha, e1⟩ := h1
    obtain ⟨a1, a2, a3⟩ := may_bounds ha
    obtain ⟨_, _, _, pa1, pa2⟩ := (may_iff a).1 ha
    have hsl : froms a = ((bl s).length : Int) := by rw [bl_len]; exact e1
    have hlen := ap_len a2 (bl s) (by omega)
    rw [apM_ok ha e1]
    simp only [if_true]
    by_cases h2 : mayB b = true ∧ froms b = (s.size : Int)
    · obtain ⟨hb, e2⟩ := h2
      obtain ⟨b1, b2, b3⟩ := may_bounds hb
      obtain ⟨_, _, _, pb1, pb2⟩ := (may_iff b).1 hb
      have hbal : froms a = froms b := by rw [e1, e2]
      have hlenb := ap_len b2 (bl s) (by omega)
      rw [apM_ok hb e2]
      simp only [bne_self_eq_false]
      refine Ev.step (fun k => by rw [minuetlaw5_TransformMeets.j0]) ?_
      simp only [Bool.false_eq_true, if_false]
      rcases trM_cases f a b with ⟨p, q, e, _, _, _, ep, eq_, hp, hq⟩ | e
      · have t := emitT_ok (f := f) ha hb hbal
        rw [e]
        simp only [num_eq, Option.bind_some, if_true]
        have fp : froms p = tos b := by rw [ep, norm_froms t.gP]; exact t.fP
        have fq : froms q = tos a := by rw [eq_, norm_froms t.gQ]; exact t.fQ
        refine Ev.bind (Apply_ev _ q) ?_
        refine Ev.bind (Apply_ev _ p) ?_
        rw [apM_ok hq (by rw [fq, bs_size]; exact hlen.symm), apM_ok hp (by rw [fp, bs_size]; exact hlenb.symm)]
        simp only [num_eq, Option.bind_some, if_true, bl_bs]
        have : ap (ap (bl s) a) q = ap (ap (bl s) b) p := by rw [ep, eq_, ap_norm t.gP, ap_norm t.gQ]; exact t.app _ (by omega)
        rw [this]
        simp only [beq_self_eq_true]
        exact Ev.now _
      · rw [e]
        refine Ev.congr (fun k => by rw [num_eq, opt_some]) ?_
        simp only [Int.reduceEq, if_false]
        refine Ev.congr (fun k => by rw [opt_some]) ?_
        simp only [if_true]
        by_cases hbig : wrap64 (wrap64 ((a.length : Int) + (b.length : Int)) + (s.size : Int)) > 1000
        · simp only [if_pos hbig]; exact Ev.now _
        · simp only [if_neg hbig]
          have s0 : (0 : Int) ≤ (s.size : Int) := Int.natCast_nonneg _
          rw [w_three a1 b1 s0 (by rw [← e1]; exact pa1)] at hbig
          have pna := psz_nonneg a; have pnb := psz_nonneg b
          have t0a := (tos_le a2).1; have t0b := (tos_le b2).1
          have pta := psz_tot a2; have ptb := psz_tot b2
          refine Ev.bind (puts_ev hb) ?_
          have w1 : wrap64 (((bs (ap (bl s) a)).size : Int) + psz b) = tos a + psz b := by rw [bs_size, hlen]; exact w_two t0a pa2 pnb (Int.le_trans ptb b3)
          have w2 : wrap64 (((bs (ap (bl s) b)).size : Int) + psz a) = tos b + psz a := by rw [bs_size, hlenb]; exact w_two t0b pb2 pna (Int.le_trans pta a3)
          simp only [w1, w2]
          by_cases c1 : tos a + psz b > 4096
          · simp only [if_pos c1]; exact Ev.now _
          · simp only [if_neg c1]
            refine Ev.bind (puts_ev ha) ?_
            by_cases c2 : tos b + psz a > 4096
            · simp only [w2, decide_eq_true c2]; exact Ev.now _
            · clear _hl _hl2 _hs w1 w2
              have l1 : a.length + b.length ≤ 4096 := by clear c1 c2 pa1 pa2 pb1 pb2 a3 b3 hlen hlenb e1 e2; omega
              obtain ⟨p, q, e', _⟩ := tr_all (f := f) ha hb hbal l1 (Int.not_lt.1 c2) (Int.not_lt.1 c1)
              rw [e] at e'
              simp at e'
    · rw [apM_err h2]
      have : ((300 : Int) != 0) = true := by decide
      simp only [this]
      exact out _ _ _ _ _
  · rw [apM_err h1]
    simp only [Int.reduceEq, if_false]
    exact out _ _ _ _ _
end Go.Proofs.Ytldaokclpkcmmab.Pl
