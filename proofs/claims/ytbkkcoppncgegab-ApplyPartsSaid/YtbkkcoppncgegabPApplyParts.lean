/- The plain law ApplyParts: no program in sight but the printed function. -/
import Derived.Test.YtbkkcoppncgegabA1
import Derived.Test.YtbkkcoppncgegabGMinuetlaw3PApplyParts
namespace Go.Proofs.Ytbkkcoppncgegab.Pl
open Go.RowKit Go.Proofs.Ytbkkcoppncgegab.G Go.Proofs.YtbkkcoppncgegabW.PrintWords Go.Proofs.YtbkkcoppncgegabW.PrintLast Go.Proofs.YtbkkcoppncgegabW.PrintMore
set_option linter.unusedVariables false
set_option linter.unusedSimpArgs false
theorem ap_Copy (a : List Cm) (h : a.length < 4398046511104) : minuetlaw0_CopyComps.f a = some a := by
  unfold minuetlaw0_CopyComps.f
  simp only [Option.bind_some, List.length_nil, Nat.zero_add, if_pos h, List.nil_append]
theorem app_l0 (s t x y : ByteArray) (a b : List Cm) (ha : mayB a = true) (hb : mayB b = true) (ea : froms a = (s.size : Int)) (eb : froms b = (t.size : Int)) (hx : x = bs (ap (bl s) a)) (hy : y = bs (ap (bl t) b))
    (hst : (s.size : Int) + (t.size : Int) ≤ 4096) (hxy : (x.size : Int) + (y.size : Int) ≤ 4096) (hl : a.length + b.length ≤ 4096) : ∀ (suf pre : List Cm), b = pre ++ suf → Ev (fun k => minuetlaw3_ApplyParts.l0 k s t b x y (a ++ pre) (pre.length : Int)) true := by
  obtain ⟨a1, a2, a3⟩ := may_bounds ha
  obtain ⟨b1, b2, b3⟩ := may_bounds hb
  have ra := ((may_iff a).1 ha).2.1
  have rb := ((may_iff b).1 hb).2.1
  have xz : (x.size : Int) = tos a := by rw [hx, bs_size]; exact ap_len a2 _ (by rw [bl_len]; omega)
  have yz : (y.size : Int) = tos b := by rw [hy, bs_size]; exact ap_len b2 _ (by rw [bl_len]; omega)
  have gab : ∀ c ∈ a ++ b, good c := fun c hc => (List.mem_append.1 hc).elim (a2 c) (b2 c)
  have rab : ∀ c ∈ a ++ b, rawB c = true := fun c hc => (List.mem_append.1 hc).elim (ra c) (rb c)
  have hm := norm_may (a ++ b) (by rw [List.length_append]; exact hl) gab (by rw [froms_append]; omega) (by rw [tos_append]; omega)
  have hn : normal (a ++ b) = (norm (a ++ b), 0) := normal_ok (by rw [List.length_append]; exact hl) rab (by rw [froms_append]; omega) (by rw [tos_append]; omega)
  have hf : froms (norm (a ++ b)) = ((s ++ t).size : Int) := by rw [norm_froms gab, froms_append, ea, eb, ByteArray.size_append]; omega
  have hz : bs (ap (bl (s ++ t)) (norm (a ++ b))) = x ++ y := by
    rw [ap_norm gab, ap_app a2, bl_app, ap_more a2 _ _ (by rw [bl_len]; omega), ea, show ((s.size : Int)).toNat = (bl s).length by rw [bl_len]; rfl, List.drop_left, hx, hy, bs_app]
  intro suf
  induction suf with
  | nil =>
    intro pre e
    have e' : pre = b := by simpa using e.symm
    subst e'
    refine Ev.step (fun k => by rw [minuetlaw3_ApplyParts.l0]) ?_
    simp only [if_neg (nlt_of e)]
    refine Ev.bind (rNormal_ev (a ++ pre)) ?_
    rw [hn]
    simp only [if_pos (show s.size + t.size ≤ 9223372036854775807 by omega)]
    refine Ev.bind (Apply_ev _ _) ?_
    rw [apM_ok hm hf, hz]
    simp only [if_true, num_eq, Option.bind_some]
    rw [if_pos (show x.size + y.size ≤ 9223372036854775807 by omega), beq_self_eq_true]
    exact Ev.now _
  | cons c suf ih =>
    intro pre e
    have hlt := lt_len e
    refine Ev.step (fun k => by rw [minuetlaw3_ApplyParts.l0]) ?_
    simp only [if_pos (lt_of e), if_pos (nat_nonneg _), rd_of e, if_pos (show (a ++ pre).length < 4398046511104 by rw [List.length_append]; omega), len_next pre c (by omega)]
    have := ih (pre ++ [c]) (next_of e)
    rwa [← List.append_assoc] at this
theorem ApplyParts_pure {ok : Cm → Prop} (s : ByteArray) (a : List Cm) (t : ByteArray) (b : List Cm) (_hs : s.size ≤ 140737488351232) (_h : ∀ c ∈ a, ok c) (_hl : a.length * 32 ≤ 140737488351232) (_ht : t.size ≤ 140737488351232) (_h2 : ∀ c ∈ b, ok c) (_hl2 : b.length * 32 ≤ 140737488351232) : ∃ k, minuetlaw3_ApplyParts.f k s a t b = some true := by
  refine Ev.rounds (Ev.congr (fun k => by rw [minuetlaw3_ApplyParts.f]) (Ev.bind awake3 ?_))
  simp only [if_true]
  refine Ev.bind (Apply_ev s a) ?_
  refine Ev.bind (Apply_ev t b) ?_
  simp only [num_eq, Option.bind_some]
  have bad : Ev (fun k => minuetlaw3_ApplyParts.j0 k s a t b (apM s a).1 (apM s a).2 (apM t b).1 (apM t b).2 true) true := by
    refine Ev.step (fun k => by rw [minuetlaw3_ApplyParts.j0]) ?_
    simp only [if_true, num_eq, Option.bind_some]
    have e1 : ¬ (apM s a).2 = 0 → bl (apM s a).1 = [] := by intro h; unfold apM at h ⊢; split <;> simp_all [bl_nil]
    have e2 : ¬ (apM t b).2 = 0 → bl (apM t b).1 = [] := by intro h; unfold apM at h ⊢; split <;> simp_all [bl_nil]
    by_cases h1 : (apM s a).2 = 0
    · by_cases h2 : (apM t b).2 = 0
      · simp only [if_pos h1, if_pos h2]; exact Ev.now _
      · simp only [if_pos h1, if_neg h2, bl_to, e2 h2]; exact Ev.now _
    · by_cases h2 : (apM t b).2 = 0
      · simp only [if_neg h1, if_pos h2, bl_to, e1 h1, if_true]; exact Ev.now _
      · simp only [if_neg h1, if_neg h2, bl_to, e1 h1, e2 h2, if_true]; exact Ev.now _
  by_cases h1 : (apM s a).2 = 0
  · by_cases h2 : (apM t b).2 = 0
    · simp only [if_pos h1, if_pos h2]
      obtain ⟨ma, ea⟩ := (apM_iff s a).1 h1
      obtain ⟨mb, eb⟩ := (apM_iff t b).1 h2
      obtain ⟨a1, a2, a3⟩ := may_bounds ma
      obtain ⟨b1, b2, b3⟩ := may_bounds mb
      have f1 := froms_le a2; have f2 := froms_le b2; have g1 := tos_le a2; have g2 := tos_le b2
      have xz : ((apM s a).1.size : Int) = tos a := by rw [apM_ok ma ea, bs_size]; exact ap_len a2 _ (by rw [bl_len]; omega)
      have yz : ((apM t b).1.size : Int) = tos b := by rw [apM_ok mb eb, bs_size]; exact ap_len b2 _ (by rw [bl_len]; omega)
      by_cases k1 : wrap64 ((s.size : Int) + (t.size : Int)) > 4096
      · simp only [if_pos k1]; exact bad
      · simp only [if_neg k1]
        by_cases k2 : wrap64 (((apM s a).1.size : Int) + ((apM t b).1.size : Int)) > 4096
        · simp only [if_pos k2]; exact bad
        · simp only [if_neg k2]
          by_cases k3 : wrap64 ((a.length : Int) + (b.length : Int)) > 4096
          · rw [decide_eq_true k3]; exact bad
          · rw [decide_eq_false k3]
            rw [w64 (by omega) (by omega)] at k1 k2 k3
            refine Ev.step (fun k => by rw [minuetlaw3_ApplyParts.j0]) ?_
            simp only [Bool.false_eq_true, if_false, ap_Copy a (by omega), Option.bind_some]
            have := app_l0 s t (apM s a).1 (apM t b).1 a b ma mb ea eb (by rw [apM_ok ma ea]) (by rw [apM_ok mb eb]) (by omega) (by omega) (by omega) b [] rfl
            rw [List.append_nil] at this
            exact this
    · simp only [if_pos h1, if_neg h2]; exact bad
  · simp only [if_neg h1]; exact bad
end Go.Proofs.Ytbkkcoppncgegab.Pl
