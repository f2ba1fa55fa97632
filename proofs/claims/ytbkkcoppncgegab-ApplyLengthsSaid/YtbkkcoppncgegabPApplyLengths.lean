/- The plain law ApplyLengths: no program in sight but the printed function. -/
import Derived.Test.YtbkkcoppncgegabA1
import Derived.Test.YtbkkcoppncgegabGMinuetlaw3PApplyLengths
namespace Go.Proofs.Ytbkkcoppncgegab.Pl
open Go.RowKit Go.Proofs.Ytbkkcoppncgegab.G Go.Proofs.YtbkkcoppncgegabW.PrintWords Go.Proofs.YtbkkcoppncgegabW.PrintLast Go.Proofs.YtbkkcoppncgegabW.PrintMore
set_option linter.unusedVariables false
set_option linter.unusedSimpArgs false
theorem al_l0 (s : List UInt8) (xs : List Cm) (t : ByteArray) (hg : ∀ c ∈ xs, good c) (hl : xs.length ≤ 4096) (ht : bl t = ap s xs) (hs : froms xs = (s.length : Int)) (htt : tot xs ≤ 16777216) : ∀ (suf pre : List Cm), xs = pre ++ suf →
    Ev (fun k => minuetlaw3_ApplyLengths.l0 k xs t (tos pre) (pre.length : Int)) true := by
  have hsz : (t.size : Int) = tos xs := by rw [← bl_len, ht]; exact ap_len hg s (by omega)
  intro suf
  induction suf with
  | nil =>
    intro pre e
    refine Ev.step (fun k => by rw [minuetlaw3_ApplyLengths.l0]) ?_
    have e' : xs = pre := by simpa using e
    simp only [if_neg (nlt_of e)]
    rw [show (tos pre == (t.size : Int)) = true by rw [hsz, e']; simp]
    exact Ev.now _
  | cons c suf ih =>
    intro pre e
    have hlt := lt_len e
    have hc := hg c (mem_of e)
    have hpre : ∀ c ∈ pre, good c := fun d hd => hg d (by rw [e]; simp [hd])
    have hsuf : ∀ c ∈ suf, good c := fun d hd => hg d (by rw [e]; simp [hd])
    have h0 := hc.1; have h1 := tos_le hpre; have h2 := tos_le hsuf; have h5 := froms_le hpre; have h6 := froms_le hsuf
    have h3 : froms pre + (c.f1 + froms suf) = (s.length : Int) := by rw [← hs, e, froms_append, froms_cons hc]
    have h4 : tos pre + ((if c.f0 = 2 then 0 else sz c) + tos suf) = (t.size : Int) := by rw [hsz, e, tos_append]; rfl
    have h7 : tot pre + (sz c + tot suf) ≤ 16777216 := by have := htt; rw [e, tot_append] at this; simpa [tot] using this
    have hcz := good_sz hc
    refine Ev.step (fun k => by rw [minuetlaw3_ApplyLengths.l0]) ?_
    simp only [if_pos (lt_of e), if_pos (nat_nonneg _), rd_of e, len_next pre c (by omega)]
    have hn := ih (pre ++ [c]) (next_of e)
    have ht1 : tos (pre ++ [c]) = tos pre + (if c.f0 = 2 then 0 else sz c) := by rw [tos_append]; simp [tos]
    rw [ht1] at hn
    by_cases k0 : c.f0 = 0
    · have hz := hc.2.2.2 (by omega)
      have k2 : ¬ c.f0 = 2 := by omega
      have e1 : sz c = c.f1 := by unfold sz; omega
      rw [if_neg k2, e1] at hn h4
      simp only [if_pos k0]
      rw [show wrap64 (tos pre + c.f1) = tos pre + c.f1 from w64 (by omega) (by omega)]
      exact hn
    · by_cases k1 : c.f0 = 1
      · have hz := hc.2.2.1 k1
        have k2 : ¬ c.f0 = 2 := by omega
        have e1 : sz c = (c.f2.size : Int) := by unfold sz; omega
        rw [if_neg k2, e1] at hn h4
        simp only [if_neg k0, if_pos k1]
        rw [show wrap64 (tos pre + (c.f2.size : Int)) = tos pre + (c.f2.size : Int) from w64 (by omega) (by omega), show wrap64 ((t.size : Int) - (c.f2.size : Int)) = (t.size : Int) - (c.f2.size : Int) from w64 (by omega) (by omega)]
        have hx : (t.extract (tos pre).toNat (tos pre + (c.f2.size : Int)).toNat).toList = c.f2.toList := by
          rw [bl_to, bl_to, bl_ext, ht, e, ap_app hpre]
          have hl1 : (ap s pre).length = (tos pre).toNat := by have := ap_len hpre s (by omega); omega
          rw [List.drop_append_of_le_length (by omega), ← hl1, List.drop_length, List.nil_append]
          simp only [ap, if_neg k0, List.nil_append]
          rw [List.take_append_of_le_length (by rw [bl_len]; omega), List.take_of_length_le (by rw [bl_len]; omega)]
        simp only [if_neg (show ¬ tos pre > (t.size : Int) - (c.f2.size : Int) by omega), if_pos h1.1, if_pos (show tos pre ≤ tos pre + (c.f2.size : Int) by omega), if_pos (show tos pre + (c.f2.size : Int) ≤ (t.size : Int) by omega), if_pos hx]
        exact hn
      · have k2 : c.f0 = 2 := by have := hc.2.1; omega
        rw [if_pos k2, Int.add_zero] at hn
        simp only [if_neg k0, if_neg k1]
        exact hn
theorem ApplyLengths_pure {ok : Cm → Prop} (s : ByteArray) (cs : List Cm) (_hs : s.size ≤ 140737488351232) (_h : ∀ c ∈ cs, ok c) (_hl : cs.length * 32 ≤ 140737488351232) : ∃ k, minuetlaw3_ApplyLengths.f k s cs = some true := by
  refine Ev.rounds (Ev.congr (fun k => by rw [minuetlaw3_ApplyLengths.f]) (Ev.bind awake3 ?_))
  simp only [if_true]
  refine Ev.bind (Apply_ev s cs) ?_
  refine Ev.bind (rLengths_ev cs) ?_
  simp only [num_eq, Option.bind_some]
  by_cases h : mayB cs = true
  · obtain ⟨h1, h2, h3⟩ := may_bounds h
    rw [lens_ok cs h]
    by_cases e : froms cs = (s.size : Int)
    · rw [apM_ok h e]
      simp only [if_true, if_pos e]
      refine Ev.step (fun k => by rw [minuetlaw3_ApplyLengths.j0]) ?_
      have hz : ((bs (ap (bl s) cs)).size : Int) = tos cs := by rw [bs_size]; exact ap_len h2 _ (by rw [bl_len]; omega)
      have : (tos cs != ((bs (ap (bl s) cs)).size : Int)) = false := by rw [hz]; simp
      simp only [this, Bool.false_eq_true, if_false]
      exact al_l0 (bl s) cs _ h2 h1 (bl_bs _) (by rw [bl_len]; exact e) h3 cs [] rfl
    · rw [apM_err (by omega)]
      have : (froms cs != (s.size : Int)) = true := by simpa using e
      simp only [Int.reduceEq, if_false, if_true, this, bl_to, bl_nil]
      exact Ev.now _
  · rw [lens_err cs h, apM_err (fun hh => h hh.1)]
    simp only [Int.reduceEq, if_false, if_true, bl_to, bl_nil]
    exact Ev.now _
end Go.Proofs.Ytbkkcoppncgegab.Pl
