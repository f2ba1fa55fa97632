/- Edits upon texts: what the reference's Apply comes to. -/
import Derived.Test.YtldaokclpkcmmabM6a
import Derived.Test.YtldaokclpkcmmabGMinuetref1PApply
namespace Go.Proofs.Ytldaokclpkcmmab.Pl
open Go.RowKit Go.Proofs.Ytldaokclpkcmmab.G Go.Proofs.YtldaokclpkcmmabW.PrintWords Go.Proofs.YtldaokclpkcmmabW.PrintLast
set_option linter.unusedVariables false
set_option linter.unusedSimpArgs false

theorem rApply_l0 (s : ByteArray) (xs : List Cm) (hg : ∀ c ∈ xs, good c) (hl : xs.length ≤ 4096) (hf : froms xs = (s.size : Int)) (ht : tot xs ≤ 16777216) : ∀ (suf pre : List Cm) (out : ByteArray), xs = pre ++ suf → (out.size : Int) + tot suf ≤ 16777216 →
    Ev (fun k => minuetref1_Apply.l0 k s xs out (froms pre) (pre.length : Int)) (out ++ bs (ap ((bl s).drop (froms pre).toNat) suf), 0) := by
  intro suf
  induction suf with
  | nil =>
    intro pre out e ho
    refine Ev.step (fun k => by rw [minuetref1_Apply.l0]) ?_
    simp only [if_neg (nlt_of e), ap]
    rw [show out ++ bs [] = out by apply bl_inj; rw [bl_app, bl_bs, List.append_nil]]
    exact Ev.now _
  | cons c suf ih =>
    intro pre out e ho
    have hlt := lt_len e
    have hc := hg c (mem_of e)
    have hpre : ∀ c ∈ pre, good c := fun d hd => hg d (by rw [e]; simp [hd])
    have hsuf : ∀ c ∈ suf, good c := fun d hd => hg d (by rw [e]; simp [hd])
    have h0 := hc.1; have h1 := froms_le hpre; have h2 := froms_le hsuf
    have hf2 : froms pre + (c.f1 + froms suf) = (s.size : Int) := by rw [← hf, e, froms_append, froms_cons hc]
    have ht2 : tot pre + (sz c + tot suf) ≤ 16777216 := by have := ht; rw [e, tot_append] at this; simpa [tot] using this
    simp only [tot] at ho
    have hsz := good_sz hc
    have hle : c.f1 ≤ sz c := by unfold sz; omega
    have hfp : froms (pre ++ [c]) = froms pre + c.f1 := by rw [froms_append, froms_cons hc]; simp [froms]
    have hw : wrap64 (froms pre + c.f1) = froms pre + c.f1 := w64 (by omega) (by omega)
    refine Ev.step (fun k => by rw [minuetref1_Apply.l0]) ?_
    simp only [if_pos (lt_of e), if_pos (nat_nonneg _), rd_of e, len_next pre c (by omega), hw]
    by_cases k0 : c.f0 = 0
    · have hz := hc.2.2.2 (by omega)
      have hx : (s.extract (froms pre).toNat (froms pre + c.f1).toNat).size = c.f1.toNat := by
        rw [← bl_len, bl_ext, List.length_take, List.length_drop, bl_len]; omega
      simp only [if_pos k0, if_pos h1.1, if_pos (show froms pre ≤ froms pre + c.f1 by omega), if_pos (show froms pre + c.f1 ≤ (s.size : Int) by omega), hx]
      simp only [sz] at ho
      simp only [if_pos (show out.size + c.f1.toNat ≤ 9223372036854775807 by omega)]
      have := ih (pre ++ [c]) (out ++ s.extract (froms pre).toNat (froms pre + c.f1).toNat) (next_of e) (by rw [ByteArray.size_append, hx]; omega)
      rw [hfp] at this
      refine Ev_cast this ?_
      congr 1
      apply bl_inj
      simp only [bl_app, bl_bs, bl_ext, ap, if_pos k0, size0 hz, List.nil_append, List.append_assoc, List.drop_drop]
      rw [show (froms pre + c.f1).toNat = (froms pre).toNat + c.f1.toNat by omega, Nat.add_sub_cancel_left]
    · by_cases k2 : c.f0 = 2
      · have hz := hc.2.2.2 (by omega)
        simp only [if_neg k0, if_pos k2]
        have := ih (pre ++ [c]) out (next_of e) (by omega)
        rw [hfp] at this
        refine Ev_cast this ?_
        congr 1
        apply bl_inj
        simp only [bl_app, bl_bs, ap, if_neg k0, size0 hz, List.nil_append, List.drop_drop]
        rw [show (froms pre + c.f1).toNat = (froms pre).toNat + c.f1.toNat by omega]
      · have hz := hc.2.2.1 (by have := hc.2.1; omega)
        simp only [sz] at ho
        simp only [if_neg k0, if_neg k2]
        simp only [if_pos (show out.size + c.f2.size ≤ 9223372036854775807 by omega)]
        have := ih (pre ++ [c]) (out ++ c.f2) (next_of e) (by rw [ByteArray.size_append]; omega)
        rw [hfp, hz, Int.add_zero] at this
        refine Ev_cast this ?_
        congr 1
        apply bl_inj
        simp only [bl_app, bl_bs, ap, if_neg k0, hz, List.nil_append, List.append_assoc, Int.toNat_zero, List.drop_zero]
theorem rApply_ev (s : ByteArray) (cs : List Cm) : Ev (fun k => minuetref1_Apply.f k s cs) (apM s cs) := by
  refine Ev.congr (fun k => by rw [minuetref1_Apply.f]) (Ev.bind (rLengths_ev cs) ?_)
  unfold apM
  by_cases h : mayB cs = true
  · rw [lens_ok cs h]
    obtain ⟨h1, h2, h3⟩ := may_bounds h
    simp only [if_true, h, true_and]
    refine Ev.step (fun k => by rw [minuetref1_Apply.j0]) ?_
    by_cases e : froms cs = (s.size : Int)
    · have : (froms cs != (s.size : Int)) = false := by simpa using e
      simp only [this, Bool.false_eq_true, if_false, if_pos e]
      have := rApply_l0 s cs h2 h1 e h3 cs [] ⟨#[]⟩ rfl (by have : (⟨#[]⟩ : ByteArray).size = 0 := rfl; omega)
      refine Ev_cast this ?_
      congr 1
    · have : (froms cs != (s.size : Int)) = true := by simpa using e
      simp only [this, if_true, if_neg e]; exact Ev.now _
  · rw [lens_err cs h]
    simp only [h, Bool.false_eq_true, false_and, if_false]
    simp only [Int.reduceEq, if_false]
    refine Ev.step (fun k => by rw [minuetref1_Apply.j0]) ?_
    simp only [if_true]; exact Ev.now _
end Go.Proofs.Ytldaokclpkcmmab.Pl
