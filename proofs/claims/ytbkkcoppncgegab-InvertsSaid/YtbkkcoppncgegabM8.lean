/- The reference's Invert comes to the same. -/
import Derived.Test.YtbkkcoppncgegabM7
import Derived.Test.YtbkkcoppncgegabGMinuetref1PInvert
namespace Go.Proofs.Ytbkkcoppncgegab.Pl
open Go.RowKit Go.Proofs.Ytbkkcoppncgegab.G Go.Proofs.YtbkkcoppncgegabW.PrintWords Go.Proofs.YtbkkcoppncgegabW.PrintLast
set_option linter.unusedVariables false
set_option linter.unusedSimpArgs false
theorem rInvert_l0 (s : ByteArray) (xs : List Cm) (hg : ∀ c ∈ xs, good c) (hl : xs.length ≤ 4096) (hf : froms xs = (s.size : Int)) (ht : tot xs ≤ 16777216) : ∀ (suf pre : List Cm) (out : List Cm), xs = pre ++ suf → (∀ c ∈ out, good c) → tot out = tot pre → out.length ≤ pre.length →
    Ev (fun k => minuetref1_Invert.l0 k s xs out (froms pre) (pre.length : Int)) ((bk ((bl s).drop (froms pre).toNat) suf).foldl add out, 0) := by
  intro suf
  induction suf with
  | nil =>
    intro pre out e ho hto hlo
    refine Ev.step (fun k => by rw [minuetref1_Invert.l0]) ?_
    simp only [if_neg (nlt_of e), bk, List.foldl_nil]
    exact Ev.now _
  | cons c suf ih =>
    intro pre out e ho hto hlo
    have hlt := lt_len e
    have hc := hg c (mem_of e)
    have hsuf : ∀ c ∈ suf, good c := fun d hd => hg d (by rw [e]; simp [hd])
    have hpre : ∀ c ∈ pre, good c := fun d hd => hg d (by rw [e]; simp [hd])
    have h0 := hc.1; have h1 := froms_le hpre; have h2 := froms_le hsuf; have h4 := tot_nonneg hpre
    have hf2 : froms pre + (c.f1 + froms suf) = (s.size : Int) := by rw [← hf, e, froms_append, froms_cons hc]
    have ht2 : tot pre + (sz c + tot suf) ≤ 16777216 := by have := ht; rw [e, tot_append] at this; simpa [tot] using this
    have hcz := good_sz hc
    have hle : c.f1 ≤ sz c := by unfold sz; omega
    have hb := bk1_good hc ((bl s).drop (froms pre).toNat)
    have hbz : sz (bk1 ((bl s).drop (froms pre).toNat) c) = sz c := bk1_sz hc _ (by rw [List.length_drop, bl_len]; omega)
    have hfp : froms (pre ++ [c]) = froms pre + c.f1 := by rw [froms_append, froms_cons hc]; simp [froms]
    have hw : wrap64 (froms pre + c.f1) = froms pre + c.f1 := w64 (by omega) (by omega)
    have hnext : Ev (fun k => minuetref1_Invert.l0 k s xs (add out (bk1 ((bl s).drop (froms pre).toNat) c)) (froms pre + c.f1) ((pre ++ [c]).length : Int)) ((bk ((bl s).drop (froms pre).toNat) (c :: suf)).foldl add out, 0) := by
      have := ih (pre ++ [c]) (add out (bk1 ((bl s).drop (froms pre).toNat) c)) (next_of e) (add_good ho hb) (by rw [tot_add ho hb, hbz, hto, tot_append]; simp [tot]) (by have := add_len out (bk1 ((bl s).drop (froms pre).toNat) c); simp only [List.length_append, List.length_cons, List.length_nil]; omega)
      rw [hfp, show (froms pre + c.f1).toNat = (froms pre).toNat + c.f1.toNat by omega, ← List.drop_drop] at this
      exact this
    have hadd := rAdd_ev out (bk1 ((bl s).drop (froms pre).toNat) c) ho hb (by omega) (by omega)
    refine Ev.step (fun k => by rw [minuetref1_Invert.l0]) ?_
    simp only [if_pos (lt_of e), if_pos (nat_nonneg _), rd_of e, len_next pre c (by omega), hw]
    rcases kinds hc with k | k | k
    · simp only [if_pos k]
      rw [bk1_0 k] at hadd hnext
      exact Ev.bind hadd hnext
    · have k0 : ¬ c.f0 = 0 := by omega
      have k2 : ¬ c.f0 = 2 := by omega
      have hz := hc.2.2.1 k
      simp only [if_neg k0, if_neg k2]
      rw [bk1_1 k] at hadd hnext
      rw [hz, Int.add_zero] at hnext
      exact Ev.bind hadd hnext
    · have k0 : ¬ c.f0 = 0 := by omega
      simp only [if_neg k0, if_pos k, if_pos h1.1, if_pos (show froms pre ≤ froms pre + c.f1 by omega), if_pos (show froms pre + c.f1 ≤ (s.size : Int) by omega)]
      have hx : s.extract (froms pre).toNat (froms pre + c.f1).toNat = bs (((bl s).drop (froms pre).toNat).take c.f1.toNat) := by
        apply bl_inj; rw [bl_ext, bl_bs, show (froms pre + c.f1).toNat - (froms pre).toNat = c.f1.toNat by omega]
      rw [bk1_2 k, ← hx] at hadd hnext
      exact Ev.bind hadd hnext
theorem rInvert_ev (s : ByteArray) (cs : List Cm) : Ev (fun k => minuetref1_Invert.f k s cs) (ivM s cs) := by
  refine Ev.congr (fun k => by rw [minuetref1_Invert.f]) (Ev.bind (rApply_ev s cs) ?_)
  by_cases h : mayB cs = true ∧ froms cs = (s.size : Int)
  · rw [apM_ok h.1 h.2, ivM_ok h.1 h.2]
    obtain ⟨h1, h2, h3⟩ := may_bounds h.1
    simp only [if_true]
    have := rInvert_l0 s cs h2 h1 h.2 h3 cs [] [] rfl no_good rfl (by simp)
    refine Ev_cast this ?_
    simp [froms, norm]
  · rw [apM_err h, ivM_err h]
    simp only [Int.reduceEq, if_false]
    exact Ev.now _
end Go.Proofs.Ytbkkcoppncgegab.Pl
