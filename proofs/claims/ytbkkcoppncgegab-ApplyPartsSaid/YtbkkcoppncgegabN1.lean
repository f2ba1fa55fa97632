/- When an edit's normal form may be. -/
import Derived.Test.YtbkkcoppncgegabD1
namespace Go.Proofs.Ytbkkcoppncgegab.Pl
open Go.RowKit Go.Proofs.Ytbkkcoppncgegab.G Go.Proofs.YtbkkcoppncgegabW.PrintWords Go.Proofs.YtbkkcoppncgegabW.PrintLast
set_option linter.unusedVariables false
set_option linter.unusedSimpArgs false
theorem no_good : ∀ d ∈ ([] : List Cm), good d := fun d hd => by cases hd
theorem norm_froms {cs : List Cm} (hg : ∀ c ∈ cs, good c) : froms (norm cs) = froms cs := by unfold norm; rw [fold_froms no_good hg]; simp [froms]
theorem norm_tos {cs : List Cm} (hg : ∀ c ∈ cs, good c) : tos (norm cs) = tos cs := by unfold norm; rw [fold_tos no_good hg]; simp [tos]
theorem froms_mem {cs : List Cm} (hg : ∀ c ∈ cs, good c) {c : Cm} (hc : c ∈ cs) : c.f1 ≤ froms cs := by
  obtain ⟨a, b, rfl⟩ := List.append_of_mem hc
  have ha := froms_le (a := a) (fun d hd => hg d (by simp [hd])); have hb := froms_le (a := b) (fun d hd => hg d (by simp [hd]))
  have h := hg c hc
  rw [froms_append]; simp only [froms]
  split
  · rename_i k; have := h.2.2.1 k; omega
  · omega
theorem tos_mem {cs : List Cm} (hg : ∀ c ∈ cs, good c) {c : Cm} (hc : c ∈ cs) (k : c.f0 = 1) : (c.f2.size : Int) ≤ tos cs := by
  obtain ⟨a, b, rfl⟩ := List.append_of_mem hc
  have ha := tos_le (a := a) (fun d hd => hg d (by simp [hd])); have hb := tos_le (a := b) (fun d hd => hg d (by simp [hd]))
  have h := hg c hc
  have := h.1
  rw [tos_append]; simp only [tos, sz]
  rw [if_neg (by omega)]; omega
/-- Good pieces are raw ones if all together is short. -/
theorem raw_of {cs : List Cm} (hg : ∀ c ∈ cs, good c) (h1 : froms cs ≤ 4096) (h2 : tos cs ≤ 4096) : ∀ c ∈ cs, rawB c = true := by
  intro c hc
  have h := hg c hc
  have a := froms_mem hg hc
  have h0 := h.1
  refine decide_eq_true ?_
  by_cases k : c.f0 = 1
  · have := tos_mem hg hc k
    exact .inr ⟨k, h.2.2.1 k, by omega⟩
  · exact .inl ⟨by have := h.2.1; omega, h.1, by omega, h.2.2.2 k⟩
theorem may_of_nf {cs : List Cm} (hl : cs.length ≤ 4096) (hg : ∀ c ∈ cs, good c) (hn : nf cs) (h1 : froms cs ≤ 4096) (h2 : tos cs ≤ 4096) : mayB cs = true :=
  (may_iff cs).2 ⟨hl, raw_of hg h1 h2, hn, h1, h2⟩
theorem norm_may (cs : List Cm) (hl : cs.length ≤ 4096) (hg : ∀ c ∈ cs, good c) (h1 : froms cs ≤ 4096) (h2 : tos cs ≤ 4096) : mayB (norm cs) = true :=
  may_of_nf (by have := fold_len cs []; simp only [List.length_nil] at this; unfold norm; omega) (norm_good hg) (norm_nf hg) (by rw [norm_froms hg]; exact h1) (by rw [norm_tos hg]; exact h2)
theorem normal_ok {cs : List Cm} (hl : cs.length ≤ 4096) (hr : ∀ c ∈ cs, rawB c = true) (h1 : froms cs ≤ 4096) (h2 : tos cs ≤ 4096) : normal cs = (norm cs, 0) := by
  have hg : ∀ c ∈ cs, good c := fun c hc => raw_good (hr c hc)
  unfold normal
  rw [if_pos]
  simp only [Bool.and_eq_true, decide_eq_true_eq, List.all_eq_true, inB, norm_froms hg, norm_tos hg]
  exact ⟨hl, hr, h1, h2⟩
end Go.Proofs.Ytbkkcoppncgegab.Pl
