/- What comp.Normal comes to. -/
import Derived.Test.YtgbajaljfbgilaaB1
import Derived.Test.YtgbajaljfbgilaaGCompPNormal
namespace Go.Proofs.Ytgbajaljfbgilaa.Pl
open Go.RowKit Go.Proofs.Ytgbajaljfbgilaa.G Go.Proofs.YtgbajaljfbgilaaW.PrintWords Go.Proofs.YtgbajaljfbgilaaW.PrintLast
set_option linter.unusedVariables false
set_option linter.unusedSimpArgs false
theorem Normal_l0 (xs : List Cm) (hl : xs.length ≤ 4096) : ∀ (suf pre out : List Cm), xs = pre ++ suf → (∀ c ∈ pre, rawB c = true) → (∀ c ∈ out, good c) → tot out = tot pre → out.length ≤ pre.length →
    Ev (fun k => comp_Normal.l0 k out xs (xs.length : Int) (pre.length : Int)) (if suf.all rawB && inB (suf.foldl add out) then (suf.foldl add out, 0) else ([], 200)) := by
  intro suf
  induction suf with
  | nil =>
    intro pre out e hp ho ht hn
    have hpl : pre.length ≤ 4096 := by
      have hx : xs = pre := by simpa using e
      rw [← hx]; exact hl
    have := tot_raw hp
    refine Ev.step (fun k => by rw [comp_Normal.l0]) ?_
    simp only [if_neg (nlt_of e), List.all_nil, Bool.true_and, List.foldl_nil]
    refine Ev.bind (within_ev out ho (by omega) (by omega)) ?_
    show Ev _ (if inB out = true then _ else _)
    unfold inB
    exact Ev.congr (fun k => by split <;> rfl) (Ev.now _)
  | cons c suf ih =>
    intro pre out e hp ho ht hn
    have hlt := lt_len e
    have hpt := tot_raw hp
    refine Ev.step (fun k => by rw [comp_Normal.l0]) ?_
    simp only [if_pos (lt_of e), if_pos (nat_nonneg _), rd_of e, len_next pre c (by omega)]
    refine Ev.bind (raw_ev c) ?_
    by_cases hr : rawB c = true
    · have hg := raw_good hr
      have hz := raw_sz hr
      simp only [hr, if_true, List.all_cons, Bool.true_and, List.foldl_cons]
      refine Ev.bind (Add_ev out c ho hg (by omega) (by omega)) ?_
      refine ih (pre ++ [c]) (add out c) (next_of e) (fun d hd => ?_) (add_good ho hg) ?_ ?_
      · rcases List.mem_append.1 hd with hd | hd
        · exact hp d hd
        · rw [List.mem_singleton.1 hd]; exact hr
      · rw [tot_add ho hg, tot_append, ht]; simp [tot]
      · have := add_len out c; simp only [List.length_append, List.length_cons, List.length_nil]; omega
    · have hr' : rawB c = false := by simpa using hr
      simp only [hr', Bool.false_eq_true, if_false, List.all_cons, Bool.false_and]; exact Ev.now _
theorem Normal_ev (xs : List Cm) : Ev (fun k => comp_Normal.f k xs) (normal xs) := by
  unfold comp_Normal.f normal
  by_cases h : xs.length ≤ 4096
  · have h1 : ¬ ((xs.length : Int) > 4096) := by omega
    simp only [if_neg h1, decide_eq_true h, Bool.true_and]
    have := Normal_l0 xs h xs [] [] rfl (fun c hc => by cases hc) (fun c hc => by cases hc) rfl (by simp)
    simpa [norm] using this
  · have h1 : (xs.length : Int) > 4096 := by omega
    simp only [if_pos h1, decide_eq_false h, Bool.false_and, Bool.false_eq_true, if_false]
    exact Ev.now _
end Go.Proofs.Ytgbajaljfbgilaa.Pl
