/- What comp.Add and comp.Normal come to. -/
import Derived.Test.YtbkkcoppncgegaaM2
import Derived.Test.YtbkkcoppncgegaaGCompPAdd
import Derived.Test.YtbkkcoppncgegaaGCompPNormal
namespace Go.Proofs.Ytbkkcoppncgegaa.Pl
open Go.RowKit Go.Proofs.Ytbkkcoppncgegaa.G Go.Proofs.YtbkkcoppncgegaaW.PrintWords Go.Proofs.YtbkkcoppncgegaaW.PrintLast
set_option linter.unusedVariables false
set_option linter.unusedSimpArgs false

theorem set_last (p : List Cm) (d e : Cm) : (p ++ [d]).set ((p.length : Int)).toNat e = p ++ [e] := by simp
theorem last_ix (p : List Cm) (d : Cm) (h : p.length < 4398046511104) : wrap64 (((p ++ [d]).length : Int) - 1) = (p.length : Int) := by
  simp only [List.length_append, List.length_cons, List.length_nil]
  rw [w64 (by omega) (by omega)]; omega
theorem Add_rev : ∀ (q : List Cm) (c : Cm), (∀ d ∈ q, good d) → good c → tot q + sz c < 4611686018427387904 → q.length < 4398046511100 →
    Ev (fun k => comp_Add.f k q.reverse c.f0 c.f1 c.f2) (addR q c).reverse := by
  intro q
  induction q with
  | nil =>
    intro c hq hc hb hl
    have hz := good_sz hc
    simp only [tot, Int.zero_add] at hb
    refine Ev.step (fun k => by rw [comp_Add.f]) ?_
    simp only [Size_eq c hc (by omega), Option.bind_some, addR]
    by_cases h0 : sz c = 0
    · simp only [if_pos h0]; exact Ev.now _
    · simp only [if_neg h0, List.reverse_nil, List.length_nil]
      have e1 : wrap64 (((0 : Nat) : Int) - 1) = -1 := by rw [w64 (by omega) (by omega)]; rfl
      have e2 : ¬ ((-1 : Int) ≥ 0) := by omega
      simp only [e1, if_neg e2]
      refine Ev.step (fun k => by rw [comp_Add.j0]) ?_
      simp only [Bool.false_eq_true, if_false, if_neg e2, Option.bind_some]
      exact Ev.now _
  | cons d q ih =>
    intro c hq hc hb hl
    have hz := good_sz hc
    have hd := hq d List.mem_cons_self
    have hdz := good_sz hd
    have hq' : ∀ e ∈ q, good e := fun e he => hq e (List.mem_cons_of_mem _ he)
    have htq := tot_nonneg hq'
    simp only [tot] at hb
    simp only [List.length_cons] at hl
    have hql : q.reverse.length = q.length := List.length_reverse
    refine Ev.step (fun k => by rw [comp_Add.f]) ?_
    simp only [Size_eq c hc (by omega), Option.bind_some, addR]
    by_cases h0 : sz c = 0
    · simp only [if_pos h0]; exact Ev.now _
    · simp only [if_neg h0, List.reverse_cons]
      have e0 := last_ix q.reverse d (by omega)
      have e1 : ((q.reverse.length : Int)) ≥ 0 := by omega
      have e2 : ((q.reverse.length : Int)) < ((q.reverse ++ [d]).length : Int) := by simp only [List.length_append, List.length_cons, List.length_nil]; omega
      have e3 : rd_T40 (q.reverse ++ [d]) (q.reverse.length : Int) = d := rd_of (suf := []) rfl
      have e1' : (0 : Int) ≤ (q.reverse.length : Int) := e1
      simp only [e0, if_pos e1, if_pos e1', if_pos e2, e3]
      refine Ev.step (fun k => by rw [comp_Add.j0]) ?_
      by_cases h1 : d.f0 = c.f0
      · have e4 : (d.f0 == c.f0) = true := by simpa using h1
        simp only [e4, if_true, if_pos e1', if_pos e2, e3, if_pos h1, set_last, Option.bind_some]
        have e5 : rd_T40 (q.reverse ++ [(⟨d.f0, wrap64 (d.f1 + c.f1), d.f2⟩ : Cm)]) (q.reverse.length : Int) = ⟨d.f0, wrap64 (d.f1 + c.f1), d.f2⟩ := rd_of (suf := []) rfl
        simp only [e5, set_last]
        have h2 := hd.1; have h3 := hc.1
        have e6 : d.f2.size + c.f2.size ≤ 9223372036854775807 := by simp only [sz] at hb; omega
        have e7 : wrap64 (d.f1 + c.f1) = d.f1 + c.f1 := by simp only [sz] at hb; exact w64 (by omega) (by omega)
        simp only [if_pos e6, e7, List.reverse_cons]
        exact Ev.now _
      · have e4 : (d.f0 == c.f0) = false := by simpa using h1
        simp only [e4, Bool.false_eq_true, if_false, if_pos e1, if_pos e1', if_pos e2, e3, if_neg h1, Option.bind_some]
        have e8 : (q.reverse ++ [d]).length + 1 < 4398046511104 := by simp only [List.length_append, List.length_cons, List.length_nil]; omega
        by_cases h2 : c.f0 = 1
        · by_cases h3 : d.f0 = 2
          · have e9 : ((q.reverse.length : Int)) ≤ ((q.reverse ++ [d]).length : Int) := Int.le_of_lt e2
            have e10 : (q.reverse ++ [d]).take ((q.reverse.length : Int)).toNat = q.reverse := by simp
            simp only [if_pos h2, if_pos h3, if_pos e9, e10, h2, h3, and_self, if_true, List.reverse_cons]
            have e11 : ((addR q c).reverse.length + [d].length < 4398046511104) := by
              have := addR_len q c
              simp only [List.length_reverse, List.length_cons, List.length_nil]; omega
            have := ih c hq' hc (by omega) (by omega)
            simp only [h2] at this
            refine Ev.bind this ?_
            have ed : (⟨2, d.f1, d.f2⟩ : Cm) = d := by rw [← h3]
            simp only [ed, if_pos e11]
            exact Ev.now _
          · have h4 : ¬ (c.f0 = 1 ∧ d.f0 = 2) := by omega
            simp only [if_pos h2, if_neg h3, if_neg h4, List.length_cons, List.length_nil, Nat.zero_add, if_pos e8, List.reverse_cons]
            exact Ev.now _
        · have h4 : ¬ (c.f0 = 1 ∧ d.f0 = 2) := by omega
          simp only [if_neg h2, if_neg h4, List.length_cons, List.length_nil, Nat.zero_add, if_pos e8, List.reverse_cons]
          exact Ev.now _
theorem Add_ev (l : List Cm) (c : Cm) (hl : ∀ d ∈ l, good d) (hc : good c) (hb : tot l + sz c < 4611686018427387904) (hn : l.length < 4398046511100) :
    Ev (fun k => comp_Add.f k l c.f0 c.f1 c.f2) (add l c) := by
  have ht : tot l.reverse = tot l := by rw [tot_sum, tot_sum, sumOf_reverse]
  have := Add_rev l.reverse c (fun d hd => hl d (by simpa using hd)) hc (by omega) (by simpa using hn)
  rw [List.reverse_reverse] at this
  exact this

/-! Normal -/
def inB (xs : List Cm) : Bool := decide (froms xs ≤ 4096) && decide (tos xs ≤ 4096)
def normal (cs : List Cm) : List Cm × Int :=
  if decide (cs.length ≤ 4096) && (cs.all rawB && inB (norm cs)) then (norm cs, 0) else ([], 200)
theorem Normal_l0 (xs : List Cm) (hl : xs.length ≤ 4096) : ∀ (suf pre out : List Cm), xs = pre ++ suf → (∀ c ∈ pre, rawB c = true) → (∀ c ∈ out, good c) → tot out = tot pre → out.length ≤ pre.length →
    Ev (fun k => comp_Normal.l0 k out xs (xs.length : Int) (pre.length : Int)) (if suf.all rawB && inB (suf.foldl add out) then (suf.foldl add out, 0) else ([], 200)) := by
  intro suf
  induction suf with
  | nil =>
    intro pre out e hp ho ht hn
    have hpl : pre.length ≤ 4096 := by
      have hx : xs = pre := by simpa using e
      rw [← hx]; exact hl
    have := tot_raw hp
    refine Ev.step (fun k => by rw [comp_Normal.l0]) ?_
    simp only [if_neg (nlt_of e), List.all_nil, Bool.true_and, List.foldl_nil]
    refine Ev.bind (within_ev out ho (by omega) (by omega)) ?_
    show Ev _ (if inB out = true then _ else _)
    unfold inB
    exact Ev.congr (fun k => by split <;> rfl) (Ev.now _)
  | cons c suf ih =>
    intro pre out e hp ho ht hn
    have hlt := lt_len e
    have hpt := tot_raw hp
    refine Ev.step (fun k => by rw [comp_Normal.l0]) ?_
    simp only [if_pos (lt_of e), if_pos (nat_nonneg _), rd_of e, len_next pre c (by omega)]
    refine Ev.bind (raw_ev c) ?_
    by_cases hr : rawB c = true
    · have hg := raw_good hr
      have hz := raw_sz hr
      simp only [hr, if_true, List.all_cons, Bool.true_and, List.foldl_cons]
      refine Ev.bind (Add_ev out c ho hg (by omega) (by omega)) ?_
      refine ih (pre ++ [c]) (add out c) (next_of e) (fun d hd => ?_) (add_good ho hg) ?_ ?_
      · rcases List.mem_append.1 hd with hd | hd
        · exact hp d hd
        · rw [List.mem_singleton.1 hd]; exact hr
      · rw [tot_add ho hg, tot_append, ht]; simp [tot]
      · have := add_len out c; simp only [List.length_append, List.length_cons, List.length_nil]; omega
    · have hr' : rawB c = false := by simpa using hr
      simp only [hr', Bool.false_eq_true, if_false, List.all_cons, Bool.false_and]; exact Ev.now _
theorem Normal_ev (xs : List Cm) : Ev (fun k => comp_Normal.f k xs) (normal xs) := by
  unfold comp_Normal.f normal
  by_cases h : xs.length ≤ 4096
  · have h1 : ¬ ((xs.length : Int) > 4096) := by omega
    simp only [if_neg h1, decide_eq_true h, Bool.true_and]
    have := Normal_l0 xs h xs [] [] rfl (fun c hc => by cases hc) (fun c hc => by cases hc) rfl (by simp)
    simpa [norm] using this
  · have h1 : (xs.length : Int) > 4096 := by omega
    simp only [if_pos h1, decide_eq_false h, Bool.false_and, Bool.false_eq_true, if_false]
    exact Ev.now _
end Go.Proofs.Ytbkkcoppncgegaa.Pl
