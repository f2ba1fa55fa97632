/- What comp.Add comes to; the normal form's model. -/
import Derived.Test.YtbkkcoppncgegabM2
import Derived.Test.YtbkkcoppncgegabGCompPAdd
namespace Go.Proofs.Ytbkkcoppncgegab.Pl
open Go.RowKit Go.Proofs.Ytbkkcoppncgegab.G Go.Proofs.YtbkkcoppncgegabW.PrintWords Go.Proofs.YtbkkcoppncgegabW.PrintLast
set_option linter.unusedVariables false
set_option linter.unusedSimpArgs false

theorem set_last (p : List Cm) (d e : Cm) : (p ++ [d]).set ((p.length : Int)).toNat e = p ++ [e] := by simp
theorem last_ix (p : List Cm) (d : Cm) (h : p.length < 4398046511104) : wrap64 (((p ++ [d]).length : Int) - 1) = (p.length : Int) := by
  simp only [List.length_append, List.length_cons, List.length_nil]
  rw [w64 (by omega) (by omega)]; omega
theorem Add_rev : ∀ (q : List Cm) (c : Cm), (∀ d ∈ q, good d) → good c → tot q + sz c < 4611686018427387904 → q.length < 4398046511100 →
    Ev (fun k => comp_Add.f k q.reverse c.f0 c.f1 c.f2) (addR q c).reverse := by
  intro q
  induction q with
  | nil =>
    intro c hq hc hb hl
    have hz := good_sz hc
    simp only [tot, Int.zero_add] at hb
    refine Ev.step (fun k => by rw [comp_Add.f]) ?_
    simp only [Size_eq c hc (by omega), Option.bind_some, addR]
    by_cases h0 : sz c = 0
    · simp only [if_pos h0]; exact Ev.now _
    · simp only [if_neg h0, List.reverse_nil, List.length_nil]
      have e1 : wrap64 (((0 : Nat) : Int) - 1) = -1 := by rw [w64 (by omega) (by omega)]; rfl
      have e2 : ¬ ((-1 : Int) ≥ 0) := by omega
      simp only [e1, if_neg e2]
      refine Ev.step (fun k => by rw [comp_Add.j0]) ?_
      simp only [Bool.false_eq_true, if_false, if_neg e2, Option.bind_some]
      exact Ev.now _
  | cons d q ih =>
    intro c hq hc hb hl
    have hz := good_sz hc
    have hd := hq d List.mem_cons_self
    have hdz := good_sz hd
    have hq' : ∀ e ∈ q, good e := fun e he => hq e (List.mem_cons_of_mem _ he)
    have htq := tot_nonneg hq'
    simp only [tot] at hb
    simp only [List.length_cons] at hl
    have hql : q.reverse.length = q.length := List.length_reverse
    refine Ev.step (fun k => by rw [comp_Add.f]) ?_
    simp only [Size_eq c hc (by omega), Option.bind_some, addR]
    by_cases h0 : sz c = 0
    · simp only [if_pos h0]; exact Ev.now _
    · simp only [if_neg h0, List.reverse_cons]
      have e0 := last_ix q.reverse d (by omega)
      have e1 : ((q.reverse.length : Int)) ≥ 0 := by omega
      have e2 : ((q.reverse.length : Int)) < ((q.reverse ++ [d]).length : Int) := by simp only [List.length_append, List.length_cons, List.length_nil]; omega
      have e3 : rd_T30 (q.reverse ++ [d]) (q.reverse.length : Int) = d := rd_of (suf := []) rfl
      have e1' : (0 : Int) ≤ (q.reverse.length : Int) := e1
      simp only [e0, if_pos e1, if_pos e1', if_pos e2, e3]
      refine Ev.step (fun k => by rw [comp_Add.j0]) ?_
      by_cases h1 : d.f0 = c.f0
      · have e4 : (d.f0 == c.f0) = true := by simpa using h1
        simp only [e4, if_true, if_pos e1', if_pos e2, e3, if_pos h1, set_last, Option.bind_some]
        have e5 : rd_T30 (q.reverse ++ [(⟨d.f0, wrap64 (d.f1 + c.f1), d.f2⟩ : Cm)]) (q.reverse.length : Int) = ⟨d.f0, wrap64 (d.f1 + c.f1), d.f2⟩ := rd_of (suf := []) rfl
        simp only [e5, set_last]
        have h2 := hd.1; have h3 := hc.1
        have e6 : d.f2.size + c.f2.size ≤ 9223372036854775807 := by simp only [sz] at hb; omega
        have e7 : wrap64 (d.f1 + c.f1) = d.f1 + c.f1 := by simp only [sz] at hb; exact w64 (by omega) (by omega)
        simp only [if_pos e6, e7, List.reverse_cons]
        exact Ev.now _
      · have e4 : (d.f0 == c.f0) = false := by simpa using h1
        simp only [e4, Bool.false_eq_true, if_false, if_pos e1, if_pos e1', if_pos e2, e3, if_neg h1, Option.bind_some]
        have e8 : (q.reverse ++ [d]).length + 1 < 4398046511104 := by simp only [List.length_append, List.length_cons, List.length_nil]; omega
        by_cases h2 : c.f0 = 1
        · by_cases h3 : d.f0 = 2
          · have e9 : ((q.reverse.length : Int)) ≤ ((q.reverse ++ [d]).length : Int) := Int.le_of_lt e2
            have e10 : (q.reverse ++ [d]).take ((q.reverse.length : Int)).toNat = q.reverse := by simp
            simp only [if_pos h2, if_pos h3, if_pos e9, e10, h2, h3, and_self, if_true, List.reverse_cons]
            have e11 : ((addR q c).reverse.length + [d].length < 4398046511104) := by
              have := addR_len q c
              simp only [List.length_reverse, List.length_cons, List.length_nil]; omega
            have := ih c hq' hc (by omega) (by omega)
            simp only [h2] at this
            refine Ev.bind this ?_
            have ed : (⟨2, d.f1, d.f2⟩ : Cm) = d := by rw [← h3]
            simp only [ed, if_pos e11]
            exact Ev.now _
          · have h4 : ¬ (c.f0 = 1 ∧ d.f0 = 2) := by omega
            simp only [if_pos h2, if_neg h3, if_neg h4, List.length_cons, List.length_nil, Nat.zero_add, if_pos e8, List.reverse_cons]
            exact Ev.now _
        · have h4 : ¬ (c.f0 = 1 ∧ d.f0 = 2) := by omega
          simp only [if_neg h2, if_neg h4, List.length_cons, List.length_nil, Nat.zero_add, if_pos e8, List.reverse_cons]
          exact Ev.now _
theorem Add_ev (l : List Cm) (c : Cm) (hl : ∀ d ∈ l, good d) (hc : good c) (hb : tot l + sz c < 4611686018427387904) (hn : l.length < 4398046511100) :
    Ev (fun k => comp_Add.f k l c.f0 c.f1 c.f2) (add l c) := by
  have ht : tot l.reverse = tot l := by rw [tot_sum, tot_sum, sumOf_reverse]
  have := Add_rev l.reverse c (fun d hd => hl d (by simpa using hd)) hc (by omega) (by simpa using hn)
  rw [List.reverse_reverse] at this
  exact this

/-! Normal -/
def inB (xs : List Cm) : Bool := decide (froms xs ≤ 4096) && decide (tos xs ≤ 4096)
def normal (cs : List Cm) : List Cm × Int :=
  if decide (cs.length ≤ 4096) && (cs.all rawB && inB (norm cs)) then (norm cs, 0) else ([], 200)
end Go.Proofs.Ytbkkcoppncgegab.Pl
