/- The plain law CompRows, of lists that are not too long: no program in sight but the printed function. -/
import Derived.Test.YtbkkcoppncgegaaD2
import Derived.Test.YtbkkcoppncgegaaOp
import Derived.Test.YtbkkcoppncgegaaGMinuetlaw2PCompRows
namespace Go.Proofs.Ytbkkcoppncgegaa.Pl
open Go.RowKit Go.Proofs.Ytbkkcoppncgegaa.G Go.Proofs.YtbkkcoppncgegaaW.PrintWords Go.Proofs.YtbkkcoppncgegaaW.PrintLast Go.Proofs.YtbkkcoppncgegaaW.PrintMore
set_option linter.unusedVariables false
set_option linter.unusedSimpArgs false
theorem Copy_eq (a : List Cm) (h : a.length < 4398046511104) : minuetlaw0_CopyComps.f a = some a := by
  unfold minuetlaw0_CopyComps.f
  simp only [Option.bind_some, List.length_nil, Nat.zero_add, if_pos h, List.nil_append]
theorem normal_len (a : List Cm) : (normal a).1.length ≤ a.length := by
  unfold normal
  split
  · have := fold_len a []; simpa [norm] using this
  · simp
theorem rows_l1 (z y : List Cm) (hy : y.length ≤ 4398046511) (hz : z.length ≤ 4398046511) (H : ∀ w, Ev (fun k => minuetlaw0_SameComps.f k (normal w).1 z) (decide ((normal w).1 = z))) :
    ∀ (suf pre out : List Cm), y = pre ++ suf → out.length + suf.length ≤ 4398046511 → (normal (out ++ suf)).2 = 0 → (normal (out ++ suf)).1 = z →
    Ev (fun k => minuetlaw2_CompRows.l1 k y z out (pre.length : Int)) true := by
  intro suf
  induction suf with
  | nil =>
    intro pre out e hl h0 h1
    refine Ev.step (fun k => by rw [minuetlaw2_CompRows.l1]) ?_
    simp only [if_neg (nlt_of e)]
    simp only [List.append_nil] at h0 h1
    refine Ev.bind (Normal_ev out) ?_
    simp only [num_eq, Option.bind_some, if_pos h0]
    refine Ev.bind (H out) ?_
    rw [decide_eq_true h1]; exact Ev.now _
  | cons c suf ih =>
    intro pre out e hl h0 h1
    simp only [List.length_cons] at hl
    have hlt := lt_len e
    refine Ev.step (fun k => by rw [minuetlaw2_CompRows.l1]) ?_
    simp only [if_pos (lt_of e), if_pos (nat_nonneg _), rd_of e, if_pos (show out.length < 4398046511104 by omega), len_next pre c (by omega)]
    have e2 : out ++ c :: suf = (out ++ [c]) ++ suf := by simp
    rw [e2] at h0 h1
    exact ih (pre ++ [c]) (out ++ [c]) (next_of e) (by simp only [List.length_append, List.length_cons, List.length_nil]; omega) h0 h1
theorem CompRows_pure {ok : Cm → Prop} {g : Cm → Nat} (a b : List Cm) (_h : ∀ c ∈ a, ok c) (ha : Op.bulkOf g a ≤ 1048576) (_h2 : a.length * 32 ≤ 140737488351232) (_h3 : ∀ c ∈ b, ok c) (hb : Op.bulkOf g b ≤ 1048576) (_h4 : b.length * 32 ≤ 140737488351232) : ∃ k, minuetlaw2_CompRows.f k a b = some true := by
  have la : a.length ≤ 1048576 := Nat.le_trans (Op.bulk_len g a) ha
  have lb : b.length ≤ 1048576 := Nat.le_trans (Op.bulk_len g b) hb
  refine Ev.rounds (Ev.congr (fun k => by rw [minuetlaw2_CompRows.f]) (Ev.bind awake2 ?_))
  simp only [if_true]
  refine Ev.bind (Normal_ev a) ?_
  refine Ev.bind (Normal_ev b) ?_
  simp only [Copy_eq a (by omega), Option.bind_some]
  have l0 : ∀ (suf pre : List Cm), b = pre ++ suf → Ev (fun k => minuetlaw2_CompRows.l0 k b (normal a).1 (normal a).2 (normal b).1 (normal b).2 (a ++ pre) (pre.length : Int)) true := by
    intro suf
    induction suf with
    | nil =>
      intro pre e
      have e' : pre = b := by simpa using e.symm
      subst e'
      refine Ev.step (fun k => by rw [minuetlaw2_CompRows.l0]) ?_
      simp only [if_neg (nlt_of e)]
      refine Ev.bind (Normal_ev (a ++ pre)) ?_
      simp only [num_eq, Option.bind_some]
      have bad : ∀ x, x = true → Ev (fun k => minuetlaw2_CompRows.j1 k (normal a).1 (normal pre).1 (normal (a ++ pre)).1 (normal (a ++ pre)).2 x) true := by
        intro x hx
        refine Ev.step (fun k => by rw [minuetlaw2_CompRows.j1]) ?_
        simp only [if_pos hx, num_eq, Option.bind_some]
        by_cases h : (normal (a ++ pre)).2 = 0
        · by_cases h2 : ((normal (a ++ pre)).1.length : Int) = 0
          · simp only [if_pos h2]; exact Ev.now _
          · simp only [if_neg h2, h, beq_self_eq_true]; exact Ev.now _
        · have h2 : (normal (a ++ pre)).1 = [] := by
            unfold normal at h ⊢; split
            · rename_i h3; rw [if_pos h3] at h; simp at h
            · rfl
          have h3 : ((normal (a ++ pre)).1.length : Int) = 0 := by rw [h2]; rfl
          simp only [if_pos h3]; exact Ev.now _
      by_cases h1 : (normal a).2 = 0
      · by_cases h2 : (normal pre).2 = 0
        · by_cases h3 : (normal (a ++ pre)).2 = 0
          · simp only [if_pos h1, if_pos h2, h3, bne_self_eq_false]
            refine Ev.step (fun k => by rw [minuetlaw2_CompRows.j1]) ?_
            have n1 := normal_len a; have n2 := normal_len pre; have n3 := normal_len (a ++ pre)
            simp only [List.length_append] at n3
            simp only [Bool.false_eq_true, if_false, Copy_eq (normal a).1 (by omega), Option.bind_some]
            have okn : ∀ x : List Cm, (normal x).2 = 0 → x.length ≤ 4096 ∧ (∀ c ∈ x, rawB c = true) ∧ inB (norm x) = true ∧ (normal x).1 = norm x := by
              intro x hx
              unfold normal at hx ⊢
              split
              · rename_i h4; simp only [Bool.and_eq_true, decide_eq_true_eq, List.all_eq_true] at h4; exact ⟨h4.1, h4.2.1, h4.2.2, rfl⟩
              · rename_i h4; rw [if_neg h4] at hx; simp at hx
            obtain ⟨a1, a2, a3, a4⟩ := okn _ h1
            obtain ⟨b1, b2, b3, b4⟩ := okn _ h2
            obtain ⟨c1, c2, c3, c4⟩ := okn _ h3
            have ga : ∀ c ∈ a, good c := fun c hc => raw_good (a2 c hc)
            have gb : ∀ c ∈ pre, good c := fun c hc => raw_good (b2 c hc)
            have e5 := norm_rows ga gb
            have rawn : ∀ x : List Cm, (∀ c ∈ x, good c) → inB (norm x) = true → ∀ c ∈ norm x, rawB c = true := by
              intro x hx hin c hc
              have gn := norm_good hx
              simp only [inB, Bool.and_eq_true, decide_eq_true_eq] at hin
              have gc := gn c hc
              have f1 := froms_le gn; have t1 := tos_le gn
              have m1 : (if c.f0 = 1 then 0 else c.f1) ≤ froms (norm x) := by
                have : ∀ l : List Cm, (∀ d ∈ l, good d) → c ∈ l → (if c.f0 = 1 then 0 else c.f1) ≤ froms l := by
                  intro l hl hcl
                  induction l with
                  | nil => cases hcl
                  | cons d r ih =>
                    have gd := (hl d List.mem_cons_self).1
                    have fr := froms_le (fun e he => hl e (List.mem_cons_of_mem d he))
                    simp only [froms]
                    rcases List.mem_cons.1 hcl with rfl | hcl
                    · omega
                    · have := ih (fun e he => hl e (List.mem_cons_of_mem d he)) hcl
                      split <;> split at this <;> omega
                exact this _ gn hc
              have m2 : (if c.f0 = 2 then 0 else sz c) ≤ tos (norm x) := by
                have : ∀ l : List Cm, (∀ d ∈ l, good d) → c ∈ l → (if c.f0 = 2 then 0 else sz c) ≤ tos l := by
                  intro l hl hcl
                  induction l with
                  | nil => cases hcl
                  | cons d r ih =>
                    have gd := good_sz (hl d List.mem_cons_self)
                    have fr := tos_le (fun e he => hl e (List.mem_cons_of_mem d he))
                    simp only [tos]
                    rcases List.mem_cons.1 hcl with rfl | hcl
                    · omega
                    · have := ih (fun e he => hl e (List.mem_cons_of_mem d he)) hcl
                      split <;> split at this <;> omega
                exact this _ gn hc
              obtain ⟨g1, g2, g3, g4⟩ := gc
              refine decide_eq_true ?_
              by_cases k1 : c.f0 = 1
              · right; rw [if_neg (by omega)] at m2; unfold sz at m2; have := g3 k1; exact ⟨k1, this, by omega⟩
              · left; rw [if_neg k1] at m1; exact ⟨by omega, g1, by omega, g4 k1⟩
            have hz : normal (norm a ++ norm pre) = (norm (a ++ pre), 0) := by
              have r1 := rawn a ga a3
              have r2 := rawn pre gb b3
              have len1 : (norm a ++ norm pre).length ≤ 4096 := by
                rw [← a4, ← b4, List.length_append]; simp only [List.length_append] at c1; omega
              unfold normal
              rw [e5, if_pos]
              simp only [Bool.and_eq_true, decide_eq_true_eq, List.all_eq_true]
              exact ⟨len1, fun c hc => (List.mem_append.1 hc).elim (r1 c) (r2 c), c3⟩
            have := rows_l1 (normal (a ++ pre)).1 (normal pre).1 (by omega) (by omega) (fun w => by
                have hl : (normal w).1.length ≤ 4096 := by
                  unfold normal; split
                  · rename_i h4; simp only [Bool.and_eq_true, decide_eq_true_eq] at h4
                    have := fold_len w []; simp only [List.length_nil, Nat.zero_add] at this; exact Nat.le_trans this h4.1
                  · simp
                exact Same_ev _ _ (by omega)) (normal pre).1 [] (normal a).1 rfl (by omega) (by rw [a4, b4, hz]) (by rw [a4, b4, hz, c4])
            simpa using this
          · simp only [if_pos h1, if_pos h2]; exact bad _ (by simpa using h3)
        · simp only [if_pos h1, if_neg h2]; exact bad _ rfl
      · simp only [if_neg h1]; exact bad _ rfl
    | cons c suf ih =>
      intro pre e
      have hlt := lt_len e
      refine Ev.step (fun k => by rw [minuetlaw2_CompRows.l0]) ?_
      simp only [if_pos (lt_of e), if_pos (nat_nonneg _), rd_of e, if_pos (show (a ++ pre).length < 4398046511104 by simp only [List.length_append]; omega), len_next pre c (by omega)]
      have := ih (pre ++ [c]) (next_of e)
      rw [← List.append_assoc] at this
      exact this
  have := l0 b [] rfl
  simpa using this
end Go.Proofs.Ytbkkcoppncgegaa.Pl
