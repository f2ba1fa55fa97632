/- The plain law CompForms: no program in sight but the printed function. -/
import Derived.Test.YtbkkcoppncgegaaD2
import Derived.Test.YtbkkcoppncgegaaU1
import Derived.Test.YtbkkcoppncgegaaU2
import Derived.Test.YtbkkcoppncgegaaGMinuetlaw2PCompForms
namespace Go.Proofs.Ytbkkcoppncgegaa.Pl
open Go.RowKit Go.Proofs.Ytbkkcoppncgegaa.G Go.Proofs.YtbkkcoppncgegaaW.PrintWords Go.Proofs.YtbkkcoppncgegaaW.PrintLast Go.Proofs.YtbkkcoppncgegaaW.PrintMore
set_option linter.unusedVariables false
set_option linter.unusedSimpArgs false
theorem cf_e0 : (⟨#[]⟩ : ByteArray).size = 0 := rfl
theorem cf_e97 : (⟨#[97]⟩ : ByteArray).size = 1 := rfl
theorem cf_e98 : (⟨#[98]⟩ : ByteArray).size = 1 := rfl
theorem umod (a n : Int) (h0 : 0 < n) (h1 : n < 4611686018427387904) : 0 ≤ Int.tmod (IntKind.u64.wrap a) n ∧ Int.tmod (IntKind.u64.wrap a) n < n ∧ wrap64 (Int.tmod (IntKind.u64.wrap a) n) = Int.tmod (IntKind.u64.wrap a) n := by
  have e3 : 0 ≤ IntKind.u64.wrap a := by rw [u64w]; omega
  rw [Int.tmod_eq_emod_of_nonneg e3]
  generalize IntKind.u64.wrap a = u at e3 ⊢
  have h2 := Int.emod_nonneg u (show n ≠ 0 by omega)
  have h3 := Int.emod_lt_of_pos u h0
  generalize u % n = v at h2 h3 ⊢
  exact ⟨h2, h3, w64 (by omega) (by omega)⟩
def badL (d : Int) : List Cm := [⟨0, -d, ⟨#[]⟩⟩, ⟨0, 4096 + d, ⟨#[]⟩⟩, ⟨0, 1, ⟨#[97]⟩⟩, ⟨2, -d, ⟨#[]⟩⟩, ⟨2, 4096 + d, ⟨#[]⟩⟩, ⟨2, 1, ⟨#[97]⟩⟩, ⟨1, d, ⟨#[97]⟩⟩, ⟨2 + d, 0, ⟨#[]⟩⟩, ⟨-d, 0, ⟨#[]⟩⟩]
theorem badL_raw (d : Int) (h0 : 1 ≤ d) (h1 : d ≤ 1024) : ∀ c ∈ badL d, rawB c = false := by
  intro c hc
  simp only [badL, List.mem_cons, List.not_mem_nil, or_false] at hc
  rcases hc with rfl | rfl | rfl | rfl | rfl | rfl | rfl | rfl | rfl <;> exact decide_eq_false (by simp only [cf_e0, cf_e97]; omega)
theorem rd_mem (xs : List Cm) (i : Int) (h0 : 0 ≤ i) (h1 : i < (xs.length : Int)) : rd_T40 xs i ∈ xs := by
  unfold rd_T40
  have h : i.toNat < xs.length := by omega
  rw [List.getD_eq_getElem?_getD, List.getElem?_eq_getElem h]
  exact List.getElem_mem h
def rawsL (d : Int) : List (List Cm) := [[⟨0, 0, ⟨#[]⟩⟩], [⟨1, 0, ⟨#[]⟩⟩], [⟨0, 1, ⟨#[]⟩⟩, ⟨0, d, ⟨#[]⟩⟩], [⟨2, 1, ⟨#[]⟩⟩, ⟨1, 0, ⟨#[97]⟩⟩], [⟨1, 0, ⟨#[97]⟩⟩, ⟨1, 0, ⟨#[98]⟩⟩], [⟨0, 4096, ⟨#[]⟩⟩, ⟨2, d, ⟨#[]⟩⟩]]
theorem normal_iff (xs : List Cm) : (normal xs).2 = 0 ↔ xs.length ≤ 4096 ∧ (∀ c ∈ xs, rawB c = true) ∧ froms xs ≤ 4096 ∧ tos xs ≤ 4096 := by
  unfold normal
  split
  · rename_i h
    simp only [Bool.and_eq_true, decide_eq_true_eq, List.all_eq_true, inB] at h
    have hg : ∀ c ∈ xs, good c := fun c hc => raw_good (h.2.1 c hc)
    have e1 : froms (norm xs) = froms xs := by unfold norm; rw [fold_froms (fun d hd => by cases hd) hg]; simp [froms]
    have e2 : tos (norm xs) = tos xs := by unfold norm; rw [fold_tos (fun d hd => by cases hd) hg]; simp [tos]
    rw [e1, e2] at h
    simp only [true_iff]; exact ⟨h.1, h.2.1, h.2.2⟩
  · rename_i h
    simp only [Int.reduceEq, false_iff]
    rintro ⟨h1, h2, h3, h4⟩
    have hg : ∀ c ∈ xs, good c := fun c hc => raw_good (h2 c hc)
    have e1 : froms (norm xs) = froms xs := by unfold norm; rw [fold_froms (fun d hd => by cases hd) hg]; simp [froms]
    have e2 : tos (norm xs) = tos xs := by unfold norm; rw [fold_tos (fun d hd => by cases hd) hg]; simp [tos]
    refine h ?_
    simp only [Bool.and_eq_true, decide_eq_true_eq, List.all_eq_true, inB, e1, e2]
    exact ⟨h1, h2, h3, h4⟩
theorem not_may {xs : List Cm} (h : ¬ nf xs ∨ ¬ froms xs ≤ 4096) : mayB xs = false := by
  rw [Bool.eq_false_iff, ne_eq, may_iff]
  rintro ⟨_, _, h1, h2, _⟩
  rcases h with h | h
  · exact h h1
  · exact h h2
theorem rawsL_ok (d : Int) (h0 : 1 ≤ d) (h1 : d ≤ 1024) (i : Int) (g0 : 0 ≤ i) (g1 : i < 6) : mayB (rd_L3 (rawsL d) i) = false ∧ ((normal (rd_L3 (rawsL d) i)).2 = 0 ↔ i ≠ 5) := by
  have hi : i = 0 ∨ i = 1 ∨ i = 2 ∨ i = 3 ∨ i = 4 ∨ i = 5 := by omega
  have k0 : ∀ k n, k = 0 ∨ k = 2 → 0 ≤ n → n ≤ 4096 → rawB (⟨k, n, ⟨#[]⟩⟩ : Cm) = true := fun k n hk a b => decide_eq_true (.inl ⟨hk, a, b, rfl⟩)
  have k1 : ∀ t : ByteArray, t.size ≤ 4096 → rawB (⟨1, 0, t⟩ : Cm) = true := fun t h => decide_eq_true (.inr ⟨rfl, rfl, h⟩)
  have one : ∀ {a b : Cm} {P : Cm → Prop}, P a → P b → ∀ c ∈ [a, b], P c := by
    intro a b P ha hb c hc
    rcases List.mem_cons.1 hc with rfl | hc
    · exact ha
    · rw [List.mem_singleton.1 hc]; exact hb
  rcases hi with rfl | rfl | rfl | rfl | rfl | rfl
  · show mayB [⟨0, 0, ⟨#[]⟩⟩] = false ∧ ((normal [⟨0, 0, ⟨#[]⟩⟩]).2 = 0 ↔ (0 : Int) ≠ 5)
    refine ⟨not_may (.inl (fun h => h.1 (by simp [sz, cf_e0]))), ?_⟩
    rw [normal_iff]
    refine iff_of_true ⟨by simp, fun c hc => ?_, by simp [froms], by simp [tos, sz, cf_e0]⟩ (by omega)
    rw [List.mem_singleton.1 hc]; exact k0 _ _ (by omega) (by omega) (by omega)
  · show mayB [⟨1, 0, ⟨#[]⟩⟩] = false ∧ ((normal [⟨1, 0, ⟨#[]⟩⟩]).2 = 0 ↔ (1 : Int) ≠ 5)
    refine ⟨not_may (.inl (fun h => h.1 (by simp [sz, cf_e0]))), ?_⟩
    rw [normal_iff]
    refine iff_of_true ⟨by simp, fun c hc => ?_, by simp [froms], by simp [tos, sz, cf_e0]⟩ (by omega)
    rw [List.mem_singleton.1 hc]; exact k1 _ (by rw [cf_e0]; omega)
  · show mayB [⟨0, 1, ⟨#[]⟩⟩, ⟨0, d, ⟨#[]⟩⟩] = false ∧ ((normal [⟨0, 1, ⟨#[]⟩⟩, ⟨0, d, ⟨#[]⟩⟩]).2 = 0 ↔ (2 : Int) ≠ 5)
    refine ⟨not_may (.inl (fun h => h.2.1.1 rfl)), ?_⟩
    rw [normal_iff]
    refine iff_of_true ⟨by simp, one (k0 _ _ (by omega) (by omega) (by omega)) (k0 _ _ (by omega) (by omega) (by omega)), by simp [froms]; omega, by simp [tos, sz, cf_e0]; omega⟩ (by omega)
  · show mayB [⟨2, 1, ⟨#[]⟩⟩, ⟨1, 0, ⟨#[97]⟩⟩] = false ∧ ((normal [⟨2, 1, ⟨#[]⟩⟩, ⟨1, 0, ⟨#[97]⟩⟩]).2 = 0 ↔ (3 : Int) ≠ 5)
    refine ⟨not_may (.inl (fun h => h.2.1.2 ⟨rfl, rfl⟩)), ?_⟩
    rw [normal_iff]
    refine iff_of_true ⟨by simp, one (k0 _ _ (by omega) (by omega) (by omega)) (k1 _ (by rw [cf_e97]; omega)), by simp [froms], by simp [tos, sz, cf_e97]⟩ (by omega)
  · show mayB [⟨1, 0, ⟨#[97]⟩⟩, ⟨1, 0, ⟨#[98]⟩⟩] = false ∧ ((normal [⟨1, 0, ⟨#[97]⟩⟩, ⟨1, 0, ⟨#[98]⟩⟩]).2 = 0 ↔ (4 : Int) ≠ 5)
    refine ⟨not_may (.inl (fun h => h.2.1.1 rfl)), ?_⟩
    rw [normal_iff]
    refine iff_of_true ⟨by simp, one (k1 _ (by rw [cf_e97]; omega)) (k1 _ (by rw [cf_e98]; omega)), by simp [froms], by simp [tos, sz, cf_e97, cf_e98]⟩ (by omega)
  · show mayB [⟨0, 4096, ⟨#[]⟩⟩, ⟨2, d, ⟨#[]⟩⟩] = false ∧ ((normal [⟨0, 4096, ⟨#[]⟩⟩, ⟨2, d, ⟨#[]⟩⟩]).2 = 0 ↔ (5 : Int) ≠ 5)
    have hf : ¬ froms [⟨0, 4096, ⟨#[]⟩⟩, ⟨2, d, ⟨#[]⟩⟩] ≤ 4096 := by simp [froms]; omega
    refine ⟨not_may (.inr hf), ?_⟩
    rw [normal_iff]
    exact iff_of_false (fun h => hf h.2.2.1) (by omega)
theorem CompForms_pure (a0 a1 : Int) (_h0 : (Lit.int .i64 a0).wf = true) (_h1 : (Lit.int .i64 a1).wf = true) : ∃ k, minuetlaw2_CompForms.f k a0 a1 = some true := by
  refine Ev.rounds (Ev.congr (fun k => by rw [minuetlaw2_CompForms.f]) (Ev.bind awake2 ?_))
  simp only [if_true]
  obtain ⟨m0, m1⟩ := and_mask a1 1023 (by omega)
  have ed : ∃ d, wrap64 (1 + Go.bits .and .i64 a1 1023) = d ∧ 1 ≤ d ∧ d ≤ 1024 := by
    refine ⟨_, rfl, ?_⟩
    rw [show ((1023 : Nat) : Int) = 1023 from rfl] at m0 m1
    rw [w64 (by omega) (by omega)]; omega
  obtain ⟨d, ed, h0, h1⟩ := ed
  obtain ⟨p0, p1, p2⟩ := umod a0 9 (by omega) (by omega)
  obtain ⟨q0, q1, q2⟩ := umod a0 6 (by omega) (by omega)
  simp only [ed, p2, q2]
  generalize Int.tmod (IntKind.u64.wrap a0) 9 = p at *
  generalize Int.tmod (IntKind.u64.wrap a0) 6 = q at *
  rw [show wrap64 (-d) = -d from w64 (by omega) (by omega), show wrap64 (4096 + d) = 4096 + d from w64 (by omega) (by omega), show wrap64 (2 + d) = 2 + d from w64 (by omega) (by omega)]
  simp only [Option.bind_some]
  have lb : (badL d).length = 9 := rfl
  have hb : rawB (rd_T40 (badL d) p) = false := badL_raw d h0 h1 _ (rd_mem _ p p0 (by rw [lb]; exact p1))
  have hm1 : mayB [rd_T40 (badL d) p] = false := by
    rw [Bool.eq_false_iff, ne_eq, may_iff]
    rintro ⟨_, h, _⟩
    have := h _ List.mem_cons_self
    rw [hb] at this; cases this
  have hn1 : normal [⟨0, 1, ⟨#[]⟩⟩, rd_T40 (badL d) p] = ([], 200) := by
    unfold normal
    rw [if_neg (by simp [hb])]
  have hr := rawsL_ok d h0 h1 q q0 q1
  simp only [if_pos p0, if_pos q0]
  rw [← badL, ← rawsL]
  have lr : (rawsL d).length = 6 := rfl
  have c1 : p < ((badL d).length : Int) := by rw [lb]; exact p1
  have c2 : q < ((rawsL d).length : Int) := by rw [lr]; exact q1
  simp only [if_pos c1, if_pos c2]
  refine Ev.bind (Normal_ev _) ?_
  refine Ev.bind (Lengths_ev _) ?_
  refine Ev.bind (Lengths_ev _) ?_
  refine Ev.bind (Normal_ev _) ?_
  rw [show ([⟨0, 1, ⟨#[]⟩⟩, ⟨(rd_T40 (badL d) p).f0, (rd_T40 (badL d) p).f1, (rd_T40 (badL d) p).f2⟩] : List Cm) = [⟨0, 1, ⟨#[]⟩⟩, rd_T40 (badL d) p] from rfl, show ([⟨(rd_T40 (badL d) p).f0, (rd_T40 (badL d) p).f1, (rd_T40 (badL d) p).f2⟩] : List Cm) = [rd_T40 (badL d) p] from rfl]
  rw [hn1, lens_err _ (by rw [hm1]; decide), lens_err _ (by rw [hr.1]; decide)]
  simp only [num_eq, Option.bind_some, if_true]
  refine Ev.bind (May_ev _) ?_
  simp only [hm1, Bool.false_eq_true, if_false]
  refine Ev.bind (May_ev _) ?_
  simp only [hr.1, Bool.false_eq_true, if_false]
  have : ((normal (rd_L3 (rawsL d) q)).2 == 0) = (q != 5) := by
    rw [Bool.eq_iff_iff]; simp only [beq_iff_eq, bne_iff_ne, ne_eq]; exact hr.2
  rw [this, beq_self_eq_true]
  exact Ev.now _
end Go.Proofs.Ytbkkcoppncgegaa.Pl
