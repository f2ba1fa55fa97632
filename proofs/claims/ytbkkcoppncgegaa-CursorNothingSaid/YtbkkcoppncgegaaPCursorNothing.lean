/- The plain law CursorNothing: no program in sight but the printed function. -/
import Derived.Test.YtbkkcoppncgegaaC1
import Derived.Test.YtbkkcoppncgegaaU1
import Derived.Test.YtbkkcoppncgegaaGMinuetlaw6PCursorNothing
namespace Go.Proofs.Ytbkkcoppncgegaa.Pl
open Go.RowKit Go.Proofs.Ytbkkcoppncgegaa.G Go.Proofs.YtbkkcoppncgegaaW.PrintWords Go.Proofs.YtbkkcoppncgegaaW.PrintLast Go.Proofs.YtbkkcoppncgegaaW.PrintMore
set_option linter.unusedVariables false
set_option linter.unusedSimpArgs false

theorem and255 (a : Int) : 0 ≤ Go.bits .and .i64 a 255 ∧ Go.bits .and .i64 a 255 ≤ 255 := by
  exact and_mask a 255 (by omega)
theorem one_may {k n : Int} (hk : k = 0 ∨ k = 2) (h0 : 1 ≤ n) (h1 : n ≤ 256) : mayB [(⟨k, n, ⟨#[]⟩⟩ : Cm)] = true := by
  rw [may_iff]
  refine ⟨by simp, ?_, ⟨?_, trivial, trivial⟩, ?_, ?_⟩
  · intro c hc; rw [List.mem_singleton.1 hc]; exact decide_eq_true (.inl ⟨hk, by simp only; omega, by simp only; omega, rfl⟩)
  · unfold sz; simp only; show n + ((⟨#[]⟩ : ByteArray).size : Int) ≠ 0; have : (⟨#[]⟩ : ByteArray).size = 0 := rfl; omega
  · simp only [froms]; split <;> omega
  · simp only [tos, sz]; have : (⟨#[]⟩ : ByteArray).size = 0 := rfl; split <;> omega
theorem two_may {n : Int} {t : ByteArray} (h0 : 1 ≤ n) (h1 : n ≤ 256) (h2 : 1 ≤ t.size) (h3 : t.size ≤ 1000) : mayB [(⟨1, 0, t⟩ : Cm), ⟨0, n, ⟨#[]⟩⟩] = true := by
  have e0 : (⟨#[]⟩ : ByteArray).size = 0 := rfl
  rw [may_iff]
  refine ⟨by simp, ?_, ⟨?_, ⟨by simp, by simp⟩, ⟨?_, trivial, trivial⟩⟩, ?_, ?_⟩
  · intro c hc
    rcases List.mem_cons.1 hc with rfl | hc
    · exact decide_eq_true (.inr ⟨rfl, rfl, by simp only; omega⟩)
    · rw [List.mem_singleton.1 hc]; exact decide_eq_true (.inl ⟨.inl rfl, by simp only; omega, by simp only; omega, rfl⟩)
  · show n + ((⟨#[]⟩ : ByteArray).size : Int) ≠ 0; omega
  · show (0 : Int) + (t.size : Int) ≠ 0; omega
  · simp [froms]; omega
  · simp [tos, sz, e0]; omega
theorem CursorNothing_pure (a0 a1 : Int) (t : ByteArray) (b : Bool) (_h0 : (Lit.int .i64 a0).wf = true) (_h1 : (Lit.int .i64 a1).wf = true) (ht : t.size ≤ 140737488351232) : ∃ k, minuetlaw6_CursorNothing.f k a0 a1 t b = some true := by
  have hb := and255 a0
  refine Ev.rounds (Ev.congr (fun k => by rw [minuetlaw6_CursorNothing.f]) (Ev.bind awake6 ?_))
  simp only [if_true]
  have e1 : wrap64 (1 + Go.bits .and .i64 a0 255) = 1 + Go.bits .and .i64 a0 255 := w64 (by omega) (by omega)
  rw [e1]
  generalize hn : 1 + Go.bits .and .i64 a0 255 = n
  have hn1 : 1 ≤ n ∧ n ≤ 256 := by omega
  have hix := modix a1 n (by omega) (by omega)
  have hne := u64_ne n (by omega) (by omega)
  simp only [if_neg hne]
  generalize wrap64 (Int.tmod (IntKind.u64.wrap a1) (IntKind.u64.wrap (wrap64 (n + 1)))) = i at hix ⊢
  have key : ∀ x, (x = false → 1 ≤ t.size ∧ t.size ≤ 1000) → Ev (fun k => minuetlaw6_CursorNothing.j0 k t b n i x) true := by
    intro x hx
    refine Ev.step (fun k => by rw [minuetlaw6_CursorNothing.j0]) ?_
    cases x with
    | true => simp only [if_true]; exact Ev.now _
    | false =>
      obtain ⟨s1, s2⟩ := hx rfl
      have e0 : (⟨#[]⟩ : ByteArray).size = 0 := rfl
      have m1 := one_may (k := 0) (.inl rfl) hn1.1 hn1.2
      have m2 := two_may hn1.1 hn1.2 s1 s2
      have m3 := one_may (k := 2) (.inr rfl) hn1.1 hn1.2
      have f1 : froms [(⟨0, n, ⟨#[]⟩⟩ : Cm)] = n := by simp [froms]
      have f2 : froms [(⟨1, 0, t⟩ : Cm), ⟨0, n, ⟨#[]⟩⟩] = n := by simp [froms]
      have f3 : froms [(⟨2, n, ⟨#[]⟩⟩ : Cm)] = n := by simp [froms]
      simp only [Bool.false_eq_true, if_false]
      refine Ev.bind (Move_ev _ i b) ?_
      refine Ev.bind (Move_ev _ i b) ?_
      refine Ev.bind (Move_ev _ i b) ?_
      refine Ev.bind (Move_ev _ _ b) ?_
      refine Ev.bind (Move_ev _ _ b) ?_
      have w1 : wrap64 (wrap64 (n + 1) + i) = n + 1 + i := by rw [w64 (x := n + 1) (by omega) (by omega), w64 (by omega) (by omega)]
      have w2 : wrap64 (-1 - i) = -1 - i := w64 (by omega) (by omega)
      have w3 : wrap64 (i + (t.size : Int)) = i + (t.size : Int) := w64 (by omega) (by omega)
      have g1 : mv b i [(⟨0, n, ⟨#[]⟩⟩ : Cm)] = i := by
        rw [mv_cons]
        by_cases hi : i = 0
        · rw [if_pos ⟨hi, .inl (by simp)⟩, hi]
        · rw [if_neg (fun h => hi h.1), if_neg (by simp), if_pos rfl]
          by_cases hin : i < n
          · rw [if_pos hin]
          · rw [if_neg hin]; simp only [mv]; omega
      have g3 : mv b i [(⟨2, n, ⟨#[]⟩⟩ : Cm)] = 0 := by
        rw [mv_cons]
        by_cases hi : i = 0
        · rw [if_pos ⟨hi, .inl (by simp)⟩]
        · rw [if_neg (fun h => hi h.1), if_neg (by simp), if_neg (by simp)]
          split <;> simp [mv]
      have g2 : mv b i [(⟨1, 0, t⟩ : Cm), ⟨0, n, ⟨#[]⟩⟩] = if i = 0 ∧ b = false then 0 else i + (t.size : Int) := by
        rw [mv_cons, g1]
        by_cases hi : i = 0 ∧ b = false
        · rw [if_pos ⟨hi.1, .inr hi.2⟩, if_pos hi]
        · rw [if_neg (fun h => hi ⟨h.1, h.2.resolve_left (by simp)⟩), if_neg hi, if_pos rfl]; simp only; omega
      simp only [move_ok b m1 hix.1 (by rw [f1]; exact hix.2), move_ok b m2 hix.1 (by rw [f2]; exact hix.2), move_ok b m3 hix.1 (by rw [f3]; exact hix.2),
        move_bad b (show ¬ (mayB [(⟨0, n, ⟨#[]⟩⟩ : Cm)] = true ∧ 0 ≤ wrap64 (wrap64 (n + 1) + i) ∧ wrap64 (wrap64 (n + 1) + i) ≤ froms [(⟨0, n, ⟨#[]⟩⟩ : Cm)]) by rw [f1, w1]; omega),
        move_bad b (show ¬ (mayB [(⟨0, n, ⟨#[]⟩⟩ : Cm)] = true ∧ 0 ≤ wrap64 (-1 - i) ∧ wrap64 (-1 - i) ≤ froms [(⟨0, n, ⟨#[]⟩⟩ : Cm)]) by rw [w2]; omega), w3, g1, g2, g3]
      have last : ∀ y, y = (if i = 0 ∧ b = false then 0 else i + (t.size : Int)) → Ev (fun k => minuetlaw6_CursorNothing.j2 k i i 0 (if i = 0 ∧ b = false then 0 else i + (t.size : Int)) 0 0 0 600 600 y) true := by
        intro y hy
        refine Ev.step (fun k => by rw [minuetlaw6_CursorNothing.j2]) ?_
        simp only [if_true, num_eq, Option.bind_some, ← hy, beq_self_eq_true]
        exact Ev.now _
      generalize hq : (if i = 0 ∧ b = false then (0 : Int) else i + (t.size : Int)) = q at last ⊢
      by_cases hi : i = 0
      · simp only [if_pos hi]
        refine Ev.step (fun k => by rw [minuetlaw6_CursorNothing.j1]) ?_
        cases b with
        | true => simp only [Bool.not_true, Bool.false_eq_true, if_false]; exact last _ (by rw [← hq]; simp)
        | false => simp only [Bool.not_false, if_true]; exact last _ (by rw [← hq]; simp [hi])
      · simp only [if_neg hi]
        refine Ev.step (fun k => by rw [minuetlaw6_CursorNothing.j1]) ?_
        simp only [Bool.false_eq_true, if_false]; exact last _ (by rw [← hq]; simp [hi])
  by_cases h1 : (t.size : Int) < 1
  · simp only [if_pos h1]; exact key _ (by simp)
  · simp only [if_neg h1]
    refine key _ (fun hx => ?_)
    have := of_decide_eq_false hx
    omega
end Go.Proofs.Ytbkkcoppncgegaa.Pl
