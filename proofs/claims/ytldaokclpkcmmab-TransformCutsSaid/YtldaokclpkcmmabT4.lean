/- Package transform is awake; the lengths of the puts. -/
import Derived.Test.YtldaokclpkcmmabT2
import Derived.Test.YtldaokclpkcmmabB2
import Derived.Test.YtldaokclpkcmmabGMinuetlaw5qawake
import Derived.Test.YtldaokclpkcmmabGMinuetlaw5qputs
namespace Go.Proofs.Ytldaokclpkcmmab.Pl
open Go.RowKit Go.Proofs.Ytldaokclpkcmmab.G Go.Proofs.YtldaokclpkcmmabW.PrintWords Go.Proofs.YtldaokclpkcmmabW.PrintLast Go.Proofs.YtldaokclpkcmmabW.PrintMore
set_option linter.unusedVariables false
set_option linter.unusedSimpArgs false
theorem awake5 : Ev (fun k => minuetlaw5_awake.f k) true := by
  have n1 : trM true [(⟨0, 1, ⟨#[]⟩⟩ : Cm), ⟨1, 0, ⟨#[120]⟩⟩, ⟨0, 2, ⟨#[]⟩⟩] [(⟨0, 1, ⟨#[]⟩⟩ : Cm), ⟨1, 0, ⟨#[121, 121]⟩⟩, ⟨2, 2, ⟨#[]⟩⟩] = ([(⟨0, 1, ⟨#[]⟩⟩ : Cm), ⟨1, 0, ⟨#[120]⟩⟩, ⟨0, 2, ⟨#[]⟩⟩], [(⟨0, 2, ⟨#[]⟩⟩ : Cm), ⟨1, 0, ⟨#[121, 121]⟩⟩, ⟨2, 2, ⟨#[]⟩⟩], 0) := by rfl
  have n2 : trM false [(⟨0, 1, ⟨#[]⟩⟩ : Cm), ⟨1, 0, ⟨#[120]⟩⟩, ⟨0, 2, ⟨#[]⟩⟩] [(⟨0, 1, ⟨#[]⟩⟩ : Cm), ⟨1, 0, ⟨#[121, 121]⟩⟩, ⟨2, 2, ⟨#[]⟩⟩] = ([(⟨0, 3, ⟨#[]⟩⟩ : Cm), ⟨1, 0, ⟨#[120]⟩⟩], [(⟨0, 1, ⟨#[]⟩⟩ : Cm), ⟨1, 0, ⟨#[121, 121]⟩⟩, ⟨0, 1, ⟨#[]⟩⟩, ⟨2, 2, ⟨#[]⟩⟩], 0) := by rfl
  have n3 : trM true [(⟨0, 1, ⟨#[]⟩⟩ : Cm), ⟨1, 0, ⟨#[120]⟩⟩, ⟨0, 2, ⟨#[]⟩⟩] [] = ([], [], 500) := by rfl
  refine Ev.congr (fun k => by rw [minuetlaw5_awake.f]) ?_
  simp only [Option.bind_some]
  refine Ev.bind (Transform_ev _ _ _) ?_
  refine Ev.bind (Transform_ev _ _ _) ?_
  refine Ev.bind (Transform_ev _ _ _) ?_
  rw [n1, n2, n3]
  refine Ev.bind (Same_refl _ (by simp)) ?_
  simp only [if_true]
  refine Ev.bind (Same_refl _ (by simp)) ?_
  simp only [num_eq, Option.bind_some, if_true]
  refine Ev.bind (Same_refl _ (by simp)) ?_
  simp only [if_true]
  refine Ev.bind (Same_refl _ (by simp)) ?_
  simp only [num_eq, Option.bind_some, if_true]
  exact Ev.now _
def pw : List Cm → Int → Int
  | [], a => a
  | c :: r, a => pw r (wrap64 (a + (c.f2.size : Int)))
theorem pw_psz : ∀ (xs : List Cm) (a : Int), 0 ≤ a → a + psz xs < 9223372036854775808 → pw xs a = a + psz xs := by
  intro xs
  induction xs with
  | nil => intro a _ _; simp [pw, psz]
  | cons c r ih =>
    intro a h0 h1
    have := psz_nonneg r
    simp only [pw, psz] at h1 ⊢
    rw [w64 (by omega) (by omega), ih _ (by omega) (by omega)]; omega
theorem puts_l0 (xs : List Cm) (hl : xs.length < 4611686018427387904) : ∀ (suf pre : List Cm) (a : Int), xs = pre ++ suf → Ev (fun k => minuetlaw5_puts.l0 k xs a (pre.length : Int)) (pw suf a) := by
  intro suf
  induction suf with
  | nil =>
    intro pre a e
    refine Ev.step (fun k => by rw [minuetlaw5_puts.l0]) ?_
    simp only [if_neg (nlt_of e), pw]; exact Ev.now _
  | cons c suf ih =>
    intro pre a e
    have hlt := lt_len e
    refine Ev.step (fun k => by rw [minuetlaw5_puts.l0]) ?_
    simp only [if_pos (lt_of e), if_pos (nat_nonneg _), rd_of e, len_next pre c (by omega), pw]
    exact ih (pre ++ [c]) _ (next_of e)
theorem puts_any (xs : List Cm) (hl : xs.length < 4611686018427387904) : Ev (fun k => minuetlaw5_puts.f k xs) (pw xs 0) := by
  unfold minuetlaw5_puts.f
  exact puts_l0 xs hl xs [] 0 rfl
theorem psz_tot {a : List Cm} (h : ∀ c ∈ a, good c) : psz a ≤ tot a := by
  induction a with
  | nil => simp [psz, tot]
  | cons c r ih =>
    have := ih (fun d hd => h d (List.mem_cons_of_mem _ hd))
    have hc := h c List.mem_cons_self
    have : (c.f2.size : Int) ≤ sz c := by
      unfold sz; have := hc.1; omega
    simp only [psz, tot]; omega
theorem puts_ev {xs : List Cm} (h : mayB xs = true) : Ev (fun k => minuetlaw5_puts.f k xs) (psz xs) := by
  obtain ⟨a1, a2, a3⟩ := may_bounds h
  have := puts_any xs (by omega)
  have hp := psz_tot a2
  rwa [pw_psz xs 0 (by omega) (by omega), Int.zero_add] at this
theorem trM_swap (f : Bool) (a b : List Cm) : trM (!f) b a = ((trM f a b).2.1, (trM f a b).1, (trM f a b).2.2) := by
  have e : emitT (!f) b a = ((emitT f a b).2, (emitT f a b).1) := by unfold emitT; rw [Nat.add_comm]; exact tr_swap _ f a b
  unfold trM
  rw [e]
  by_cases h : mayB a = true ∧ mayB b = true ∧ froms a = froms b ∧ mayB (norm (emitT f a b).1) = true ∧ mayB (norm (emitT f a b).2) = true
  · rw [if_pos h, if_pos ⟨h.2.1, h.1, h.2.2.1.symm, h.2.2.2.2, h.2.2.2.1⟩]
  · rw [if_neg h, if_neg (fun g => h ⟨g.2.1, g.1, g.2.2.1.symm, g.2.2.2.2, g.2.2.2.1⟩)]
/-- What Transform gives may be, is of few pieces, or fails. -/
theorem trM_cases (f : Bool) (a b : List Cm) : (∃ p q, trM f a b = (p, q, 0) ∧ mayB a = true ∧ mayB b = true ∧ froms a = froms b ∧ p = norm (emitT f a b).1 ∧ q = norm (emitT f a b).2 ∧ mayB p = true ∧ mayB q = true) ∨ trM f a b = ([], [], 500) := by
  by_cases h : mayB a = true ∧ mayB b = true ∧ froms a = froms b ∧ mayB (norm (emitT f a b).1) = true ∧ mayB (norm (emitT f a b).2) = true
  · exact .inl ⟨_, _, if_pos h, h.1, h.2.1, h.2.2.1, rfl, rfl, h.2.2.2.1, h.2.2.2.2⟩
  · exact .inr (if_neg h)
end Go.Proofs.Ytldaokclpkcmmab.Pl
