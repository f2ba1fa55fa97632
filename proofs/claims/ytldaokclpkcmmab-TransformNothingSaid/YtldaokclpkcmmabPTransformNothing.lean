/- The plain law TransformNothing: no program in sight but the printed function. -/
import Derived.Test.YtldaokclpkcmmabT4
import Derived.Test.YtldaokclpkcmmabGMinuetlaw5PTransformNothing
namespace Go.Proofs.Ytldaokclpkcmmab.Pl
open Go.RowKit Go.Proofs.Ytldaokclpkcmmab.G Go.Proofs.YtldaokclpkcmmabW.PrintWords Go.Proofs.YtldaokclpkcmmabW.PrintLast Go.Proofs.YtldaokclpkcmmabW.PrintMore
set_option linter.unusedVariables false
set_option linter.unusedSimpArgs false
/-- All that A leaves or puts, kept. -/
def ks : List Cm → List Cm
  | [] => []
  | c :: r => (if c.f0 = 2 then [] else [kpc (sz c)]) ++ ks r
theorem kq_short (a : Int) : (kq a).length ≤ 1 := by unfold kq; split <;> simp
theorem tr_keep (f : Bool) : ∀ (n : Nat) (A : List Cm), okA A → A.length + (kq (froms A)).length ≤ n → tr n f A (kq (froms A)) = (A, ks A) := by
  intro n
  induction n with
  | zero =>
    intro A hA hn
    have e2 : A = [] := List.eq_nil_of_length_eq_zero (by omega)
    subst e2; rfl
  | succ n ih =>
    intro A hA hn
    cases A with
    | nil => rfl
    | cons c A =>
      have hc' := hA c List.mem_cons_self
      have hA' := okA_tail hA
      have hp := pos hc'
      have hf := froms_le (okA_good hA')
      by_cases k : c.f0 = 1
      · rw [froms_put k] at hn ⊢
        have := ih A hA' (by simp only [List.length_cons] at hn; omega)
        by_cases e : froms A = 0
        · have ek : kq (froms A) = [] := by rw [kq, if_pos e]
          rw [ek] at this ⊢
          simp only [tr, if_pos k, this, ks, if_neg (show ¬ c.f0 = 2 by omega), List.singleton_append]
        · rw [kq_pos (by omega)] at this ⊢
          simp only [tr, if_pos (show c.f0 = 1 ∧ (f = true ∨ (0 : Int) ≠ 1) from ⟨k, .inr (by omega)⟩), this, ks, if_neg (show ¬ c.f0 = 2 by omega), List.singleton_append]
      · have hcs := sz_n hc'.1 k
        have ht : froms (c :: A) = sz c + froms A := by rw [froms_cons hc'.1, hcs]
        have h0 : 0 < froms (c :: A) := by omega
        have hk := kq_short (froms A)
        have := ih A hA' (by rw [kq_pos h0] at hn; simp only [List.length_cons, List.length_nil] at hn; omega)
        rw [kq_pos h0]
        have em_ : mn (sz c) (froms (c :: A)) = sz c := by unfold mn; split <;> omega
        have e1 : rst (sz c) c A = A := by unfold rst; rw [if_pos rfl]
        have e2 : rst (sz c) (⟨0, froms (c :: A), ⟨#[]⟩⟩ : Cm) [] = kq (froms A) := by rw [kq_rst (by omega) (by omega), ht]; congr 1; omega
        have e3 : hd (sz c) (⟨0, froms (c :: A), ⟨#[]⟩⟩ : Cm) = kpc (sz c) := by rw [hd_n (by show ¬ (0 : Int) = 1; omega)]; rfl
        have hck := hc'.1.2.1
        simp only [tr, if_neg (show ¬ (c.f0 = 1 ∧ (f = true ∨ (0 : Int) ≠ 1)) from fun h => k h.1), if_neg (show ¬ (0 : Int) = 1 by omega), kq_sz, em_, e1, e2, e3, this, if_true, hd_all hc'.1, List.singleton_append, ks]
        by_cases k0 : c.f0 = 0
        · rw [if_pos k0, if_neg (by omega)]
        · rw [if_neg k0, if_pos (by omega)]
theorem add_kq {m k : Int} (h0 : 0 ≤ m) (h1 : 0 < k) : add (kq m) (kpc k) = kq (m + k) := by
  by_cases e : m = 0
  · subst e
    have : kq 0 = [] := by rw [kq, if_pos rfl]
    rw [this, Int.zero_add, kq_pos h1]
    unfold add
    rw [List.reverse_nil, addR_nil (by rw [kpc_sz]; omega)]; rfl
  · rw [kq_pos (by omega), kq_pos (by omega)]
    unfold add
    rw [List.reverse_singleton, addR_cons_same (by rw [kpc_sz]; omega) (by rfl)]
    simp only [mrg, kpc]
    rfl
theorem fold_ks : ∀ (A : List Cm) (m : Int), okA A → 0 ≤ m → (ks A).foldl add (kq m) = kq (m + tos A) := by
  intro A
  induction A with
  | nil => intro m _ _; simp [ks, tos]
  | cons c A ih =>
    intro m hA h0
    have hp := pos (hA c List.mem_cons_self)
    by_cases k : c.f0 = 2
    · simp only [ks, if_pos k, List.nil_append, tos_cons, Int.zero_add]
      exact ih m (okA_tail hA) h0
    · simp only [ks, if_neg k, List.singleton_append, List.foldl_cons, tos_cons, add_kq h0 hp]
      rw [ih _ (okA_tail hA) (by omega)]
      congr 1; omega
theorem norm_ks {A : List Cm} (h : okA A) : norm (ks A) = kq (tos A) := by
  have := fold_ks A 0 h (Int.le_refl _)
  rw [show kq 0 = [] by rw [kq, if_pos rfl], Int.zero_add] at this
  exact this
theorem trM_keep (f : Bool) {a : List Cm} (ha : mayB a = true) : trM f a (kq (froms a)) = (a, kq (tos a), 0) := by
  obtain ⟨a1, a2, a3⟩ := may_bounds ha
  obtain ⟨_, _, _, pa1, pa2⟩ := (may_iff a).1 ha
  have h0 := (froms_le a2).1; have h1 := (tos_le a2).1
  have e : emitT f a (kq (froms a)) = (a, ks a) := tr_keep f _ a (may_ok ha) (Nat.le_refl _)
  have n1 : norm (emitT f a (kq (froms a))).1 = a := by rw [e]; exact norm_of_nf (may_nf ha)
  have n2 : norm (emitT f a (kq (froms a))).2 = kq (tos a) := by rw [e]; exact norm_ks (may_ok ha)
  rw [trM_ok ha (kq_may h0 pa1) (kq_froms _).symm (by rw [n1]; exact ha) (by rw [n2]; exact kq_may h1 pa2), n1, n2]
theorem TransformNothing_pure {ok : Cm → Prop} (a : List Cm) (f : Bool) (_h : ∀ c ∈ a, ok c) (_hl : a.length * 32 ≤ 140737488351232) : ∃ k, minuetlaw5_TransformNothing.f k a f = some true := by
  refine Ev.rounds (Ev.congr (fun k => by rw [minuetlaw5_TransformNothing.f]) (Ev.bind awake5 ?_))
  simp only [if_true]
  refine Ev.bind (rLengths_ev a) ?_
  by_cases ha : mayB a = true
  · obtain ⟨a1, a2, a3⟩ := may_bounds ha
    have f0 := (froms_le a2).1; have t0 := (tos_le a2).1
    rw [lens_ok a ha]
    simp only [if_true]
    have fin : Ev (fun k => minuetlaw5_TransformNothing.j1 k a f (kq (froms a)) (kq (tos a))) true := by
      refine Ev.step (fun k => by rw [minuetlaw5_TransformNothing.j1]) ?_
      refine Ev.bind (Transform_ev _ _ _) ?_
      rw [trM_keep f ha]
      simp only [num_eq, Option.bind_some, if_true]
      refine Ev.bind (Same_refl a (by omega)) ?_
      simp only [if_true]
      refine Ev.bind (Same_refl _ (by have := kq_short (tos a); omega)) ?_
      exact Ev.now _
    have two : Ev (fun k => minuetlaw5_TransformNothing.j0 k a f (tos a) (kq (froms a)) []) true := by
      refine Ev.step (fun k => by rw [minuetlaw5_TransformNothing.j0]) ?_
      by_cases ht : tos a > 0
      · simp only [if_pos ht]
        rw [kq_pos ht] at fin
        exact fin
      · have e : tos a = 0 := by omega
        simp only [if_neg ht]
        have : kq (tos a) = [] := by rw [kq, if_pos e]
        rw [this] at fin
        exact fin
    by_cases hf : froms a > 0
    · simp only [if_pos hf]
      rw [kq_pos hf] at two
      exact two
    · have e : froms a = 0 := by omega
      simp only [if_neg hf]
      have : kq (froms a) = [] := by rw [kq, if_pos e]
      rw [this] at two
      exact two
  · rw [lens_err a ha]
    simp only [Int.reduceEq, if_false]
    refine Ev.bind (Transform_ev _ _ _) ?_
    rw [trM_err (fun hh => ha hh.1)]
    simp only [num_eq, Option.bind_some, beq_self_eq_true]
    exact Ev.now _
end Go.Proofs.Ytldaokclpkcmmab.Pl
