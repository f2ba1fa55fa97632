/- (In a seat without SameTokens: in the place of La.) Laws of the lexer: small words, awake, and what the model's tokens are like. -/
import Derived.Test.YtehojohacombkaaX1
import Derived.Test.YtehojohacombkaaGLexPTokens
import Derived.Test.YtehojohacombkaaGMinuetlaw0PNum
namespace Go.Proofs.Ytehojohacombkaa.Pl
open Go.RowKit Go.Proofs.Ytehojohacombkaa.G Go.Proofs.Ytehojohacombkaa.Lx Go.Proofs.YtehojohacombkaaW.PrintWords Go.Proofs.YtehojohacombkaaW.PrintLast
set_option linter.unusedVariables false
set_option linter.unusedSimpArgs false
theorem w64 {x : Int} (h0 : -9223372036854775808 ≤ x) (h1 : x < 9223372036854775808) : wrap64 x = x := by unfold wrap64; omega
theorem num_eq (x : Int) : minuetlaw0_Num.f x = some x := rfl
theorem opt_some {α β : Type} (x : α) (g : α → Option β) : (some x).bind g = g x := Eq.trans rfl rfl
theorem Ev_ite {α : Type} {c : Prop} [Decidable c] {f g : Nat → Option α} {r : α} (h1 : c → Ev f r) (h2 : ¬ c → Ev g r) : Ev (fun k => if c then f k else g k) r := by
  by_cases h : c
  · simp only [if_pos h]; exact h1 h
  · simp only [if_neg h]; exact h2 h
theorem rd_of {xs pre suf : List Tk} {c : Tk} (e : xs = pre ++ c :: suf) : rd_T46 xs (pre.length : Int) = c := by
  subst e; simp [rd_T46]
theorem lt_of {α : Type} {xs pre suf : List α} {c : α} (e : xs = pre ++ c :: suf) : (pre.length : Int) < (xs.length : Int) := by
  subst e; simp only [List.length_append, List.length_cons]; omega
theorem nlt_of {α : Type} {xs pre : List α} (e : xs = pre ++ []) : ¬ (pre.length : Int) < (xs.length : Int) := by
  subst e; simp
theorem tok_ev {s : ByteArray} (h : s.size ≤ 300) : lex_Tokens.f s = some (toks (byt s), 0) := by
  unfold lex_Tokens.f; rw [if_neg (by omega)]
theorem tok_big {s : ByteArray} (h : ¬ s.size ≤ 300) : lex_Tokens.f s = some ([], 900) := by
  unfold lex_Tokens.f; rw [if_pos (by omega)]
/-! ### the model's tokens -/
theorem run_stop (p : UInt8 → Bool) (l : List UInt8) : ∀ c, (l.drop (run p l)).head? = some c → p c = false := by
  induction l with
  | nil => intro c h; simp [run] at h
  | cons b r ih =>
    intro c h
    by_cases e : p b = true
    · simp only [run, if_pos e, List.drop_succ_cons] at h; exact ih c h
    · simp only [run, if_neg e, List.drop_zero, List.head?_cons, Option.some.injEq] at h; subst h; simpa using e
theorem tk_kind (l : List UInt8) : 0 ≤ (tk l).1 ∧ (tk l).1 ≤ 11 := by
  cases l with
  | nil => simp [tk]
  | cons b r =>
    rw [tk]
    cases hs : sign b with
    | some k =>
      simp only
      unfold sign at hs
      repeat' (split at hs; · cases hs; decide)
      cases hs
    | none =>
      simp only
      repeat' split
      all_goals simp
theorem tk_blank {b : UInt8} {r : List UInt8} (h : (tk (b :: r)).1 = 10) : (tk (b :: r)).2 = run isB (b :: r) := by
  rw [tk] at h ⊢
  cases hs : sign b with
  | some k =>
    rw [hs] at h; simp only at h
    unfold sign at hs
    repeat' (split at hs; · cases hs; exact absurd h (by decide))
    cases hs
  | none =>
    rw [hs] at h; simp only at h ⊢
    by_cases c : isB b = true
    · rw [if_pos c]
    · rw [if_neg c] at h
      exfalso
      by_cases c2 : b = 34
      · rw [if_pos c2] at h; simp only at h; split at h <;> omega
      · rw [if_neg c2] at h
        by_cases c3 : b = 47
        · rw [if_pos c3] at h; simp only at h; split at h <;> omega
        · rw [if_neg c3] at h
          by_cases c4 : isL b = true
          · rw [if_pos c4] at h; simp only at h; split at h <;> omega
          · rw [if_neg c4] at h
            by_cases c5 : num (b :: r) = 0
            · rw [if_pos c5] at h; simp only at h; omega
            · rw [if_neg c5] at h; simp only at h; omega
theorem tk_head {b : UInt8} {r : List UInt8} (h : (tk (b :: r)).1 = 10) : isB b = true := by
  have e := tk_blank h; have := (tk_le (b := b) (r := r)).1
  by_cases c : isB b = true
  · exact c
  · rw [e] at this; simp only [run, if_neg c] at this; omega
theorem tks_nil (n i : Nat) : tks n i [] = [] := by cases n <;> rfl
theorem tks_len : ∀ n i l, (tks n i l).length ≤ l.length := by
  intro n
  induction n with
  | zero => intro i l; simp [tks]
  | succ n ih =>
    intro i l
    cases l with
    | nil => simp [tks]
    | cons b r =>
      simp only [tks, List.length_cons]
      have h1 := ih (i + (tk (b :: r)).2) ((b :: r).drop (tk (b :: r)).2)
      have h2 := tk_le (b := b) (r := r)
      rw [List.length_drop] at h1
      simp only [List.length_cons] at h1 h2
      omega
theorem toks_len (l : List UInt8) : (toks l).length ≤ l.length := tks_len _ _ _
/-- More fuel than the text is long changes nothing. -/
theorem tks_fuel : ∀ n m i l, l.length ≤ n → l.length ≤ m → tks n i l = tks m i l := by
  intro n
  induction n with
  | zero => intro m i l h _; have : l = [] := List.eq_nil_of_length_eq_zero (by omega); subst this; rw [tks_nil, tks_nil]
  | succ n ih =>
    intro m i l h hm
    cases l with
    | nil => rw [tks_nil, tks_nil]
    | cons b r =>
      cases m with
      | zero => simp at hm
      | succ m =>
        have h2 := (tk_le (b := b) (r := r)).1
        simp only [tks]
        rw [ih m _ _ (by rw [List.length_drop]; omega) (by rw [List.length_drop]; omega)]
/-- Tokens of a text that is moved. -/
def mv (d : Int) (t : Tk) : Tk := ⟨t.f0, t.f1 + d, t.f2 + d⟩
theorem tks_mv : ∀ n i d l, tks n (i + d) l = (tks n i l).map (mv (d : Int)) := by
  intro n
  induction n with
  | zero => intro i d l; simp [tks]
  | succ n ih =>
    intro i d l
    cases l with
    | nil => simp [tks]
    | cons b r =>
      simp only [tks, List.map_cons, mv, List.cons.injEq, Go.Proofs.Ytehojohacombkaa.G.S46.mk.injEq, true_and]
      refine ⟨⟨by omega, by omega⟩, ?_⟩
      rw [show i + d + (tk (b :: r)).2 = i + (tk (b :: r)).2 + d by omega]
      exact ih _ _ _
end Go.Proofs.Ytehojohacombkaa.Pl
