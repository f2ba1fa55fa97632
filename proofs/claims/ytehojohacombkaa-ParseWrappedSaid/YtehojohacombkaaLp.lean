/- Tokens of two texts with a line's end between: those of both. -/
import Derived.Test.YtehojohacombkaaLa
namespace Go.Proofs.Ytehojohacombkaa.Pl
open Go.RowKit Go.Proofs.Ytehojohacombkaa.G Go.Proofs.Ytehojohacombkaa.Lx Go.Proofs.YtehojohacombkaaW.PrintWords Go.Proofs.YtehojohacombkaaW.PrintLast
set_option linter.unusedVariables false
set_option linter.unusedSimpArgs false
theorem run_app {p : UInt8 → Bool} (hp : p 10 = false) (l m : List UInt8) : run p (l ++ 10 :: m) = run p l := by
  induction l with
  | nil => simp [run, hp]
  | cons b r ih => simp only [List.cons_append, run, ih]
theorem run_lt_app {p : UInt8 → Bool} (l m : List UInt8) : run p l < l.length → run p (l ++ m) = run p l := by
  induction l with
  | nil => intro h; simp at h
  | cons b r ih =>
    intro h
    simp only [List.cons_append, run, List.length_cons] at h ⊢
    by_cases c : p b = true
    · rw [if_pos c] at h ⊢; rw [if_pos c, ih (by omega)]
    · rw [if_neg c, if_neg c]
theorem at_nl {p : UInt8 → Bool} (hp : p 10 = false) {l m : List UInt8} {i : Nat} (h : i ≤ l.length) : at_ p (l ++ 10 :: m) i = at_ p l i := by
  unfold at_
  rcases Nat.lt_or_ge i l.length with h1 | h1
  · rw [List.getElem?_append_left h1]
  · have : i = l.length := by omega
    subst this
    rw [List.getElem?_append_right (Nat.le_refl _)]; simp [hp]
theorem run_drop_app {p : UInt8 → Bool} (hp : p 10 = false) {l m : List UInt8} {i : Nat} (h : i ≤ l.length) : run p ((l ++ 10 :: m).drop i) = run p (l.drop i) := by
  rw [List.drop_append_of_le_length h, run_app hp]
theorem nWhole_app {l m : List UInt8} {i : Nat} (h : i ≤ l.length) : nWhole (l ++ 10 :: m) i = nWhole l i := by
  unfold nWhole
  rw [at_nl (p := fun b => b == 48) rfl h, run_drop_app (p := isD) rfl h]
theorem nPart_app {l m : List UInt8} {i : Nat} (h : i ≤ l.length) : nPart (l ++ 10 :: m) i = nPart l i := by
  unfold nPart
  rw [at_nl (p := fun b => b == 46) rfl h]
  by_cases c : at_ (fun b => b == 46) l i = true
  · have h1 := at_lt c
    rw [at_nl (p := isD) rfl (by omega), run_drop_app (p := isD) rfl (by omega)]
  · rw [if_neg (fun h => c h.1), if_neg (fun h => c h.1)]
theorem nPow_app {l m : List UInt8} {i : Nat} (h : i ≤ l.length) : nPow (l ++ 10 :: m) i = nPow l i := by
  unfold nPow
  rw [at_nl (p := fun b => b == 101 || b == 69) rfl h]
  by_cases c : at_ (fun b => b == 101 || b == 69) l i = true
  · have h1 := at_lt c
    rw [if_pos c, if_pos c, at_nl (p := fun b => b == 43 || b == 45) rfl (by omega)]
    by_cases d : at_ (fun b => b == 43 || b == 45) l (i + 1) = true
    · have h2 := at_lt d
      rw [if_pos d, if_pos d, at_nl (p := isD) rfl (by omega), run_drop_app (p := isD) rfl (by omega)]
    · rw [if_neg d, if_neg d, at_nl (p := isD) rfl (by omega), run_drop_app (p := isD) rfl (by omega)]
  · rw [if_neg c, if_neg c]
theorem num_app (l m : List UInt8) : num (l ++ 10 :: m) = num l := by
  have key : ∀ k, k ≤ l.length → (if at_ isD (l ++ 10 :: m) k = true then nPow (l ++ 10 :: m) (nPart (l ++ 10 :: m) (nWhole (l ++ 10 :: m) k)) else 0) = if at_ isD l k = true then nPow l (nPart l (nWhole l k)) else 0 := by
    intro k hk
    rw [at_nl (p := isD) rfl hk]
    by_cases c : at_ isD l k = true
    · have h1 := (nWhole_le c).2
      have h2 := (nPart_le h1).2
      rw [if_pos c, if_pos c, nWhole_app hk, nPart_app h1, nPow_app h2]
    · rw [if_neg c, if_neg c]
  unfold num
  simp only
  rw [at_nl (p := fun b => b == 45) rfl (Nat.zero_le _)]
  by_cases c : at_ (fun b => b == 45) l 0 = true
  · have h1 := at_lt c
    rw [if_pos c]; exact key 1 h1
  · rw [if_neg c]; exact key 0 (Nat.zero_le _)
theorem txt_app (m : List UInt8) : ∀ n, ∀ l : List UInt8, l.length ≤ n → txt (l ++ 10 :: m) = txt l := by
  intro n
  induction n with
  | zero => intro l h; have : l = [] := List.eq_nil_of_length_eq_zero (by omega); subst this; rw [List.nil_append, txt.eq_def (10 :: m), txt]; simp
  | succ n ih =>
    intro l h
    cases l with
    | nil => rw [List.nil_append, txt.eq_def (10 :: m), txt]; simp
    | cons b r =>
      simp only [List.length_cons] at h
      rw [List.cons_append, txt.eq_def, txt.eq_def (b :: r)]
      simp only
      by_cases c1 : b = 10
      · rw [if_pos c1, if_pos c1]
      · rw [if_neg c1, if_neg c1]
        by_cases c2 : b = 34
        · rw [if_pos c2, if_pos c2]
        · rw [if_neg c2, if_neg c2]
          by_cases c3 : b = 92
          · rw [if_pos c3, if_pos c3]
            cases r with
            | nil => simp
            | cons c r' =>
              simp only [List.length_cons] at h
              simp only [List.cons_append]
              rw [ih r' (by omega)]
          · rw [if_neg c3, if_neg c3, ih r (by omega)]
theorem shut_app (m : List UInt8) : ∀ (l : List UInt8) (k : Nat), shut l = some k → shut (l ++ 10 :: m) = some k := by
  intro l
  induction l with
  | nil => intro k h; simp [shut] at h
  | cons b r ih =>
    intro k h
    rw [shut] at h
    rw [List.cons_append, shut]
    by_cases c : b = 42 ∧ r.head? = some 47
    · rw [if_pos c] at h
      have c2 : b = 42 ∧ (r ++ 10 :: m).head? = some 47 := by
        refine ⟨c.1, ?_⟩
        cases r with
        | nil => simp at c
        | cons d r' => simpa using c.2
      rw [if_pos c2]; exact h
    · rw [if_neg c] at h
      have c2 : ¬ (b = 42 ∧ (r ++ 10 :: m).head? = some 47) := by
        intro h2
        cases r with
        | nil => simp at h2
        | cons d r' => exact c ⟨h2.1, by simpa using h2.2⟩
      rw [if_neg c2]
      cases hs : shut r with
      | none => rw [hs] at h; cases h
      | some j => rw [hs] at h; rw [ih j hs]; exact h
theorem rmk_app {r : List UInt8} (m : List UInt8) (h : (rmk (47 :: r)).2 = true ∨ (rmk (47 :: r)).1 ≤ 1) : rmk (47 :: r ++ 10 :: m) = rmk (47 :: r) := by
  cases r with
  | nil => rfl
  | cons c r' =>
    by_cases c1 : c = 47
    · subst c1
      show ((run (fun b => b != 10) (47 :: 47 :: r' ++ 10 :: m), true) : Nat × Bool) = (run (fun b => b != 10) (47 :: 47 :: r'), true)
      rw [run_app (p := fun b => b != 10) rfl]
    · by_cases c2 : c = 42
      · subst c2
        have e1 : rmk (47 :: 42 :: r') = (match shut r' with | some k => (k + 2, true) | none => ((47 :: 42 :: r').length, false)) := rfl
        have e2 : rmk (47 :: 42 :: r' ++ 10 :: m) = (match shut (r' ++ 10 :: m) with | some k => (k + 2, true) | none => ((47 :: 42 :: (r' ++ 10 :: m)).length, false)) := rfl
        cases hs : shut r' with
        | none => rw [e1, hs] at h; simp at h
        | some k => rw [e1, e2, hs, shut_app m r' k hs]
      · have e : ∀ q : List UInt8, rmk (47 :: c :: q) = (1, false) := by
          intro q
          unfold rmk
          split
          · rename_i h1; simp only [List.cons.injEq] at h1; exact absurd h1.2.1 c1
          · rename_i h1; simp only [List.cons.injEq] at h1; exact absurd h1.2.1 c2
          · rfl
        rw [e, List.cons_append, List.cons_append, e]
theorem rmk_shape (r : List UInt8) : (rmk (47 :: r)).2 = true ∨ (rmk (47 :: r)).1 ≤ 1 ∨ (rmk (47 :: r)).1 = (47 :: r).length := by
  unfold rmk
  split
  · exact .inl rfl
  · split
    · exact .inl rfl
    · exact .inr (.inr rfl)
  · exact .inr (.inl (Nat.le_refl _))
theorem tk_app {b : UInt8} {r : List UInt8} (m : List UInt8) (h1 : (tk (b :: r)).1 = 11 → (tk (b :: r)).2 ≤ 1 ∨ (tk (b :: r)).2 < (b :: r).length)
    (h2 : (tk (b :: r)).1 = 10 → (tk (b :: r)).2 < (b :: r).length) : tk (b :: r ++ 10 :: m) = tk (b :: r) := by
  have e0 : b :: r ++ 10 :: m = b :: (r ++ 10 :: m) := rfl
  rw [tk] at h1 h2
  rw [e0, tk, tk]
  rw [← e0]
  cases hs : sign b with
  | some k => rfl
  | none =>
    rw [hs] at h1 h2
    simp only at h1 h2 ⊢
    by_cases c1 : isB b = true
    · rw [if_pos c1] at h2 ⊢
      rw [if_pos c1, run_lt_app _ _ (h2 rfl)]
    · rw [if_neg c1] at h1 ⊢
      rw [if_neg c1]
      by_cases c2 : b = 34
      · rw [if_pos c2, if_pos c2, txt_app m r.length r (Nat.le_refl _)]
      · rw [if_neg c2] at h1 ⊢
        rw [if_neg c2]
        by_cases c3 : b = 47
        · rw [if_pos c3] at h1 ⊢
          rw [if_pos c3]
          subst c3
          rw [rmk_app m]
          by_cases d : (rmk (47 :: r)).2 = true
          · exact .inl d
          · rw [if_neg d] at h1
            refine .inr ?_
            rcases h1 rfl with h | h
            · exact h
            · rcases rmk_shape r with h' | h' | h'
              · exact absurd h' d
              · exact h'
              · simp only at h; omega
        · rw [if_neg c3] at h1 ⊢
          rw [if_neg c3]
          by_cases c4 : isL b = true
          · rw [if_pos c4, if_pos c4, run_app (p := isL) rfl, List.take_append_of_le_length (run_le _ _)]
          · rw [if_neg c4, if_neg c4, num_app]
theorem tks_app (m : List UInt8) (hm : ∀ c, m.head? = some c → isB c = false) : ∀ (n i : Nat) (l : List UInt8) (n' : Nat), l.length ≤ n → l.length + 1 + m.length ≤ n' →
    (∀ c, (tks n i l).getLast? = some c → c.f0 ≠ 10 ∧ (c.f0 = 11 → c.f2 - c.f1 ≤ 1)) →
    tks n' i (l ++ 10 :: m) = tks n i l ++ (⟨10, ((i + l.length : Nat) : Int), ((i + l.length + 1 : Nat) : Int)⟩ : Tk) :: (toks m).map (mv ((i + l.length + 1 : Nat) : Int)) := by
  intro n
  induction n with
  | zero =>
    intro i l n' hl hn hc
    have : l = [] := List.eq_nil_of_length_eq_zero (by omega)
    subst this
    cases n' with
    | zero => simp at hn
    | succ n' =>
      have hb : isB 10 = true := rfl
      have hr : run isB m = 0 := by
        cases m with
        | nil => rfl
        | cons c q => simp only [run, hm c rfl, Bool.false_eq_true, if_false]
      have e : tk (10 :: m) = (10, 1) := by
        rw [tk]
        rw [show sign 10 = none from rfl]
        simp only [hb, if_true, run, hr]
      simp only [List.nil_append, tks, e, List.length_nil, Nat.add_zero, List.drop_succ_cons, List.drop_zero, List.cons.injEq, true_and]
      rw [show i + 1 = 0 + (i + 1) by omega, tks_mv, tks_fuel n' m.length _ _ (by simp at hn; omega) (Nat.le_refl _)]
      simp [toks]
  | succ n ih =>
    intro i l n' hl hn hc
    cases l with
    | nil => simpa [tks_nil] using ih i [] n' (by simp) hn (by intro c h; rw [tks_nil] at h; simp at h)
    | cons b r =>
      cases n' with
      | zero => simp at hn
      | succ n' =>
        have hle := tk_le (b := b) (r := r)
        simp only [tks] at hc ⊢
        have hlast : (tk (b :: r)).2 = (b :: r).length → (tk (b :: r)).1 ≠ 10 ∧ ((tk (b :: r)).1 = 11 → (tk (b :: r)).2 ≤ 1) := by
          intro e
          rw [e, List.drop_length, tks_nil] at hc
          have := hc _ rfl
          refine ⟨this.1, fun h => ?_⟩
          have h9 : ((i + (b :: r).length : Nat) : Int) - (i : Int) ≤ 1 := this.2 h
          omega
        have et : tk (b :: r ++ 10 :: m) = tk (b :: r) := by
          refine tk_app m (fun h => ?_) (fun h => ?_)
          · by_cases e : (tk (b :: r)).2 = (b :: r).length
            · exact .inl ((hlast e).2 h)
            · exact .inr (by omega)
          · by_cases e : (tk (b :: r)).2 = (b :: r).length
            · exact absurd h (hlast e).1
            · omega
        have ed : (b :: r ++ 10 :: m).drop (tk (b :: r)).2 = (b :: r).drop (tk (b :: r)).2 ++ 10 :: m := List.drop_append_of_le_length hle.2
        have go := ih (i + (tk (b :: r)).2) ((b :: r).drop (tk (b :: r)).2) n' (by rw [List.length_drop]; omega) (by rw [List.length_drop]; simp only [List.length_cons] at hn hle ⊢; omega)
          (by
            intro c h
            refine hc c ?_
            rw [List.getLast?_cons, h]; rfl)
        rw [show b :: r ++ 10 :: m = b :: (r ++ 10 :: m) from rfl] at et ed ⊢
        simp only [tks, et, ed, go, List.cons_append]
        rw [show i + (tk (b :: r)).2 + ((b :: r).drop (tk (b :: r)).2).length = i + (b :: r).length by rw [List.length_drop]; omega]
end Go.Proofs.Ytehojohacombkaa.Pl
