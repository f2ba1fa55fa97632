/- The reference's Tokens computes the same; SpoilTokens returns. -/
import Derived.Test.YtnhkdpcncjkmlaaLa
import Derived.Test.YtnhkdpcncjkmlaaGMinuetref9PTokens
import Derived.Test.YtnhkdpcncjkmlaaGMinuetlaw0PSpoilTokens
namespace Go.Proofs.Ytnhkdpcncjkmlaa.Pl
open Go.RowKit Go.Proofs.Ytnhkdpcncjkmlaa.G Go.Proofs.Ytnhkdpcncjkmlaa.Lx Go.Proofs.YtnhkdpcncjkmlaaW.PrintWords Go.Proofs.YtnhkdpcncjkmlaaW.PrintLast Go.Proofs.YtnhkdpcncjkmlaaW.PrintMore
set_option linter.unusedVariables false
set_option linter.unusedSimpArgs false
theorem SpoilT_l0 : ∀ (n : Nat) (xs : List Tk) (i : Nat), xs.length = i + n → xs.length < 4611686018427387904 → ∃ ys, Ev (fun k => minuetlaw0_SpoilTokens.l0 k xs (i : Int)) ys := by
  intro n
  induction n with
  | zero =>
    intro xs i h hl
    refine ⟨xs, Ev.step (fun k => by rw [minuetlaw0_SpoilTokens.l0]) ?_⟩
    simp only [if_neg (show ¬ (i : Int) < (xs.length : Int) by omega)]
    exact Ev.now _
  | succ n ih =>
    intro xs i h hl
    have w1 : wrap64 ((i : Int) + 1) = ((i + 1 : Nat) : Int) := by rw [w64 (by omega) (by omega)]; omega
    obtain ⟨ys, hy⟩ := ih (xs.set (i : Int).toNat (⟨(rd_T34 xs (i : Int)).f0, (rd_T34 xs (i : Int)).f1, Go.bits .xor .i64 ((rd_T34 xs (i : Int)).f2) 90⟩ : Tk)) (i + 1) (by rw [List.length_set]; omega) (by rw [List.length_set]; exact hl)
    refine ⟨ys, Ev.step (fun k => by rw [minuetlaw0_SpoilTokens.l0]) ?_⟩
    simp only [if_pos (show (i : Int) < (xs.length : Int) by omega), if_pos (show (0 : Int) ≤ (i : Int) by omega), w1]
    exact hy
theorem SpoilT_ev (xs : List Tk) (h : xs.length < 4611686018427387904) : ∃ ys, Ev (fun k => minuetlaw0_SpoilTokens.f k xs) ys := by
  obtain ⟨ys, hy⟩ := SpoilT_l0 xs.length xs 0 (by omega) h
  exact ⟨ys, Ev.congr (fun k => by rw [minuetlaw0_SpoilTokens.f]; rfl) hy⟩
theorem rtoks_l0 (s : ByteArray) (hs : s.size ≤ 300) : ∀ (n i : Nat) (xs : List Tk), i ≤ s.size → s.size ≤ i + n → xs.length ≤ i →
    Ev (fun k => minuetref9_Tokens.l0 k s xs (i : Int)) (xs ++ tks n i ((byt s).drop i), 0) := by
  intro n
  induction n with
  | zero =>
    intro i xs h h2 h3
    refine Ev.step (fun k => by rw [minuetref9_Tokens.l0]) ?_
    simp only [if_neg (show ¬ (i : Int) < (s.size : Int) by omega), tks, List.append_nil]
    exact Ev.now _
  | succ n ih =>
    intro i xs h h2 h3
    refine Ev.step (fun k => by rw [minuetref9_Tokens.l0]) ?_
    by_cases hi : i < s.size
    · have hd := byt_drop s i hi
      have hle := @tk_le (s[i]'hi) ((byt s).drop (i + 1))
      rw [← hd, List.length_drop, byt_len] at hle
      have hf : minuetref9_token.f s (i : Int) = some ((tk ((byt s).drop i)).1, (i : Int), ((i + (tk ((byt s).drop i)).2 : Nat) : Int)) := by
        unfold minuetref9_token.f
        rw [if_pos ⟨hs, by omega, by omega⟩, Int.toNat_natCast]
        simp only [Option.some.injEq, Prod.mk.injEq, true_and]
        omega
      simp only [if_pos (show (i : Int) < (s.size : Int) by omega), hf, opt_some, if_pos (show xs.length < 5864062014805 by omega)]
      have go := ih (i + (tk ((byt s).drop i)).2) (xs ++ [(⟨(tk ((byt s).drop i)).1, (i : Int), ((i + (tk ((byt s).drop i)).2 : Nat) : Int)⟩ : Tk)]) (by omega) (by omega) (by simp only [List.length_append, List.length_singleton]; omega)
      have e : tks (n + 1) i ((byt s).drop i) = (⟨(tk ((byt s).drop i)).1, (i : Int), ((i + (tk ((byt s).drop i)).2 : Nat) : Int)⟩ : Tk) :: tks n (i + (tk ((byt s).drop i)).2) ((byt s).drop (i + (tk ((byt s).drop i)).2)) := by
        rw [← List.drop_drop]
        rw [hd, tks]
      rw [e]
      simpa using go
    · simp only [if_neg (show ¬ (i : Int) < (s.size : Int) by omega)]
      rw [List.drop_eq_nil_of_le (by rw [byt_len]; omega), tks_nil, List.append_nil]
      exact Ev.now _
theorem rtok_ev {s : ByteArray} (h : s.size ≤ 300) : Ev (fun k => minuetref9_Tokens.f k s) (toks (byt s), 0) := by
  refine Ev.congr (fun k => by rw [minuetref9_Tokens.f, if_neg (by omega)]) ?_
  have := rtoks_l0 s h s.size 0 [] (by omega) (by omega) (by simp)
  simpa [toks, byt_len] using this
theorem rtok_big {s : ByteArray} (h : ¬ s.size ≤ 300) : Ev (fun k => minuetref9_Tokens.f k s) ([], 900) :=
  Ev.congr (fun k => by rw [minuetref9_Tokens.f, if_pos (by omega)]) (Ev.now _)
end Go.Proofs.Ytnhkdpcncjkmlaa.Pl
