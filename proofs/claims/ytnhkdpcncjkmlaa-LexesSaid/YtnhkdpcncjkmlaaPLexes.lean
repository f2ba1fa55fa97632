/- The plain law Lexes. -/
import Derived.Test.YtnhkdpcncjkmlaaLr
import Derived.Test.YtnhkdpcncjkmlaaGMinuetlaw9PLexes
namespace Go.Proofs.Ytnhkdpcncjkmlaa.Pl
open Go.RowKit Go.Proofs.Ytnhkdpcncjkmlaa.G Go.Proofs.Ytnhkdpcncjkmlaa.Lx Go.Proofs.YtnhkdpcncjkmlaaW.PrintWords Go.Proofs.YtnhkdpcncjkmlaaW.PrintLast Go.Proofs.YtnhkdpcncjkmlaaW.PrintMore
set_option linter.unusedVariables false
set_option linter.unusedSimpArgs false
theorem lexes_of (s : ByteArray) (T : List Tk) (E : Int) (hT : T.length < 4611686018427387904) (h1 : lex_Tokens.f s = some (T, E)) (h2 : Ev (fun k => minuetref9_Tokens.f k s) (T, E)) : Ev (fun k => minuetlaw9_Lexes.f k s) true := by
  refine Ev.congr (fun k => by rw [minuetlaw9_Lexes.f]) ?_
  rw [h1]
  simp only [opt_some]
  refine Ev.bind h2 ?_
  refine Ev.bind (Same_refl T hT) ?_
  simp only [if_true, num_eq, opt_some, bne_self_eq_false]
  refine Ev.step (fun k => by rw [minuetlaw9_Lexes.j0]) ?_
  simp only [Bool.false_eq_true, if_false]
  obtain ⟨ys, hy⟩ := SpoilT_ev T hT
  refine Ev.bind hy ?_
  rw [h1]
  simp only [opt_some]
  refine Ev.bind (Same_refl T hT) ?_
  simp only [if_true]
  refine Ev.bind awake_ev ?_
  exact Ev.now _
theorem Lexes_pure (s : ByteArray) (hs : s.size ≤ 140737488351232) : ∃ k, minuetlaw9_Lexes.f k s = some true := by
  by_cases h : s.size ≤ 300
  · exact Ev.rounds (lexes_of s _ 0 (by have := toks_len (byt s); rw [byt_len] at this; omega) (tok_ev h) (rtok_ev h))
  · exact Ev.rounds (lexes_of s _ 900 (by simp) (tok_big h) (rtok_big h))
end Go.Proofs.Ytnhkdpcncjkmlaa.Pl
