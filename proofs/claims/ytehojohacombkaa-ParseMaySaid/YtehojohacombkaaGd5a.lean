/- lex.Solid by its contract. -/
import Derived.Test.YtehojohacombkaaGd1
import Derived.Test.YtehojohacombkaaLa
import Derived.Test.YtehojohacombkaaGLexPSolid
namespace Go.Proofs.Ytehojohacombkaa.Pl
open Go.RowKit Go.Proofs.Ytehojohacombkaa.G Go.Proofs.Ytehojohacombkaa.Lx Go.Proofs.YtehojohacombkaaW.PrintWords Go.Proofs.YtehojohacombkaaW.PrintLast Go.Proofs.YtehojohacombkaaW.PrintMore
open Go.Proofs.Ytehojohacombkaa.Gd (solid)
set_option linter.unusedVariables false
set_option linter.unusedSimpArgs false
theorem solid_l0 (E : Int) (ts : List Tk) (hl : ts.length ≤ 300) : ∀ (suf pre acc : List Tk), ts = pre ++ suf → acc.length ≤ pre.length →
    Ev (fun k => lex_Solid.l0 k E acc ts (ts.length : Int) (pre.length : Int)) (acc ++ solid suf, E) := by
  intro suf
  induction suf with
  | nil =>
    intro pre acc e h
    refine Ev.step (fun k => by rw [lex_Solid.l0]) ?_
    rw [List.append_nil] at e
    subst e
    simp only [if_neg (show ¬ (ts.length : Int) < (ts.length : Int) by omega), solid, List.filter_nil, List.append_nil]
    exact Ev.now _
  | cons c suf ih =>
    intro pre acc e h
    have hlt := lt_of e
    have hlen : pre.length < 300 := by have := congrArg List.length e; simp at this; omega
    have hw : wrap64 ((pre.length : Int) + 1) = ((pre ++ [c]).length : Int) := by rw [w64 (by omega) (by omega)]; simp
    have e2 : ts = (pre ++ [c]) ++ suf := by rw [e]; simp
    refine Ev.step (fun k => by rw [lex_Solid.l0]) ?_
    simp only [if_pos hlt, if_pos (show (0 : Int) ≤ (pre.length : Int) by omega), rd_of e, hw]
    by_cases c1 : c.f0 = 10
    · simp only [if_pos c1]
      have := ih (pre ++ [c]) acc e2 (by simp; omega)
      rwa [show solid (c :: suf) = solid suf by simp [solid, c1]]
    · simp only [if_neg c1]
      by_cases c2 : c.f0 = 9
      · simp only [if_pos c2]
        have := ih (pre ++ [c]) acc e2 (by simp; omega)
        rwa [show solid (c :: suf) = solid suf by simp [solid, c2]]
      · simp only [if_neg c2, if_pos (show acc.length < 5864062014805 by omega)]
        have := ih (pre ++ [c]) (acc ++ [c]) e2 (by simp; omega)
        rw [show solid (c :: suf) = c :: solid suf by simp [solid, c1, c2]]
        rwa [List.append_assoc] at this
theorem solid_ev (s : ByteArray) (T : List Tk) (E : Int) (h : lex_Tokens.f s = some (T, E)) (hl : T.length ≤ 300) : Ev (fun k => lex_Solid.f k s) (solid T, E) := by
  refine Ev.congr (fun k => by rw [lex_Solid.f, h, opt_some]) ?_
  have := solid_l0 E T hl T [] [] rfl (by simp)
  simpa using this
end Go.Proofs.Ytehojohacombkaa.Pl
namespace Go.Proofs.Ytehojohacombkaa.G
open Go.RowKit Go.Proofs.YtehojohacombkaaW.PrintWords Go.Proofs.YtehojohacombkaaW.PrintLast Go.Proofs.YtehojohacombkaaW.PrintMore
open Go.Proofs.Ytehojohacombkaa.Lx (Tk toks)
open Go.Proofs.Ytehojohacombkaa.Gd (val solid good)
set_option linter.unusedVariables false
set_option linter.unusedSimpArgs false
theorem Gd.solid_any (s : ByteArray) (T : List Tk) (E : Int) (h : Ev (fun k => lex_Solid.f k s) (T, E)) (w : World) (hm : MaxOk w) :
    Calls Try.prog 26 #[.string s] w fun e w' => ∃ v0_ : Value, e = .returned (.tuple #[v0_, .int .i64 E]) ∧ Kd.R k46 46 w' w.heap.size (fun _ => True) v0_ T ∧ Below w.heap.size w w' := by
  obtain ⟨k, hk⟩ := Ev.rounds h
  exact lex_Solid.calls k s T E w hm hk
end Go.Proofs.Ytehojohacombkaa.G
