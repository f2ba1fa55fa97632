/- The plain law AgainNothing. -/
import Derived.Test.YtnhkdpcncjkmlaaAb
import Derived.Test.YtnhkdpcncjkmlaaGMinuetlaw10PAgainNothing
namespace Go.Proofs.Ytnhkdpcncjkmlaa.Pl
open Go.RowKit Go.Proofs.Ytnhkdpcncjkmlaa.G Go.Proofs.Ytnhkdpcncjkmlaa.Lx Go.Proofs.YtnhkdpcncjkmlaaW.PrintWords Go.Proofs.YtnhkdpcncjkmlaaW.PrintLast Go.Proofs.YtnhkdpcncjkmlaaW.PrintMore
set_option linter.unusedVariables false
set_option linter.unusedSimpArgs false
theorem nothing_true (x0 : ByteArray) (x1 : Int) (x2 : ByteArray) : Ev (fun k => minuetlaw10_AgainNothing.j0 k x0 x1 x2 true) true := by
  refine Ev.step (fun k => by rw [minuetlaw10_AgainNothing.j0]) ?_
  exact Ev.now _
theorem nothing_j0 (s : ByteArray) (x : Int) (t : ByteArray) (hs : s.size ≤ 300) (ht : t.size ≤ 300) : Ev (fun k => minuetlaw10_AgainNothing.j0 k s x t false) true := by
  refine Ev.step (fun k => by rw [minuetlaw10_AgainNothing.j0]) ?_
  obtain ⟨m0, m1, m2⟩ := umodN x ((s.size : Int) + 1) (by omega) (by omega)
  have w0 : wrap64 ((s.size : Int) + 1) = (s.size : Int) + 1 := w64 (by omega) (by omega)
  have w1 : IntKind.u64.wrap ((s.size : Int) + 1) = (s.size : Int) + 1 := u64_pos (by omega) (by omega)
  have z0 : ¬ ((s.size : Int) + 1 = 0) := by omega
  rw [w0, w1, tok_ev hs, m2]
  clear m2 w0 w1
  generalize Int.tmod (IntKind.u64.wrap x) ((s.size : Int) + 1) = i at m0 m1
  simp only [Bool.false_eq_true, if_false, opt_some, if_neg z0]
  have e1 : byt (edS s i 0 (⟨#[]⟩ : ByteArray)) = byt s := by
    rw [byt_edS, show byt (⟨#[]⟩ : ByteArray) = [] from rfl, List.append_nil, Int.add_zero, List.take_append_drop]
  have s1 : (edS s i 0 (⟨#[]⟩ : ByteArray)).size ≤ 300 := by rw [← byt_len, e1, byt_len]; exact hs
  have r1 := Again_ok (s := s) (ts := toks (byt s)) (a := i) (c := 0) (put := (⟨#[]⟩ : ByteArray)) ⟨hs, rfl, m0, by omega, Int.le_refl _, by omega, by decide⟩ s1
  rw [e1] at r1
  refine Ev.bind r1 ?_
  have e2 : byt (edS s 0 (s.size : Int) t) = byt t := by
    rw [byt_edS, show ((0 : Int) + (s.size : Int)).toNat = (byt s).length by rw [byt_len]; omega, List.drop_length, List.append_nil]; rfl
  have s2 : (edS s 0 (s.size : Int) t).size ≤ 300 := by rw [← byt_len, e2, byt_len]; exact ht
  have r2 := Again_ok (s := s) (ts := toks (byt s)) (a := 0) (c := (s.size : Int)) (put := t) ⟨hs, rfl, Int.le_refl _, by omega, by omega, by omega, ht⟩ s2
  rw [e2] at r2
  refine Ev.bind r2 ?_
  have n1 : agN (toks (byt s)) (toks (byt s)) = (toks (byt s)).length := by unfold agN; rw [ah_same, Nat.min_self]
  have n2 : ∀ d, bhN d (toks (byt s)) (toks (byt s)) = 0 := by intro d; unfold bhN; rw [n1, Nat.min_self, Nat.sub_self]; rfl
  rw [tok_ev ht]
  simp only [opt_some, num_eq, if_true, n1, n2]
  have q1 := (toks_sz hs).1
  have q2 := (toks_sz ht).1
  refine Ev.bind (Same_refl _ (by omega)) ?_
  simp only [if_true]
  refine Ev.bind (Same_refl _ (by omega)) ?_
  exact Ev.now _
theorem AgainNothing_pure (s : ByteArray) (x : Int) (t : ByteArray) (hs : s.size ≤ 140737488351232) (_hx : (Lit.int .i64 x).wf = true) (ht : t.size ≤ 140737488351232) : ∃ k, minuetlaw10_AgainNothing.f k s x t = some true := by
  refine Ev.rounds (Ev.congr (fun k => by rw [minuetlaw10_AgainNothing.f]) ?_)
  refine Ev.bind awake10_ev ?_
  simp only [if_true]
  refine Ev_ite (fun _ => nothing_true _ _ _) (fun h1 => ?_)
  by_cases h2 : (t.size : Int) > 300
  · rw [decide_eq_true h2]; exact nothing_true _ _ _
  · rw [decide_eq_false h2]; exact nothing_j0 s x t (by omega) (by omega)
end Go.Proofs.Ytnhkdpcncjkmlaa.Pl
