/- The laws of relex: awake, and an edit's text. -/
import Derived.Test.YtnhkdpcncjkmlaaAg
import Derived.Test.YtnhkdpcncjkmlaaGMinuetlaw10qawake
namespace Go.Proofs.Ytnhkdpcncjkmlaa.Pl
open Go.RowKit Go.Proofs.Ytnhkdpcncjkmlaa.G Go.Proofs.Ytnhkdpcncjkmlaa.Lx Go.Proofs.YtnhkdpcncjkmlaaW.PrintWords Go.Proofs.YtnhkdpcncjkmlaaW.PrintLast Go.Proofs.YtnhkdpcncjkmlaaW.PrintMore
set_option linter.unusedVariables false
set_option linter.unusedSimpArgs false
set_option maxRecDepth 100000 in
theorem aw_facts : (toks (byt (edS ⟨#[91, 49, 44, 32, 50, 51, 93]⟩ 4 1 ⟨#[120]⟩))).length = 7 ∧ (rd_T34 (toks (byt (edS ⟨#[91, 49, 44, 32, 50, 51, 93]⟩ 4 1 ⟨#[120]⟩))) 4).f0 = 11 ∧
    agN (toks (byt ⟨#[91, 49, 44, 32, 50, 51, 93]⟩)) (toks (byt (edS ⟨#[91, 49, 44, 32, 50, 51, 93]⟩ 4 1 ⟨#[120]⟩))) = 4 ∧ bhN (((⟨#[120]⟩ : ByteArray).size : Int) - 1) (toks (byt ⟨#[91, 49, 44, 32, 50, 51, 93]⟩)) (toks (byt (edS ⟨#[91, 49, 44, 32, 50, 51, 93]⟩ 4 1 ⟨#[120]⟩))) = 1 ∧ (toks (byt ⟨#[91, 49, 44, 32, 50, 51, 93]⟩)).length = 6 := by decide +kernel
theorem awake10_ev : Ev (fun k => minuetlaw10_awake.f k) true := by
  obtain ⟨f1, f2, f3, f4, f5⟩ := aw_facts
  refine Ev.congr (fun k => by rw [minuetlaw10_awake.f]) ?_
  rw [tok_ev (by decide)]
  simp only [opt_some]
  refine Ev.bind (Again_ok ⟨by decide, rfl, by decide, by decide, by decide, by decide, by decide⟩ (by decide)) ?_
  refine Ev.bind (Again_no (fun h => ?_) (by decide)) ?_
  · have := congrArg List.length h.2.1
    rw [f5] at this; cases this
  refine Ev.bind (Again_no (fun h => ?_) (by decide)) ?_
  · exact absurd h.2.2.2.2.2.1 (by decide)
  simp only [num_eq, opt_some, f1, f2, f3, f4, if_true]
  simp
  exact Ev.now _
theorem byt_take (s : ByteArray) (i : Nat) : byt (s.extract 0 i) = (byt s).take i := by
  show (s.extract 0 i).data.toList = _
  rw [ByteArray.data_extract, Array.toList_extract, List.extract_eq_take_drop]; simp [byt]
theorem byt_from (s : ByteArray) (i : Nat) : byt (s.extract i s.size) = (byt s).drop i := byt_ext s i
theorem byt_edS (s : ByteArray) (a c : Int) (put : ByteArray) : byt (edS s a c put) = (byt s).take a.toNat ++ byt put ++ (byt s).drop (a + c).toNat := by
  unfold edS; rw [byt_cat, byt_cat, byt_take, byt_from]
theorem ah_same : ∀ (n : Nat) (x : List Tk) (i : Nat), ah n x x i = n := by
  intro n
  induction n with
  | zero => intro x i; rfl
  | succ n ih => intro x i; rw [ah, if_pos (sq_iff.2 rfl), ih]
theorem umodN (a n : Int) (h : 0 < n) (h1 : n ≤ 4096) : 0 ≤ Int.tmod (IntKind.u64.wrap a) n ∧ Int.tmod (IntKind.u64.wrap a) n < n ∧ wrap64 (Int.tmod (IntKind.u64.wrap a) n) = Int.tmod (IntKind.u64.wrap a) n := by
  have h0 : 0 ≤ IntKind.u64.wrap a := by simp only [IntKind.wrap, IntKind.signed, IntKind.bits]; first | omega | (simp; omega)
  have a1 : 0 ≤ Int.tmod (IntKind.u64.wrap a) n := Int.tmod_nonneg _ h0
  have a2 : Int.tmod (IntKind.u64.wrap a) n < n := Int.tmod_lt_of_pos _ h
  exact ⟨a1, a2, w64 (by omega) (by omega)⟩
theorem u64_pos {x : Int} (h0 : 0 ≤ x) (h1 : x < 9223372036854775808) : IntKind.u64.wrap x = x := by
  simp only [IntKind.wrap, IntKind.signed, IntKind.bits]; first | omega | (simp; omega)
end Go.Proofs.Ytnhkdpcncjkmlaa.Pl
