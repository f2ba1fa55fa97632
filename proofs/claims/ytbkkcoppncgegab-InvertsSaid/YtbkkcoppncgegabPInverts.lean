/- The plain law Inverts: no program in sight but the printed function. -/
import Derived.Test.YtbkkcoppncgegabV1
import Derived.Test.YtbkkcoppncgegabM8
import Derived.Test.YtbkkcoppncgegabLk2
import Derived.Test.YtbkkcoppncgegabGMinuetlaw7PInverts
namespace Go.Proofs.Ytbkkcoppncgegab.Pl
open Go.RowKit Go.Proofs.Ytbkkcoppncgegab.G Go.Proofs.YtbkkcoppncgegabW.PrintWords Go.Proofs.YtbkkcoppncgegabW.PrintLast Go.Proofs.YtbkkcoppncgegabW.PrintMore
set_option linter.unusedVariables false
set_option linter.unusedSimpArgs false
theorem iv_len (s : ByteArray) (cs : List Cm) (hl : cs.length < 4398046511104) : (ivM s cs).1.length < 4611686018427387904 := by
  unfold ivM
  split
  · have := fold_len (bk (bl s) cs) []
    simp only [List.length_nil, bk_len] at this
    show (norm (bk (bl s) cs)).length < _
    unfold norm; omega
  · simp
theorem Inverts_pure {ok : Cm → Prop} (s : ByteArray) (cs : List Cm) (_hs : s.size ≤ 140737488351232) (_h : ∀ c ∈ cs, ok c) (hl : cs.length * 32 ≤ 140737488351232) : ∃ k, minuetlaw7_Inverts.f k s cs = some true := by
  refine Ev.rounds (Ev.congr (fun k => by rw [minuetlaw7_Inverts.f]) ?_)
  simp only [Lend_eq cs hl, Option.bind_some]
  refine Ev.bind (Invert_ev s cs) ?_
  refine Ev.bind (rInvert_ev s cs) ?_
  have hi := iv_len s cs (by omega)
  refine Ev.bind (Same_refl _ hi) ?_
  simp only [if_true, num_eq, Option.bind_some, bne_self_eq_false]
  refine Ev.step (fun k => by rw [minuetlaw7_Inverts.j0]) ?_
  simp only [Bool.false_eq_true, if_false]
  obtain ⟨ys, hy⟩ := Spoil_ev _ hi
  refine Ev.bind hy ?_
  refine Ev.bind (Kept_ev cs hl) ?_
  simp only [if_true]
  refine Ev.bind awake7 ?_
  exact Ev.now _
end Go.Proofs.Ytbkkcoppncgegab.Pl
