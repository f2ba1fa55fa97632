/- The plain law ApplyKeeps: no program in sight but the printed function. -/
import Derived.Test.YtldaokclpkcmmaaA1
import Derived.Test.YtldaokclpkcmmaaE6
import Derived.Test.YtldaokclpkcmmaaGMinuetlaw3PApplyKeeps
namespace Go.Proofs.Ytldaokclpkcmmaa.Pl
open Go.RowKit Go.Proofs.Ytldaokclpkcmmaa.G Go.Proofs.YtldaokclpkcmmaaW.PrintWords Go.Proofs.YtldaokclpkcmmaaW.PrintLast Go.Proofs.YtldaokclpkcmmaaW.PrintMore
set_option linter.unusedVariables false
set_option linter.unusedSimpArgs false
theorem keep_eq (n : Int) (h : 0 ≤ n) : kp n = mk4 n ⟨#[]⟩ 0 0 := by
  rw [mk4_deg n ⟨#[]⟩ 0 0 h (Int.le_refl _) ⟨rfl, rfl⟩, Int.add_zero]
theorem turn_eq (t : ByteArray) (n : Int) : pt t ++ ct n = mk4 0 t n 0 := by
  by_cases h : t.size = 0 ∧ n = 0
  · rw [mk4_deg 0 t n 0 (by omega) (by omega) h]; simp [pt, ct, kp, h.1, h.2]
  · rw [mk4_gen 0 t n 0 h]; simp [kp]
theorem ApplyKeeps_pure (s t : ByteArray) (_h1 : s.size ≤ 140737488351232) (_h2 : t.size ≤ 140737488351232) : ∃ k, minuetlaw3_ApplyKeeps.f k s t = some true := by
  refine Ev.rounds (Ev.congr (fun k => by rw [minuetlaw3_ApplyKeeps.f]) (Ev.bind awake3 ?_))
  simp only [if_true]
  have out : Ev (fun k => minuetlaw3_ApplyKeeps.j0 k s t true) true := by
    refine Ev.step (fun k => by rw [minuetlaw3_ApplyKeeps.j0]) ?_
    simp only [if_true]; exact Ev.now _
  by_cases h1 : (s.size : Int) > 4096
  · simp only [if_pos h1]; exact out
  simp only [if_neg h1]
  by_cases h2 : (t.size : Int) > 4096
  · rw [decide_eq_true h2]; exact out
  rw [decide_eq_false h2]
  have e0 : (⟨#[]⟩ : ByteArray).size = 0 := rfl
  have fin : Ev (fun k => minuetlaw3_ApplyKeeps.j2 k s t (kp (s.size : Int)) (pt t ++ ct (s.size : Int))) true := by
    refine Ev.step (fun k => by rw [minuetlaw3_ApplyKeeps.j2]) ?_
    rw [keep_eq _ (by omega), turn_eq]
    have m1 : mayB (mk4 (s.size : Int) ⟨#[]⟩ 0 0) = true := mk4_may (by omega) (by omega) (by omega) (by omega) (by omega)
    have f1 : froms (mk4 (s.size : Int) ⟨#[]⟩ 0 0) = (s.size : Int) := by rw [mk4_froms (by omega) (by omega) (by omega)]; omega
    have a1 : apM s (mk4 (s.size : Int) ⟨#[]⟩ 0 0) = (s, 0) := by
      rw [apM_ok m1 f1, mk4_ap (by omega) (by omega) (by omega)]
      refine Prod.ext (bl_inj ?_) rfl
      simp only
      rw [bl_bs, Int.toNat_natCast, List.take_of_length_le (by rw [bl_len]; omega), bl_nil]
      simp
    have a2 : apM s (mk4 0 t (s.size : Int) 0) = (t, 0) := by
      rw [apM_ok (mk4_may (by omega) (by omega) (by omega) (by omega) (by omega)) (by rw [mk4_froms (by omega) (by omega) (by omega)]; omega), mk4_ap (by omega) (by omega) (by omega)]
      refine Prod.ext (bl_inj ?_) rfl
      simp only
      rw [bl_bs]
      simp
    have a3 : apM (s ++ ⟨#[120]⟩) (mk4 (s.size : Int) ⟨#[]⟩ 0 0) = (⟨#[]⟩, 300) := by
      refine apM_err (fun h => ?_)
      have := h.2
      rw [f1, ByteArray.size_append, show (⟨#[120]⟩ : ByteArray).size = 1 from rfl] at this
      omega
    refine Ev.bind (Apply_ev _ _) ?_
    refine Ev.bind (Apply_ev _ _) ?_
    simp only [if_pos (show s.size + 1 ≤ 9223372036854775807 by omega)]
    refine Ev.bind (Apply_ev _ _) ?_
    rw [a1, a2, a3]
    simp only [num_eq, Option.bind_some, if_true, beq_self_eq_true]
    exact Ev.now _
  have two : Ev (fun k => minuetlaw3_ApplyKeeps.j1 k s t [] (pt t)) true := by
    refine Ev.step (fun k => by rw [minuetlaw3_ApplyKeeps.j1]) ?_
    by_cases h3 : (s.size : Int) > 0
    · have e1 : kp (s.size : Int) = [⟨0, (s.size : Int), ⟨#[]⟩⟩] := by unfold kp; rw [if_neg (by omega)]
      have e2 : ct (s.size : Int) = [⟨2, (s.size : Int), ⟨#[]⟩⟩] := by unfold ct; rw [if_neg (by omega)]
      have e3 : (pt t).length < 4398046511104 := by unfold pt; split <;> simp
      rw [e1, e2] at fin
      simp only [if_pos h3, List.length_nil, if_pos e3, List.nil_append, show (0 : Nat) < 4398046511104 from by omega, if_true]
      exact fin
    · have e1 : kp (s.size : Int) = [] := by unfold kp; rw [if_pos (by omega)]
      have e2 : ct (s.size : Int) = [] := by unfold ct; rw [if_pos (by omega)]
      rw [e1, e2, List.append_nil] at fin
      simp only [if_neg h3]
      exact fin
  refine Ev.step (fun k => by rw [minuetlaw3_ApplyKeeps.j0]) ?_
  simp only [Bool.false_eq_true, if_false]
  by_cases h4 : (t.size : Int) > 0
  · have e1 : pt t = [⟨1, 0, t⟩] := by unfold pt; rw [if_neg (by omega)]
    rw [e1] at two
    simp only [if_pos h4, List.length_nil, List.nil_append, show (0 : Nat) < 4398046511104 from by omega, if_true]
    exact two
  · have e1 : pt t = [] := by unfold pt; rw [if_pos (by omega)]
    rw [e1] at two
    simp only [if_neg h4]
    exact two
end Go.Proofs.Ytldaokclpkcmmaa.Pl
