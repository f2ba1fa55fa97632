/- The plain law EditForms: no program in sight but the printed function. -/
import Derived.Test.YtbkkcoppncgegabE3
import Derived.Test.YtbkkcoppncgegabGMinuetlaw8PEditForms
namespace Go.Proofs.Ytbkkcoppncgegab.Pl
open Go.RowKit Go.Proofs.Ytbkkcoppncgegab.G Go.Proofs.YtbkkcoppncgegabW.PrintWords Go.Proofs.YtbkkcoppncgegabW.PrintLast Go.Proofs.YtbkkcoppncgegabW.PrintMore
set_option linter.unusedVariables false
set_option linter.unusedSimpArgs false
theorem mk_form {s : ByteArray} {at_ cut : Int} {p : ByteArray} (h : ¬ (s.size ≤ 4096 ∧ 0 ≤ at_ ∧ at_ ≤ (s.size : Int) ∧ 0 ≤ cut ∧ cut ≤ (s.size : Int) - at_)) : (mkM s at_ cut p).2 = 800 := by
  unfold mkM; rw [if_neg (fun hh => h ((isThere_iff _ _ _).1 hh))]
theorem mk_long {s : ByteArray} {at_ cut : Int} {p : ByteArray} (h : s.size ≤ 4096 ∧ 0 ≤ at_ ∧ at_ ≤ (s.size : Int) ∧ 0 ≤ cut ∧ cut ≤ (s.size : Int) - at_) (h2 : ¬ (p.size ≤ 300 ∧ (s.size : Int) - cut + (p.size : Int) ≤ 300)) : (mkM s at_ cut p).2 = 801 := by
  unfold mkM; rw [if_pos ((isThere_iff _ _ _).2 h), if_neg h2]
theorem mk_fine {s : ByteArray} {at_ cut : Int} {p : ByteArray} (h : s.size ≤ 4096 ∧ 0 ≤ at_ ∧ at_ ≤ (s.size : Int) ∧ 0 ≤ cut ∧ cut ≤ (s.size : Int) - at_) (h2 : (p.size ≤ 300 ∧ (s.size : Int) - cut + (p.size : Int) ≤ 300)) : (mkM s at_ cut p).2 = 0 := by
  unfold mkM; rw [if_pos ((isThere_iff _ _ _).2 h), if_pos h2]
theorem EditForms_pure (s : ByteArray) (x : Int) (_hs : s.size ≤ 140737488351232) (_hx : (Lit.int .i64 x).wf = true) : ∃ k, minuetlaw8_EditForms.f k s x = some true := by
  refine Ev.rounds (Ev.congr (fun k => by rw [minuetlaw8_EditForms.f]) (Ev.bind awake8 ?_))
  simp only [if_true]
  by_cases hb : (s.size : Int) > 300
  · simp only [if_pos hb]; exact Ev.now _
  · simp only [if_neg hb]
    have e0 : (⟨#[]⟩ : ByteArray).size = 0 := rfl
    obtain ⟨m0, m1⟩ := and_mask x 1023 (by omega)
    have ed : ∃ d, wrap64 (1 + Go.bits .and .i64 x 1023) = d ∧ 1 ≤ d ∧ d ≤ 1024 := by
      refine ⟨_, rfl, ?_⟩
      rw [show ((1023 : Nat) : Int) = 1023 from rfl] at m0 m1
      rw [w64 (by omega) (by omega)]; omega
    obtain ⟨d, ed, d0, d1⟩ := ed
    simp only [ed]
    rw [show wrap64 (-d) = -d from w64 (by omega) (by omega), show wrap64 ((s.size : Int) + d) = (s.size : Int) + d from w64 (by omega) (by omega), show wrap64 (300 - (s.size : Int)) = 300 - (s.size : Int) from w64 (by omega) (by omega), show wrap64 (300 - (s.size : Int) + d) = 300 - (s.size : Int) + d from w64 (by omega) (by omega), show wrap64 (300 + d) = 300 + d from w64 (by omega) (by omega), show wrap64 (4096 + d) = 4096 + d from w64 (by omega) (by omega)]
    obtain ⟨b1, z1, l1⟩ := long_ev (300 - (s.size : Int) + d) (by omega) (by omega)
    obtain ⟨b2, z2, l2⟩ := long_ev 300 (by omega) (by omega)
    obtain ⟨b3, z3, l3⟩ := long_ev (300 + d) (by omega) (by omega)
    obtain ⟨b4, z4, l4⟩ := long_ev (4096 + d) (by omega) (by omega)
    refine Ev.bind (Make_ev _ _ _ _ (by omega)) ?_
    refine Ev.bind (Make_ev _ _ _ _ (by omega)) ?_
    refine Ev.bind (Make_ev _ _ _ _ (by omega)) ?_
    refine Ev.bind (Make_ev _ _ _ _ (by omega)) ?_
    refine Ev.bind l1 ?_
    refine Ev.bind (Make_ev _ _ _ _ (by omega)) ?_
    refine Ev.bind l2 ?_
    refine Ev.bind (Make_ev _ _ _ _ (by omega)) ?_
    refine Ev.bind l3 ?_
    refine Ev.bind (Make_ev _ _ _ _ (by omega)) ?_
    refine Ev.bind l4 ?_
    refine Ev.bind (Between_ev _ _) ?_
    refine Ev.bind l4 ?_
    refine Ev.bind (Between_ev _ _) ?_
    simp only [num_eq, Option.bind_some]
    rw [mk_form (s := s) (at_ := -d) (by omega), mk_form (s := s) (at_ := (s.size : Int) + d) (by omega), mk_form (s := s) (at_ := 0) (cut := (s.size : Int) + d) (by omega), mk_form (s := s) (at_ := 0) (cut := -d) (by omega),
      mk_long (s := s) (p := b1) (by omega) (by omega), mk_fine (s := s) (p := b2) (by omega) (by omega), mk_long (s := s) (p := b3) (by omega) (by omega), btM_err (s := b4) (by omega), btM_err (t := b4) (by omega)]
    simp only [if_true]
    exact Ev.now _
end Go.Proofs.Ytbkkcoppncgegab.Pl
