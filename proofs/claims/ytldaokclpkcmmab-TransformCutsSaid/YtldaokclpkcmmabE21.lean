/- The reference's Make comes to the same. -/
import Derived.Test.YtldaokclpkcmmabE20
import Derived.Test.YtldaokclpkcmmabGMinuetref1PMake
namespace Go.Proofs.Ytldaokclpkcmmab.Pl
open Go.RowKit Go.Proofs.Ytldaokclpkcmmab.G Go.Proofs.YtldaokclpkcmmabW.PrintWords Go.Proofs.YtldaokclpkcmmabW.PrintLast Go.Proofs.YtldaokclpkcmmabW.PrintMore
set_option linter.unusedVariables false
set_option linter.unusedSimpArgs false
theorem rMake_ev (s : ByteArray) (at_ cut : Int) (p : ByteArray) (hp : p.size ≤ 140737488351232) : Ev (fun k => minuetref1_Make.f k s at_ cut p) (mkM s at_ cut p) := by
  have bad : ¬ isThere s at_ cut = true → Ev (fun k => minuetref1_Make.j0 k s at_ cut p true) (mkM s at_ cut p) := by
    intro h
    refine Ev.step (fun k => by rw [minuetref1_Make.j0]) ?_
    simp only [if_true, mkM, if_neg h]
    exact Ev.now _
  refine Ev.congr (fun k => by rw [minuetref1_Make.f]) ?_
  by_cases h0 : s.size ≤ 4096
  · have h0' : ¬ (s.size : Int) > 4096 := by omega
    simp only [if_neg h0']
    by_cases h1 : 0 ≤ at_
    · have h1' : ¬ at_ < 0 := by omega
      simp only [if_neg h1']
      by_cases h2 : at_ ≤ (s.size : Int)
      · have h2' : ¬ at_ > (s.size : Int) := by omega
        simp only [if_neg h2']
        by_cases h3 : 0 ≤ cut
        · have h3' : ¬ cut < 0 := by omega
          simp only [if_neg h3']
          rw [show wrap64 ((s.size : Int) - at_) = (s.size : Int) - at_ from w64 (by omega) (by omega)]
          by_cases h4 : cut ≤ (s.size : Int) - at_
          · have ht : isThere s at_ cut = true := (isThere_iff _ _ _).2 ⟨h0, h1, h2, h3, h4⟩
            simp only [decide_eq_false (show ¬ cut > (s.size : Int) - at_ by omega)]
            refine Ev.step (fun k => by rw [minuetref1_Make.j0]) ?_
            simp only [Bool.false_eq_true, if_false]
            rw [show wrap64 ((s.size : Int) - cut) = (s.size : Int) - cut from w64 (by omega) (by omega), show wrap64 ((s.size : Int) - cut + (p.size : Int)) = (s.size : Int) - cut + (p.size : Int) from w64 (by omega) (by omega)]
            unfold mkM
            simp only [ht, if_true]
            have long : ¬ (p.size ≤ 300 ∧ (s.size : Int) - cut + (p.size : Int) ≤ 300) → Ev (fun k => minuetref1_Make.j1 k s at_ cut p true) (([] : List Cm), (801 : Int)) := by
              intro h
              refine Ev.step (fun k => by rw [minuetref1_Make.j1]) ?_
              simp only [if_true]; exact Ev.now _
            by_cases h5 : (p.size : Int) > 300
            · have h5' : ¬ (p.size ≤ 300 ∧ (s.size : Int) - cut + (p.size : Int) ≤ 300) := by omega
              simp only [if_pos h5, if_neg h5']; exact long h5'
            · by_cases h6 : (s.size : Int) - cut + (p.size : Int) > 300
              · have h6' : ¬ (p.size ≤ 300 ∧ (s.size : Int) - cut + (p.size : Int) ≤ 300) := by omega
                simp only [if_neg h5, decide_eq_true h6, if_neg h6']; exact long h6'
              · have h6' : (p.size ≤ 300 ∧ (s.size : Int) - cut + (p.size : Int) ≤ 300) := by omega
                simp only [if_neg h5, decide_eq_false h6, if_pos h6']
                refine Ev.step (fun k => by rw [minuetref1_Make.j1]) ?_
                simp only [Bool.false_eq_true, if_false]
                rw [show wrap64 ((s.size : Int) - at_) = (s.size : Int) - at_ from w64 (by omega) (by omega), show wrap64 ((s.size : Int) - at_ - cut) = (s.size : Int) - at_ - cut from w64 (by omega) (by omega)]
                exact r4 h1 h3 (by omega) (by omega) (Ev.now _)
          · simp only [decide_eq_true (show cut > (s.size : Int) - at_ by omega)]
            exact bad (fun h => h4 ((isThere_iff _ _ _).1 h).2.2.2.2)
        · simp only [if_pos (show cut < 0 by omega)]
          exact bad (fun h => h3 ((isThere_iff _ _ _).1 h).2.2.2.1)
      · simp only [if_pos (show at_ > (s.size : Int) by omega)]
        exact bad (fun h => h2 ((isThere_iff _ _ _).1 h).2.2.1)
    · simp only [if_pos (show at_ < 0 by omega)]
      exact bad (fun h => h1 ((isThere_iff _ _ _).1 h).2.1)
  · have h0' : (s.size : Int) > 4096 := by omega
    simp only [if_pos h0']
    exact bad (fun h => h0 ((isThere_iff _ _ _).1 h).1)

/-! Between -/
end Go.Proofs.Ytldaokclpkcmmab.Pl
