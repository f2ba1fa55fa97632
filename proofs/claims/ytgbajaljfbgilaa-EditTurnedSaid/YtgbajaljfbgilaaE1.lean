/- Edits made: what the functions of package edit come to. -/
import Derived.Test.YtgbajaljfbgilaaE0
import Derived.Test.YtgbajaljfbgilaaGZ6
import Derived.Test.YtgbajaljfbgilaaGEditPBetween
namespace Go.Proofs.Ytgbajaljfbgilaa.Pl
open Go.RowKit Go.Proofs.Ytgbajaljfbgilaa.G Go.Proofs.YtgbajaljfbgilaaW.PrintWords Go.Proofs.YtgbajaljfbgilaaW.PrintLast Go.Proofs.YtgbajaljfbgilaaW.PrintMore
set_option linter.unusedVariables false
set_option linter.unusedSimpArgs false
theorem made_l0 (xs : List Cm) (hg : ∀ c ∈ xs, good c) (hl : xs.length ≤ 4096) (ht : tot xs ≤ 4611686018427387) : ∀ (suf pre : List Cm) (out : List Cm), xs = pre ++ suf → (∀ c ∈ out, good c) → tot out = tot pre → out.length ≤ pre.length →
    Ev (fun k => edit_made.l0 k out xs (xs.length : Int) (pre.length : Int)) (suf.foldl add out) := by
  intro suf
  induction suf with
  | nil =>
    intro pre out e ho hto hlo
    refine Ev.step (fun k => by rw [edit_made.l0]) ?_
    simp only [if_neg (nlt_of e), List.foldl_nil]
    exact Ev.now _
  | cons c suf ih =>
    intro pre out e ho hto hlo
    have hlt := lt_len e
    have hc := hg c (mem_of e)
    have hsuf : ∀ c ∈ suf, good c := fun d hd => hg d (by rw [e]; simp [hd])
    have hpre : ∀ c ∈ pre, good c := fun d hd => hg d (by rw [e]; simp [hd])
    have h4 := tot_nonneg hpre; have h5 := tot_nonneg hsuf
    have ht2 : tot pre + (sz c + tot suf) ≤ 4611686018427387 := by have := ht; rw [e, tot_append] at this; simpa [tot] using this
    refine Ev.step (fun k => by rw [edit_made.l0]) ?_
    simp only [if_pos (lt_of e), if_pos (nat_nonneg _), rd_of e, len_next pre c (by omega)]
    refine Ev.bind (Add_ev out c ho hc (by omega) (by omega)) ?_
    exact ih (pre ++ [c]) (add out c) (next_of e) (add_good ho hc) (by rw [tot_add ho hc, hto, tot_append]; simp [tot]) (by have := add_len out c; simp only [List.length_append, List.length_cons, List.length_nil]; omega)
theorem made_ev (a : Int) (p : ByteArray) (c b : Int) (ha : 0 ≤ a) (hc : 0 ≤ c) (hb : 0 ≤ b) (ht : a + (p.size : Int) + c + b ≤ 4611686018427387) : Ev (fun k => edit_made.f k a p c b) (mk4 a p c b) := by
  refine Ev.congr (fun k => by rw [edit_made.f]) ?_
  simp only [comp_Keep.f, comp_Put.f, comp_Cut.f, Option.bind_some]
  exact made_l0 (raw4 a p c b) (raw4_good ha hc hb) (by simp [raw4]) (by rw [raw4_tot]; exact ht) (raw4 a p c b) [] [] rfl no_good rfl (by simp)

theorem Make_ev (s : ByteArray) (at_ cut : Int) (p : ByteArray) (hp : p.size ≤ 140737488351232) : Ev (fun k => edit_Make.f k s at_ cut p) (mkM s at_ cut p) := by
  have bad : ¬ isThere s at_ cut = true → Ev (fun k => edit_Make.j0 k s at_ cut p true) (mkM s at_ cut p) := by
    intro h
    refine Ev.step (fun k => by rw [edit_Make.j0]) ?_
    simp only [if_true, mkM, if_neg h]
    exact Ev.now _
  refine Ev.congr (fun k => by rw [edit_Make.f]) ?_
  by_cases h0 : s.size ≤ 4096
  · have h0' : ¬ (s.size : Int) > 4096 := by omega
    simp only [if_neg h0', edit_There.f]
    by_cases h1 : 0 ≤ at_
    · by_cases h2 : at_ ≤ (s.size : Int)
      · by_cases h3 : 0 ≤ cut
        · simp only [if_pos (show at_ ≥ 0 from h1), if_pos h2, if_pos (show cut ≥ 0 from h3), Option.bind_some]
          rw [show wrap64 ((s.size : Int) - at_) = (s.size : Int) - at_ from w64 (by omega) (by omega)]
          by_cases h4 : cut ≤ (s.size : Int) - at_
          · have ht : isThere s at_ cut = true := (isThere_iff _ _ _).2 ⟨h0, h1, h2, h3, h4⟩
            simp only [decide_eq_true h4, Bool.not_true]
            refine Ev.step (fun k => by rw [edit_Make.j0]) ?_
            simp only [Bool.false_eq_true, if_false]
            rw [show wrap64 ((s.size : Int) - cut) = (s.size : Int) - cut from w64 (by omega) (by omega), show wrap64 ((s.size : Int) - cut + (p.size : Int)) = (s.size : Int) - cut + (p.size : Int) from w64 (by omega) (by omega), show wrap64 ((s.size : Int) - at_) = (s.size : Int) - at_ from w64 (by omega) (by omega), show wrap64 ((s.size : Int) - at_ - cut) = (s.size : Int) - at_ - cut from w64 (by omega) (by omega)]
            unfold mkM
            simp only [ht, if_true]
            by_cases h5 : (p.size : Int) > 300
            · have h5' : ¬ (p.size ≤ 300 ∧ (s.size : Int) - cut + (p.size : Int) ≤ 300) := by omega
              simp only [if_pos h5, if_neg h5']; exact Ev.now _
            · by_cases h6 : (s.size : Int) - cut + (p.size : Int) > 300
              · have h6' : ¬ (p.size ≤ 300 ∧ (s.size : Int) - cut + (p.size : Int) ≤ 300) := by omega
                simp only [if_neg h5, if_pos h6, if_neg h6']; exact Ev.now _
              · have h6' : (p.size ≤ 300 ∧ (s.size : Int) - cut + (p.size : Int) ≤ 300) := by omega
                simp only [if_neg h5, if_neg h6, if_pos h6']
                refine Ev.bind (made_ev _ _ _ _ h1 h3 (by omega) (by omega)) ?_
                exact Ev.now _
          · simp only [decide_eq_false h4, Bool.not_false]
            exact bad (fun h => h4 ((isThere_iff _ _ _).1 h).2.2.2.2)
        · simp only [if_pos (show at_ ≥ 0 from h1), if_pos h2, if_neg (show ¬ cut ≥ 0 from h3), Option.bind_some, Bool.not_false]
          exact bad (fun h => h3 ((isThere_iff _ _ _).1 h).2.2.2.1)
      · simp only [if_pos (show at_ ≥ 0 from h1), if_neg h2, Option.bind_some, Bool.not_false]
        exact bad (fun h => h2 ((isThere_iff _ _ _).1 h).2.2.1)
    · simp only [if_neg (show ¬ at_ ≥ 0 from h1), Option.bind_some, Bool.not_false]
      exact bad (fun h => h1 ((isThere_iff _ _ _).1 h).2.1)
  · have h0' : (s.size : Int) > 4096 := by omega
    simp only [if_pos h0']
    exact bad (fun h => h0 ((isThere_iff _ _ _).1 h).1)

theorem Between_ev (s t : ByteArray) : Ev (fun k => edit_Between.f k s t) (btM s t) := by
  refine Ev.congr (fun k => by rw [edit_Between.f]) ?_
  unfold btM
  by_cases h0 : s.size ≤ 4096
  · by_cases h1 : t.size ≤ 4096
    · have a0 : ¬ s.size > 4096 := by omega
      have a1 : ¬ t.size > 4096 := by omega
      have hb := bhd_le s t; have ha := ahd_le s t; have hp := put_size s t
      simp only [if_neg a0, if_neg a1, if_pos (show s.size ≤ 4096 ∧ t.size ≤ 4096 from ⟨h0, h1⟩)]
      refine Ev.congr (fun k => by rw [edit_Between.fin]) ?_
      have e1 : edit_Between.behind (s.extract (edit_Between.ahead s t) s.size) (t.extract (edit_Between.ahead s t) t.size) = bhd s t := rfl
      have e2 := put_eq s t
      have e3 := tail_size s _ ha.1
      simp only [e1]
      rw [show (t.extract (edit_Between.ahead s t) t.size) = tailOf t (ahd s t) from rfl, show (s.extract (edit_Between.ahead s t) s.size) = tailOf s (ahd s t) from rfl, e2, e3, show edit_Between.ahead s t = ahd s t from rfl]
      have e4 : ((s.size - ahd s t - bhd s t : Nat) : Int) = (s.size : Int) - (ahd s t : Int) - (bhd s t : Int) := by omega
      rw [e4]
      refine Ev.bind (made_ev _ _ _ _ (by omega) (by omega) (by omega) (by omega)) ?_
      exact Ev.now _
    · have a0 : ¬ s.size > 4096 := by omega
      have a1 : t.size > 4096 := by omega
      simp only [if_neg a0, if_pos a1, if_neg (show ¬ (s.size ≤ 4096 ∧ t.size ≤ 4096) from fun h => h1 h.2)]; exact Ev.now _
  · have a0 : s.size > 4096 := by omega
    simp only [if_pos a0, if_neg (show ¬ (s.size ≤ 4096 ∧ t.size ≤ 4096) from fun h => h0 h.1)]; exact Ev.now _
end Go.Proofs.Ytgbajaljfbgilaa.Pl
