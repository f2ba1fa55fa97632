/- Kinds of a text's tokens, blanks and remarks aside: how they come together out of a text's parts. -/
import Derived.Test.YtnhkdpcncjkmlaaGl
import Derived.Test.YtnhkdpcncjkmlaaLp
namespace Go.Proofs.Ytnhkdpcncjkmlaa.Pl
open Go.RowKit Go.Proofs.Ytnhkdpcncjkmlaa.G Go.Proofs.Ytnhkdpcncjkmlaa.Lx Go.Proofs.YtnhkdpcncjkmlaaW.PrintWords Go.Proofs.YtnhkdpcncjkmlaaW.PrintLast
open Go.Proofs.Ytnhkdpcncjkmlaa.Gd (solid good)
open Go.Proofs.Ytnhkdpcncjkmlaa.Gk (kd vk op)
set_option linter.unusedVariables false
set_option linter.unusedSimpArgs false
def kds (l : List UInt8) : List Int := kd (solid (toks l))
theorem kd_mv (d : Int) (ts : List Tk) : kd (solid (ts.map (mv d))) = kd (solid ts) := by
  induction ts with
  | nil => rfl
  | cons c ts ih =>
    have e : (mv d c).f0 = c.f0 := rfl
    rw [List.map_cons]
    unfold solid at ih ⊢
    rw [List.filter_cons, List.filter_cons, e]
    split
    · simp only [kd, List.map_cons, e] at ih ⊢; rw [ih]
    · exact ih
theorem kds_nil : kds [] = [] := rfl
theorem kds_step (b : UInt8) (r : List UInt8) : kds (b :: r) = (if (tk (b :: r)).1 = 10 ∨ (tk (b :: r)).1 = 9 then [] else [(tk (b :: r)).1]) ++ kds ((b :: r).drop (tk (b :: r)).2) := by
  have hle := tk_le (b := b) (r := r)
  have e : toks (b :: r) = (⟨(tk (b :: r)).1, 0, ((tk (b :: r)).2 : Int)⟩ : Tk) :: (toks ((b :: r).drop (tk (b :: r)).2)).map (mv ((tk (b :: r)).2 : Int)) := by
    unfold toks
    rw [List.length_cons, tks]
    rw [← tks_mv]
    rw [tks_fuel _ ((b :: r).drop (tk (b :: r)).2).length _ _ (by rw [List.length_drop]; simp only [List.length_cons] at hle ⊢; omega) (Nat.le_refl _)]
    simp
  unfold kds
  rw [e]
  have hmv := kd_mv ((tk (b :: r)).2 : Int) (toks ((b :: r).drop (tk (b :: r)).2))
  unfold solid at hmv ⊢
  rw [List.filter_cons]
  by_cases c : (tk (b :: r)).1 = 10 ∨ (tk (b :: r)).1 = 9
  · rw [if_pos c, if_neg (by rcases c with h | h <;> simp [h])]
    exact hmv
  · rw [if_neg c, if_pos (by
      have h1 : ¬ (tk (b :: r)).1 = 10 := fun h => c (.inl h)
      have h2 : ¬ (tk (b :: r)).1 = 9 := fun h => c (.inr h)
      simp [h1, h2])]
    simp only [kd, List.map_cons, List.singleton_append] at hmv ⊢
    rw [hmv]
theorem kds_sign {c : UInt8} {k : Int} (h : sign c = some k) (hk : k ≠ 10 ∧ k ≠ 9) (m : List UInt8) : kds (c :: m) = k :: kds m := by
  have e : tk (c :: m) = (k, 1) := by rw [tk, h]
  rw [kds_step, e]
  simp only [List.drop_succ_cons, List.drop_zero]
  rw [if_neg (by intro hh; rcases hh with hh | hh; exact hk.1 hh; exact hk.2 hh)]
  rfl
theorem tk_bl {c : UInt8} (h : isB c = true) (m : List UInt8) : tk (c :: m) = (10, run isB m + 1) := by
  have hs : sign c = none := by
    have e : c = 32 ∨ c = 9 ∨ c = 10 ∨ c = 13 := by simpa [isB, or_assoc] using h
    rcases e with rfl | rfl | rfl | rfl <;> rfl
  rw [tk, hs]; simp only [if_pos h, run]
theorem kds_bl {c : UInt8} (h : isB c = true) (m : List UInt8) : kds (c :: m) = kds (m.drop (run isB m)) := by
  rw [kds_step, tk_bl h]; simp
theorem kds_blank {c : UInt8} (h : isB c = true) (m : List UInt8) : kds (c :: m) = kds m := by
  rw [kds_bl h]
  cases m with
  | nil => rfl
  | cons d m =>
    by_cases hd : isB d = true
    · rw [kds_bl hd]; simp only [run, if_pos hd, List.drop_succ_cons]
    · simp only [run, if_neg hd, List.drop_zero]
theorem kds_blanks : ∀ (l m : List UInt8), run isB l = l.length → kds (l ++ m) = kds m := by
  intro l
  induction l with
  | nil => intro m _; rfl
  | cons b r ih =>
    intro m h
    simp only [run, List.length_cons] at h
    by_cases hb : isB b = true
    · rw [if_pos hb] at h
      rw [List.cons_append, kds_blank hb, ih m (by omega)]
    · rw [if_neg hb] at h; omega
/-- A text, where a delimiter leaves each token as it is, with another one behind. -/
theorem kds_cut (c : UInt8) (m : List UInt8) (ok : List UInt8 → Prop) (hok : ∀ b r, ok (b :: r) → ok ((b :: r).drop (tk (b :: r)).2))
    (ht : ∀ b r, ok (b :: r) → ((tk (b :: r)).1 = 10 → (tk (b :: r)).2 < (b :: r).length ∨ isB c = false) → tk (b :: r ++ c :: m) = tk (b :: r)) :
    ∀ (n : Nat) (l : List UInt8), l.length ≤ n → ok l → kds (l ++ c :: m) = kds l ++ kds (c :: m) := by
  intro n
  induction n with
  | zero => intro l h _; have : l = [] := List.eq_nil_of_length_eq_zero (by omega); subst this; rfl
  | succ n ih =>
    intro l hl ho
    cases l with
    | nil => rfl
    | cons b r =>
      have hle := tk_le (b := b) (r := r)
      by_cases hall : (tk (b :: r)).1 = 10 ∧ (tk (b :: r)).2 = (b :: r).length ∧ isB c = true
      · obtain ⟨h1, h2, h3⟩ := hall
        have hb := tk_head h1
        have hr : run isB (b :: r) = (b :: r).length := by rw [← tk_blank h1]; exact h2
        rw [kds_blanks _ _ hr]
        have : kds (b :: r) = [] := by have := kds_blanks (b :: r) [] hr; rw [List.append_nil] at this; rw [this, kds_nil]
        rw [this]; rfl
      · have et := ht b r ho (fun h10 => by
          by_cases hlt : (tk (b :: r)).2 < (b :: r).length
          · exact .inl hlt
          · cases hc : isB c with
            | false => exact .inr rfl
            | true => exact absurd ⟨h10, by omega, hc⟩ hall)
        have ed : (b :: r ++ c :: m).drop (tk (b :: r)).2 = (b :: r).drop (tk (b :: r)).2 ++ c :: m := List.drop_append_of_le_length hle.2
        have go := ih ((b :: r).drop (tk (b :: r)).2) (by rw [List.length_drop]; simp only [List.length_cons] at hl hle ⊢; omega) (hok b r ho)
        rw [show b :: r ++ c :: m = b :: (r ++ c :: m) from rfl] at et ed ⊢
        rw [kds_step b (r ++ c :: m), et, ed, go, kds_step b r, List.append_assoc]
/-- Behind a line's end, if there is no broken token. -/
theorem kds_line (m : List UInt8) (l : List UInt8) (h : 11 ∉ kds l) : kds (l ++ 10 :: m) = kds l ++ kds m := by
  have := kds_cut 10 m (fun l => 11 ∉ kds l) (fun b r h => by
      rw [kds_step] at h
      simp only [List.mem_append, not_or] at h
      exact h.2)
    (fun b r h h10 => by
      refine tk_app m (fun h11 => ?_) (fun hh => ?_)
      · exfalso; apply h
        rw [kds_step, h11]; simp
      · rcases h10 hh with h' | h'
        · exact h'
        · cases h')
    l.length l (Nat.le_refl _) h
  rw [this, kds_blank rfl]
/-! ### brackets -/
def ob (l : List UInt8) : Nat := l.countP fun b => b == 91 || b == 123
theorem tk_open {b : UInt8} {r : List UInt8} (h : (tk (b :: r)).1 = 0 ∨ (tk (b :: r)).1 = 2) : (b == 91 || b == 123) = true := by
  rw [tk] at h
  cases hs : sign b with
  | some k =>
    rw [hs] at h
    simp only at h
    unfold sign at hs
    repeat' (split at hs; · rename_i hb; subst hb; cases hs; revert h; decide)
    cases hs
  | none =>
    exfalso
    rw [hs] at h
    simp only at h
    revert h
    repeat' split
    all_goals simp
theorem op_kds : ∀ (n : Nat) (l : List UInt8), l.length ≤ n → op (kds l) ≤ ob l := by
  intro n
  induction n with
  | zero => intro l h; have : l = [] := List.eq_nil_of_length_eq_zero (by omega); subst this; exact Nat.le_refl _
  | succ n ih =>
    intro l hl
    cases l with
    | nil => exact Nat.le_refl _
    | cons b r =>
      have hle := tk_le (b := b) (r := r)
      have go := ih ((b :: r).drop (tk (b :: r)).2) (by rw [List.length_drop]; simp only [List.length_cons] at hl hle ⊢; omega)
      rw [kds_step, Go.Proofs.Ytnhkdpcncjkmlaa.Gk.op_app]
      have e : ob (b :: r) = ob ((b :: r).take (tk (b :: r)).2) + ob ((b :: r).drop (tk (b :: r)).2) := by
        unfold ob; rw [← List.countP_append, List.take_append_drop]
      have h1 : op (if (tk (b :: r)).1 = 10 ∨ (tk (b :: r)).1 = 9 then [] else [(tk (b :: r)).1]) ≤ ob ((b :: r).take (tk (b :: r)).2) := by
        split
        · exact Nat.zero_le _
        · by_cases ho : (tk (b :: r)).1 = 0 ∨ (tk (b :: r)).1 = 2
          · have hb := tk_open ho
            obtain ⟨L, hL⟩ : ∃ L, (tk (b :: r)).2 = L + 1 := ⟨(tk (b :: r)).2 - 1, by omega⟩
            rw [hL, List.take_succ_cons]
            unfold ob
            rw [List.countP_cons, if_pos hb]
            have : op [(tk (b :: r)).1] ≤ 1 := by unfold op; exact List.countP_le_length
            omega
          · have : op [(tk (b :: r)).1] = 0 := by
              unfold op
              rw [List.countP_cons, List.countP_nil, if_neg (by
                intro hh; simp only [Bool.or_eq_true, beq_iff_eq] at hh; exact ho hh)]
            omega
      omega
end Go.Proofs.Ytnhkdpcncjkmlaa.Pl
