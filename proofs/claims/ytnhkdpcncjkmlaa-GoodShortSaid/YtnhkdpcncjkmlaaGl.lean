/- The language over kinds: levels do not change what is taken; a broken token is never taken. No program in sight. -/
import Derived.Test.YtnhkdpcncjkmlaaGk
namespace Go.Proofs.Ytnhkdpcncjkmlaa.Gk
set_option linter.unusedVariables false
set_option linter.unusedSimpArgs false
/-! ### one answer -/
def Agree (f g : List Int → Option (List Int)) : Prop := ∀ a b d, f a = some b → g a = some d → b = d
theorem klp_agree {f g : List Int → Option (List Int)} (h : Agree f g) (c : Int) : ∀ (n m : Nat) (a b d : List Int), klp f c n a = some b → klp g c m a = some d → b = d := by
  intro n
  induction n with
  | zero => intro m a b d e; simp [klp] at e
  | succ n ih =>
    intro m a b d e e2
    cases m with
    | zero => simp [klp] at e2
    | succ m =>
      rw [klp] at e e2
      cases h1 : f a with
      | none => rw [h1] at e; cases e
      | some us =>
        cases h2 : g a with
        | none => rw [h2] at e2; cases e2
        | some vs =>
          rw [h1] at e
          rw [h2] at e2
          have := h a us vs h1 h2
          subst this
          simp only at e e2
          split at e
          · rename_i hc; rw [if_pos hc] at e2; rw [← Option.some.inj e, ← Option.some.inj e2]
          · rename_i hc
            rw [if_neg hc] at e2
            split at e
            · rename_i h5; rw [if_pos h5] at e2; exact ih _ _ _ _ e e2
            · cases e
theorem krs_agree {f g : List Int → Option (List Int)} (h : Agree f g) (c : Int) : Agree (krs f c) (krs g c) := by
  intro a b d e e2
  unfold krs at e e2
  split at e
  · rename_i hc; rw [if_pos hc] at e2; rw [← Option.some.inj e, ← Option.some.inj e2]
  · rename_i hc; rw [if_neg hc] at e2; exact klp_agree h c _ _ _ _ _ e e2
theorem k1_agree {f g : List Int → Option (List Int)} (h : Agree f g) : Agree (k1 f) (k1 g) := by
  intro a b d e e2
  unfold k1 at e e2
  split at e
  · rename_i h6
    rw [if_pos h6] at e2
    split at e
    · rename_i h4; rw [if_pos h4] at e2; exact h _ _ _ e e2
    · cases e
  · cases e
theorem vk_agree : ∀ k j, Agree (vk k) (vk j) := by
  intro k
  induction k with
  | zero =>
    intro j a b d e e2
    rw [vk] at e
    split at e
    · rename_i hc
      cases j with
      | zero => rw [vk, if_pos hc] at e2; rw [← Option.some.inj e, ← Option.some.inj e2]
      | succ j => rw [vk, if_pos hc] at e2; rw [← Option.some.inj e, ← Option.some.inj e2]
    · cases e
  | succ k ih =>
    intro j a b d e e2
    rw [vk] at e
    split at e
    · rename_i hc
      cases j with
      | zero => rw [vk, if_pos hc] at e2; rw [← Option.some.inj e, ← Option.some.inj e2]
      | succ j => rw [vk, if_pos hc] at e2; rw [← Option.some.inj e, ← Option.some.inj e2]
    · rename_i hc
      cases j with
      | zero => rw [vk, if_neg hc] at e2; cases e2
      | succ j =>
        rw [vk, if_neg hc] at e2
        split at e
        · rename_i h0; rw [if_pos h0] at e2; exact krs_agree (k1_agree (ih j)) 1 _ _ _ e e2
        · rename_i h0
          rw [if_neg h0] at e2
          split at e
          · rename_i h2; rw [if_pos h2] at e2; exact krs_agree (ih j) 3 _ _ _ e e2
          · cases e
/-! ### as deep as there are brackets -/
def op (a : List Int) : Nat := a.countP fun x => x == 0 || x == 2
theorem op_app (a b : List Int) : op (a ++ b) = op a + op b := List.countP_append
theorem op_cons (x : Int) (a : List Int) : op (x :: a) = op [x] + op a := op_app [x] a
theorem op_tail (a : List Int) : op a.tail ≤ op a := by
  cases a with
  | nil => exact Nat.le_refl _
  | cons x a => rw [op_cons, List.tail_cons]; omega
def Lift (f g : List Int → Option (List Int)) (j : Nat) : Prop := ∀ a b, f a = some b → op a ≤ op b + j → g a = some b
theorem ext_op {f : List Int → Option (List Int)} (h : Ext f) {a b : List Int} (e : f a = some b) : op b ≤ op a := by
  obtain ⟨⟨p, _, ep⟩, _⟩ := h a b e
  rw [ep, op_app]; omega
theorem klp_lift {f g : List Int → Option (List Int)} {j : Nat} (hx : Ext f) (h : Lift f g j) (c : Int) : ∀ (n : Nat) (a b : List Int), klp f c n a = some b → op a ≤ op b + j → klp g c n a = some b := by
  intro n
  induction n with
  | zero => intro a b e; simp [klp] at e
  | succ n ih =>
    intro a b e ho
    rw [klp] at e ⊢
    cases h1 : f a with
    | none => rw [h1] at e; cases e
    | some us =>
      rw [h1] at e
      simp only at e
      have h2 := ext_op hx h1
      have h3 := op_tail us
      have hb : op b ≤ op us := by
        split at e
        · rw [← Option.some.inj e]; exact h3
        · split at e
          · obtain ⟨⟨p, _, ep⟩, _⟩ := klp_ext hx c _ _ _ e
            rw [ep, op_app] at h3; omega
          · cases e
      rw [h a us h1 (by omega)]
      simp only
      split at e
      · rename_i hc; rw [if_pos hc]; exact e
      · rename_i hc
        rw [if_neg hc]
        split at e
        · rename_i h5; rw [if_pos h5]; exact ih _ _ e (by omega)
        · cases e
theorem krs_lift {f g : List Int → Option (List Int)} {j : Nat} (hx : Ext f) (h : Lift f g j) (c : Int) : Lift (krs f c) (krs g c) j := by
  intro a b e ho
  unfold krs at e ⊢
  split at e
  · rename_i hc; rw [if_pos hc]; exact e
  · rename_i hc; rw [if_neg hc]; exact klp_lift hx h c _ _ _ e ho
theorem k1_lift {f g : List Int → Option (List Int)} {j : Nat} (h : Lift f g j) : Lift (k1 f) (k1 g) j := by
  intro a b e ho
  unfold k1 at e ⊢
  split at e
  · rename_i h6
    rw [if_pos h6]
    split at e
    · rename_i h4
      rw [if_pos h4]
      exact h _ _ e (by have := op_tail a; have := op_tail a.tail; omega)
    · cases e
  · cases e
theorem vk_lift : ∀ k j, Lift (vk k) (vk j) j := by
  intro k
  induction k with
  | zero =>
    intro j a b e ho
    rw [vk] at e
    split at e
    · rename_i hc
      cases j with
      | zero => rw [vk, if_pos hc]; exact e
      | succ j => rw [vk, if_pos hc]; exact e
    · cases e
  | succ k ih =>
    intro j a b e ho
    rw [vk] at e
    split at e
    · rename_i hc
      cases j with
      | zero => rw [vk, if_pos hc]; exact e
      | succ j => rw [vk, if_pos hc]; exact e
    · rename_i hc
      split at e
      · rename_i h0
        have e0 := hd_cons h0
        obtain ⟨⟨p, _, ep⟩, _⟩ := krs_ext (k1_ext (vk_ext k)) 1 _ _ e
        have h1 : op a = 1 + op a.tail := by rw [e0, op_cons, List.tail_cons]; rfl
        have h2 : op b ≤ op a.tail := by rw [ep, op_app]; omega
        obtain ⟨j, rfl⟩ : ∃ i, j = i + 1 := ⟨j - 1, by omega⟩
        rw [vk, if_neg hc, if_pos h0]
        exact krs_lift (k1_ext (vk_ext k)) (k1_lift (ih j)) 1 _ _ e (by omega)
      · rename_i h0
        split at e
        · rename_i h2
          have e0 := hd_cons h2
          obtain ⟨⟨p, _, ep⟩, _⟩ := krs_ext (vk_ext k) 3 _ _ e
          have h1 : op a = 1 + op a.tail := by rw [e0, op_cons, List.tail_cons]; rfl
          have h2' : op b ≤ op a.tail := by rw [ep, op_app]; omega
          obtain ⟨j, rfl⟩ : ∃ i, j = i + 1 := ⟨j - 1, by omega⟩
          rw [vk, if_neg hc, if_neg h0, if_pos h2]
          exact krs_lift (vk_ext k) (ih j) 3 _ _ e (by omega)
        · cases e
/-! ### no broken token -/
def Clean (f : List Int → Option (List Int)) : Prop := ∀ a b, f a = some b → 11 ∈ a → 11 ∈ b
theorem hd_clean {a : List Int} {k : Int} (h : hd a k = true) (hk : k ≠ 11) (hm : 11 ∈ a) : 11 ∈ a.tail := by
  have e := hd_cons h
  rw [e] at hm
  simp only [List.mem_cons] at hm
  rcases hm with hm | hm
  · exact absurd hm.symm hk
  · exact hm
theorem klp_clean {f : List Int → Option (List Int)} (h : Clean f) (c : Int) (hc : c ≠ 11) : ∀ (n : Nat) (a b : List Int), klp f c n a = some b → 11 ∈ a → 11 ∈ b := by
  intro n
  induction n with
  | zero => intro a b e; simp [klp] at e
  | succ n ih =>
    intro a b e hm
    rw [klp] at e
    cases h1 : f a with
    | none => rw [h1] at e; cases e
    | some us =>
      rw [h1] at e
      have hu := h a us h1 hm
      simp only at e
      split at e
      · rename_i h0; rw [← Option.some.inj e]; exact hd_clean h0 hc hu
      · split at e
        · rename_i h5; exact ih _ _ e (hd_clean h5 (by decide) hu)
        · cases e
theorem krs_clean {f : List Int → Option (List Int)} (h : Clean f) (c : Int) (hc : c ≠ 11) : Clean (krs f c) := by
  intro a b e hm
  unfold krs at e
  split at e
  · rename_i h0; rw [← Option.some.inj e]; exact hd_clean h0 hc hm
  · exact klp_clean h c hc _ _ _ e hm
theorem k1_clean {f : List Int → Option (List Int)} (h : Clean f) : Clean (k1 f) := by
  intro a b e hm
  unfold k1 at e
  split at e
  · rename_i h6
    split at e
    · rename_i h4; exact h _ _ e (hd_clean h4 (by decide) (hd_clean h6 (by decide) hm))
    · cases e
  · cases e
theorem vk_clean : ∀ k, Clean (vk k) := by
  intro k
  have leaf : ∀ a b : List Int, (hd a 6 = true ∨ hd a 7 = true ∨ hd a 8 = true) → some a.tail = some b → 11 ∈ a → 11 ∈ b := by
    intro a b hc e hm
    rw [← Option.some.inj e]
    rcases hc with h | h | h <;> exact hd_clean h (by decide) hm
  induction k with
  | zero =>
    intro a b e hm
    rw [vk] at e
    split at e
    · rename_i hc; exact leaf a b hc e hm
    · cases e
  | succ k ih =>
    intro a b e hm
    rw [vk] at e
    split at e
    · rename_i hc; exact leaf a b hc e hm
    · split at e
      · rename_i h0; exact krs_clean (k1_clean ih) 1 (by decide) _ _ e (hd_clean h0 (by decide) hm)
      · split at e
        · rename_i h2; exact krs_clean ih 3 (by decide) _ _ e (hd_clean h2 (by decide) hm)
        · cases e
/-- How a value begins. -/
theorem vk_head {k : Nat} {a b : List Int} (h : vk k a = some b) : hd a 6 = true ∨ hd a 7 = true ∨ hd a 8 = true ∨ hd a 0 = true ∨ hd a 2 = true := by
  cases k with
  | zero =>
    rw [vk] at h
    split at h
    · rename_i hc; rcases hc with h | h | h <;> simp [h]
    · cases h
  | succ k =>
    rw [vk] at h
    split at h
    · rename_i hc; rcases hc with h | h | h <;> simp [h]
    · split at h
      · rename_i h0; simp [h0]
      · split at h
        · rename_i h2; simp [h2]
        · cases h
end Go.Proofs.Ytnhkdpcncjkmlaa.Gk
