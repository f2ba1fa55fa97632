/- The language over kinds of tokens alone: what a value takes, whatever stands behind it. No program in sight. -/
import Derived.Test.YtnhkdpcncjkmlaaGd1
namespace Go.Proofs.Ytnhkdpcncjkmlaa.Gk
open Go.Proofs.Ytnhkdpcncjkmlaa.Lx (Tk)
open Go.Proofs.Ytnhkdpcncjkmlaa.Gd (hdk lp rs one1 val solid good)
set_option linter.unusedVariables false
set_option linter.unusedSimpArgs false
def hd (ks : List Int) (k : Int) : Bool := match ks with | [] => false | c :: _ => c == k
def klp (one : List Int → Option (List Int)) (c : Int) : Nat → List Int → Option (List Int)
  | 0, _ => none
  | n + 1, ts => match one ts with
    | none => none
    | some us => if hd us c = true then some us.tail else if hd us 5 = true then klp one c n us.tail else none
def krs (one : List Int → Option (List Int)) (c : Int) (ts : List Int) : Option (List Int) := if hd ts c = true then some ts.tail else klp one c (ts.length + 1) ts
def k1 (v : List Int → Option (List Int)) (ts : List Int) : Option (List Int) := if hd ts 6 = true then (if hd ts.tail 4 = true then v ts.tail.tail else none) else none
def vk : Nat → List Int → Option (List Int)
  | 0, ts => if hd ts 6 = true ∨ hd ts 7 = true ∨ hd ts 8 = true then some ts.tail else none
  | k + 1, ts => if hd ts 6 = true ∨ hd ts 7 = true ∨ hd ts 8 = true then some ts.tail
    else if hd ts 0 = true then krs (k1 (vk k)) 1 ts.tail
    else if hd ts 2 = true then krs (vk k) 3 ts.tail else none
abbrev kd (ts : List Tk) : List Int := ts.map (·.f0)
theorem hd_kd (ts : List Tk) (k : Int) : hd (kd ts) k = hdk ts k := by cases ts <;> rfl
theorem tail_kd (ts : List Tk) : (kd ts).tail = kd ts.tail := by cases ts <;> rfl
def Same (one : List Tk → Option (List Tk)) (o : List Int → Option (List Int)) : Prop := ∀ ts, o (kd ts) = (one ts).map kd
theorem lp_same {one : List Tk → Option (List Tk)} {o : List Int → Option (List Int)} (h : Same one o) (c : Int) : ∀ n ts, klp o c n (kd ts) = (lp one c n ts).map kd := by
  intro n
  induction n with
  | zero => intro ts; rfl
  | succ n ih =>
    intro ts
    rw [klp, lp, h ts]
    cases one ts with
    | none => rfl
    | some us =>
      simp only [Option.map_some]
      rw [hd_kd, hd_kd, tail_kd, ih]
      split
      · rfl
      · split <;> rfl
theorem rs_same {one : List Tk → Option (List Tk)} {o : List Int → Option (List Int)} (h : Same one o) (c : Int) : Same (rs one c) (krs o c) := by
  intro ts
  unfold krs rs
  rw [hd_kd, tail_kd, lp_same h, List.length_map]
  split <;> rfl
theorem k1_same {one : List Tk → Option (List Tk)} {o : List Int → Option (List Int)} (h : Same one o) : Same (one1 one) (k1 o) := by
  intro ts
  unfold k1 one1
  rw [hd_kd, tail_kd, hd_kd, tail_kd, h]
  split
  · split <;> rfl
  · rfl
theorem vk_same : ∀ k, Same (val k) (vk k) := by
  intro k
  induction k with
  | zero => intro ts; rw [vk, val, hd_kd, hd_kd, hd_kd, tail_kd]; split <;> rfl
  | succ k ih =>
    intro ts
    rw [vk, val, hd_kd, hd_kd, hd_kd, hd_kd, hd_kd, tail_kd, rs_same (k1_same ih), rs_same ih]
    split
    · rfl
    · split
      · rfl
      · split <;> rfl
theorem good_iff (l : List UInt8) : good l = true ↔ vk 12 (kd (solid (Go.Proofs.Ytnhkdpcncjkmlaa.Lx.toks l))) = some [] := by
  unfold good
  rw [vk_same]
  cases val 12 (solid (Go.Proofs.Ytnhkdpcncjkmlaa.Lx.toks l)) with
  | none => simp
  | some us => cases us <;> simp
/-! ### what a value takes -/
/-- It takes at least one, and the same whatever stands behind; a stronger one takes it too. -/
def Ext (one : List Int → Option (List Int)) : Prop := ∀ a b, one a = some b → (∃ p, p ≠ [] ∧ a = p ++ b) ∧ ∀ c, one (a ++ c) = some (b ++ c)
theorem hd_app {a : List Int} {k : Int} (h : hd a k = true) (c : List Int) : hd (a ++ c) k = true ∧ (a ++ c).tail = a.tail ++ c := by
  cases a with
  | nil => cases h
  | cons x a => exact ⟨h, rfl⟩
theorem hd_cons {a : List Int} {k : Int} (h : hd a k = true) : a = k :: a.tail := by
  cases a with
  | nil => cases h
  | cons x a => simp only [hd, beq_iff_eq] at h; subst h; rfl
theorem hd_not {a : List Int} {k : Int} (ha : a ≠ []) (h : ¬ hd a k = true) (c : List Int) : ¬ hd (a ++ c) k = true := by
  cases a with
  | nil => exact absurd rfl ha
  | cons x a => exact h
theorem klp_fuel {one : List Int → Option (List Int)} (h : Ext one) (c : Int) : ∀ (n : Nat) (a b : List Int), klp one c n a = some b → ∀ m, n ≤ m → klp one c m a = some b := by
  intro n
  induction n with
  | zero => intro a b e; simp [klp] at e
  | succ n ih =>
    intro a b e m hm
    obtain ⟨m, rfl⟩ : ∃ j, m = j + 1 := ⟨m - 1, by omega⟩
    rw [klp] at e ⊢
    cases ho : one a with
    | none => rw [ho] at e; cases e
    | some us =>
      rw [ho] at e
      simp only at e ⊢
      split at e
      · rename_i hc; rw [if_pos hc]; exact e
      · rename_i hc
        rw [if_neg hc]
        split at e
        · rename_i h5; rw [if_pos h5]; exact ih _ _ e m (by omega)
        · cases e
theorem klp_ext {one : List Int → Option (List Int)} (h : Ext one) (c : Int) : ∀ (n : Nat) (a b : List Int), klp one c n a = some b → (∃ p, p ≠ [] ∧ a = p ++ b) ∧ ∀ q, klp one c n (a ++ q) = some (b ++ q) := by
  intro n
  induction n with
  | zero => intro a b e; simp [klp] at e
  | succ n ih =>
    intro a b e
    rw [klp] at e
    cases ho : one a with
    | none => rw [ho] at e; cases e
    | some us =>
      rw [ho] at e
      simp only at e
      obtain ⟨⟨p, hp, ep⟩, hq⟩ := h a us ho
      split at e
      · rename_i hc
        cases e
        have e1 := hd_cons hc
        refine ⟨⟨p ++ [c], by simp, by rw [ep, e1]; simp⟩, fun q => ?_⟩
        rw [klp, hq q]
        simp only
        obtain ⟨i1, i2⟩ := hd_app hc q
        rw [if_pos i1, i2]
      · rename_i hc
        split at e
        · rename_i h5
          have e1 := hd_cons h5
          obtain ⟨⟨p2, hp2, ep2⟩, hq2⟩ := ih _ _ e
          have hu : us ≠ [] := by intro h0; rw [h0] at h5; cases h5
          refine ⟨⟨p ++ 5 :: p2, by simp, by rw [ep, e1, ep2]; simp⟩, fun q => ?_⟩
          rw [klp, hq q]
          simp only
          obtain ⟨i1, i2⟩ := hd_app h5 q
          rw [if_neg (hd_not hu hc q), if_pos i1, i2, hq2 q]
        · cases e
theorem krs_ext {one : List Int → Option (List Int)} (h : Ext one) (c : Int) : Ext (krs one c) := by
  intro a b e
  unfold krs at e
  split at e
  · rename_i hc
    cases e
    have e1 := hd_cons hc
    refine ⟨⟨[c], by simp, by rw [e1]; rfl⟩, fun q => ?_⟩
    obtain ⟨i1, i2⟩ := hd_app hc q
    unfold krs; rw [if_pos i1, i2]
  · rename_i hc
    obtain ⟨hp, hq⟩ := klp_ext h c _ _ _ e
    refine ⟨hp, fun q => ?_⟩
    have ha : a ≠ [] := by
      obtain ⟨p, hp, ep⟩ := hp
      intro h0; rw [h0] at ep; exact hp (List.append_eq_nil_iff.mp ep.symm).1
    unfold krs
    rw [if_neg (hd_not ha hc q)]
    exact klp_fuel h c _ _ _ (hq q) _ (by rw [List.length_append]; omega)
theorem k1_ext {v : List Int → Option (List Int)} (h : Ext v) : Ext (k1 v) := by
  intro a b e
  unfold k1 at e
  split at e
  · rename_i h6
    split at e
    · rename_i h4
      have e6 := hd_cons h6
      have e4 := hd_cons h4
      obtain ⟨⟨p, hp, ep⟩, hq⟩ := h _ _ e
      refine ⟨⟨6 :: 4 :: p, by simp, by rw [e6, e4, ep]; rfl⟩, fun q => ?_⟩
      obtain ⟨i1, i2⟩ := hd_app h6 q
      obtain ⟨j1, j2⟩ := hd_app h4 q
      unfold k1; rw [if_pos i1, i2, if_pos j1, j2, hq q]
    · cases e
  · cases e
theorem leaf_ext {a b : List Int} (hc : hd a 6 = true ∨ hd a 7 = true ∨ hd a 8 = true) (e : some a.tail = some b) : (∃ p, p ≠ [] ∧ a = p ++ b) ∧ ∀ c, (hd (a ++ c) 6 = true ∨ hd (a ++ c) 7 = true ∨ hd (a ++ c) 8 = true) ∧ (a ++ c).tail = b ++ c := by
  cases e
  cases a with
  | nil => rcases hc with h | h | h <;> cases h
  | cons x a => exact ⟨⟨[x], by simp, rfl⟩, fun c => ⟨hc, rfl⟩⟩
theorem vk_ext : ∀ k, Ext (vk k) := by
  intro k
  induction k with
  | zero =>
    intro a b e
    rw [vk] at e
    split at e
    · rename_i hc
      obtain ⟨h1, h2⟩ := leaf_ext hc e
      refine ⟨h1, fun c => ?_⟩
      rw [vk, if_pos (h2 c).1, (h2 c).2]
    · cases e
  | succ k ih =>
    intro a b e
    rw [vk] at e
    split at e
    · rename_i hc
      obtain ⟨h1, h2⟩ := leaf_ext hc e
      refine ⟨h1, fun c => ?_⟩
      rw [vk, if_pos (h2 c).1, (h2 c).2]
    · rename_i hc
      have hcc : ∀ c, a ≠ [] → ¬ (hd (a ++ c) 6 = true ∨ hd (a ++ c) 7 = true ∨ hd (a ++ c) 8 = true) := by
        intro c ha hh
        rcases hh with h | h | h
        · exact hd_not ha (fun h' => hc (.inl h')) c h
        · exact hd_not ha (fun h' => hc (.inr (.inl h'))) c h
        · exact hd_not ha (fun h' => hc (.inr (.inr h'))) c h
      split at e
      · rename_i h0
        have ha : a ≠ [] := by intro hn; rw [hn] at h0; cases h0
        have e0 := hd_cons h0
        obtain ⟨⟨p, hp, ep⟩, hq⟩ := krs_ext (k1_ext ih) 1 _ _ e
        refine ⟨⟨0 :: p, by simp, by rw [e0, ep]; rfl⟩, fun c => ?_⟩
        obtain ⟨i1, i2⟩ := hd_app h0 c
        rw [vk, if_neg (hcc c ha), if_pos i1, i2, hq c]
      · rename_i h0
        split at e
        · rename_i h2
          have ha : a ≠ [] := by intro hn; rw [hn] at h2; cases h2
          have e0 := hd_cons h2
          obtain ⟨⟨p, hp, ep⟩, hq⟩ := krs_ext ih 3 _ _ e
          refine ⟨⟨2 :: p, by simp, by rw [e0, ep]; rfl⟩, fun c => ?_⟩
          obtain ⟨i1, i2⟩ := hd_app h2 c
          rw [vk, if_neg (hcc c ha), if_neg (hd_not ha h0 c), if_pos i1, i2, hq c]
        · cases e
end Go.Proofs.Ytnhkdpcncjkmlaa.Gk
