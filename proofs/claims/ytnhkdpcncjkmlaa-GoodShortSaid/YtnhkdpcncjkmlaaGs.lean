/- A delimiter: a sign or a blank leaves each token ahead of it as it is, where there are no quotes and no strokes. -/
import Derived.Test.YtnhkdpcncjkmlaaGt
namespace Go.Proofs.Ytnhkdpcncjkmlaa.Pl
open Go.RowKit Go.Proofs.Ytnhkdpcncjkmlaa.G Go.Proofs.Ytnhkdpcncjkmlaa.Lx Go.Proofs.YtnhkdpcncjkmlaaW.PrintWords Go.Proofs.YtnhkdpcncjkmlaaW.PrintLast
set_option linter.unusedVariables false
set_option linter.unusedSimpArgs false
structure Dl (c : UInt8) : Prop where
  dg : isD c = false
  lt : isL c = false
  n48 : (c == 48) = false
  n46 : (c == 46) = false
  n45 : (c == 45) = false
  ne : (c == 101 || c == 69) = false
  np : (c == 43 || c == 45) = false
theorem run_cl {p : UInt8 → Bool} {c : UInt8} (hp : p c = false) (l m : List UInt8) : run p (l ++ c :: m) = run p l := by
  induction l with
  | nil => simp [run, hp]
  | cons b r ih => simp only [List.cons_append, run, ih]
theorem at_cl {p : UInt8 → Bool} {c : UInt8} (hp : p c = false) {l m : List UInt8} {i : Nat} (h : i ≤ l.length) : at_ p (l ++ c :: m) i = at_ p l i := by
  unfold at_
  rcases Nat.lt_or_ge i l.length with h1 | h1
  · rw [List.getElem?_append_left h1]
  · have : i = l.length := by omega
    subst this
    rw [List.getElem?_append_right (Nat.le_refl _)]; simp [hp]
theorem run_drop_cl {p : UInt8 → Bool} {c : UInt8} (hp : p c = false) {l m : List UInt8} {i : Nat} (h : i ≤ l.length) : run p ((l ++ c :: m).drop i) = run p (l.drop i) := by
  rw [List.drop_append_of_le_length h, run_cl hp]
theorem nWhole_cl {c : UInt8} (D : Dl c) {l m : List UInt8} {i : Nat} (h : i ≤ l.length) : nWhole (l ++ c :: m) i = nWhole l i := by
  unfold nWhole
  rw [at_cl (p := fun b => b == 48) D.n48 h, run_drop_cl (p := isD) D.dg h]
theorem nPart_cl {c : UInt8} (D : Dl c) {l m : List UInt8} {i : Nat} (h : i ≤ l.length) : nPart (l ++ c :: m) i = nPart l i := by
  unfold nPart
  rw [at_cl (p := fun b => b == 46) D.n46 h]
  by_cases c_ : at_ (fun b => b == 46) l i = true
  · have h1 := at_lt c_
    rw [at_cl (p := isD) D.dg (by omega), run_drop_cl (p := isD) D.dg (by omega)]
  · rw [if_neg (fun h => c_ h.1), if_neg (fun h => c_ h.1)]
theorem nPow_cl {c : UInt8} (D : Dl c) {l m : List UInt8} {i : Nat} (h : i ≤ l.length) : nPow (l ++ c :: m) i = nPow l i := by
  unfold nPow
  rw [at_cl (p := fun b => b == 101 || b == 69) D.ne h]
  by_cases c_ : at_ (fun b => b == 101 || b == 69) l i = true
  · have h1 := at_lt c_
    rw [if_pos c_, if_pos c_, at_cl (p := fun b => b == 43 || b == 45) D.np (by omega)]
    by_cases d : at_ (fun b => b == 43 || b == 45) l (i + 1) = true
    · have h2 := at_lt d
      rw [if_pos d, if_pos d, at_cl (p := isD) D.dg (by omega), run_drop_cl (p := isD) D.dg (by omega)]
    · rw [if_neg d, if_neg d, at_cl (p := isD) D.dg (by omega), run_drop_cl (p := isD) D.dg (by omega)]
  · rw [if_neg c_, if_neg c_]
theorem num_cl {c : UInt8} (D : Dl c) (l m : List UInt8) : num (l ++ c :: m) = num l := by
  have key : ∀ k, k ≤ l.length → (if at_ isD (l ++ c :: m) k = true then nPow (l ++ c :: m) (nPart (l ++ c :: m) (nWhole (l ++ c :: m) k)) else 0) = if at_ isD l k = true then nPow l (nPart l (nWhole l k)) else 0 := by
    intro k hk
    rw [at_cl (p := isD) D.dg hk]
    by_cases c_ : at_ isD l k = true
    · have h1 := (nWhole_le c_).2
      have h2 := (nPart_le h1).2
      rw [if_pos c_, if_pos c_, nWhole_cl D hk, nPart_cl D h1, nPow_cl D h2]
    · rw [if_neg c_, if_neg c_]
  unfold num
  simp only
  rw [at_cl (p := fun b => b == 45) D.n45 (Nat.zero_le _)]
  by_cases c_ : at_ (fun b => b == 45) l 0 = true
  · have h1 := at_lt c_
    rw [if_pos c_]; exact key 1 h1
  · rw [if_neg c_]; exact key 0 (Nat.zero_le _)
theorem tk_cl {c : UInt8} (D : Dl c) {b : UInt8} {r : List UInt8} (m : List UInt8) (h34 : b ≠ 34) (h47 : b ≠ 47)
    (h2 : (tk (b :: r)).1 = 10 → (tk (b :: r)).2 < (b :: r).length ∨ isB c = false) : tk (b :: r ++ c :: m) = tk (b :: r) := by
  have e0 : b :: r ++ c :: m = b :: (r ++ c :: m) := rfl
  rw [tk] at h2
  rw [e0, tk, tk]
  rw [← e0]
  cases hs : sign b with
  | some k => rfl
  | none =>
    rw [hs] at h2
    simp only at h2 ⊢
    by_cases c1 : isB b = true
    · rw [if_pos c1] at h2 ⊢
      rw [if_pos c1]
      rcases h2 rfl with h | h
      · rw [run_lt_app _ _ h]
      · rw [run_cl h]
    · rw [if_neg c1, if_neg c1, if_neg h34, if_neg h34, if_neg h47, if_neg h47]
      by_cases c4 : isL b = true
      · rw [if_pos c4, if_pos c4, run_cl (p := isL) D.lt, List.take_append_of_le_length (run_le _ _)]
      · rw [if_neg c4, if_neg c4, num_cl D]
/-- No quotes, no strokes. -/
def plain (l : List UInt8) : Prop := ∀ b ∈ l, b ≠ 34 ∧ b ≠ 47
theorem kds_plain {c : UInt8} (D : Dl c) (m l : List UInt8) (h : plain l) : kds (l ++ c :: m) = kds l ++ kds (c :: m) :=
  kds_cut c m plain (fun b r h x hx => h x (List.mem_of_mem_drop hx)) (fun b r h h10 => tk_cl D m (h b (by simp)).1 (h b (by simp)).2 h10) l.length l (Nat.le_refl _) h
theorem D93 : Dl 93 := ⟨rfl, rfl, rfl, rfl, rfl, rfl, rfl⟩
theorem D125 : Dl 125 := ⟨rfl, rfl, rfl, rfl, rfl, rfl, rfl⟩
theorem D32 : Dl 32 := ⟨rfl, rfl, rfl, rfl, rfl, rfl, rfl⟩
end Go.Proofs.Ytnhkdpcncjkmlaa.Pl
