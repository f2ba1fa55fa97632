/- Tokens' places; a list read by places. -/
import Derived.Test.YtehojohacombkaaLa
namespace Go.Proofs.Ytehojohacombkaa.Pl
open Go.RowKit Go.Proofs.Ytehojohacombkaa.G Go.Proofs.Ytehojohacombkaa.Lx Go.Proofs.YtehojohacombkaaW.PrintWords Go.Proofs.YtehojohacombkaaW.PrintLast
set_option linter.unusedVariables false
set_option linter.unusedSimpArgs false
theorem byt_cat (a b : ByteArray) : byt (a ++ b) = byt a ++ byt b := by simp [byt]
theorem tks_bd : ∀ (n i : Nat) (l : List UInt8) (c : Tk), c ∈ tks n i l → (i : Int) ≤ c.f1 ∧ c.f1 < c.f2 ∧ c.f2 ≤ ((i + l.length : Nat) : Int) := by
  intro n
  induction n with
  | zero => intro i l c h; simp [tks] at h
  | succ n ih =>
    intro i l c h
    cases l with
    | nil => simp [tks] at h
    | cons b r =>
      have h2 := tk_le (b := b) (r := r)
      simp only [tks, List.mem_cons] at h
      rcases h with rfl | h
      · simp only [List.length_cons] at h2 ⊢; omega
      · have := ih _ _ c h
        rw [List.length_drop] at this
        simp only [List.length_cons] at h2 this ⊢; omega
theorem toks_bd {l : List UInt8} {c : Tk} (h : c ∈ toks l) : 0 ≤ c.f1 ∧ c.f1 < c.f2 ∧ c.f2 ≤ (l.length : Int) := by
  have := tks_bd _ _ _ _ h; omega
theorem rdN (xs : List Tk) (i : Nat) : rd_T46 xs (i : Int) = xs.getD i z46 := rfl
theorem rd_mem {xs : List Tk} {i : Nat} (h : i < xs.length) : rd_T46 xs (i : Int) ∈ xs := by
  rw [rdN, List.getD_eq_getElem?_getD, List.getElem?_eq_getElem h]; exact List.getElem_mem h
theorem rd_get {xs : List Tk} {i : Nat} (h : i < xs.length) : rd_T46 xs (i : Int) = xs[i] := by
  rw [rdN, List.getD_eq_getElem?_getD, List.getElem?_eq_getElem h]; rfl
theorem rd_left {xs ys : List Tk} {i : Nat} (h : i < xs.length) : rd_T46 (xs ++ ys) (i : Int) = rd_T46 xs (i : Int) := by
  rw [rdN, rdN, List.getD_eq_getElem?_getD, List.getD_eq_getElem?_getD, List.getElem?_append_left h]
theorem rd_right {xs ys : List Tk} {i : Nat} : rd_T46 (xs ++ ys) ((xs.length + i : Nat) : Int) = rd_T46 ys (i : Int) := by
  rw [rdN, rdN, List.getD_eq_getElem?_getD, List.getD_eq_getElem?_getD, List.getElem?_append_right (by omega), Nat.add_sub_cancel_left]
theorem rd_map {xs : List Tk} {i : Nat} (g : Tk → Tk) (h : i < xs.length) : rd_T46 (xs.map g) (i : Int) = g (rd_T46 xs (i : Int)) := by
  rw [rd_get h, rd_get (by simpa using h)]; simp
theorem tk_isB {b : UInt8} {r : List UInt8} (h : isB b = true) : (tk (b :: r)).1 = 10 := by
  have hs : sign b = none := by
    have e : b = 32 ∨ b = 9 ∨ b = 10 ∨ b = 13 := by simpa [isB, or_assoc] using h
    rcases e with rfl | rfl | rfl | rfl <;> rfl
  rw [tk, hs]; simp only; rw [if_pos h]
theorem toks_cons (b : UInt8) (r : List UInt8) : ∃ T, toks (b :: r) = (⟨(tk (b :: r)).1, 0, ((tk (b :: r)).2 : Int)⟩ : Tk) :: T := by
  refine ⟨tks r.length (0 + (tk (b :: r)).2) ((b :: r).drop (tk (b :: r)).2), ?_⟩
  unfold toks
  rw [List.length_cons, tks]
  simp only [Nat.zero_add]
  rfl
end Go.Proofs.Ytehojohacombkaa.Pl
