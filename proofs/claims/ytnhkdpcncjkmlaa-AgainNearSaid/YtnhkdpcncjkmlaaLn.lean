/- Numbers of the lexer's plain model: a number laid together by its parts is one number. -/
import Derived.Test.YtnhkdpcncjkmlaaLa
namespace Go.Proofs.Ytnhkdpcncjkmlaa.Pl
open Go.RowKit Go.Proofs.Ytnhkdpcncjkmlaa.G Go.Proofs.Ytnhkdpcncjkmlaa.Lx Go.Proofs.YtnhkdpcncjkmlaaW.PrintWords Go.Proofs.YtnhkdpcncjkmlaaW.PrintLast
set_option linter.unusedVariables false
set_option linter.unusedSimpArgs false
/-- Digits alone, at least one. -/
def digs (l : List UInt8) : Prop := l ≠ [] ∧ ∀ b ∈ l, isD b = true
/-- Digits of a whole number: no nought ahead of another. -/
def whole (l : List UInt8) : Prop := digs l ∧ (l.head? = some 48 → l.length = 1)
theorem at_app (p : UInt8 → Bool) (A B : List UInt8) (j : Nat) : at_ p (A ++ B) (A.length + j) = at_ p B j := by
  unfold at_; rw [List.getElem?_append_right (by omega), Nat.add_sub_cancel_left]
theorem at_zero (p : UInt8 → Bool) (A B : List UInt8) : at_ p (A ++ B) A.length = at_ p B 0 := at_app p A B 0
theorem drop_app (A B : List UInt8) : (A ++ B).drop A.length = B := by simp
theorem drop_app1 (A : List UInt8) (c : UInt8) (B : List UInt8) : (A ++ c :: B).drop (A.length + 1) = B := by
  rw [show A ++ c :: B = (A ++ [c]) ++ B by simp]
  rw [show A.length + 1 = (A ++ [c]).length by simp]; simp
theorem drop_app2 (A : List UInt8) (c d : UInt8) (B : List UInt8) : (A ++ c :: d :: B).drop (A.length + 2) = B := by
  rw [show A ++ c :: d :: B = (A ++ [c, d]) ++ B by simp]
  rw [show A.length + 2 = (A ++ [c, d]).length by simp]; simp
theorem run_all (p : UInt8 → Bool) : ∀ (A R : List UInt8), (∀ b ∈ A, p b = true) → at_ p R 0 = false → run p (A ++ R) = A.length := by
  intro A
  induction A with
  | nil =>
    intro R _ h
    cases R with
    | nil => rfl
    | cons b r =>
      have : p b = false := h
      show run p (b :: r) = 0
      simp only [run, this, Bool.false_eq_true, if_false]
  | cons a A ih =>
    intro R h h2
    have := ih R (fun b hb => h b (by simp [hb])) h2
    show run p (a :: (A ++ R)) = _
    simp only [run, if_pos (h a (by simp)), this, List.length_cons]
theorem digs_at {Q : List UInt8} (R : List UInt8) (h : digs Q) : at_ isD (Q ++ R) 0 = true := by
  obtain ⟨h1, h2⟩ := h
  cases Q with
  | nil => exact absurd rfl h1
  | cons a Q => exact h2 a (by simp)
theorem nWhole_of {A W R : List UInt8} (h : whole W) (hr : at_ isD R 0 = false) : nWhole (A ++ (W ++ R)) A.length = A.length + W.length := by
  obtain ⟨⟨h1, h2⟩, h3⟩ := h
  unfold nWhole
  rw [at_zero, drop_app, run_all isD W R h2 hr]
  by_cases c : at_ (· == 48) (W ++ R) 0 = true
  · rw [if_pos c]
    cases W with
    | nil => exact absurd rfl h1
    | cons a W =>
      have : (a == 48) = true := c
      have e : a = 48 := by simpa using this
      have := h3 (by rw [e]; rfl)
      rw [this]
  · rw [if_neg c]
theorem nPart_none {A R : List UInt8} (hr : at_ (· == 46) R 0 = false) : nPart (A ++ R) A.length = A.length := by
  unfold nPart; rw [at_zero, hr, if_neg (by simp)]
theorem nPart_of {A Q R : List UInt8} (h : digs Q) (hr : at_ isD R 0 = false) : nPart (A ++ 46 :: (Q ++ R)) A.length = A.length + 1 + Q.length := by
  unfold nPart
  have e1 : at_ (fun x => x == 46) (A ++ 46 :: (Q ++ R)) A.length = true := by rw [at_zero]; rfl
  have e2 : at_ isD (A ++ 46 :: (Q ++ R)) (A.length + 1) = true := by rw [at_app]; exact digs_at R h
  rw [if_pos ⟨e1, e2⟩, drop_app1, run_all isD Q R h.2 hr]
theorem nPow_none {A R : List UInt8} (hr : at_ (fun b => b == 101 || b == 69) R 0 = false) : nPow (A ++ R) A.length = A.length := by
  unfold nPow; rw [at_zero, hr, if_neg (by simp)]
theorem nPow_plain {A Q R : List UInt8} {c : UInt8} (hc : (c == 101 || c == 69) = true) (h : digs Q) (hr : at_ isD R 0 = false) : nPow (A ++ c :: (Q ++ R)) A.length = A.length + 1 + Q.length := by
  unfold nPow
  have e1 : at_ (fun b => b == 101 || b == 69) (A ++ c :: (Q ++ R)) A.length = true := by rw [at_zero]; exact hc
  have e2 : at_ isD (A ++ c :: (Q ++ R)) (A.length + 1) = true := by rw [at_app]; exact digs_at R h
  have e3 : at_ (fun b => b == 43 || b == 45) (A ++ c :: (Q ++ R)) (A.length + 1) = false := by
    rw [at_app]
    obtain ⟨h1, h2⟩ := h
    cases Q with
    | nil => exact absurd rfl h1
    | cons a Q =>
      have := h2 a (by simp)
      show (a == 43 || a == 45) = false
      cases h43 : (a == 43 || a == 45) with
      | false => rfl
      | true =>
        simp only [Bool.or_eq_true, beq_iff_eq] at h43
        rcases h43 with rfl | rfl <;> exact absurd this (by decide)
  rw [if_pos e1, e3, if_neg (by simp), if_pos e2, drop_app1, run_all isD Q R h.2 hr]
theorem nPow_signed {A Q R : List UInt8} {c d : UInt8} (hc : (c == 101 || c == 69) = true) (hd : (d == 43 || d == 45) = true) (h : digs Q) (hr : at_ isD R 0 = false) : nPow (A ++ c :: d :: (Q ++ R)) A.length = A.length + 2 + Q.length := by
  unfold nPow
  have e1 : at_ (fun b => b == 101 || b == 69) (A ++ c :: d :: (Q ++ R)) A.length = true := by rw [at_zero]; exact hc
  have e2 : at_ (fun b => b == 43 || b == 45) (A ++ c :: d :: (Q ++ R)) (A.length + 1) = true := by rw [at_app]; exact hd
  have e3 : at_ isD (A ++ c :: d :: (Q ++ R)) (A.length + 2) = true := by rw [at_app]; exact digs_at R h
  rw [if_pos e1, if_pos e2, if_pos e3, drop_app2, run_all isD Q R h.2 hr]
/-- What stands behind a number's whole part. -/
def partT (P : List UInt8) : Prop := P = [] ∨ ∃ Q, digs Q ∧ P = 46 :: Q
def powT (E : List UInt8) : Prop := E = [] ∨ ∃ c Q, (c == 101 || c == 69) = true ∧ digs Q ∧ (E = c :: Q ∨ ∃ d, (d == 43 || d == 45) = true ∧ E = c :: d :: Q)
theorem end_notD : ∀ {E : List UInt8}, powT E → at_ isD (E ++ [93]) 0 = false ∧ at_ (fun b => b == 46) (E ++ [93]) 0 = false := by
  intro E h
  rcases h with rfl | ⟨c, Q, hc, _, rfl | ⟨d, _, rfl⟩⟩
  · exact ⟨rfl, rfl⟩
  all_goals
    simp only [Bool.or_eq_true, beq_iff_eq] at hc
    rcases hc with rfl | rfl <;> exact ⟨rfl, rfl⟩
theorem nTail {A W P E : List UInt8} (hW : whole W) (hP : partT P) (hE : powT E) :
    nPow (A ++ (W ++ (P ++ (E ++ [93])))) (nPart (A ++ (W ++ (P ++ (E ++ [93])))) (nWhole (A ++ (W ++ (P ++ (E ++ [93])))) A.length)) = A.length + W.length + P.length + E.length := by
  obtain ⟨n1, n2⟩ := end_notD hE
  have hR : at_ isD (P ++ (E ++ [93])) 0 = false := by
    rcases hP with rfl | ⟨Q, _, rfl⟩
    · exact n1
    · rfl
  rw [nWhole_of hW hR]
  have e1 : nPart (A ++ (W ++ (P ++ (E ++ [93])))) (A.length + W.length) = A.length + W.length + P.length := by
    rw [← List.append_assoc A W, ← List.length_append]
    rcases hP with rfl | ⟨Q, hQ, rfl⟩
    · rw [List.nil_append, nPart_none n2]; rfl
    · rw [show (46 :: Q) ++ (E ++ [93]) = 46 :: (Q ++ (E ++ [93])) from rfl, nPart_of hQ n1]; simp only [List.length_cons]; omega
  rw [e1]
  rw [show A ++ (W ++ (P ++ (E ++ [93]))) = (A ++ W ++ P) ++ (E ++ [93]) by simp, show A.length + W.length + P.length = (A ++ W ++ P).length by simp [Nat.add_assoc]]
  rcases hE with rfl | ⟨c, Q, hc, hQ, rfl | ⟨d, hd, rfl⟩⟩
  · rw [List.nil_append, nPow_none rfl]; rfl
  · rw [show (c :: Q) ++ [93] = c :: (Q ++ [93]) from rfl, nPow_plain hc hQ rfl]; simp only [List.length_cons]; omega
  · rw [show (c :: d :: Q) ++ [93] = c :: d :: (Q ++ [93]) from rfl, nPow_signed hc hd hQ rfl]; simp only [List.length_cons]; omega
theorem byte_all {P : UInt8 → Prop} (h : ∀ i : Fin 256, P (UInt8.ofNat i.val)) (b : UInt8) : P b := by
  have := h ⟨b.toNat, b.toNat_lt⟩
  simpa using this
set_option maxRecDepth 100000 in
theorem digit_byte : ∀ b : UInt8, isD b = true → sign b = none ∧ isB b = false ∧ (b == 34) = false ∧ (b == 47) = false ∧ isL b = false ∧ (b == 45) = false := byte_all (by decide +kernel)
theorem num_of {sg W P E : List UInt8} (hs : sg = [] ∨ sg = [45]) (hW : whole W) (hP : partT P) (hE : powT E) :
    num (sg ++ (W ++ (P ++ (E ++ [93])))) = sg.length + W.length + P.length + E.length := by
  have hd := digs_at (P ++ (E ++ [93])) hW.1
  have t := nTail (A := sg) hW hP hE
  unfold num
  simp only
  have hm : (if at_ (fun x => x == 45) (sg ++ (W ++ (P ++ (E ++ [93])))) 0 = true then 1 else 0) = sg.length := by
    rcases hs with rfl | rfl
    · obtain ⟨⟨h1, h2⟩, _⟩ := hW
      cases W with
      | nil => exact absurd rfl h1
      | cons a W =>
        have := (digit_byte a (h2 a (by simp))).2.2.2.2.2
        have e : at_ (fun x => x == 45) ([] ++ (a :: W ++ (P ++ (E ++ [93])))) 0 = false := this
        rw [e]; rfl
    · rfl
  rw [hm, at_zero, if_pos hd]; exact t
theorem tk_num {sg W P E : List UInt8} (hs : sg = [] ∨ sg = [45]) (hW : whole W) (hP : partT P) (hE : powT E) :
    tk (sg ++ (W ++ (P ++ (E ++ [93])))) = (7, sg.length + W.length + P.length + E.length) := by
  have hn := num_of hs hW hP hE
  have hl : 0 < W.length := by have := hW.1.1; cases W with | nil => exact absurd rfl this | cons _ _ => simp
  have key : ∀ b r, sg ++ (W ++ (P ++ (E ++ [93]))) = b :: r → (sign b = none ∧ isB b = false ∧ (b == 34) = false ∧ (b == 47) = false ∧ isL b = false) → tk (sg ++ (W ++ (P ++ (E ++ [93])))) = (7, sg.length + W.length + P.length + E.length) := by
    intro b r e ⟨k1, k2, k3, k4, k5⟩
    rw [e] at hn ⊢
    rw [tk, k1]
    simp only
    rw [k2, if_neg (by simp), if_neg (by simpa using k3), if_neg (by simpa using k4), k5, if_neg (by simp), hn, if_neg (by omega)]
  rcases hs with rfl | rfl
  · obtain ⟨⟨h1, h2⟩, _⟩ := hW
    cases W with
    | nil => exact absurd rfl h1
    | cons a W =>
      have := digit_byte a (h2 a (by simp))
      exact key a _ rfl ⟨this.1, this.2.1, this.2.2.1, this.2.2.2.1, this.2.2.2.2.1⟩
  · exact key 45 _ rfl ⟨rfl, rfl, rfl, rfl, rfl⟩
theorem toks_num {sg W P E : List UInt8} (hs : sg = [] ∨ sg = [45]) (hW : whole W) (hP : partT P) (hE : powT E) (s : List UInt8) (e : s = sg ++ (W ++ (P ++ E))) :
    toks (91 :: (s ++ [93])) = [(⟨2, 0, 1⟩ : Tk), ⟨7, 1, 1 + (s.length : Int)⟩, ⟨3, 1 + (s.length : Int), 2 + (s.length : Int)⟩] := by
  have ht := tk_num hs hW hP hE
  have el : sg.length + W.length + P.length + E.length = s.length := by rw [e]; simp; omega
  rw [show sg ++ (W ++ (P ++ (E ++ [93]))) = s ++ [93] by rw [e]; simp, el] at ht
  have hl : 0 < s.length := by have := hW.1.1; rw [e]; cases W with | nil => exact absurd rfl this | cons _ _ => simp; omega
  unfold toks
  have n1 : (91 :: (s ++ [93])).length = s.length + 1 + 1 := by simp
  obtain ⟨n, hn⟩ : ∃ n, s.length = n + 1 := ⟨s.length - 1, by omega⟩
  rw [n1, tks]
  have t0 : tk (91 :: (s ++ [93])) = (2, 1) := by rw [tk]; rfl
  rw [t0]
  simp only [List.drop_succ_cons, List.drop_zero]
  obtain ⟨b, r, hb⟩ : ∃ b r, s ++ [93] = b :: r := by cases s with | nil => simp at hl | cons b r => exact ⟨b, r ++ [93], rfl⟩
  rw [hb] at ht ⊢
  rw [tks, ht]
  have hd : (b :: r).drop s.length = [93] := by rw [← hb]; simp
  simp only [hd]
  rw [hn, tks]
  have t1 : tk ([93] : List UInt8) = (3, 1) := by rw [tk]; rfl
  rw [t1]
  simp only [List.drop_succ_cons, List.drop_zero, tks_nil]
  simp only [List.cons.injEq, Go.Proofs.Ytnhkdpcncjkmlaa.G.S34.mk.injEq, and_true, true_and]
  omega
end Go.Proofs.Ytnhkdpcncjkmlaa.Pl
