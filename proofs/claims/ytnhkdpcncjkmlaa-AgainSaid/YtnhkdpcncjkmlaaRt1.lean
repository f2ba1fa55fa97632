/- The reference's lexer: its helpers compute what the plain model tells. -/
import Derived.Test.YtnhkdpcncjkmlaaLa
import Derived.Test.YtnhkdpcncjkmlaaLc7
import Derived.Test.YtnhkdpcncjkmlaaGMinuetref9qblank
import Derived.Test.YtnhkdpcncjkmlaaGMinuetref9qletter
import Derived.Test.YtnhkdpcncjkmlaaGMinuetref9qquoted
import Derived.Test.YtnhkdpcncjkmlaaGMinuetref9qremark
import Derived.Test.YtnhkdpcncjkmlaaGMinuetref9qnumber
namespace Go.Proofs.Ytnhkdpcncjkmlaa.Pl
open Go.RowKit Go.Proofs.Ytnhkdpcncjkmlaa.G Go.Proofs.Ytnhkdpcncjkmlaa.Lx Go.Proofs.YtnhkdpcncjkmlaaW.PrintWords Go.Proofs.YtnhkdpcncjkmlaaW.PrintLast Go.Proofs.YtnhkdpcncjkmlaaW.PrintMore
set_option linter.unusedVariables false
set_option linter.unusedSimpArgs false
theorem u8_every {P : UInt8 → Prop} (h : ∀ i : Fin 256, P (UInt8.ofNat i.val)) (b : UInt8) : P b := by
  have := h ⟨b.toNat, b.toNat_lt⟩
  simpa using this
set_option maxRecDepth 100000 in
theorem blank_f : ∀ b : UInt8, minuetref9_blank.f (b.toNat : Int) = some (isB b) := u8_every (by decide +kernel)
set_option maxRecDepth 100000 in
theorem letter_f : ∀ b : UInt8, minuetref9_letter.f (b.toNat : Int) = some (isL b) := u8_every (by decide +kernel)
set_option maxRecDepth 100000 in
theorem digit_f : ∀ b : UInt8, minuetref9_digit.f (b.toNat : Int) = some (isD b) := u8_every (by decide +kernel)
theorem btn (s : ByteArray) (i : Nat) (h : i < s.size) : bt s (i : Int) = ((s[i]'h).toNat : Int) := by
  rw [bt_eq s (i : Int) (by omega) (by omega)]; rfl
theorem atb (p : UInt8 → Bool) (s : ByteArray) (i : Nat) (h : i < s.size) : at_ p (byt s) i = p (s[i]'h) := by
  unfold at_; rw [byt_at s i h]
theorem atn (p : UInt8 → Bool) (s : ByteArray) (i : Nat) (h : ¬ i < s.size) : at_ p (byt s) i = false := by
  unfold at_; rw [List.getElem?_eq_none (by rw [byt_len]; omega)]
theorem u8_val {b : UInt8} {n : Nat} (hn : n < 256) : ((b.toNat : Int) = (n : Int)) ↔ b = UInt8.ofNat n := by
  constructor
  · intro h
    have : b.toNat = n := by omega
    subst this; simp
  · intro h; subst h; simp; omega
theorem wsucc {i : Nat} (h : i ≤ 1000) : wrap64 ((i : Int) + 1) = ((i + 1 : Nat) : Int) := by rw [w64 (by omega) (by omega)]; omega
theorem digits_ev (s : ByteArray) (hs : s.size ≤ 300) : ∀ (g i : Nat), i + g = s.size → Ev (fun k => minuetref9_digits.f k s (i : Int)) ((i + run isD ((byt s).drop i) : Nat) : Int) := by
  intro g
  induction g with
  | zero =>
    intro i h
    refine Ev.congr (fun k => by rw [minuetref9_digits.f]) ?_
    refine Ev.step (fun k => by rw [minuetref9_digits.l0]) ?_
    simp only [if_neg (show ¬ (i : Int) < (s.size : Int) by omega)]
    rw [List.drop_eq_nil_of_le (by rw [byt_len]; omega)]
    exact Ev.now _
  | succ g ih =>
    intro i h
    have hi : i < s.size := by omega
    have go := ih (i + 1) (by omega)
    refine Ev.congr (fun k => by rw [minuetref9_digits.f]) ?_
    refine Ev.step (fun k => by rw [minuetref9_digits.l0]) ?_
    simp only [if_pos (show (i : Int) < (s.size : Int) by omega), if_pos (show (0 : Int) ≤ (i : Int) by omega), btn s i hi, digit_f, opt_some]
    rw [byt_drop s i hi]
    by_cases c : isD (s[i]'hi) = true
    · simp only [if_pos c, run, wsucc (show i ≤ 1000 by omega)]
      rw [show i + (run isD (List.drop (i + 1) (byt s)) + 1) = i + 1 + run isD (List.drop (i + 1) (byt s)) by omega]
      exact Ev.congr (fun k => by rw [minuetref9_digits.f]) go
    · simp only [if_neg c, run, Nat.add_zero]
      exact Ev.now _
theorem quoted_l0 (s : ByteArray) (hs : s.size ≤ 300) : ∀ (n i : Nat), i ≤ s.size → s.size < i + n → Ev (fun k => minuetref9_quoted.l0 k s (i : Int)) (((i + (txt ((byt s).drop i)).1 : Nat) : Int), (txt ((byt s).drop i)).2) := by
  intro n
  induction n with
  | zero => intro i h h2; omega
  | succ n ih =>
    intro i h h2
    refine Ev.step (fun k => by rw [minuetref9_quoted.l0]) ?_
    by_cases hi : i < s.size
    · simp only [if_pos (show (i : Int) < (s.size : Int) by omega), if_pos (show (0 : Int) ≤ (i : Int) by omega), btn s i hi]
      refine Ev.step (fun k => by rw [minuetref9_quoted.j1]) ?_
      rw [byt_drop s i hi]
      simp only [if_pos (show (i : Int) < (s.size : Int) by omega), if_pos (show (0 : Int) ≤ (i : Int) by omega), btn s i hi]
      have hb : (((s[i]'hi).toNat : Int) != 10) = !((s[i]'hi) == 10) := by
        have := (u8_val (b := s[i]'hi) (n := 10) (by omega))
        by_cases e : s[i]'hi = 10
        · have h10 : ((s[i]'hi).toNat : Int) = 10 := this.2 e
          rw [h10, e]; rfl
        · have h10 : ¬ ((s[i]'hi).toNat : Int) = 10 := fun h => e (this.1 h)
          rw [bne_iff_ne.mpr h10, beq_eq_false_iff_ne.mpr e]; rfl
      have i34 := (u8_val (b := s[i]'hi) (n := 34) (by omega))
      have i92 := (u8_val (b := s[i]'hi) (n := 92) (by omega))
      rw [hb]
      generalize s[i]'hi = b at i34 i92
      rw [txt.eq_def]
      simp only
      by_cases e10 : b = 10
      · subst e10
        simp only [beq_self_eq_true, Bool.not_true, Bool.false_eq_true, if_false, if_true, Nat.add_zero]
        exact Ev.now _
      · simp only [beq_eq_false_iff_ne.mpr e10, Bool.not_false, if_true, if_neg e10]
        by_cases e34 : b = 34
        · simp only [if_pos (show (b.toNat : Int) = 34 from i34.2 e34), if_pos e34, wsucc (show i ≤ 1000 by omega)]
          exact Ev.now _
        · simp only [if_neg (show ¬ (b.toNat : Int) = 34 from fun h => e34 (i34.1 h)), if_neg e34]
          by_cases e92 : b = 92
          · simp only [if_pos (show (b.toNat : Int) = 92 from i92.2 e92), if_pos e92, wsucc (show i ≤ 1000 by omega)]
            by_cases hi2 : i + 1 < s.size
            · have j10 := (u8_val (b := s[i + 1]'hi2) (n := 10) (by omega))
              simp only [if_pos (show ((i + 1 : Nat) : Int) < (s.size : Int) by omega), if_pos (show (0 : Int) ≤ ((i + 1 : Nat) : Int) by omega), btn s (i + 1) hi2, wsucc (show i + 1 ≤ 1000 by omega)]
              rw [byt_drop s (i + 1) hi2]
              simp only
              by_cases f10 : s[i + 1]'hi2 = 10
              · simp only [if_pos (show ((s[i + 1]'hi2).toNat : Int) = 10 from j10.2 f10), if_pos f10]
                have := ih (i + 1) (by omega) (by omega)
                rw [byt_drop s (i + 1) hi2, txt.eq_def] at this
                simp only [if_pos f10, Nat.add_zero] at this
                exact this
              · simp only [if_neg (show ¬ ((s[i + 1]'hi2).toNat : Int) = 10 from fun h => f10 (j10.1 h)), if_neg f10]
                have := ih (i + 1 + 1) (by omega) (by omega)
                rw [show i + ((txt (List.drop (i + 1 + 1) (byt s))).1 + 2) = i + 1 + 1 + (txt (List.drop (i + 1 + 1) (byt s))).1 by omega]
                exact this
            · simp only [if_neg (show ¬ ((i + 1 : Nat) : Int) < (s.size : Int) by omega)]
              have := ih (i + 1) (by omega) (by omega)
              rw [List.drop_eq_nil_of_le (by rw [byt_len]; omega)] at this ⊢
              exact this
          · simp only [if_neg (show ¬ (b.toNat : Int) = 92 from fun h => e92 (i92.1 h)), if_neg e92, wsucc (show i ≤ 1000 by omega)]
            have := ih (i + 1) (by omega) (by omega)
            rw [show i + ((txt (List.drop (i + 1) (byt s))).1 + 1) = i + 1 + (txt (List.drop (i + 1) (byt s))).1 by omega]
            exact this
    · simp only [if_neg (show ¬ (i : Int) < (s.size : Int) by omega)]
      refine Ev.step (fun k => by rw [minuetref9_quoted.j1]) ?_
      rw [List.drop_eq_nil_of_le (by rw [byt_len]; omega)]
      exact Ev.now _
theorem quoted_ev (s : ByteArray) (hs : s.size ≤ 300) (i : Nat) (h : i < s.size) : Ev (fun k => minuetref9_quoted.f k s (i : Int)) (((i + ((txt ((byt s).drop (i + 1))).1 + 1) : Nat) : Int), (txt ((byt s).drop (i + 1))).2) := by
  refine Ev.congr (fun k => by rw [minuetref9_quoted.f, wsucc (show i ≤ 1000 by omega)]) ?_
  have := quoted_l0 s hs (s.size + 1) (i + 1) (by omega) (by omega)
  rw [show i + ((txt (List.drop (i + 1) (byt s))).1 + 1) = i + 1 + (txt (List.drop (i + 1) (byt s))).1 by omega]
  exact this
theorem line_l0 (s : ByteArray) (hs : s.size ≤ 300) : ∀ (g i : Nat), i + g = s.size → Ev (fun k => minuetref9_remark.l0 k s (i : Int)) (((i + run (fun b => b != 10) ((byt s).drop i) : Nat) : Int), true) := by
  intro g
  induction g with
  | zero =>
    intro i h
    refine Ev.step (fun k => by rw [minuetref9_remark.l0]) ?_
    simp only [if_neg (show ¬ (i : Int) < (s.size : Int) by omega)]
    rw [List.drop_eq_nil_of_le (by rw [byt_len]; omega)]
    exact Ev.now _
  | succ g ih =>
    intro i h
    have hi : i < s.size := by omega
    have go := ih (i + 1) (by omega)
    refine Ev.step (fun k => by rw [minuetref9_remark.l0]) ?_
    simp only [if_pos (show (i : Int) < (s.size : Int) by omega), if_pos (show (0 : Int) ≤ (i : Int) by omega), btn s i hi]
    have j10 := (u8_val (b := s[i]'hi) (n := 10) (by omega))
    rw [byt_drop s i hi]
    by_cases c : s[i]'hi = 10
    · have cb : ((s[i]'hi) != 10) = false := by rw [c]; rfl
      simp only [if_pos (show ((s[i]'hi).toNat : Int) = 10 from j10.2 c), run, cb, Bool.false_eq_true, if_false, Nat.add_zero]
      exact Ev.now _
    · have cb : ((s[i]'hi) != 10) = true := bne_iff_ne.mpr c
      simp only [if_neg (show ¬ ((s[i]'hi).toNat : Int) = 10 from fun h => c (j10.1 h)), run, cb, if_true, wsucc (show i ≤ 1000 by omega)]
      rw [show i + (run (fun b => b != 10) (List.drop (i + 1) (byt s)) + 1) = i + 1 + run (fun b => b != 10) (List.drop (i + 1) (byt s)) by omega]
      exact go
def shutO (s : ByteArray) (i : Nat) : Int × Bool := match shut ((byt s).drop i) with | some k => (((i + k : Nat) : Int), true) | none => ((s.size : Int), false)
theorem block_l1 (s : ByteArray) (hs : s.size ≤ 300) : ∀ (n i : Nat), i ≤ s.size → s.size < i + n → Ev (fun k => minuetref9_remark.l1 k s (i : Int)) (shutO s i) := by
  intro n
  induction n with
  | zero => intro i h h2; omega
  | succ n ih =>
    intro i h h2
    refine Ev.step (fun k => by rw [minuetref9_remark.l1]) ?_
    simp only [wsucc (show i ≤ 1000 by omega)]
    by_cases hi2 : i + 1 < s.size
    · have hi : i < s.size := by omega
      have go := ih (i + 1) (by omega) (by omega)
      have j42 := (u8_val (b := s[i]'hi) (n := 42) (by omega))
      have j47 := (u8_val (b := s[i + 1]'hi2) (n := 47) (by omega))
      have w2 : wrap64 ((i : Int) + 2) = ((i + 2 : Nat) : Int) := by rw [w64 (by omega) (by omega)]; omega
      simp only [if_pos (show ((i + 1 : Nat) : Int) < (s.size : Int) by omega), if_pos (show (i : Int) < (s.size : Int) by omega), if_pos (show (0 : Int) ≤ (i : Int) by omega), if_pos (show (0 : Int) ≤ ((i + 1 : Nat) : Int) by omega), btn s i hi, btn s (i + 1) hi2, w2]
      have hd : shut ((byt s).drop i) = if s[i]'hi = 42 ∧ s[i + 1]'hi2 = 47 then some 2 else (shut ((byt s).drop (i + 1))).map (· + 1) := by
        rw [byt_drop s i hi, shut]
        have : ((byt s).drop (i + 1)).head? = some (s[i + 1]'hi2) := by rw [byt_drop s (i + 1) hi2]; rfl
        rw [this]; simp only [Option.some.injEq]
      have step : ¬ (s[i]'hi = 42 ∧ s[i + 1]'hi2 = 47) → shutO s i = shutO s (i + 1) := by
        intro hn
        unfold shutO
        rw [hd, if_neg hn]
        cases shut ((byt s).drop (i + 1)) with
        | none => rfl
        | some k => simp only [Option.map_some]; congr 1; omega
      by_cases c : s[i]'hi = 42
      · simp only [if_pos (show ((s[i]'hi).toNat : Int) = 42 from j42.2 c)]
        by_cases d : s[i + 1]'hi2 = 47
        · simp only [if_pos (show ((s[i + 1]'hi2).toNat : Int) = 47 from j47.2 d)]
          have : shutO s i = (((i + 2 : Nat) : Int), true) := by unfold shutO; rw [hd, if_pos ⟨c, d⟩]
          rw [this]; exact Ev.now _
        · simp only [if_neg (show ¬ ((s[i + 1]'hi2).toNat : Int) = 47 from fun h => d (j47.1 h))]
          rw [step (fun h => d h.2)]; exact go
      · simp only [if_neg (show ¬ ((s[i]'hi).toNat : Int) = 42 from fun h => c (j42.1 h))]
        rw [step (fun h => c h.1)]; exact go
    · simp only [if_neg (show ¬ ((i + 1 : Nat) : Int) < (s.size : Int) by omega)]
      have : shutO s i = ((s.size : Int), false) := by
        unfold shutO
        have : shut ((byt s).drop i) = none := by
          by_cases hi : i < s.size
          · rw [byt_drop s i hi, List.drop_eq_nil_of_le (by rw [byt_len]; omega), shut]; simp [shut]
          · rw [List.drop_eq_nil_of_le (by rw [byt_len]; omega)]; rfl
        rw [this]
      rw [this]; exact Ev.now _
theorem rmk_eq (s : ByteArray) (i : Nat) (hi : i < s.size) (hb : s[i]'hi = 47) : rmk ((byt s).drop i) = if hi2 : i + 1 < s.size then (if s[i + 1]'hi2 = 47 then (run (fun b => b != 10) ((byt s).drop i), true) else if s[i + 1]'hi2 = 42 then ((shutO s (i + 2)).1.toNat - i, (shutO s (i + 2)).2) else (1, false)) else (1, false) := by
  by_cases hi2 : i + 1 < s.size
  · rw [dif_pos hi2]
    have e : (byt s).drop i = 47 :: (s[i + 1]'hi2) :: (byt s).drop (i + 2) := by rw [byt_drop s i hi, byt_drop s (i + 1) hi2, hb]
    rw [e]
    by_cases c1 : s[i + 1]'hi2 = 47
    · rw [if_pos c1, c1]; rfl
    · rw [if_neg c1]
      by_cases c2 : s[i + 1]'hi2 = 42
      · rw [if_pos c2, c2]
        have e1 : rmk (47 :: 42 :: (byt s).drop (i + 2)) = (match shut ((byt s).drop (i + 2)) with | some k => (k + 2, true) | none => ((47 :: 42 :: (byt s).drop (i + 2)).length, false)) := rfl
        rw [e1]
        unfold shutO
        cases hs : shut ((byt s).drop (i + 2)) with
        | none => simp only [List.length_cons, List.length_drop, byt_len]; congr 1; omega
        | some k => simp only; congr 1; omega
      · rw [if_neg c2]
        unfold rmk
        split
        · rename_i h1; simp only [List.cons.injEq] at h1; exact absurd h1.2.1 c1
        · rename_i h1; simp only [List.cons.injEq] at h1; exact absurd h1.2.1 c2
        · rfl
  · rw [dif_neg hi2, byt_drop s i hi, hb, List.drop_eq_nil_of_le (by rw [byt_len]; omega)]; rfl
theorem shutO_le (s : ByteArray) (i : Nat) (h : i ≤ s.size) : (i : Int) ≤ (shutO s i).1 ∧ (shutO s i).1 ≤ (s.size : Int) := by
  unfold shutO
  cases hs : shut ((byt s).drop i) with
  | none => simp only; omega
  | some k =>
    have := shut_le _ _ hs
    rw [List.length_drop, byt_len] at this
    simp only; omega
theorem remark_ev (s : ByteArray) (hs : s.size ≤ 300) (i : Nat) (hi : i < s.size) (hb : s[i]'hi = 47) : Ev (fun k => minuetref9_remark.f k s (i : Int)) (((i + (rmk ((byt s).drop i)).1 : Nat) : Int), (rmk ((byt s).drop i)).2) := by
  refine Ev.congr (fun k => by rw [minuetref9_remark.f]) ?_
  have w2 : wrap64 ((i : Int) + 2) = ((i + 2 : Nat) : Int) := by rw [w64 (by omega) (by omega)]; omega
  simp only [wsucc (show i ≤ 1000 by omega)]
  rw [rmk_eq s i hi hb]
  by_cases hi2 : i + 1 < s.size
  · rw [dif_pos hi2]
    have j47 := (u8_val (b := s[i + 1]'hi2) (n := 47) (by omega))
    have j42 := (u8_val (b := s[i + 1]'hi2) (n := 42) (by omega))
    simp only [if_pos (show ((i + 1 : Nat) : Int) < (s.size : Int) by omega), if_pos (show (0 : Int) ≤ ((i + 1 : Nat) : Int) by omega), btn s (i + 1) hi2]
    by_cases c1 : s[i + 1]'hi2 = 47
    · rw [if_pos c1]
      have e : (((s[i + 1]'hi2).toNat : Int) == 47) = true := by rw [show ((s[i + 1]'hi2).toNat : Int) = 47 from j47.2 c1]; rfl
      rw [e]
      refine Ev.step (fun k => by rw [minuetref9_remark.j0]) ?_
      simp only [if_true]
      exact line_l0 s hs (s.size - i) i (by omega)
    · rw [if_neg c1]
      have e : (((s[i + 1]'hi2).toNat : Int) == 47) = false := beq_eq_false_iff_ne.mpr (fun h => c1 (j47.1 h))
      rw [e]
      refine Ev.step (fun k => by rw [minuetref9_remark.j0]) ?_
      simp only [wsucc (show i ≤ 1000 by omega), Bool.false_eq_true, if_false, if_pos (show ((i + 1 : Nat) : Int) < (s.size : Int) by omega), if_pos (show (0 : Int) ≤ ((i + 1 : Nat) : Int) by omega), btn s (i + 1) hi2]
      refine Ev.step (fun k => by rw [minuetref9_remark.j2]) ?_
      by_cases c2 : s[i + 1]'hi2 = 42
      · rw [if_pos c2]
        have e2 : (((s[i + 1]'hi2).toNat : Int) == 42) = true := by rw [show ((s[i + 1]'hi2).toNat : Int) = 42 from j42.2 c2]; rfl
        simp only [e2, if_true, w2]
        have := block_l1 s hs (s.size + 1) (i + 2) (by omega) (by omega)
        have hle := shutO_le s (i + 2) (by omega)
        rw [show ((i + ((shutO s (i + 2)).1.toNat - i) : Nat) : Int) = (shutO s (i + 2)).1 by omega]
        exact this
      · rw [if_neg c2]
        have e2 : (((s[i + 1]'hi2).toNat : Int) == 42) = false := beq_eq_false_iff_ne.mpr (fun h => c2 (j42.1 h))
        simp only [e2, Bool.false_eq_true, if_false, wsucc (show i ≤ 1000 by omega)]
        exact Ev.now _
  · rw [dif_neg hi2]
    simp only [if_neg (show ¬ ((i + 1 : Nat) : Int) < (s.size : Int) by omega)]
    refine Ev.step (fun k => by rw [minuetref9_remark.j0]) ?_
    simp only [wsucc (show i ≤ 1000 by omega), Bool.false_eq_true, if_false, if_neg (show ¬ ((i + 1 : Nat) : Int) < (s.size : Int) by omega)]
    refine Ev.step (fun k => by rw [minuetref9_remark.j2]) ?_
    simp only [Bool.false_eq_true, if_false, wsucc (show i ≤ 1000 by omega)]
    exact Ev.now _
/-! ### numbers -/
theorem beq_u8 {b : UInt8} {n : Nat} (hn : n < 256) : ((b.toNat : Int) == (n : Int)) = (b == UInt8.ofNat n) := by
  by_cases e : b = UInt8.ofNat n
  · rw [beq_iff_eq.mpr ((u8_val hn).2 e), beq_iff_eq.mpr e]
  · rw [beq_eq_false_iff_ne.mpr (fun h => e ((u8_val hn).1 h)), beq_eq_false_iff_ne.mpr e]
theorem num_j7 (s : ByteArray) (hs : s.size ≤ 300) (x6 : Int) (i : Nat) (hi : i ≤ 400) : Ev (fun k => minuetref9_number.j7 k s x6 (i : Int)) (if at_ isD (byt s) i = true then ((i + run isD ((byt s).drop i) : Nat) : Int) else x6) := by
  refine Ev.step (fun k => by rw [minuetref9_number.j7]) ?_
  by_cases h : i < s.size
  · simp only [if_pos (show (i : Int) < (s.size : Int) by omega), if_pos (show (0 : Int) ≤ (i : Int) by omega), btn s i h, digit_f, opt_some, atb isD s i h]
    by_cases c : isD (s[i]'h) = true
    · simp only [if_pos c]
      refine Ev.bind (digits_ev s hs (s.size - i) i (by omega)) (Ev.now _)
    · simp only [if_neg c]; exact Ev.now _
  · simp only [if_neg (show ¬ (i : Int) < (s.size : Int) by omega), atn isD s i h, Bool.false_eq_true, if_false]; exact Ev.now _
theorem num_j4 (s : ByteArray) (hs : s.size ≤ 300) (i : Nat) (hi : i ≤ 300) : Ev (fun k => minuetref9_number.j4 k s (i : Int)) ((nPow (byt s) i : Nat) : Int) := by
  have w1 := wsucc (show i ≤ 1000 by omega)
  have w2 : wrap64 (((i + 1 : Nat) : Int) + 1) = ((i + 2 : Nat) : Int) := wsucc (show i + 1 ≤ 1000 by omega)
  have key : ∀ B : Bool, B = at_ (fun b => b == 101 || b == 69) (byt s) i → Ev (fun k => minuetref9_number.j5 k s (i : Int) B) ((nPow (byt s) i : Nat) : Int) := by
    intro B hB
    refine Ev.step (fun k => by rw [minuetref9_number.j5]) ?_
    unfold nPow
    rw [← hB]
    cases B with
    | false => simp only [Bool.false_eq_true, if_false]; exact Ev.now _
    | true =>
      simp only [if_true, w1]
      have key2 : ∀ C : Bool, C = at_ (fun b => b == 43 || b == 45) (byt s) (i + 1) → Ev (fun k => minuetref9_number.j6 k s (i : Int) ((i + 1 : Nat) : Int) C) (((if at_ (fun b => b == 43 || b == 45) (byt s) (i + 1) = true then (if at_ isD (byt s) (i + 2) = true then i + 2 + run isD ((byt s).drop (i + 2)) else i)
         else if at_ isD (byt s) (i + 1) = true then i + 1 + run isD ((byt s).drop (i + 1)) else i) : Nat) : Int) := by
        intro C hC
        rw [← hC]
        refine Ev.step (fun k => by rw [minuetref9_number.j6]) ?_
        cases C with
        | true =>
          simp only [if_true, w2]
          have := num_j7 s hs (i : Int) (i + 2) (by omega)
          by_cases c : at_ isD (byt s) (i + 2) = true
          · rw [if_pos c] at this; rw [if_pos c]; exact this
          · rw [if_neg c] at this; rw [if_neg c]; exact this
        | false =>
          simp only [Bool.false_eq_true, if_false]
          have := num_j7 s hs (i : Int) (i + 1) (by omega)
          by_cases c : at_ isD (byt s) (i + 1) = true
          · rw [if_pos c] at this; rw [if_pos c]; exact this
          · rw [if_neg c] at this; rw [if_neg c]; exact this
      by_cases h : i + 1 < s.size
      · simp only [if_pos (show ((i + 1 : Nat) : Int) < (s.size : Int) by omega), if_pos (show (0 : Int) ≤ ((i + 1 : Nat) : Int) by omega), btn s (i + 1) h]
        have e43 := (u8_val (b := s[i + 1]'h) (n := 43) (by omega))
        have e45 := beq_u8 (b := s[i + 1]'h) (n := 45) (by omega)
        refine Ev_ite (fun c => key2 true ?_) (fun c => key2 _ ?_)
        · rw [atb _ s (i + 1) h, e43.1 c]; rfl
        · rw [atb _ s (i + 1) h, show (s[i + 1]'h == (43 : UInt8)) = false from beq_eq_false_iff_ne.mpr (fun hh => c (e43.2 hh))]
          exact e45
      · simp only [if_neg (show ¬ ((i + 1 : Nat) : Int) < (s.size : Int) by omega)]
        exact key2 false (atn _ s (i + 1) h).symm
  refine Ev.step (fun k => by rw [minuetref9_number.j4]) ?_
  by_cases h : i < s.size
  · simp only [if_pos (show (i : Int) < (s.size : Int) by omega), if_pos (show (0 : Int) ≤ (i : Int) by omega), btn s i h]
    have e101 := (u8_val (b := s[i]'h) (n := 101) (by omega))
    have e69 := beq_u8 (b := s[i]'h) (n := 69) (by omega)
    refine Ev_ite (fun c => key true ?_) (fun c => key _ ?_)
    · rw [atb _ s i h, e101.1 c]; rfl
    · rw [atb _ s i h, show (s[i]'h == (101 : UInt8)) = false from beq_eq_false_iff_ne.mpr (fun hh => c (e101.2 hh))]
      exact e69
  · simp only [if_neg (show ¬ (i : Int) < (s.size : Int) by omega)]
    exact key false (atn _ s i h).symm
theorem num_j2 (s : ByteArray) (hs : s.size ≤ 300) (i : Nat) (hi : i ≤ s.size) : Ev (fun k => minuetref9_number.j2 k s (i : Int)) ((nPow (byt s) (nPart (byt s) i) : Nat) : Int) := by
  have w1 := wsucc (show i ≤ 1000 by omega)
  have hn := nPart_le (l := byt s) (i := i) (by rw [byt_len]; exact hi)
  rw [byt_len] at hn
  have key : ∀ B : Bool, (B = true ↔ (at_ (fun b => b == 46) (byt s) i = true ∧ at_ isD (byt s) (i + 1) = true)) → Ev (fun k => minuetref9_number.j3 k s (i : Int) B) ((nPow (byt s) (nPart (byt s) i) : Nat) : Int) := by
    intro B hB
    refine Ev.step (fun k => by rw [minuetref9_number.j3]) ?_
    cases B with
    | false =>
      have e : nPart (byt s) i = i := by unfold nPart; rw [if_neg (fun h => by have := hB.2 h; cases this)]
      rw [e]
      simp only [Bool.false_eq_true, if_false]
      exact num_j4 s hs i (by omega)
    | true =>
      have hp := hB.1 rfl
      have hl := at_lt hp.2
      rw [byt_len] at hl
      have e : nPart (byt s) i = i + 1 + run isD ((byt s).drop (i + 1)) := by unfold nPart; rw [if_pos hp]
      rw [e] at hn ⊢
      simp only [if_true, w1]
      refine Ev.bind (digits_ev s hs (s.size - (i + 1)) (i + 1) (by omega)) ?_
      exact num_j4 s hs _ (by omega)
  refine Ev.step (fun k => by rw [minuetref9_number.j2]) ?_
  simp only [w1]
  by_cases h2 : i + 1 < s.size
  · have h : i < s.size := by omega
    simp only [if_pos (show ((i + 1 : Nat) : Int) < (s.size : Int) by omega), if_pos (show (i : Int) < (s.size : Int) by omega), if_pos (show (0 : Int) ≤ (i : Int) by omega), if_pos (show (0 : Int) ≤ ((i + 1 : Nat) : Int) by omega), btn s i h, btn s (i + 1) h2, digit_f, opt_some]
    have e46 := (u8_val (b := s[i]'h) (n := 46) (by omega))
    refine Ev_ite (fun c => key _ ?_) (fun c => key false ?_)
    · rw [atb _ s i h, atb _ s (i + 1) h2, e46.1 c]
      exact ⟨fun hh => ⟨rfl, hh⟩, fun hh => hh.2⟩
    · rw [atb _ s i h, show (s[i]'h == (46 : UInt8)) = false from beq_eq_false_iff_ne.mpr (fun hh => c (e46.2 hh))]
      exact ⟨fun hh => (by cases hh), fun hh => (by cases hh.1)⟩
  · simp only [if_neg (show ¬ ((i + 1 : Nat) : Int) < (s.size : Int) by omega)]
    refine key false ?_
    rw [atn isD s (i + 1) h2]
    exact ⟨fun hh => (by cases hh), fun hh => (by cases hh.2)⟩
theorem num_j0 (s : ByteArray) (hs : s.size ≤ 300) (a i : Nat) (hi : i ≤ s.size) : Ev (fun k => minuetref9_number.j0 k s (a : Int) (i : Int)) (if at_ isD (byt s) i = true then ((nPow (byt s) (nPart (byt s) (nWhole (byt s) i)) : Nat) : Int) else (a : Int)) := by
  have w1 := wsucc (show i ≤ 1000 by omega)
  refine Ev.step (fun k => by rw [minuetref9_number.j0]) ?_
  by_cases h : i < s.size
  · simp only [if_neg (show ¬ (i : Int) ≥ (s.size : Int) by omega), if_pos (show (i : Int) < (s.size : Int) by omega), if_pos (show (0 : Int) ≤ (i : Int) by omega), btn s i h, digit_f, opt_some, atb isD s i h]
    refine Ev.step (fun k => by rw [minuetref9_number.j1]) ?_
    by_cases c : isD (s[i]'h) = true
    · simp only [c, Bool.not_true, Bool.false_eq_true, if_false, if_true, if_pos (show (i : Int) < (s.size : Int) by omega), if_pos (show (0 : Int) ≤ (i : Int) by omega), btn s i h, w1]
      have hw := nWhole_le (l := byt s) (i := i) (by rw [atb isD s i h]; exact c)
      rw [byt_len] at hw
      have e48 := (u8_val (b := s[i]'h) (n := 48) (by omega))
      refine Ev_ite (fun d => ?_) (fun d => ?_)
      · have e : nWhole (byt s) i = i + 1 := by unfold nWhole; rw [atb _ s i h, e48.1 d]; rfl
        rw [e]; exact num_j2 s hs (i + 1) (by omega)
      · have e : nWhole (byt s) i = i + run isD ((byt s).drop i) := by unfold nWhole; rw [atb _ s i h, show (s[i]'h == (48 : UInt8)) = false from beq_eq_false_iff_ne.mpr (fun hh => d (e48.2 hh))]; rfl
        rw [e] at hw ⊢
        refine Ev.bind (digits_ev s hs (s.size - i) i (by omega)) ?_
        exact num_j2 s hs _ (by omega)
    · simp only [Bool.eq_false_iff.mpr c, Bool.not_false, if_true, Bool.false_eq_true, if_false]
      exact Ev.now _
  · simp only [if_pos (show (i : Int) ≥ (s.size : Int) by omega), atn isD s i h, Bool.false_eq_true, if_false]
    refine Ev.step (fun k => by rw [minuetref9_number.j1]) ?_
    exact Ev.now _
theorem number_ev (s : ByteArray) (hs : s.size ≤ 300) (i : Nat) (h : i < s.size) : Ev (fun k => minuetref9_number.f k s (i : Int)) (((i + num ((byt s).drop i) : Nat) : Int)) := by
  rw [← numAt_drop]
  refine Ev.congr (fun k => by rw [minuetref9_number.f, if_pos (show (0 : Int) ≤ (i : Int) by omega), if_pos (show (i : Int) < (s.size : Int) by omega), btn s i h, wsucc (show i ≤ 1000 by omega)]) ?_
  have e45 := (u8_val (b := s[i]'h) (n := 45) (by omega))
  unfold numAt
  rw [atb _ s i h]
  have fin : ∀ j, j ≤ s.size → Ev (fun k => minuetref9_number.j0 k s (i : Int) (j : Int)) ((if at_ isD (byt s) j = true then nPow (byt s) (nPart (byt s) (nWhole (byt s) j)) else i : Nat) : Int) := by
    intro j hj
    have := num_j0 s hs i j hj
    by_cases c : at_ isD (byt s) j = true
    · rw [if_pos c] at this; rw [if_pos c]; exact this
    · rw [if_neg c] at this; rw [if_neg c]; exact this
  refine Ev_ite (fun c => ?_) (fun c => ?_)
  · rw [show (s[i]'h == (45 : UInt8)) = true from beq_iff_eq.mpr (e45.1 c)]
    exact fin (i + 1) (by omega)
  · rw [show (s[i]'h == (45 : UInt8)) = false from beq_eq_false_iff_ne.mpr (fun hh => c (e45.2 hh))]
    exact fin i (by omega)
end Go.Proofs.Ytnhkdpcncjkmlaa.Pl
