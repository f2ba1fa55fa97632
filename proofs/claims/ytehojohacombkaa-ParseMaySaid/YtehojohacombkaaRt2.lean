/- The reference's token by its contract. -/
import Derived.Test.YtehojohacombkaaLa
import Derived.Test.YtehojohacombkaaLc7
import Derived.Test.YtehojohacombkaaGMinuetref9qblank
import Derived.Test.YtehojohacombkaaGMinuetref9qletter
import Derived.Test.YtehojohacombkaaGMinuetref9qquoted
import Derived.Test.YtehojohacombkaaGMinuetref9qremark
import Derived.Test.YtehojohacombkaaGMinuetref9qnumber
import Derived.Test.YtehojohacombkaaLc8
namespace Go.Proofs.Ytehojohacombkaa.Pl
open Go.RowKit Go.Proofs.Ytehojohacombkaa.G Go.Proofs.Ytehojohacombkaa.Lx Go.Proofs.YtehojohacombkaaW.PrintWords Go.Proofs.YtehojohacombkaaW.PrintLast Go.Proofs.YtehojohacombkaaW.PrintMore
set_option linter.unusedVariables false
set_option linter.unusedSimpArgs false
theorem u8_every {P : UInt8 → Prop} (h : ∀ i : Fin 256, P (UInt8.ofNat i.val)) (b : UInt8) : P b := by
  have := h ⟨b.toNat, b.toNat_lt⟩
  simpa using this
set_option maxRecDepth 100000 in
theorem blank_f : ∀ b : UInt8, minuetref9_blank.f (b.toNat : Int) = some (isB b) := u8_every (by decide +kernel)
set_option maxRecDepth 100000 in
theorem letter_f : ∀ b : UInt8, minuetref9_letter.f (b.toNat : Int) = some (isL b) := u8_every (by decide +kernel)
set_option maxRecDepth 100000 in
theorem digit_f : ∀ b : UInt8, minuetref9_digit.f (b.toNat : Int) = some (isD b) := u8_every (by decide +kernel)
theorem btn (s : ByteArray) (i : Nat) (h : i < s.size) : bt s (i : Int) = ((s[i]'h).toNat : Int) := by
  rw [bt_eq s (i : Int) (by omega) (by omega)]; rfl
theorem atb (p : UInt8 → Bool) (s : ByteArray) (i : Nat) (h : i < s.size) : at_ p (byt s) i = p (s[i]'h) := by
  unfold at_; rw [byt_at s i h]
theorem atn (p : UInt8 → Bool) (s : ByteArray) (i : Nat) (h : ¬ i < s.size) : at_ p (byt s) i = false := by
  unfold at_; rw [List.getElem?_eq_none (by rw [byt_len]; omega)]
theorem u8_val {b : UInt8} {n : Nat} (hn : n < 256) : ((b.toNat : Int) = (n : Int)) ↔ b = UInt8.ofNat n := by
  constructor
  · intro h
    have : b.toNat = n := by omega
    subst this; simp
  · intro h; subst h; simp; omega
theorem wsucc {i : Nat} (h : i ≤ 1000) : wrap64 ((i : Int) + 1) = ((i + 1 : Nat) : Int) := by rw [w64 (by omega) (by omega)]; omega
theorem digits_ev (s : ByteArray) (hs : s.size ≤ 300) : ∀ (g i : Nat), i + g = s.size → Ev (fun k => minuetref9_digits.f k s (i : Int)) ((i + run isD ((byt s).drop i) : Nat) : Int) := by
  intro g
  induction g with
  | zero =>
    intro i h
    refine Ev.congr (fun k => by rw [minuetref9_digits.f]) ?_
    refine Ev.step (fun k => by rw [minuetref9_digits.l0]) ?_
    simp only [if_neg (show ¬ (i : Int) < (s.size : Int) by omega)]
    rw [List.drop_eq_nil_of_le (by rw [byt_len]; omega)]
    exact Ev.now _
  | succ g ih =>
    intro i h
    have hi : i < s.size := by omega
    have go := ih (i + 1) (by omega)
    refine Ev.congr (fun k => by rw [minuetref9_digits.f]) ?_
    refine Ev.step (fun k => by rw [minuetref9_digits.l0]) ?_
    simp only [if_pos (show (i : Int) < (s.size : Int) by omega), if_pos (show (0 : Int) ≤ (i : Int) by omega), btn s i hi, digit_f, opt_some]
    rw [byt_drop s i hi]
    by_cases c : isD (s[i]'hi) = true
    · simp only [if_pos c, run, wsucc (show i ≤ 1000 by omega)]
      rw [show i + (run isD (List.drop (i + 1) (byt s)) + 1) = i + 1 + run isD (List.drop (i + 1) (byt s)) by omega]
      exact Ev.congr (fun k => by rw [minuetref9_digits.f]) go
    · simp only [if_neg c, run, Nat.add_zero]
      exact Ev.now _
theorem quoted_l0 (s : ByteArray) (hs : s.size ≤ 300) : ∀ (n i : Nat), i ≤ s.size → s.size < i + n → Ev (fun k => minuetref9_quoted.l0 k s (i : Int)) (((i + (txt ((byt s).drop i)).1 : Nat) : Int), (txt ((byt s).drop i)).2) := by
  intro n
  induction n with
  | zero => intro i h h2; omega
  | succ n ih =>
    intro i h h2
    refine Ev.step (fun k => by rw [minuetref9_quoted.l0]) ?_
    by_cases hi : i < s.size
    · simp only [if_pos (show (i : Int) < (s.size : Int) by omega), if_pos (show (0 : Int) ≤ (i : Int) by omega), btn s i hi]
      refine Ev.step (fun k => by rw [minuetref9_quoted.j1]) ?_
      rw [byt_drop s i hi]
      simp only [if_pos (show (i : Int) < (s.size : Int) by omega), if_pos (show (0 : Int) ≤ (i : Int) by omega), btn s i hi]
      have hb : (((s[i]'hi).toNat : Int) != 10) = !((s[i]'hi) == 10) := by
        have := (u8_val (b := s[i]'hi) (n := 10) (by omega))
        by_cases e : s[i]'hi = 10
        · have h10 : ((s[i]'hi).toNat : Int) = 10 := this.2 e
          rw [h10, e]; rfl
        · have h10 : ¬ ((s[i]'hi).toNat : Int) = 10 := fun h => e (this.1 h)
          rw [bne_iff_ne.mpr h10, beq_eq_false_iff_ne.mpr e]; rfl
      have i34 := (u8_val (b := s[i]'hi) (n := 34) (by omega))
      have i92 := (u8_val (b := s[i]'hi) (n := 92) (by omega))
      rw [hb]
      generalize s[i]'hi = b at i34 i92
      rw [txt.eq_def]
      simp only
      by_cases e10 : b = 10
      · subst e10
        simp only [beq_self_eq_true, Bool.not_true, Bool.false_eq_true, if_false, if_true, Nat.add_zero]
        exact Ev.now _
      · simp only [beq_eq_false_iff_ne.mpr e10, Bool.not_false, if_true, if_neg e10]
        by_cases e34 : b = 34
        · simp only [if_pos (show (b.toNat : Int) = 34 from i34.2 e34), if_pos e34, wsucc (show i ≤ 1000 by omega)]
          exact Ev.now _
        · simp only [if_neg (show ¬ (b.toNat : Int) = 34 from fun h => e34 (i34.1 h)), if_neg e34]
          by_cases e92 : b = 92
          · simp only [if_pos (show (b.toNat : Int) = 92 from i92.2 e92), if_pos e92, wsucc (show i ≤ 1000 by omega)]
            by_cases hi2 : i + 1 < s.size
            · have j10 := (u8_val (b := s[i + 1]'hi2) (n := 10) (by omega))
              simp only [if_pos (show ((i + 1 : Nat) : Int) < (s.size : Int) by omega), if_pos (show (0 : Int) ≤ ((i + 1 : Nat) : Int) by omega), btn s (i + 1) hi2, wsucc (show i + 1 ≤ 1000 by omega)]
              rw [byt_drop s (i + 1) hi2]
              simp only
              by_cases f10 : s[i + 1]'hi2 = 10
              · simp only [if_pos (show ((s[i + 1]'hi2).toNat : Int) = 10 from j10.2 f10), if_pos f10]
                have := ih (i + 1) (by omega) (by omega)
                rw [byt_drop s (i + 1) hi2, txt.eq_def] at this
                simp only [if_pos f10, Nat.add_zero] at this
                exact this
              · simp only [if_neg (show ¬ ((s[i + 1]'hi2).toNat : Int) = 10 from fun h => f10 (j10.1 h)), if_neg f10]
                have := ih (i + 1 + 1) (by omega) (by omega)
                rw [show i + ((txt (List.drop (i + 1 + 1) (byt s))).1 + 2) = i + 1 + 1 + (txt (List.drop (i + 1 + 1) (byt s))).1 by omega]
                exact this
            · simp only [if_neg (show ¬ ((i + 1 : Nat) : Int) < (s.size : Int) by omega)]
              have := ih (i + 1) (by omega) (by omega)
              rw [List.drop_eq_nil_of_le (by rw [byt_len]; omega)] at this ⊢
              exact this
          · simp only [if_neg (show ¬ (b.toNat : Int) = 92 from fun h => e92 (i92.1 h)), if_neg e92, wsucc (show i ≤ 1000 by omega)]
            have := ih (i + 1) (by omega) (by omega)
            rw [show i + ((txt (List.drop (i + 1) (byt s))).1 + 1) = i + 1 + (txt (List.drop (i + 1) (byt s))).1 by omega]
            exact this
    · simp only [if_neg (show ¬ (i : Int) < (s.size : Int) by omega)]
      refine Ev.step (fun k => by rw [minuetref9_quoted.j1]) ?_
      rw [List.drop_eq_nil_of_le (by rw [byt_len]; omega)]
      exact Ev.now _
theorem quoted_ev (s : ByteArray) (hs : s.size ≤ 300) (i : Nat) (h : i < s.size) : Ev (fun k => minuetref9_quoted.f k s (i : Int)) (((i + ((txt ((byt s).drop (i + 1))).1 + 1) : Nat) : Int), (txt ((byt s).drop (i + 1))).2) := by
  refine Ev.congr (fun k => by rw [minuetref9_quoted.f, wsucc (show i ≤ 1000 by omega)]) ?_
  have := quoted_l0 s hs (s.size + 1) (i + 1) (by omega) (by omega)
  rw [show i + ((txt (List.drop (i + 1) (byt s))).1 + 1) = i + 1 + (txt (List.drop (i + 1) (byt s))).1 by omega]
  exact this
theorem line_l0 (s : ByteArray) (hs : s.size ≤ 300) : ∀ (g i : Nat), i + g = s.size → Ev (fun k => minuetref9_remark.l0 k s (i : Int)) (((i + run (fun b => b != 10) ((byt s).drop i) : Nat) : Int), true) := by
  intro g
  induction g with
  | zero =>
    intro i h
    refine Ev.step (fun k => by rw [minuetref9_remark.l0]) ?_
    simp only [if_neg (show ¬ (i : Int) < (s.size : Int) by omega)]
    rw [List.drop_eq_nil_of_le (by rw [byt_len]; omega)]
    exact Ev.now _
  | succ g ih =>
    intro i h
    have hi : i < s.size := by omega
    have go := ih (i + 1) (by omega)
    refine Ev.step (fun k => by rw [minuetref9_remark.l0]) ?_
    simp only [if_pos (show (i : Int) < (s.size : Int) by omega), if_pos (show (0 : Int) ≤ (i : Int) by omega), btn s i hi]
    have j10 := (u8_val (b := s[i]'hi) (n := 10) (by omega))
    rw [byt_drop s i hi]
    by_cases c : s[i]'hi = 10
    · have cb : ((s[i]'hi) != 10) = false := by rw [c]; rfl
      simp only [if_pos (show ((s[i]'hi).toNat : Int) = 10 from j10.2 c), run, cb, Bool.false_eq_true, if_false, Nat.add_zero]
      exact Ev.now _
    · have cb : ((s[i]'hi) != 10) = true := bne_iff_ne.mpr c
      simp only [if_neg (show ¬ ((s[i]'hi).toNat : Int) = 10 from fun h => c (j10.1 h)), run, cb, if_true, wsucc (show i ≤ 1000 by omega)]
      rw [show i + (run (fun b => b != 10) (List.drop (i + 1) (byt s)) + 1) = i + 1 + run (fun b => b != 10) (List.drop (i + 1) (byt s)) by omega]
      exact go
def shutO (s : ByteArray) (i : Nat) : Int × Bool := match shut ((byt s).drop i) with | some k => (((i + k : Nat) : Int), true) | none => ((s.size : Int), false)
theorem block_l1 (s : ByteArray) (hs : s.size ≤ 300) : ∀ (n i : Nat), i ≤ s.size → s.size < i + n → Ev (fun k => minuetref9_remark.l1 k s (i : Int)) (shutO s i) := by
  intro n
  induction n with
  | zero => intro i h h2; omega
  | succ n ih =>
    intro i h h2
    refine Ev.step (fun k => by rw [minuetref9_remark.l1]) ?_
    simp only [wsucc (show i ≤ 1000 by omega)]
    by_cases hi2 : i + 1 < s.size
    · have hi : i < s.size := by omega
      have go := ih (i + 1) (by omega) (by omega)
      have j42 := (u8_val (b := s[i]'hi) (n := 42) (by omega))
      have j47 := (u8_val (b := s[i + 1]'hi2) (n := 47) (by omega))
      have w2 : wrap64 ((i : Int) + 2) = ((i + 2 : Nat) : Int) := by rw [w64 (by omega) (by omega)]; omega
      simp only [if_pos (show ((i + 1 : Nat) : Int) < (s.size : Int) by omega), if_pos (show (i : Int) < (s.size : Int) by omega), if_pos (show (0 : Int) ≤ (i : Int) by omega), if_pos (show (0 : Int) ≤ ((i + 1 : Nat) : Int) by omega), btn s i hi, btn s (i + 1) hi2, w2]
      have hd : shut ((byt s).drop i) = if s[i]'hi = 42 ∧ s[i + 1]'hi2 = 47 then some 2 else (shut ((byt s).drop (i + 1))).map (· + 1) := by
        rw [byt_drop s i hi, shut]
        have : ((byt s).drop (i + 1)).head? = some (s[i + 1]'hi2) := by rw [byt_drop s (i + 1) hi2]; rfl
        rw [this]; simp only [Option.some.injEq]
      have step : ¬ (s[i]'hi = 42 ∧ s[i + 1]'hi2 = 47) → shutO s i = shutO s (i + 1) := by
        intro hn
        unfold shutO
        rw [hd, if_neg hn]
        cases shut ((byt s).drop (i + 1)) with
        | none => rfl
        | some k => simp only [Option.map_some]; congr 1; omega
      by_cases c : s[i]'hi = 42
      · simp only [if_pos (show ((s[i]'hi).toNat : Int) = 42 from j42.2 c)]
        by_cases d : s[i + 1]'hi2 = 47
        · simp only [if_pos (show ((s[i + 1]'hi2).toNat : Int) = 47 from j47.2 d)]
          have : shutO s i = (((i + 2 : Nat) : Int), true) := by unfold shutO; rw [hd, if_pos ⟨c, d⟩]
          rw [this]; exact Ev.now _
        · simp only [if_neg (show ¬ ((s[i + 1]'hi2).toNat : Int) = 47 from fun h => d (j47.1 h))]
          rw [step (fun h => d h.2)]; exact go
      · simp only [if_neg (show ¬ ((s[i]'hi).toNat : Int) = 42 from fun h => c (j42.1 h))]
        rw [step (fun h => c h.1)]; exact go
    · simp only [if_neg (show ¬ ((i + 1 : Nat) : Int) < (s.size : Int) by omega)]
      have : shutO s i = ((s.size : Int), false) := by
        unfold shutO
        have : shut ((byt s).drop i) = none := by
          by_cases hi : i < s.size
          · rw [byt_drop s i hi, List.drop_eq_nil_of_le (by rw [byt_len]; omega), shut]; simp [shut]
          · rw [List.drop_eq_nil_of_le (by rw [byt_len]; omega)]; rfl
        rw [this]
      rw [this]; exact Ev.now _
theorem rmk_eq (s : ByteArray) (i : Nat) (hi : i < s.size) (hb : s[i]'hi = 47) : rmk ((byt s).drop i) = if hi2 : i + 1 < s.size then (if s[i + 1]'hi2 = 47 then (run (fun b => b != 10) ((byt s).drop i), true) else if s[i + 1]'hi2 = 42 then ((shutO s (i + 2)).1.toNat - i, (shutO s (i + 2)).2) else (1, false)) else (1, false) := by
  by_cases hi2 : i + 1 < s.size
  · rw [dif_pos hi2]
    have e : (byt s).drop i = 47 :: (s[i + 1]'hi2) :: (byt s).drop (i + 2) := by rw [byt_drop s i hi, byt_drop s (i + 1) hi2, hb]
    rw [e]
    by_cases c1 : s[i + 1]'hi2 = 47
    · rw [if_pos c1, c1]; rfl
    · rw [if_neg c1]
      by_cases c2 : s[i + 1]'hi2 = 42
      · rw [if_pos c2, c2]
        have e1 : rmk (47 :: 42 :: (byt s).drop (i + 2)) = (match shut ((byt s).drop (i + 2)) with | some k => (k + 2, true) | none => ((47 :: 42 :: (byt s).drop (i + 2)).length, false)) := rfl
        rw [e1]
        unfold shutO
        cases hs : shut ((byt s).drop (i + 2)) with
        | none => simp only [List.length_cons, List.length_drop, byt_len]; congr 1; omega
        | some k => simp only; congr 1; omega
      · rw [if_neg c2]
        unfold rmk
        split
        · rename_i h1; simp only [List.cons.injEq] at h1; exact absurd h1.2.1 c1
        · rename_i h1; simp only [List.cons.injEq] at h1; exact absurd h1.2.1 c2
        · rfl
  · rw [dif_neg hi2, byt_drop s i hi, hb, List.drop_eq_nil_of_le (by rw [byt_len]; omega)]; rfl
theorem shutO_le (s : ByteArray) (i : Nat) (h : i ≤ s.size) : (i : Int) ≤ (shutO s i).1 ∧ (shutO s i).1 ≤ (s.size : Int) := by
  unfold shutO
  cases hs : shut ((byt s).drop i) with
  | none => simp only; omega
  | some k =>
    have := shut_le _ _ hs
    rw [List.length_drop, byt_len] at this
    simp only; omega
theorem remark_ev (s : ByteArray) (hs : s.size ≤ 300) (i : Nat) (hi : i < s.size) (hb : s[i]'hi = 47) : Ev (fun k => minuetref9_remark.f k s (i : Int)) (((i + (rmk ((byt s).drop i)).1 : Nat) : Int), (rmk ((byt s).drop i)).2) := by
  refine Ev.congr (fun k => by rw [minuetref9_remark.f]) ?_
  have w2 : wrap64 ((i : Int) + 2) = ((i + 2 : Nat) : Int) := by rw [w64 (by omega) (by omega)]; omega
  simp only [wsucc (show i ≤ 1000 by omega)]
  rw [rmk_eq s i hi hb]
  by_cases hi2 : i + 1 < s.size
  · rw [dif_pos hi2]
    have j47 := (u8_val (b := s[i + 1]'hi2) (n := 47) (by omega))
    have j42 := (u8_val (b := s[i + 1]'hi2) (n := 42) (by omega))
    simp only [if_pos (show ((i + 1 : Nat) : Int) < (s.size : Int) by omega), if_pos (show (0 : Int) ≤ ((i + 1 : Nat) : Int) by omega), btn s (i + 1) hi2]
    by_cases c1 : s[i + 1]'hi2 = 47
    · rw [if_pos c1]
      have e : (((s[i + 1]'hi2).toNat : Int) == 47) = true := by rw [show ((s[i + 1]'hi2).toNat : Int) = 47 from j47.2 c1]; rfl
      rw [e]
      refine Ev.step (fun k => by rw [minuetref9_remark.j0]) ?_
      simp only [if_true]
      exact line_l0 s hs (s.size - i) i (by omega)
    · rw [if_neg c1]
      have e : (((s[i + 1]'hi2).toNat : Int) == 47) = false := beq_eq_false_iff_ne.mpr (fun h => c1 (j47.1 h))
      rw [e]
      refine Ev.step (fun k => by rw [minuetref9_remark.j0]) ?_
      simp only [wsucc (show i ≤ 1000 by omega), Bool.false_eq_true, if_false, if_pos (show ((i + 1 : Nat) : Int) < (s.size : Int) by omega), if_pos (show (0 : Int) ≤ ((i + 1 : Nat) : Int) by omega), btn s (i + 1) hi2]
      refine Ev.step (fun k => by rw [minuetref9_remark.j2]) ?_
      by_cases c2 : s[i + 1]'hi2 = 42
      · rw [if_pos c2]
        have e2 : (((s[i + 1]'hi2).toNat : Int) == 42) = true := by rw [show ((s[i + 1]'hi2).toNat : Int) = 42 from j42.2 c2]; rfl
        simp only [e2, if_true, w2]
        have := block_l1 s hs (s.size + 1) (i + 2) (by omega) (by omega)
        have hle := shutO_le s (i + 2) (by omega)
        rw [show ((i + ((shutO s (i + 2)).1.toNat - i) : Nat) : Int) = (shutO s (i + 2)).1 by omega]
        exact this
      · rw [if_neg c2]
        have e2 : (((s[i + 1]'hi2).toNat : Int) == 42) = false := beq_eq_false_iff_ne.mpr (fun h => c2 (j42.1 h))
        simp only [e2, Bool.false_eq_true, if_false, wsucc (show i ≤ 1000 by omega)]
        exact Ev.now _
  · rw [dif_neg hi2]
    simp only [if_neg (show ¬ ((i + 1 : Nat) : Int) < (s.size : Int) by omega)]
    refine Ev.step (fun k => by rw [minuetref9_remark.j0]) ?_
    simp only [wsucc (show i ≤ 1000 by omega), Bool.false_eq_true, if_false, if_neg (show ¬ ((i + 1 : Nat) : Int) < (s.size : Int) by omega)]
    refine Ev.step (fun k => by rw [minuetref9_remark.j2]) ?_
    simp only [Bool.false_eq_true, if_false, wsucc (show i ≤ 1000 by omega)]
    exact Ev.now _
/-! ### numbers -/
theorem beq_u8 {b : UInt8} {n : Nat} (hn : n < 256) : ((b.toNat : Int) == (n : Int)) = (b == UInt8.ofNat n) := by
  by_cases e : b = UInt8.ofNat n
  · rw [beq_iff_eq.mpr ((u8_val hn).2 e), beq_iff_eq.mpr e]
  · rw [beq_eq_false_iff_ne.mpr (fun h => e ((u8_val hn).1 h)), beq_eq_false_iff_ne.mpr e]
theorem num_j7 (s : ByteArray) (hs : s.size ≤ 300) (x6 : Int) (i : Nat) (hi : i ≤ 400) : Ev (fun k => minuetref9_number.j7 k s x6 (i : Int)) (if at_ isD (byt s) i = true then ((i + run isD ((byt s).drop i) : Nat) : Int) else x6) := by
  refine Ev.step (fun k => by rw [minuetref9_number.j7]) ?_
  by_cases h : i < s.size
  · simp only [if_pos (show (i : Int) < (s.size : Int) by omega), if_pos (show (0 : Int) ≤ (i : Int) by omega), btn s i h, digit_f, opt_some, atb isD s i h]
    by_cases c : isD (s[i]'h) = true
    · simp only [if_pos c]
      refine Ev.bind (digits_ev s hs (s.size - i) i (by omega)) (Ev.now _)
    · simp only [if_neg c]; exact Ev.now _
  · simp only [if_neg (show ¬ (i : Int) < (s.size : Int) by omega), atn isD s i h, Bool.false_eq_true, if_false]; exact Ev.now _
theorem num_j4 (s : ByteArray) (hs : s.size ≤ 300) (i : Nat) (hi : i ≤ 300) : Ev (fun k => minuetref9_number.j4 k s (i : Int)) ((nPow (byt s) i : Nat) : Int) := by
  have w1 := wsucc (show i ≤ 1000 by omega)
  have w2 : wrap64 (((i + 1 : Nat) : Int) + 1) = ((i + 2 : Nat) : Int) := wsucc (show i + 1 ≤ 1000 by omega)
  have key : ∀ B : Bool, B = at_ (fun b => b == 101 || b == 69) (byt s) i → Ev (fun k => minuetref9_number.j5 k s (i : Int) B) ((nPow (byt s) i : Nat) : Int) := by
    intro B hB
    refine Ev.step (fun k => by rw [minuetref9_number.j5]) ?_
    unfold nPow
    rw [← hB]
    cases B with
    | false => simp only [Bool.false_eq_true, if_false]; exact Ev.now _
    | true =>
      simp only [if_true, w1]
      have key2 : ∀ C : Bool, C = at_ (fun b => b == 43 || b == 45) (byt s) (i + 1) → Ev (fun k => minuetref9_number.j6 k s (i : Int) ((i + 1 : Nat) : Int) C) (((if at_ (fun b => b == 43 || b == 45) (byt s) (i + 1) = true then (if at_ isD (byt s) (i + 2) = true then i + 2 + run isD ((byt s).drop (i + 2)) else i)
         else if at_ isD (byt s) (i + 1) = true then i + 1 + run isD ((byt s).drop (i + 1)) else i) : Nat) : Int) := by
        intro C hC
        rw [← hC]
        refine Ev.step (fun k => by rw [minuetref9_number.j6]) ?_
        cases C with
        | true =>
          simp only [if_true, w2]
          have := num_j7 s hs (i : Int) (i + 2) (by omega)
          by_cases c : at_ isD (byt s) (i + 2) = true
          · rw [if_pos c] at this; rw [if_pos c]; exact this
          · rw [if_neg c] at this; rw [if_neg c]; exact this
        | false =>
          simp only [Bool.false_eq_true, if_false]
          have := num_j7 s hs (i : Int) (i + 1) (by omega)
          by_cases c : at_ isD (byt s) (i + 1) = true
          · rw [if_pos c] at this; rw [if_pos c]; exact this
          · rw [if_neg c] at this; rw [if_neg c]; exact this
      by_cases h : i + 1 < s.size
      · simp only [if_pos (show ((i + 1 : Nat) : Int) < (s.size : Int) by omega), if_pos (show (0 : Int) ≤ ((i + 1 : Nat) : Int) by omega), btn s (i + 1) h]
        have e43 := (u8_val (b := s[i + 1]'h) (n := 43) (by omega))
        have e45 := beq_u8 (b := s[i + 1]'h) (n := 45) (by omega)
        refine Ev_ite (fun c => key2 true ?_) (fun c => key2 _ ?_)
        · rw [atb _ s (i + 1) h, e43.1 c]; rfl
        · rw [atb _ s (i + 1) h, show (s[i + 1]'h == (43 : UInt8)) = false from beq_eq_false_iff_ne.mpr (fun hh => c (e43.2 hh))]
          exact e45
      · simp only [if_neg (show ¬ ((i + 1 : Nat) : Int) < (s.size : Int) by omega)]
        exact key2 false (atn _ s (i + 1) h).symm
  refine Ev.step (fun k => by rw [minuetref9_number.j4]) ?_
  by_cases h : i < s.size
  · simp only [if_pos (show (i : Int) < (s.size : Int) by omega), if_pos (show (0 : Int) ≤ (i : Int) by omega), btn s i h]
    have e101 := (u8_val (b := s[i]'h) (n := 101) (by omega))
    have e69 := beq_u8 (b := s[i]'h) (n := 69) (by omega)
    refine Ev_ite (fun c => key true ?_) (fun c => key _ ?_)
    · rw [atb _ s i h, e101.1 c]; rfl
    · rw [atb _ s i h, show (s[i]'h == (101 : UInt8)) = false from beq_eq_false_iff_ne.mpr (fun hh => c (e101.2 hh))]
      exact e69
  · simp only [if_neg (show ¬ (i : Int) < (s.size : Int) by omega)]
    exact key false (atn _ s i h).symm
theorem num_j2 (s : ByteArray) (hs : s.size ≤ 300) (i : Nat) (hi : i ≤ s.size) : Ev (fun k => minuetref9_number.j2 k s (i : Int)) ((nPow (byt s) (nPart (byt s) i) : Nat) : Int) := by
  have w1 := wsucc (show i ≤ 1000 by omega)
  have hn := nPart_le (l := byt s) (i := i) (by rw [byt_len]; exact hi)
  rw [byt_len] at hn
  have key : ∀ B : Bool, (B = true ↔ (at_ (fun b => b == 46) (byt s) i = true ∧ at_ isD (byt s) (i + 1) = true)) → Ev (fun k => minuetref9_number.j3 k s (i : Int) B) ((nPow (byt s) (nPart (byt s) i) : Nat) : Int) := by
    intro B hB
    refine Ev.step (fun k => by rw [minuetref9_number.j3]) ?_
    cases B with
    | false =>
      have e : nPart (byt s) i = i := by unfold nPart; rw [if_neg (fun h => by have := hB.2 h; cases this)]
      rw [e]
      simp only [Bool.false_eq_true, if_false]
      exact num_j4 s hs i (by omega)
    | true =>
      have hp := hB.1 rfl
      have hl := at_lt hp.2
      rw [byt_len] at hl
      have e : nPart (byt s) i = i + 1 + run isD ((byt s).drop (i + 1)) := by unfold nPart; rw [if_pos hp]
      rw [e] at hn ⊢
      simp only [if_true, w1]
      refine Ev.bind (digits_ev s hs (s.size - (i + 1)) (i + 1) (by omega)) ?_
      exact num_j4 s hs _ (by omega)
  refine Ev.step (fun k => by rw [minuetref9_number.j2]) ?_
  simp only [w1]
  by_cases h2 : i + 1 < s.size
  · have h : i < s.size := by omega
    simp only [if_pos (show ((i + 1 : Nat) : Int) < (s.size : Int) by omega), if_pos (show (i : Int) < (s.size : Int) by omega), if_pos (show (0 : Int) ≤ (i : Int) by omega), if_pos (show (0 : Int) ≤ ((i + 1 : Nat) : Int) by omega), btn s i h, btn s (i + 1) h2, digit_f, opt_some]
    have e46 := (u8_val (b := s[i]'h) (n := 46) (by omega))
    refine Ev_ite (fun c => key _ ?_) (fun c => key false ?_)
    · rw [atb _ s i h, atb _ s (i + 1) h2, e46.1 c]
      exact ⟨fun hh => ⟨rfl, hh⟩, fun hh => hh.2⟩
    · rw [atb _ s i h, show (s[i]'h == (46 : UInt8)) = false from beq_eq_false_iff_ne.mpr (fun hh => c (e46.2 hh))]
      exact ⟨fun hh => (by cases hh), fun hh => (by cases hh.1)⟩
  · simp only [if_neg (show ¬ ((i + 1 : Nat) : Int) < (s.size : Int) by omega)]
    refine key false ?_
    rw [atn isD s (i + 1) h2]
    exact ⟨fun hh => (by cases hh), fun hh => (by cases hh.2)⟩
theorem num_j0 (s : ByteArray) (hs : s.size ≤ 300) (a i : Nat) (hi : i ≤ s.size) : Ev (fun k => minuetref9_number.j0 k s (a : Int) (i : Int)) (if at_ isD (byt s) i = true then ((nPow (byt s) (nPart (byt s) (nWhole (byt s) i)) : Nat) : Int) else (a : Int)) := by
  have w1 := wsucc (show i ≤ 1000 by omega)
  refine Ev.step (fun k => by rw [minuetref9_number.j0]) ?_
  by_cases h : i < s.size
  · simp only [if_neg (show ¬ (i : Int) ≥ (s.size : Int) by omega), if_pos (show (i : Int) < (s.size : Int) by omega), if_pos (show (0 : Int) ≤ (i : Int) by omega), btn s i h, digit_f, opt_some, atb isD s i h]
    refine Ev.step (fun k => by rw [minuetref9_number.j1]) ?_
    by_cases c : isD (s[i]'h) = true
    · simp only [c, Bool.not_true, Bool.false_eq_true, if_false, if_true, if_pos (show (i : Int) < (s.size : Int) by omega), if_pos (show (0 : Int) ≤ (i : Int) by omega), btn s i h, w1]
      have hw := nWhole_le (l := byt s) (i := i) (by rw [atb isD s i h]; exact c)
      rw [byt_len] at hw
      have e48 := (u8_val (b := s[i]'h) (n := 48) (by omega))
      refine Ev_ite (fun d => ?_) (fun d => ?_)
      · have e : nWhole (byt s) i = i + 1 := by unfold nWhole; rw [atb _ s i h, e48.1 d]; rfl
        rw [e]; exact num_j2 s hs (i + 1) (by omega)
      · have e : nWhole (byt s) i = i + run isD ((byt s).drop i) := by unfold nWhole; rw [atb _ s i h, show (s[i]'h == (48 : UInt8)) = false from beq_eq_false_iff_ne.mpr (fun hh => d (e48.2 hh))]; rfl
        rw [e] at hw ⊢
        refine Ev.bind (digits_ev s hs (s.size - i) i (by omega)) ?_
        exact num_j2 s hs _ (by omega)
    · simp only [Bool.eq_false_iff.mpr c, Bool.not_false, if_true, Bool.false_eq_true, if_false]
      exact Ev.now _
  · simp only [if_pos (show (i : Int) ≥ (s.size : Int) by omega), atn isD s i h, Bool.false_eq_true, if_false]
    refine Ev.step (fun k => by rw [minuetref9_number.j1]) ?_
    exact Ev.now _
theorem number_ev (s : ByteArray) (hs : s.size ≤ 300) (i : Nat) (h : i < s.size) : Ev (fun k => minuetref9_number.f k s (i : Int)) (((i + num ((byt s).drop i) : Nat) : Int)) := by
  rw [← numAt_drop]
  refine Ev.congr (fun k => by rw [minuetref9_number.f, if_pos (show (0 : Int) ≤ (i : Int) by omega), if_pos (show (i : Int) < (s.size : Int) by omega), btn s i h, wsucc (show i ≤ 1000 by omega)]) ?_
  have e45 := (u8_val (b := s[i]'h) (n := 45) (by omega))
  unfold numAt
  rw [atb _ s i h]
  have fin : ∀ j, j ≤ s.size → Ev (fun k => minuetref9_number.j0 k s (i : Int) (j : Int)) ((if at_ isD (byt s) j = true then nPow (byt s) (nPart (byt s) (nWhole (byt s) j)) else i : Nat) : Int) := by
    intro j hj
    have := num_j0 s hs i j hj
    by_cases c : at_ isD (byt s) j = true
    · rw [if_pos c] at this; rw [if_pos c]; exact this
    · rw [if_neg c] at this; rw [if_neg c]; exact this
  refine Ev_ite (fun c => ?_) (fun c => ?_)
  · rw [show (s[i]'h == (45 : UInt8)) = true from beq_iff_eq.mpr (e45.1 c)]
    exact fin (i + 1) (by omega)
  · rw [show (s[i]'h == (45 : UInt8)) = false from beq_eq_false_iff_ne.mpr (fun hh => c (e45.2 hh))]
    exact fin i (by omega)
end Go.Proofs.Ytehojohacombkaa.Pl
namespace Go.Proofs.Ytehojohacombkaa.G
open Go.RowKit Go.Maps Go.Proofs.YtehojohacombkaaW.PrintWords Go.Proofs.YtehojohacombkaaW.PrintLast Go.Proofs.YtehojohacombkaaW.PrintMore
open Go.Proofs.Ytehojohacombkaa.Lx (run at_ num txt rmk tk tks toks isB isD isL word sign shut nWhole nPart nPow)
set_option linter.unusedVariables false
set_option linter.unusedSimpArgs false
/-- Two blocks of the call: the result's, the token's. -/
structure RtS (w W : World) (gr gc : Nat) (cs : Array Value) : Prop where
  r : W.heap[gr]? = some (.cells #[.int .i64 0, .int .i64 0, .int .i64 0] 46 (0, 0))
  c : W.heap[gc]? = some (.cells cs 46 (0, 0))
  b : Below w.heap.size w W
theorem RtS.drewN {w W : World} {gr gc : Nat} {cs : Array Value} (h : RtS w W gr gc cs) (n : Nat) : RtS w (W.drewN n) gr gc cs := ⟨blk_drewN h.r n, blk_drewN h.c n, pw_below_drewN h.b n⟩
theorem RtS.set {w W : World} {gr gc : Nat} {cs : Array Value} (h : RtS w W gr gc cs) (hn : gr ≠ gc) (hg : w.heap.size ≤ gc) (i : Nat) (v : Value) {ds : Array Value} (e : cs.setIfInBounds i v = ds) : RtS w (W.setCell ⟨gc, i, none⟩ v) gr gc ds :=
  ⟨(Below.heap_setCell _ _ _ _ hn).trans h.r, by subst e; exact blk_set h.c i v, below_set h.b hg⟩
def six : ByteArray := ⟨#[123, 125, 91, 93, 58, 44]⟩
def noSign (z : Int) (i : Int) : Prop := ∀ j : Nat, (j : Int) < i → bt six (j : Int) ≠ z
set_option maxRecDepth 100000 in
theorem six_sign : ∀ b : Fin 256, (∀ j : Fin 6, bt six (j.val : Int) = (b.val : Int) → sign (UInt8.ofNat b.val) = some (j.val : Int)) ∧ ((∀ j : Fin 6, bt six (j.val : Int) ≠ (b.val : Int)) → sign (UInt8.ofNat b.val) = none) := by decide +kernel
theorem sign_at (b : UInt8) (i : Int) (h0 : 0 ≤ i) (h1 : i < 6) (h : bt six i = (b.toNat : Int)) : sign b = some i := by
  have := (six_sign ⟨b.toNat, b.toNat_lt⟩).1 ⟨i.toNat, by omega⟩ (by simp only; rw [show ((i.toNat : Nat) : Int) = i by omega]; exact h)
  simp only [show ((i.toNat : Nat) : Int) = i by omega] at this
  simpa using this
theorem sign_no (b : UInt8) (h : noSign (b.toNat : Int) 6) : sign b = none := by
  have := (six_sign ⟨b.toNat, b.toNat_lt⟩).2 (fun j => h j.val (by omega))
  simpa using this
theorem Rt.blank (z : Int) (B : Bool) (w : World) (h : minuetref9_blank.f z = some B) : Calls Try.prog 63 #[.int .u8 z] w fun e w' => e = .returned (.bool B) ∧ ∃ n, w' = w.drewN n :=
  (minuetref9_blank.calls z B w h).mono fun e w' ⟨h1, h2⟩ => ⟨h1, h2.out⟩
theorem Rt.letter (z : Int) (B : Bool) (w : World) (h : minuetref9_letter.f z = some B) : Calls Try.prog 66 #[.int .u8 z] w fun e w' => e = .returned (.bool B) ∧ ∃ n, w' = w.drewN n :=
  (minuetref9_letter.calls z B w h).mono fun e w' ⟨h1, h2⟩ => ⟨h1, h2.out⟩
theorem Rt.quoted (s : ByteArray) (a r1 : Int) (r2 : Bool) (h : Ev (fun k => minuetref9_quoted.f k s a) (r1, r2)) (w : World) : Calls Try.prog 64 #[.string s, .int .i64 a] w fun e w' => e = .returned (.tuple #[.int .i64 r1, .bool r2]) ∧ ∃ n, w' = w.drewN n := by
  obtain ⟨k, hk⟩ := Ev.rounds h
  exact (minuetref9_quoted.calls k s a r1 r2 w hk).mono fun e w' ⟨h1, h2⟩ => ⟨h1, h2.out⟩
theorem Rt.remark (s : ByteArray) (a r1 : Int) (r2 : Bool) (h : Ev (fun k => minuetref9_remark.f k s a) (r1, r2)) (w : World) : Calls Try.prog 65 #[.string s, .int .i64 a] w fun e w' => e = .returned (.tuple #[.int .i64 r1, .bool r2]) ∧ ∃ n, w' = w.drewN n := by
  obtain ⟨k, hk⟩ := Ev.rounds h
  exact (minuetref9_remark.calls k s a r1 r2 w hk).mono fun e w' ⟨h1, h2⟩ => ⟨h1, h2.out⟩
theorem Rt.number (s : ByteArray) (a r : Int) (h : Ev (fun k => minuetref9_number.f k s a) r) (w : World) : Calls Try.prog 67 #[.string s, .int .i64 a] w fun e w' => e = .returned (.int .i64 r) ∧ ∃ n, w' = w.drewN n := by
  obtain ⟨k, hk⟩ := Ev.rounds h
  exact (minuetref9_number.calls k s a r w hk).mono fun e w' ⟨h1, h2⟩ => ⟨h1, h2.out⟩
set_option maxRecDepth 100000 in
set_option maxHeartbeats 8000000 in
theorem Rt.token_any (s : ByteArray) (a : Int) (hs : s.size ≤ 300) (h0 : 0 ≤ a) (h1 : a < (s.size : Int)) (w : World) :
    Calls Try.prog 49 #[.string s, .int .i64 a] w fun e w' => e = .returned (.agg #[.int .i64 (tk ((byt s).drop a.toNat)).1, .int .i64 a, .int .i64 (a + (((tk ((byt s).drop a.toNat)).2 : Nat) : Int))]) ∧ Below w.heap.size w w' := by
  have HB := Aside0.mk (Below.refl w.heap.size w)
  have a1 : wrap64 (a + 1) = a + 1 := by unfold wrap64; omega
  obtain ⟨Tq, hT⟩ : ∃ T, tk ((byt s).drop a.toNat) = T := ⟨_, rfl⟩
  rw [hT]
  have hd := byt_drop s a.toNat (by omega)
  have HD := Aside0.mk hd
  have e1 := bt_eq s a h0 h1
  have p1 := eq_true h0
  have q1 := eq_true h1
  have hx := bt_at s a
  have hr := bt_range s a
  obtain ⟨z, hz⟩ : ∃ z, bt s a = z := ⟨_, rfl⟩
  rw [hz] at hx hr e1
  obtain ⟨z0, z1⟩ := hr
  obtain ⟨b, hb⟩ : ∃ b, s[a.toNat]'(by omega) = b := ⟨_, rfl⟩
  rw [hb] at e1
  have EB := Aside0.mk hb
  have EZ := Aside0.mk e1
  rw [hd, hb, Lx.tk] at hT
  rw [show b :: (byt s).drop (a.toNat + 1) = (byt s).drop a.toNat by rw [hd, hb]] at hT
  have HT := Aside0.mk hT
  clear hT hd e1 hz hb
  go_enter Try.func49, Try.ntmps49
  go_upto_block 0 with (fail)
  have BR : Aside0 ((w.alloc (.cells #[.int .i64 0, .int .i64 0, .int .i64 0] 46)).heap[w.heap.size]? = some (.cells #[.int .i64 0, .int .i64 0, .int .i64 0] 46 (0, 0))) := ⟨blk_new w _⟩
  have HB1 : Aside0 (Below w.heap.size w (w.alloc (.cells #[.int .i64 0, .int .i64 0, .int .i64 0] 46))) := ⟨below_alloc HB.out _⟩
  obtain ⟨gr, egr⟩ : ∃ gr, w.heap.size = gr := ⟨_, rfl⟩
  have GR : Aside0 (w.heap.size ≤ gr) := ⟨by omega⟩
  rw [egr] at BR ⊢
  generalize (w.alloc (.cells #[.int .i64 0, .int .i64 0, .int .i64 0] 46)) = w1 at BR HB1 ⊢
  clear egr HB
  go_cut [7] (fun v7 wc => ∃ i : Int, v7 = .int .i64 i ∧ Aside0 (noSign z 6) ∧ Aside0 (wc.heap[gr]? = some (.cells #[.int .i64 0, .int .i64 0, .int .i64 0] 46 (0, 0))) ∧ Aside0 (Below w.heap.size w wc))
  case first =>
    go_wp2
    go_loopg [7] 7 (fun kq v7 wr => ∃ i : Int, v7 = .int .i64 i ∧ Aside0 (0 ≤ i ∧ i ≤ 6 ∧ 6 - i < (kq : Int) ∧ noSign z i) ∧ Aside0 (wr.heap[gr]? = some (.cells #[.int .i64 0, .int .i64 0, .int .i64 0] 46 (0, 0))) ∧ Aside0 (Below w.heap.size w wr))
    case atStart => exact ⟨0, rfl, ⟨by omega, by omega, by omega, fun j hj => by omega⟩, BR, HB1⟩
    case round =>
      clear BR HB1
      obtain ⟨i, rfl, HI, BR, HB⟩ := hrel
      obtain ⟨i0, i1, i2, i3⟩ := HI.out
      clear i3
      cases gk with
      | zero => omega
      | succ k1 =>
        by_cases hi : i < 6
        · have c0 : decide (i < (6 : Int)) = true := decide_eq_true hi
          have p9 := eq_true i0
          have q9 := eq_true hi
          have hx9 := bt_at (⟨#[123, 125, 91, 93, 58, 44]⟩ : ByteArray) i
          have i4 : wrap64 (i + 1) = i + 1 := by unfold wrap64; omega
          by_cases e : bt (⟨#[123, 125, 91, 93, 58, 44]⟩ : ByteArray) i = z
          · have c10 : (bt (⟨#[123, 125, 91, 93, 58, 44]⟩ : ByteArray) i == z) = true := beq_iff_eq.mpr e
            have HE := Aside0.mk e
            clear e
            obtain ⟨v0, v1, v2, k0, k1_, k2⟩ := Tk.three BR.out
            go_wp2
            refine bodyPost_ret (results_cell_row rfl _ _ gr 46 #[.int .i64 i, .int .i64 a, .int .i64 (a + 1)] (0, 0) _ rfl (Tk.set3 BR.out) Try.underlying46 rfl (by kernel_rfl)) rfl ?_
            have hsg := sign_at b i i0 hi (by have := HE.out; have := EZ.out; unfold six; omega)
            have hT := HT.out
            rw [hsg] at hT
            refine ⟨?_, below_set (below_set (below_set HB.out GR.out) GR.out) GR.out⟩
            rw [← hT]; rfl
          · have c10 : (bt (⟨#[123, 125, 91, 93, 58, 44]⟩ : ByteArray) i == z) = false := beq_eq_false_iff_ne.mpr e
            have HE := Aside0.mk e
            clear e
            go_wp2
            go_roundg k1
            case measure => omega
            case rel => exact ⟨i + 1, rfl, ⟨by omega, by omega, by omega, fun j hj => by
              by_cases hj2 : (j : Int) < i
              · exact HI.out.2.2.2 j hj2
              · rw [show (j : Int) = i by omega]; exact HE.out⟩, BR, HB⟩
        · have c0 : decide (i < (6 : Int)) = false := decide_eq_false hi
          have HN := Aside0.mk (show noSign z 6 by have h_ := HI.out.2.2.2; rw [show i = 6 by omega] at h_; exact h_)
          go_wp2
          go_meet
          case rel => exact ⟨i, rfl, HN, BR, HB⟩
  case rest =>
    clear BR HB1
    obtain ⟨i, rfl, HN, BR, HB⟩ := hcut
    have hsg := sign_no b (by rw [← EZ.out]; exact HN.out)
    have hT := HT.out
    rw [hsg] at hT
    simp only at hT
    clear HT HN hsg
    have HT := Aside0.mk hT
    clear hT
    go_upto_region 9 with (fail)
    have HS : Aside0 (RtS w (wc.alloc (.cells #[.int .i64 11, .int .i64 a, .int .i64 (a + 1)] 46)) gr wc.heap.size #[.int .i64 11, .int .i64 a, .int .i64 (a + 1)]) := ⟨⟨blk_alloc BR.out _, blk_new wc _, below_alloc HB.out _⟩⟩
    obtain ⟨gc, egc⟩ : ∃ gc, wc.heap.size = gc := ⟨_, rfl⟩
    have GC : Aside0 (w.heap.size ≤ gc) := ⟨by have := HB.out.size; omega⟩
    have n1_ : gr ≠ gc := by have := blk_lt BR.out; omega
    have n2_ : gc ≠ gr := fun h => n1_ h.symm
    rw [egc] at HS ⊢
    generalize (wc.alloc (.cells #[.int .i64 11, .int .i64 a, .int .i64 (a + 1)] 46)) = w2 at HS ⊢
    clear egc BR HB
    obtain ⟨x0, x1, x2, f0, f1, f2⟩ := Tk.three HS.out.c
    have hbl : Go.Proofs.Ytehojohacombkaa.G.minuetref9_blank.f z = some (isB b) := by rw [EZ.out]; exact Pl.blank_f b
    have hlt : Go.Proofs.Ytehojohacombkaa.G.minuetref9_letter.f z = some (isL b) := by rw [EZ.out]; exact Pl.letter_f b
    by_cases k1 : isB b = true
    · rw [k1] at hbl
      have HBL := Aside0.mk hbl
      have hT := HT.out
      rw [if_pos k1] at hT
      have HT2 := Aside0.mk hT
      clear hT HT hbl hlt k1
      go_upto_block 4 with (first | (go_at_call 63; (with_reducible refine (Rt.blank z true _ HBL.out).mono ?_); rintro e w' ⟨rfl, ⟨nd_, rfl⟩⟩; have n0_ := Aside0.mk (HS.out.drewN nd_); clear HS x0 x1 x2 f0 f1 f2; generalize (World.drewN _ nd_) = w3 at n0_ ⊢; have HS := n0_; clear n0_; obtain ⟨x0, x1, x2, f0, f1, f2⟩ := Tk.three HS.out.c))
      have KB := Aside0.mk (show isB b = true by have h_ := HBL.out; rw [EZ.out, Pl.blank_f] at h_; exact Option.some.inj h_)
      have HL : Aside0 (RtS w ((w3).setCell ⟨gc, 0, none⟩ (.int .i64 10)) gr gc #[.int .i64 10, .int .i64 a, .int .i64 (a + 1)]) := ⟨HS.out.set n1_ GC.out 0 _ rfl⟩
      clear HS x0 x1 x2 f0 f1 f2
      generalize ((w3).setCell ⟨gc, 0, none⟩ (.int .i64 10)) = w4 at HL ⊢
      go_loopg [] (s.size + 1) (fun kq wr => ∃ j : Int, Aside0 (0 ≤ j ∧ j ≤ (s.size : Int) ∧ (s.size : Int) - j < (kq : Int) ∧ j + ((run isB ((byt s).drop j.toNat) : Nat) : Int) = a + ((run isB ((byt s).drop a.toNat) : Nat) : Int)) ∧ Aside0 (RtS w wr gr gc #[.int .i64 10, .int .i64 a, .int .i64 j]))
      case atStart => exact ⟨a + 1, ⟨by omega, by omega, by omega, by rw [HD.out, EB.out]; simp only [run, if_pos KB.out]; rw [show (a + 1).toNat = a.toNat + 1 by omega]; omega⟩, HL⟩
      case round =>
        clear HL
        obtain ⟨j, HJ, HS⟩ := hrel
        obtain ⟨j0, j1, j2, j3⟩ := HJ.out
        obtain ⟨x0, x1, x2, f0, f1, f2⟩ := Tk.three HS.out.c
        cases gk with
        | zero => omega
        | succ k1 =>
          by_cases hj : j < (s.size : Int)
          · have c0 : decide (j < (s.size : Int)) = true := decide_eq_true hj
            have p9 := eq_true j0
            have q9 := eq_true hj
            have hx9 := bt_at s j
            have j4 : wrap64 (j + 1) = j + 1 := by unfold wrap64; omega
            have hdj := byt_drop s j.toNat (by omega)
            have hfj : minuetref9_blank.f (bt s j) = some (isB (s[j.toNat]'(by omega))) := by rw [bt_eq s j j0 hj]; exact Pl.blank_f _
            rw [hdj] at j3
            simp only [run] at j3
            by_cases c : isB (s[j.toNat]'(by omega)) = true
            · rw [c] at hfj
              rw [if_pos c] at j3
              have HFJ := Aside0.mk hfj
              have HJ3 := Aside0.mk j3
              clear hfj j3 hdj c
              go_wp2_with (first | (go_at_call 63; (with_reducible refine (Rt.blank (bt s j) true _ HFJ.out).mono ?_); rintro e w' ⟨rfl, ⟨nd_, rfl⟩⟩; have n0_ := Aside0.mk (HS.out.drewN nd_); clear HS x0 x1 x2 f0 f1 f2; generalize (World.drewN _ nd_) = w5 at n0_ ⊢; have HS := n0_; clear n0_; obtain ⟨x0, x1, x2, f0, f1, f2⟩ := Tk.three HS.out.c))
              go_roundg k1
              case measure => omega
              case rel => exact ⟨j + 1, ⟨by omega, by omega, by omega, by have := HJ3.out; rw [show (j + 1).toNat = j.toNat + 1 by omega]; omega⟩, ⟨HS.out.set n1_ GC.out 2 _ rfl⟩⟩
            · rw [Bool.eq_false_iff.mpr c] at hfj
              rw [if_neg c] at j3
              have HFJ := Aside0.mk hfj
              have HJ3 : Aside0 (j = a + ((run isB ((byt s).drop a.toNat) : Nat) : Int)) := ⟨by omega⟩
              clear hfj j3 hdj c
              go_upto_region 32 with (first | (go_at_call 63; (with_reducible refine (Rt.blank (bt s j) false _ HFJ.out).mono ?_); rintro e w' ⟨rfl, ⟨nd_, rfl⟩⟩; have n0_ := Aside0.mk (HS.out.drewN nd_); clear HS x0 x1 x2 f0 f1 f2; generalize (World.drewN _ nd_) = w5 at n0_ ⊢; have HS := n0_; clear n0_; obtain ⟨x0, x1, x2, f0, f1, f2⟩ := Tk.three HS.out.c))
              have HF : Aside0 (RtS w (w5) gr gc #[.int .i64 10, .int .i64 a, .int .i64 j]) := ⟨HS.out⟩
              clear HS x0 x1 x2 f0 f1 f2
              generalize (w5) = w9 at HF ⊢
              obtain ⟨x0, x1, x2, f0, f1, f2⟩ := Tk.three HF.out.c
              obtain ⟨v0, v1, v2, k0, k1_, k2⟩ := Tk.three HF.out.r
              go_wp2
              refine bodyPost_ret (results_cell_row rfl _ _ gr 46 #[.int .i64 10, .int .i64 a, .int .i64 j] (0, 0) _ rfl (Tk.set3 HF.out.r) Try.underlying46 rfl (by kernel_rfl)) rfl ?_
              refine ⟨?_, below_set (below_set (below_set HF.out.b GR.out) GR.out) GR.out⟩
              have eK : 10 = Tq.1 := by rw [← HT2.out]
              have eT : j = a + ((Tq.2 : Nat) : Int) := by rw [← HT2.out]; exact HJ3.out
              rw [← eK, ← eT]
          · have c0 : decide (j < (s.size : Int)) = false := decide_eq_false hj
            have HJ3 : Aside0 (j = a + ((run isB ((byt s).drop a.toNat) : Nat) : Int)) := ⟨by rw [List.drop_eq_nil_of_le (by rw [byt_len]; omega)] at j3; simp only [run] at j3; omega⟩
            clear j3
            go_upto_region 32 with (fail)
            have HF : Aside0 (RtS w (wr) gr gc #[.int .i64 10, .int .i64 a, .int .i64 j]) := ⟨HS.out⟩
            clear HS x0 x1 x2 f0 f1 f2
            generalize (wr) = w9 at HF ⊢
            obtain ⟨x0, x1, x2, f0, f1, f2⟩ := Tk.three HF.out.c
            obtain ⟨v0, v1, v2, k0, k1_, k2⟩ := Tk.three HF.out.r
            go_wp2
            refine bodyPost_ret (results_cell_row rfl _ _ gr 46 #[.int .i64 10, .int .i64 a, .int .i64 j] (0, 0) _ rfl (Tk.set3 HF.out.r) Try.underlying46 rfl (by kernel_rfl)) rfl ?_
            refine ⟨?_, below_set (below_set (below_set HF.out.b GR.out) GR.out) GR.out⟩
            have eK : 10 = Tq.1 := by rw [← HT2.out]
            have eT : j = a + ((Tq.2 : Nat) : Int) := by rw [← HT2.out]; exact HJ3.out
            rw [← eK, ← eT]
    rw [Bool.eq_false_iff.mpr k1] at hbl
    have HBL := Aside0.mk hbl
    clear hbl
    have hT := HT.out
    rw [if_neg k1] at hT
    have HT1 := Aside0.mk hT
    clear hT HT k1
    by_cases k2 : b = 34
    · have hT := HT1.out
      rw [if_pos k2] at hT
      have c34 : (z == 34) = true := by rw [EZ.out, k2]; rfl
      obtain ⟨⟨u, B⟩, hq⟩ : ∃ q, txt ((byt s).drop (a.toNat + 1)) = q := ⟨_, rfl⟩
      rw [hq] at hT
      have hqe : Ev (fun k => minuetref9_quoted.f k s a) (a + 1 + (u : Int), B) := by
        have h_ := Pl.quoted_ev s hs a.toNat (by omega)
        rw [show ((a.toNat : Nat) : Int) = a by omega, hq] at h_
        simp only at h_
        rwa [show ((a.toNat + (u + 1) : Nat) : Int) = a + 1 + (u : Int) by omega] at h_
      have HQE := Aside0.mk hqe
      have HT2 := Aside0.mk hT
      clear hT HT1 hlt k2 hqe hq
      cases B with
      | true =>
        go_upto_region 32 with (first | (go_at_call 63; (with_reducible refine (Rt.blank z false _ HBL.out).mono ?_); rintro e w' ⟨rfl, ⟨nd_, rfl⟩⟩; have n0_ := Aside0.mk (HS.out.drewN nd_); clear HS x0 x1 x2 f0 f1 f2; generalize (World.drewN _ nd_) = w3 at n0_ ⊢; have HS := n0_; clear n0_; obtain ⟨x0, x1, x2, f0, f1, f2⟩ := Tk.three HS.out.c) | (go_at_call 64; (with_reducible refine (Rt.quoted s a _ _ HQE.out _).mono ?_); rintro e w' ⟨rfl, ⟨nd_, rfl⟩⟩; have n0_ := Aside0.mk (HS.out.drewN nd_); clear HS x0 x1 x2 f0 f1 f2; generalize (World.drewN _ nd_) = w4 at n0_ ⊢; have HS := n0_; clear n0_; obtain ⟨x0, x1, x2, f0, f1, f2⟩ := Tk.three HS.out.c))
        have HF : Aside0 (RtS w (((w4).setCell ⟨gc, 2, none⟩ (.int .i64 (a + 1 + (u : Int)))).setCell ⟨gc, 0, none⟩ (.int .i64 6)) gr gc #[.int .i64 6, .int .i64 a, .int .i64 (a + 1 + (u : Int))]) := ⟨(HS.out.set n1_ GC.out 2 _ rfl).set n1_ GC.out 0 _ rfl⟩
        clear HS x0 x1 x2 f0 f1 f2
        generalize (((w4).setCell ⟨gc, 2, none⟩ (.int .i64 (a + 1 + (u : Int)))).setCell ⟨gc, 0, none⟩ (.int .i64 6)) = w9 at HF ⊢
        obtain ⟨x0, x1, x2, f0, f1, f2⟩ := Tk.three HF.out.c
        obtain ⟨v0, v1, v2, k0, k1_, k2⟩ := Tk.three HF.out.r
        go_wp2
        refine bodyPost_ret (results_cell_row rfl _ _ gr 46 #[.int .i64 6, .int .i64 a, .int .i64 (a + 1 + (u : Int))] (0, 0) _ rfl (Tk.set3 HF.out.r) Try.underlying46 rfl (by kernel_rfl)) rfl ?_
        refine ⟨?_, below_set (below_set (below_set HF.out.b GR.out) GR.out) GR.out⟩
        have eK : 6 = Tq.1 := by rw [← HT2.out]; rfl
        have eT : (a + 1 + (u : Int)) = a + ((Tq.2 : Nat) : Int) := by rw [← HT2.out]; show a + 1 + (u : Int) = a + ((u + 1 : Nat) : Int); omega
        rw [← eK, ← eT]
      | false =>
        go_upto_region 32 with (first | (go_at_call 63; (with_reducible refine (Rt.blank z false _ HBL.out).mono ?_); rintro e w' ⟨rfl, ⟨nd_, rfl⟩⟩; have n0_ := Aside0.mk (HS.out.drewN nd_); clear HS x0 x1 x2 f0 f1 f2; generalize (World.drewN _ nd_) = w3 at n0_ ⊢; have HS := n0_; clear n0_; obtain ⟨x0, x1, x2, f0, f1, f2⟩ := Tk.three HS.out.c) | (go_at_call 64; (with_reducible refine (Rt.quoted s a _ _ HQE.out _).mono ?_); rintro e w' ⟨rfl, ⟨nd_, rfl⟩⟩; have n0_ := Aside0.mk (HS.out.drewN nd_); clear HS x0 x1 x2 f0 f1 f2; generalize (World.drewN _ nd_) = w4 at n0_ ⊢; have HS := n0_; clear n0_; obtain ⟨x0, x1, x2, f0, f1, f2⟩ := Tk.three HS.out.c))
        have HF : Aside0 (RtS w ((w4).setCell ⟨gc, 2, none⟩ (.int .i64 (a + 1 + (u : Int)))) gr gc #[.int .i64 11, .int .i64 a, .int .i64 (a + 1 + (u : Int))]) := ⟨HS.out.set n1_ GC.out 2 _ rfl⟩
        clear HS x0 x1 x2 f0 f1 f2
        generalize ((w4).setCell ⟨gc, 2, none⟩ (.int .i64 (a + 1 + (u : Int)))) = w9 at HF ⊢
        obtain ⟨x0, x1, x2, f0, f1, f2⟩ := Tk.three HF.out.c
        obtain ⟨v0, v1, v2, k0, k1_, k2⟩ := Tk.three HF.out.r
        go_wp2
        refine bodyPost_ret (results_cell_row rfl _ _ gr 46 #[.int .i64 11, .int .i64 a, .int .i64 (a + 1 + (u : Int))] (0, 0) _ rfl (Tk.set3 HF.out.r) Try.underlying46 rfl (by kernel_rfl)) rfl ?_
        refine ⟨?_, below_set (below_set (below_set HF.out.b GR.out) GR.out) GR.out⟩
        have eK : 11 = Tq.1 := by rw [← HT2.out]; rfl
        have eT : (a + 1 + (u : Int)) = a + ((Tq.2 : Nat) : Int) := by rw [← HT2.out]; show a + 1 + (u : Int) = a + ((u + 1 : Nat) : Int); omega
        rw [← eK, ← eT]
    have c34 : (z == 34) = false := beq_eq_false_iff_ne.mpr (fun h => k2 ((Pl.u8_val (b := b) (n := 34) (by omega)).1 (by rw [← EZ.out]; exact h)))
    by_cases k3 : b = 47
    · have hT := HT1.out
      rw [if_neg k2, if_pos k3] at hT
      have c47 : (z == 47) = true := by rw [EZ.out, k3]; rfl
      obtain ⟨⟨u, B⟩, hq⟩ : ∃ q, rmk ((byt s).drop a.toNat) = q := ⟨_, rfl⟩
      rw [hq] at hT
      have hqe : Ev (fun k => minuetref9_remark.f k s a) (a + (u : Int), B) := by
        have h_ := Pl.remark_ev s hs a.toNat (by omega) (by rw [EB.out]; exact k3)
        rw [show ((a.toNat : Nat) : Int) = a by omega, hq] at h_
        simp only at h_
        rwa [show ((a.toNat + u : Nat) : Int) = a + (u : Int) by omega] at h_
      have HQE := Aside0.mk hqe
      have HT2 := Aside0.mk hT
      clear hT HT1 hlt k2 k3 hqe hq
      cases B with
      | true =>
        go_upto_region 32 with (first | (go_at_call 63; (with_reducible refine (Rt.blank z false _ HBL.out).mono ?_); rintro e w' ⟨rfl, ⟨nd_, rfl⟩⟩; have n0_ := Aside0.mk (HS.out.drewN nd_); clear HS x0 x1 x2 f0 f1 f2; generalize (World.drewN _ nd_) = w3 at n0_ ⊢; have HS := n0_; clear n0_; obtain ⟨x0, x1, x2, f0, f1, f2⟩ := Tk.three HS.out.c) | (go_at_call 65; (with_reducible refine (Rt.remark s a _ _ HQE.out _).mono ?_); rintro e w' ⟨rfl, ⟨nd_, rfl⟩⟩; have n0_ := Aside0.mk (HS.out.drewN nd_); clear HS x0 x1 x2 f0 f1 f2; generalize (World.drewN _ nd_) = w4 at n0_ ⊢; have HS := n0_; clear n0_; obtain ⟨x0, x1, x2, f0, f1, f2⟩ := Tk.three HS.out.c))
        have HF : Aside0 (RtS w (((w4).setCell ⟨gc, 2, none⟩ (.int .i64 (a + (u : Int)))).setCell ⟨gc, 0, none⟩ (.int .i64 9)) gr gc #[.int .i64 9, .int .i64 a, .int .i64 (a + (u : Int))]) := ⟨(HS.out.set n1_ GC.out 2 _ rfl).set n1_ GC.out 0 _ rfl⟩
        clear HS x0 x1 x2 f0 f1 f2
        generalize (((w4).setCell ⟨gc, 2, none⟩ (.int .i64 (a + (u : Int)))).setCell ⟨gc, 0, none⟩ (.int .i64 9)) = w9 at HF ⊢
        obtain ⟨x0, x1, x2, f0, f1, f2⟩ := Tk.three HF.out.c
        obtain ⟨v0, v1, v2, k0, k1_, k2⟩ := Tk.three HF.out.r
        go_wp2
        refine bodyPost_ret (results_cell_row rfl _ _ gr 46 #[.int .i64 9, .int .i64 a, .int .i64 (a + (u : Int))] (0, 0) _ rfl (Tk.set3 HF.out.r) Try.underlying46 rfl (by kernel_rfl)) rfl ?_
        refine ⟨?_, below_set (below_set (below_set HF.out.b GR.out) GR.out) GR.out⟩
        have eK : 9 = Tq.1 := by rw [← HT2.out]; rfl
        have eT : (a + (u : Int)) = a + ((Tq.2 : Nat) : Int) := by rw [← HT2.out]
        rw [← eK, ← eT]
      | false =>
        go_upto_region 32 with (first | (go_at_call 63; (with_reducible refine (Rt.blank z false _ HBL.out).mono ?_); rintro e w' ⟨rfl, ⟨nd_, rfl⟩⟩; have n0_ := Aside0.mk (HS.out.drewN nd_); clear HS x0 x1 x2 f0 f1 f2; generalize (World.drewN _ nd_) = w3 at n0_ ⊢; have HS := n0_; clear n0_; obtain ⟨x0, x1, x2, f0, f1, f2⟩ := Tk.three HS.out.c) | (go_at_call 65; (with_reducible refine (Rt.remark s a _ _ HQE.out _).mono ?_); rintro e w' ⟨rfl, ⟨nd_, rfl⟩⟩; have n0_ := Aside0.mk (HS.out.drewN nd_); clear HS x0 x1 x2 f0 f1 f2; generalize (World.drewN _ nd_) = w4 at n0_ ⊢; have HS := n0_; clear n0_; obtain ⟨x0, x1, x2, f0, f1, f2⟩ := Tk.three HS.out.c))
        have HF : Aside0 (RtS w ((w4).setCell ⟨gc, 2, none⟩ (.int .i64 (a + (u : Int)))) gr gc #[.int .i64 11, .int .i64 a, .int .i64 (a + (u : Int))]) := ⟨HS.out.set n1_ GC.out 2 _ rfl⟩
        clear HS x0 x1 x2 f0 f1 f2
        generalize ((w4).setCell ⟨gc, 2, none⟩ (.int .i64 (a + (u : Int)))) = w9 at HF ⊢
        obtain ⟨x0, x1, x2, f0, f1, f2⟩ := Tk.three HF.out.c
        obtain ⟨v0, v1, v2, k0, k1_, k2⟩ := Tk.three HF.out.r
        go_wp2
        refine bodyPost_ret (results_cell_row rfl _ _ gr 46 #[.int .i64 11, .int .i64 a, .int .i64 (a + (u : Int))] (0, 0) _ rfl (Tk.set3 HF.out.r) Try.underlying46 rfl (by kernel_rfl)) rfl ?_
        refine ⟨?_, below_set (below_set (below_set HF.out.b GR.out) GR.out) GR.out⟩
        have eK : 11 = Tq.1 := by rw [← HT2.out]; rfl
        have eT : (a + (u : Int)) = a + ((Tq.2 : Nat) : Int) := by rw [← HT2.out]
        rw [← eK, ← eT]
    have c47 : (z == 47) = false := beq_eq_false_iff_ne.mpr (fun h => k3 ((Pl.u8_val (b := b) (n := 47) (by omega)).1 (by rw [← EZ.out]; exact h)))
    have hT := HT1.out
    rw [if_neg k2, if_neg k3] at hT
    clear HT1 k2 k3
    by_cases k4 : isL b = true
    · rw [if_pos k4] at hT
      have KB := Aside0.mk k4
      rw [k4] at hlt
      have HLT := Aside0.mk hlt
      have HT2 := Aside0.mk hT
      clear hT hlt k4
      go_upto_block 5 with (first | (go_at_call 63; (with_reducible refine (Rt.blank z false _ HBL.out).mono ?_); rintro e w' ⟨rfl, ⟨nd_, rfl⟩⟩; have n0_ := Aside0.mk (HS.out.drewN nd_); clear HS x0 x1 x2 f0 f1 f2; generalize (World.drewN _ nd_) = w3 at n0_ ⊢; have HS := n0_; clear n0_; obtain ⟨x0, x1, x2, f0, f1, f2⟩ := Tk.three HS.out.c) | (go_at_call 66; (with_reducible refine (Rt.letter z true _ HLT.out).mono ?_); rintro e w' ⟨rfl, ⟨nd_, rfl⟩⟩; have n0_ := Aside0.mk (HS.out.drewN nd_); clear HS x0 x1 x2 f0 f1 f2; generalize (World.drewN _ nd_) = w4 at n0_ ⊢; have HS := n0_; clear n0_; obtain ⟨x0, x1, x2, f0, f1, f2⟩ := Tk.three HS.out.c))
      have HL : Aside0 (RtS w (w4) gr gc #[.int .i64 11, .int .i64 a, .int .i64 (a + 1)]) := ⟨HS.out⟩
      clear HS x0 x1 x2 f0 f1 f2
      generalize (w4) = w4 at HL ⊢
      go_cut [] (fun wc => ∃ j : Int, Aside0 (j = a + ((run isL ((byt s).drop a.toNat) : Nat) : Int)) ∧ Aside0 (RtS w wc gr gc #[.int .i64 11, .int .i64 a, .int .i64 j]))
      case first =>
        go_wp2
        go_loopg [] (s.size + 1) (fun kq wr => ∃ j : Int, Aside0 (0 ≤ j ∧ j ≤ (s.size : Int) ∧ (s.size : Int) - j < (kq : Int) ∧ j + ((run isL ((byt s).drop j.toNat) : Nat) : Int) = a + ((run isL ((byt s).drop a.toNat) : Nat) : Int)) ∧ Aside0 (RtS w wr gr gc #[.int .i64 11, .int .i64 a, .int .i64 j]))
        case atStart => exact ⟨a + 1, ⟨by omega, by omega, by omega, by rw [HD.out, EB.out]; simp only [run, if_pos KB.out]; rw [show (a + 1).toNat = a.toNat + 1 by omega]; omega⟩, HL⟩
        case round =>
          clear HL
          obtain ⟨j, HJ, HS⟩ := hrel
          obtain ⟨j0, j1, j2, j3⟩ := HJ.out
          obtain ⟨x0, x1, x2, f0, f1, f2⟩ := Tk.three HS.out.c
          cases gk with
          | zero => omega
          | succ k1 =>
            by_cases hj : j < (s.size : Int)
            · have c0 : decide (j < (s.size : Int)) = true := decide_eq_true hj
              have p9 := eq_true j0
              have q9 := eq_true hj
              have hx9 := bt_at s j
              have j4 : wrap64 (j + 1) = j + 1 := by unfold wrap64; omega
              have hdj := byt_drop s j.toNat (by omega)
              have hfj : minuetref9_letter.f (bt s j) = some (isL (s[j.toNat]'(by omega))) := by rw [bt_eq s j j0 hj]; exact Pl.letter_f _
              rw [hdj] at j3
              simp only [run] at j3
              by_cases c : isL (s[j.toNat]'(by omega)) = true
              · rw [c] at hfj
                rw [if_pos c] at j3
                have HFJ := Aside0.mk hfj
                have HJ3 := Aside0.mk j3
                clear hfj j3 hdj c
                go_wp2_with (first | (go_at_call 66; (with_reducible refine (Rt.letter (bt s j) true _ HFJ.out).mono ?_); rintro e w' ⟨rfl, ⟨nd_, rfl⟩⟩; have n0_ := Aside0.mk (HS.out.drewN nd_); clear HS x0 x1 x2 f0 f1 f2; generalize (World.drewN _ nd_) = w5 at n0_ ⊢; have HS := n0_; clear n0_; obtain ⟨x0, x1, x2, f0, f1, f2⟩ := Tk.three HS.out.c))
                go_roundg k1
                case measure => omega
                case rel => exact ⟨j + 1, ⟨by omega, by omega, by omega, by have := HJ3.out; rw [show (j + 1).toNat = j.toNat + 1 by omega]; omega⟩, ⟨HS.out.set n1_ GC.out 2 _ rfl⟩⟩
              · rw [Bool.eq_false_iff.mpr c] at hfj
                rw [if_neg c] at j3
                have HFJ := Aside0.mk hfj
                have HJ3 : Aside0 (j = a + ((run isL ((byt s).drop a.toNat) : Nat) : Int)) := ⟨by omega⟩
                clear hfj j3 hdj c
                go_wp2_with (first | (go_at_call 66; (with_reducible refine (Rt.letter (bt s j) false _ HFJ.out).mono ?_); rintro e w' ⟨rfl, ⟨nd_, rfl⟩⟩; have n0_ := Aside0.mk (HS.out.drewN nd_); clear HS x0 x1 x2 f0 f1 f2; generalize (World.drewN _ nd_) = w5 at n0_ ⊢; have HS := n0_; clear n0_; obtain ⟨x0, x1, x2, f0, f1, f2⟩ := Tk.three HS.out.c))
                go_meet
                case rel => exact ⟨j, HJ3, HS⟩
            · have c0 : decide (j < (s.size : Int)) = false := decide_eq_false hj
              have HJ3 : Aside0 (j = a + ((run isL ((byt s).drop a.toNat) : Nat) : Int)) := ⟨by rw [List.drop_eq_nil_of_le (by rw [byt_len]; omega)] at j3; simp only [run] at j3; omega⟩
              clear j3
              go_wp2
              go_meet
              case rel => exact ⟨j, HJ3, HS⟩
      case rest =>
        clear HL
        obtain ⟨j, HJ3, HS⟩ := hcut
        obtain ⟨x0, x1, x2, f0, f1, f2⟩ := Tk.three HS.out.c
        have hle := Go.Proofs.Ytehojohacombkaa.Lx.run_drop_le isL (byt s) a.toNat (by rw [byt_len]; omega)
        rw [byt_len] at hle
        have ja : a ≤ j := by have := HJ3.out; omega
        have jb : j ≤ (s.size : Int) := by have := HJ3.out; omega
        have HW : Aside0 ((s.extract a.toNat j.toNat).toList = ((byt s).drop a.toNat).take (run isL ((byt s).drop a.toNat))) := ⟨by rw [ByteArray.toList_eq, ByteArray.data_extract, Array.toList_extract, List.extract_eq_take_drop]; congr 1; have := HJ3.out; omega⟩
        clear hle
        have pj := eq_true ja
        have qj := eq_true jb
        have pj2 : decide (a ≤ j) = true := decide_eq_true ja
        have qj2 : decide (j ≤ (s.size : Int)) = true := decide_eq_true jb
        have pj3 := eq_true h0
        have pj4 : decide (0 ≤ a) = true := decide_eq_true h0
        go_upto_region 27 with (fail)
        generalize s.extract a.toNat j.toNat = G at HW ⊢
        by_cases q1 : G.toList = [116, 114, 117, 101]
        · skip
          have bq1 : (G.toList == ([116, 114, 117, 101] : List UInt8)) = true := beq_iff_eq.mpr q1
          have hwd : word G.toList = true := by rw [word_eq, bq1]; rfl
          have HWD := Aside0.mk hwd
          clear hwd q1
          go_upto_region 32 with (fail)
          have HF : Aside0 (RtS w ((wc).setCell ⟨gc, 0, none⟩ (.int .i64 8)) gr gc #[.int .i64 8, .int .i64 a, .int .i64 j]) := ⟨HS.out.set n1_ GC.out 0 _ rfl⟩
          clear HS x0 x1 x2 f0 f1 f2
          generalize ((wc).setCell ⟨gc, 0, none⟩ (.int .i64 8)) = w9 at HF ⊢
          obtain ⟨x0, x1, x2, f0, f1, f2⟩ := Tk.three HF.out.c
          obtain ⟨v0, v1, v2, k0, k1_, k2⟩ := Tk.three HF.out.r
          go_wp2
          refine bodyPost_ret (results_cell_row rfl _ _ gr 46 #[.int .i64 8, .int .i64 a, .int .i64 j] (0, 0) _ rfl (Tk.set3 HF.out.r) Try.underlying46 rfl (by kernel_rfl)) rfl ?_
          refine ⟨?_, below_set (below_set (below_set HF.out.b GR.out) GR.out) GR.out⟩
          have eK : 8 = Tq.1 := by rw [← HT2.out, ← HW.out, HWD.out]; rfl
          have eT : j = a + ((Tq.2 : Nat) : Int) := by rw [← HT2.out]; exact HJ3.out
          rw [← eK, ← eT]
        · by_cases q2 : G.toList = [102, 97, 108, 115, 101]
          · skip
            have bq1 : (G.toList == ([116, 114, 117, 101] : List UInt8)) = false := beq_eq_false_iff_ne.mpr q1
            have bq2 : (G.toList == ([102, 97, 108, 115, 101] : List UInt8)) = true := beq_iff_eq.mpr q2
            have hwd : word G.toList = true := by rw [word_eq, bq1, bq2]; rfl
            have HWD := Aside0.mk hwd
            clear hwd q1 q2
            go_upto_region 32 with (fail)
            have HF : Aside0 (RtS w ((wc).setCell ⟨gc, 0, none⟩ (.int .i64 8)) gr gc #[.int .i64 8, .int .i64 a, .int .i64 j]) := ⟨HS.out.set n1_ GC.out 0 _ rfl⟩
            clear HS x0 x1 x2 f0 f1 f2
            generalize ((wc).setCell ⟨gc, 0, none⟩ (.int .i64 8)) = w9 at HF ⊢
            obtain ⟨x0, x1, x2, f0, f1, f2⟩ := Tk.three HF.out.c
            obtain ⟨v0, v1, v2, k0, k1_, k2⟩ := Tk.three HF.out.r
            go_wp2
            refine bodyPost_ret (results_cell_row rfl _ _ gr 46 #[.int .i64 8, .int .i64 a, .int .i64 j] (0, 0) _ rfl (Tk.set3 HF.out.r) Try.underlying46 rfl (by kernel_rfl)) rfl ?_
            refine ⟨?_, below_set (below_set (below_set HF.out.b GR.out) GR.out) GR.out⟩
            have eK : 8 = Tq.1 := by rw [← HT2.out, ← HW.out, HWD.out]; rfl
            have eT : j = a + ((Tq.2 : Nat) : Int) := by rw [← HT2.out]; exact HJ3.out
            rw [← eK, ← eT]
          · by_cases q3 : G.toList = [110, 117, 108, 108]
            · skip
              have bq1 : (G.toList == ([116, 114, 117, 101] : List UInt8)) = false := beq_eq_false_iff_ne.mpr q1
              have bq2 : (G.toList == ([102, 97, 108, 115, 101] : List UInt8)) = false := beq_eq_false_iff_ne.mpr q2
              have bq3 : (G.toList == ([110, 117, 108, 108] : List UInt8)) = true := beq_iff_eq.mpr q3
              have hwd : word G.toList = true := by rw [word_eq, bq1, bq2, bq3]; rfl
              have HWD := Aside0.mk hwd
              clear hwd q1 q2 q3
              go_upto_region 32 with (fail)
              have HF : Aside0 (RtS w ((wc).setCell ⟨gc, 0, none⟩ (.int .i64 8)) gr gc #[.int .i64 8, .int .i64 a, .int .i64 j]) := ⟨HS.out.set n1_ GC.out 0 _ rfl⟩
              clear HS x0 x1 x2 f0 f1 f2
              generalize ((wc).setCell ⟨gc, 0, none⟩ (.int .i64 8)) = w9 at HF ⊢
              obtain ⟨x0, x1, x2, f0, f1, f2⟩ := Tk.three HF.out.c
              obtain ⟨v0, v1, v2, k0, k1_, k2⟩ := Tk.three HF.out.r
              go_wp2
              refine bodyPost_ret (results_cell_row rfl _ _ gr 46 #[.int .i64 8, .int .i64 a, .int .i64 j] (0, 0) _ rfl (Tk.set3 HF.out.r) Try.underlying46 rfl (by kernel_rfl)) rfl ?_
              refine ⟨?_, below_set (below_set (below_set HF.out.b GR.out) GR.out) GR.out⟩
              have eK : 8 = Tq.1 := by rw [← HT2.out, ← HW.out, HWD.out]; rfl
              have eT : j = a + ((Tq.2 : Nat) : Int) := by rw [← HT2.out]; exact HJ3.out
              rw [← eK, ← eT]
            · skip
              have bq1 : (G.toList == ([116, 114, 117, 101] : List UInt8)) = false := beq_eq_false_iff_ne.mpr q1
              have bq2 : (G.toList == ([102, 97, 108, 115, 101] : List UInt8)) = false := beq_eq_false_iff_ne.mpr q2
              have bq3 : (G.toList == ([110, 117, 108, 108] : List UInt8)) = false := beq_eq_false_iff_ne.mpr q3
              have hwd : word G.toList = false := by rw [word_eq, bq1, bq2, bq3]; rfl
              have HWD := Aside0.mk hwd
              clear hwd q1 q2 q3
              go_upto_region 32 with (fail)
              have HF : Aside0 (RtS w (wc) gr gc #[.int .i64 11, .int .i64 a, .int .i64 j]) := ⟨HS.out⟩
              clear HS x0 x1 x2 f0 f1 f2
              generalize (wc) = w9 at HF ⊢
              obtain ⟨x0, x1, x2, f0, f1, f2⟩ := Tk.three HF.out.c
              obtain ⟨v0, v1, v2, k0, k1_, k2⟩ := Tk.three HF.out.r
              go_wp2
              refine bodyPost_ret (results_cell_row rfl _ _ gr 46 #[.int .i64 11, .int .i64 a, .int .i64 j] (0, 0) _ rfl (Tk.set3 HF.out.r) Try.underlying46 rfl (by kernel_rfl)) rfl ?_
              refine ⟨?_, below_set (below_set (below_set HF.out.b GR.out) GR.out) GR.out⟩
              have eK : 11 = Tq.1 := by rw [← HT2.out, ← HW.out, HWD.out]; rfl
              have eT : j = a + ((Tq.2 : Nat) : Int) := by rw [← HT2.out]; exact HJ3.out
              rw [← eK, ← eT]
    rw [if_neg k4] at hT
    rw [Bool.eq_false_iff.mpr k4] at hlt
    have HLT := Aside0.mk hlt
    obtain ⟨n, hn⟩ : ∃ n, num ((byt s).drop a.toNat) = n := ⟨_, rfl⟩
    have hne : Ev (fun k => minuetref9_number.f k s a) (a + (n : Int)) := by
      have h_ := Pl.number_ev s hs a.toNat (by omega)
      rw [show ((a.toNat : Nat) : Int) = a by omega, hn] at h_
      rwa [show ((a.toNat + n : Nat) : Int) = a + (n : Int) by omega] at h_
    have HNE := Aside0.mk hne
    rw [hn] at hT
    clear hlt k4 hne hn
    by_cases k5 : n = 0
    · rw [if_pos k5] at hT
      have HT2 := Aside0.mk hT
      have c5 : decide (a < a + (n : Int)) = false := decide_eq_false (by omega)
      have c6 : decide (0 < n) = false := decide_eq_false (by omega)
      have c7 : decide (0 < (n : Int)) = false := decide_eq_false (by omega)
      clear hT k5
      go_upto_region 32 with (first | (go_at_call 63; (with_reducible refine (Rt.blank z false _ HBL.out).mono ?_); rintro e w' ⟨rfl, ⟨nd_, rfl⟩⟩; have n0_ := Aside0.mk (HS.out.drewN nd_); clear HS x0 x1 x2 f0 f1 f2; generalize (World.drewN _ nd_) = w3 at n0_ ⊢; have HS := n0_; clear n0_; obtain ⟨x0, x1, x2, f0, f1, f2⟩ := Tk.three HS.out.c) | (go_at_call 66; (with_reducible refine (Rt.letter z false _ HLT.out).mono ?_); rintro e w' ⟨rfl, ⟨nd_, rfl⟩⟩; have n0_ := Aside0.mk (HS.out.drewN nd_); clear HS x0 x1 x2 f0 f1 f2; generalize (World.drewN _ nd_) = w4 at n0_ ⊢; have HS := n0_; clear n0_; obtain ⟨x0, x1, x2, f0, f1, f2⟩ := Tk.three HS.out.c) | (go_at_call 67; (with_reducible refine (Rt.number s a _ HNE.out _).mono ?_); rintro e w' ⟨rfl, ⟨nd_, rfl⟩⟩; have n0_ := Aside0.mk (HS.out.drewN nd_); clear HS x0 x1 x2 f0 f1 f2; generalize (World.drewN _ nd_) = w5 at n0_ ⊢; have HS := n0_; clear n0_; obtain ⟨x0, x1, x2, f0, f1, f2⟩ := Tk.three HS.out.c))
      have HF : Aside0 (RtS w (w5) gr gc #[.int .i64 11, .int .i64 a, .int .i64 (a + 1)]) := ⟨HS.out⟩
      clear HS x0 x1 x2 f0 f1 f2
      generalize (w5) = w9 at HF ⊢
      obtain ⟨x0, x1, x2, f0, f1, f2⟩ := Tk.three HF.out.c
      obtain ⟨v0, v1, v2, k0, k1_, k2⟩ := Tk.three HF.out.r
      go_wp2
      refine bodyPost_ret (results_cell_row rfl _ _ gr 46 #[.int .i64 11, .int .i64 a, .int .i64 (a + 1)] (0, 0) _ rfl (Tk.set3 HF.out.r) Try.underlying46 rfl (by kernel_rfl)) rfl ?_
      refine ⟨?_, below_set (below_set (below_set HF.out.b GR.out) GR.out) GR.out⟩
      have eK : 11 = Tq.1 := by rw [← HT2.out]
      have eT : (a + 1) = a + ((Tq.2 : Nat) : Int) := by rw [← HT2.out]; rfl
      rw [← eK, ← eT]
    · rw [if_neg k5] at hT
      have HT2 := Aside0.mk hT
      have c5 : decide (a < a + (n : Int)) = true := decide_eq_true (by omega)
      have c6 : decide (0 < n) = true := decide_eq_true (by omega)
      have c7 : decide (0 < (n : Int)) = true := decide_eq_true (by omega)
      clear hT k5
      go_upto_region 31 with (first | (go_at_call 63; (with_reducible refine (Rt.blank z false _ HBL.out).mono ?_); rintro e w' ⟨rfl, ⟨nd_, rfl⟩⟩; have n0_ := Aside0.mk (HS.out.drewN nd_); clear HS x0 x1 x2 f0 f1 f2; generalize (World.drewN _ nd_) = w3 at n0_ ⊢; have HS := n0_; clear n0_; obtain ⟨x0, x1, x2, f0, f1, f2⟩ := Tk.three HS.out.c) | (go_at_call 66; (with_reducible refine (Rt.letter z false _ HLT.out).mono ?_); rintro e w' ⟨rfl, ⟨nd_, rfl⟩⟩; have n0_ := Aside0.mk (HS.out.drewN nd_); clear HS x0 x1 x2 f0 f1 f2; generalize (World.drewN _ nd_) = w4 at n0_ ⊢; have HS := n0_; clear n0_; obtain ⟨x0, x1, x2, f0, f1, f2⟩ := Tk.three HS.out.c) | (go_at_call 67; (with_reducible refine (Rt.number s a _ HNE.out _).mono ?_); rintro e w' ⟨rfl, ⟨nd_, rfl⟩⟩; have n0_ := Aside0.mk (HS.out.drewN nd_); clear HS x0 x1 x2 f0 f1 f2; generalize (World.drewN _ nd_) = w5 at n0_ ⊢; have HS := n0_; clear n0_; obtain ⟨x0, x1, x2, f0, f1, f2⟩ := Tk.three HS.out.c))
      have n0_ := Aside0.mk (HS.out.set n1_ GC.out 0 (.int .i64 7) (ds := #[.int .i64 7, .int .i64 a, .int .i64 (a + 1)]) rfl)
      clear HS x0 x1 x2 f0 f1 f2
      generalize ((w5).setCell ⟨gc, 0, none⟩ (.int .i64 7)) = w6 at n0_ ⊢
      have HS := n0_
      clear n0_
      obtain ⟨x0, x1, x2, f0, f1, f2⟩ := Tk.three HS.out.c
      go_upto_region 32 with (first | (go_at_call 67; (with_reducible refine (Rt.number s a _ HNE.out _).mono ?_); rintro e w' ⟨rfl, ⟨nd_, rfl⟩⟩; have n0_ := Aside0.mk (HS.out.drewN nd_); clear HS x0 x1 x2 f0 f1 f2; generalize (World.drewN _ nd_) = w7 at n0_ ⊢; have HS := n0_; clear n0_; obtain ⟨x0, x1, x2, f0, f1, f2⟩ := Tk.three HS.out.c))
      have HF : Aside0 (RtS w ((w7).setCell ⟨gc, 2, none⟩ (.int .i64 (a + (n : Int)))) gr gc #[.int .i64 7, .int .i64 a, .int .i64 (a + (n : Int))]) := ⟨HS.out.set n1_ GC.out 2 _ rfl⟩
      clear HS x0 x1 x2 f0 f1 f2
      generalize ((w7).setCell ⟨gc, 2, none⟩ (.int .i64 (a + (n : Int)))) = w9 at HF ⊢
      obtain ⟨x0, x1, x2, f0, f1, f2⟩ := Tk.three HF.out.c
      obtain ⟨v0, v1, v2, k0, k1_, k2⟩ := Tk.three HF.out.r
      go_wp2
      refine bodyPost_ret (results_cell_row rfl _ _ gr 46 #[.int .i64 7, .int .i64 a, .int .i64 (a + (n : Int))] (0, 0) _ rfl (Tk.set3 HF.out.r) Try.underlying46 rfl (by kernel_rfl)) rfl ?_
      refine ⟨?_, below_set (below_set (below_set HF.out.b GR.out) GR.out) GR.out⟩
      have eK : 7 = Tq.1 := by rw [← HT2.out]
      have eT : (a + (n : Int)) = a + ((Tq.2 : Nat) : Int) := by rw [← HT2.out]
      rw [← eK, ← eT]
end Go.Proofs.Ytehojohacombkaa.G
