/- The plain law LexParts. -/
import Derived.Test.YtnhkdpcncjkmlaaLp
import Derived.Test.YtnhkdpcncjkmlaaLq
import Derived.Test.YtnhkdpcncjkmlaaGMinuetlaw9PLexParts
namespace Go.Proofs.Ytnhkdpcncjkmlaa.Pl
open Go.RowKit Go.Proofs.Ytnhkdpcncjkmlaa.G Go.Proofs.Ytnhkdpcncjkmlaa.Lx Go.Proofs.YtnhkdpcncjkmlaaW.PrintWords Go.Proofs.YtnhkdpcncjkmlaaW.PrintLast
set_option linter.unusedVariables false
set_option linter.unusedSimpArgs false
def er (s : ByteArray) : Int := if s.size ≤ 300 then 0 else 900
def tkk (s : ByteArray) : List Tk := if s.size ≤ 300 then toks (byt s) else []
theorem tok_all (s : ByteArray) : lex_Tokens.f s = some (tkk s, er s) := by
  unfold tkk er
  by_cases h : s.size ≤ 300
  · rw [if_pos h, if_pos h]; exact tok_ev h
  · rw [if_neg h, if_neg h]; exact tok_big h
theorem j0_true (s t : ByteArray) (x y z : List Tk) (hs : s.size ≤ 140737488351232) (ht : t.size ≤ 140737488351232) (h : 300 < s.size + t.size + 1) : Ev (fun k => minuetlaw9_LexParts.j0 k s t x y z true) true := by
  refine Ev.step (fun k => by rw [minuetlaw9_LexParts.j0]) ?_
  have e1 : wrap64 ((s.size : Int) + (t.size : Int)) = (s.size : Int) + (t.size : Int) := w64 (by omega) (by omega)
  have e2 : wrap64 ((s.size : Int) + (t.size : Int) + 1) = (s.size : Int) + (t.size : Int) + 1 := w64 (by omega) (by omega)
  simp only [if_true, e1, e2]
  rw [decide_eq_true (show (s.size : Int) + (t.size : Int) + 1 > 300 by omega)]
  exact Ev.now _
theorem parts_l1 (s : ByteArray) (x y c : List Tk) (hs : s.size ≤ 300) (hx : x.length ≤ 300) (hy : y.length ≤ 300)
    (hb : ∀ d ∈ y, 0 ≤ d.f1 ∧ d.f1 ≤ 300 ∧ 0 ≤ d.f2 ∧ d.f2 ≤ 300)
    (e : c = x ++ (⟨10, (s.size : Int), (s.size : Int) + 1⟩ : Tk) :: y.map (mv ((s.size : Int) + 1))) :
    ∀ (g i : Nat), i + g = y.length → Ev (fun k => minuetlaw9_LexParts.l1 k s y c (x.length : Int) (i : Int)) true := by
  have hc : c.length = x.length + 1 + y.length := by rw [e]; simp; omega
  have w1 : wrap64 ((x.length : Int) + 1) = (x.length : Int) + 1 := w64 (by omega) (by omega)
  intro g
  induction g with
  | zero =>
    intro i h
    refine Ev.step (fun k => by rw [minuetlaw9_LexParts.l1]) ?_
    have r0 : rd_T34 c (x.length : Int) = (⟨10, (s.size : Int), (s.size : Int) + 1⟩ : Tk) := by
      rw [e]; have := rd_right (xs := x) (ys := (⟨10, (s.size : Int), (s.size : Int) + 1⟩ : Tk) :: y.map (mv ((s.size : Int) + 1))) (i := 0)
      rw [Nat.add_zero] at this; rw [this]; rfl
    have w2 : wrap64 ((s.size : Int) + 1) = (s.size : Int) + 1 := w64 (by omega) (by omega)
    simp only [if_neg (show ¬ (i : Int) < (y.length : Int) by omega), if_pos (show (0 : Int) ≤ (x.length : Int) by omega), if_pos (show (x.length : Int) < (c.length : Int) by omega), r0, w2, beq_self_eq_true, Bool.and_self]
    exact Ev.now _
  | succ g ih =>
    intro i h
    refine Ev.step (fun k => by rw [minuetlaw9_LexParts.l1]) ?_
    have hi : i < y.length := by omega
    have w2 : wrap64 ((x.length : Int) + 1 + (i : Int)) = ((x.length + (i + 1) : Nat) : Int) := by rw [w64 (by omega) (by omega)]; omega
    have w3 : wrap64 ((i : Int) + 1) = ((i + 1 : Nat) : Int) := by rw [w64 (by omega) (by omega)]; omega
    have r1 : rd_T34 c ((x.length + (i + 1) : Nat) : Int) = mv ((s.size : Int) + 1) (rd_T34 y (i : Int)) := by
      rw [e, rd_right, ← rd_map (mv ((s.size : Int) + 1)) hi]
      have := rd_right (xs := [(⟨10, (s.size : Int), (s.size : Int) + 1⟩ : Tk)]) (ys := y.map (mv ((s.size : Int) + 1))) (i := i)
      rw [← this, List.length_singleton, Nat.add_comm 1 i]; rfl
    have hd := hb _ (rd_mem hi)
    generalize rd_T34 y (i : Int) = d at hd r1
    have v1 : wrap64 (wrap64 (d.f1 + (s.size : Int)) + 1) = d.f1 + ((s.size : Int) + 1) := by rw [w64 (x := d.f1 + (s.size : Int)) (by omega) (by omega), w64 (by omega) (by omega)]; omega
    have v2 : wrap64 (wrap64 (d.f2 + (s.size : Int)) + 1) = d.f2 + ((s.size : Int) + 1) := by rw [w64 (x := d.f2 + (s.size : Int)) (by omega) (by omega), w64 (by omega) (by omega)]; omega
    simp only [if_pos (show (i : Int) < (y.length : Int) by omega), if_pos (show (0 : Int) ≤ (i : Int) by omega), w1, w2, if_pos (show (0 : Int) ≤ ((x.length + (i + 1) : Nat) : Int) by omega), if_pos (show ((x.length + (i + 1) : Nat) : Int) < (c.length : Int) by omega), r1, mv, v1, v2, beq_self_eq_true, Bool.not_true, Bool.or_self, Bool.false_eq_true, if_false, w3]
    exact ih (i + 1) (by omega)
theorem parts_l0 (s : ByteArray) (x y c : List Tk) (hs : s.size ≤ 300) (hx : x.length ≤ 300) (hy : y.length ≤ 300)
    (hb : ∀ d ∈ y, 0 ≤ d.f1 ∧ d.f1 ≤ 300 ∧ 0 ≤ d.f2 ∧ d.f2 ≤ 300)
    (e : c = x ++ (⟨10, (s.size : Int), (s.size : Int) + 1⟩ : Tk) :: y.map (mv ((s.size : Int) + 1))) :
    ∀ (g i : Nat), i + g = x.length → Ev (fun k => minuetlaw9_LexParts.l0 k s x y c (x.length : Int) (i : Int)) true := by
  have hc : c.length = x.length + 1 + y.length := by rw [e]; simp; omega
  intro g
  induction g with
  | zero =>
    intro i h
    refine Ev.step (fun k => by rw [minuetlaw9_LexParts.l0]) ?_
    simp only [if_neg (show ¬ (i : Int) < (x.length : Int) by omega)]
    exact parts_l1 s x y c hs hx hy hb e y.length 0 (by omega)
  | succ g ih =>
    intro i h
    refine Ev.step (fun k => by rw [minuetlaw9_LexParts.l0]) ?_
    have hi : i < x.length := by omega
    have w3 : wrap64 ((i : Int) + 1) = ((i + 1 : Nat) : Int) := by rw [w64 (by omega) (by omega)]; omega
    have r1 : rd_T34 c (i : Int) = rd_T34 x (i : Int) := by rw [e]; exact rd_left hi
    simp only [if_pos (show (i : Int) < (x.length : Int) by omega), if_pos (show (0 : Int) ≤ (i : Int) by omega), if_pos (show (i : Int) < (c.length : Int) by omega), r1, beq_self_eq_true, Bool.not_true, Bool.or_self, Bool.false_eq_true, if_false, w3]
    exact ih (i + 1) (by omega)
theorem parts_j1 (s t : ByteArray) (x y c : List Tk) (hs : s.size + t.size + 1 ≤ 300) (ex : x = toks (byt s)) (ey : y = toks (byt t)) (ec : c = toks (byt ((s ++ (⟨#[10]⟩ : ByteArray)) ++ t))) (b : Bool)
    (hb : b = false → (∀ d, x.getLast? = some d → d.f0 ≠ 10 ∧ (d.f0 = 11 → d.f2 - d.f1 ≤ 1)) ∧ (∀ d, (byt t).head? = some d → isB d = false)) :
    Ev (fun k => minuetlaw9_LexParts.j1 k s x y c (x.length : Int) b) true := by
  refine Ev.step (fun k => by rw [minuetlaw9_LexParts.j1]) ?_
  cases b with
  | true => exact Ev.now _
  | false =>
    obtain ⟨h1, h2⟩ := hb rfl
    have hx : x.length ≤ 300 := by rw [ex]; have := toks_len (byt s); rw [byt_len] at this; omega
    have hy : y.length ≤ 300 := by rw [ey]; have := toks_len (byt t); rw [byt_len] at this; omega
    have hyb : ∀ d ∈ y, 0 ≤ d.f1 ∧ d.f1 ≤ 300 ∧ 0 ≤ d.f2 ∧ d.f2 ≤ 300 := by
      intro d hd; rw [ey] at hd; have := toks_bd hd; rw [byt_len] at this; omega
    have e : c = x ++ (⟨10, (s.size : Int), (s.size : Int) + 1⟩ : Tk) :: y.map (mv ((s.size : Int) + 1)) := by
      rw [ec, ex, ey, byt_cat, byt_cat]
      have := tks_app (byt t) h2 (byt s).length 0 (byt s) (byt s ++ 10 :: byt t).length (Nat.le_refl _) (by simp only [List.length_append, List.length_cons]; omega) (by rw [ex] at h1; exact h1)
      rw [byt_len, Nat.zero_add] at this
      rw [show byt s ++ byt (⟨#[10]⟩ : ByteArray) ++ byt t = byt s ++ 10 :: byt t by rw [show byt (⟨#[10]⟩ : ByteArray) = [10] from rfl]; simp]
      rw [show ((s.size + 1 : Nat) : Int) = (s.size : Int) + 1 by omega] at this
      rw [show toks (byt s) = tks s.size 0 (byt s) by unfold toks; rw [byt_len]]
      exact this
    have hc : c.length = x.length + 1 + y.length := by rw [e]; simp; omega
    have w1 : wrap64 ((x.length : Int) + 1) = (x.length : Int) + 1 := w64 (by omega) (by omega)
    have w2 : wrap64 ((x.length : Int) + 1 + (y.length : Int)) = (x.length : Int) + 1 + (y.length : Int) := w64 (by omega) (by omega)
    simp only [Bool.false_eq_true, if_false, w1, w2, if_pos (show (c.length : Int) = (x.length : Int) + 1 + (y.length : Int) by omega)]
    exact parts_l0 s x y c (by omega) hx hy hyb e x.length 0 (by omega)
theorem head_of {t : ByteArray} {y : List Tk} (ey : y = toks (byt t)) (h : (y.length : Int) > 0 → ((rd_T34 y 0).f0 == 10) = false) : ∀ d, (byt t).head? = some d → isB d = false := by
  intro d hd
  cases hb : byt t with
  | nil => rw [hb] at hd; simp at hd
  | cons b r =>
    rw [hb] at hd ey; simp only [List.head?_cons, Option.some.injEq] at hd; subst hd
    obtain ⟨T, hT⟩ := toks_cons b r
    rw [hT] at ey
    have h2 := h (by rw [ey]; simp only [List.length_cons]; omega)
    rw [ey] at h2
    have h3 : ((tk (b :: r)).1 == 10) = false := h2
    cases hi : isB b with
    | false => rfl
    | true => rw [tk_isB hi] at h3; cases h3
theorem parts_tail (s t : ByteArray) (x y c : List Tk) (hs : s.size + t.size + 1 ≤ 300) (ex : x = toks (byt s)) (ey : y = toks (byt t)) (ec : c = toks (byt ((s ++ (⟨#[10]⟩ : ByteArray)) ++ t)))
    (hl : ∀ d, x.getLast? = some d → d.f0 ≠ 10 ∧ (d.f0 = 11 → d.f2 - d.f1 ≤ 1)) :
    Ev (fun k => if (y.length : Int) > 0 then (if 0 < (y.length : Int) then (minuetlaw9_LexParts.j1 k s x y c (x.length : Int) ((rd_T34 y 0).f0 == 10)) else (none)) else (minuetlaw9_LexParts.j1 k s x y c (x.length : Int) false)) true := by
  refine Ev_ite (fun h => ?_) (fun h => ?_)
  · simp only [if_pos (show 0 < (y.length : Int) from h)]
    exact parts_j1 s t x y c hs ex ey ec _ (fun hb => ⟨hl, head_of ey (fun _ => hb)⟩)
  · exact parts_j1 s t x y c hs ex ey ec _ (fun _ => ⟨hl, head_of ey (fun h' => absurd h' h)⟩)
theorem parts_j0 (s t : ByteArray) (hs : s.size + t.size + 1 ≤ 300) : Ev (fun k => minuetlaw9_LexParts.j0 k s t (toks (byt s)) (toks (byt t)) (toks (byt ((s ++ (⟨#[10]⟩ : ByteArray)) ++ t))) false) true := by
  refine Ev.step (fun k => by rw [minuetlaw9_LexParts.j0]) ?_
  obtain ⟨x, ex⟩ : ∃ x, x = toks (byt s) := ⟨_, rfl⟩
  obtain ⟨y, ey⟩ : ∃ x, x = toks (byt t) := ⟨_, rfl⟩
  obtain ⟨c, ec⟩ : ∃ x, x = toks (byt ((s ++ (⟨#[10]⟩ : ByteArray)) ++ t)) := ⟨_, rfl⟩
  rw [← ex, ← ey, ← ec]
  have hx : x.length ≤ 300 := by rw [ex]; have := toks_len (byt s); rw [byt_len] at this; omega
  simp only [Bool.false_eq_true, if_false]
  refine Ev_ite (fun h => ?_) (fun h => ?_)
  · have w1 : wrap64 ((x.length : Int) - 1) = ((x.length - 1 : Nat) : Int) := by rw [w64 (by omega) (by omega)]; omega
    have hlt : x.length - 1 < x.length := by omega
    have hlast : x.getLast? = some (rd_T34 x ((x.length - 1 : Nat) : Int)) := by
      rw [rd_get hlt, List.getLast?_eq_getElem?, List.getElem?_eq_getElem hlt]
    have hbd := toks_bd (l := byt s) (by rw [← ex]; exact rd_mem hlt)
    rw [byt_len] at hbd
    simp only [w1, if_pos (show (0 : Int) ≤ ((x.length - 1 : Nat) : Int) by omega), if_pos (show ((x.length - 1 : Nat) : Int) < (x.length : Int) by omega)]
    generalize rd_T34 x ((x.length - 1 : Nat) : Int) = d at hlast hbd
    have w2 : wrap64 (d.f2 - d.f1) = d.f2 - d.f1 := w64 (by omega) (by omega)
    simp only [w2]
    have tr := parts_j1 s t x y c hs ex ey ec true (fun h => by cases h)
    have ok : d.f0 ≠ 10 → (d.f0 = 11 → d.f2 - d.f1 ≤ 1) → ∀ d', x.getLast? = some d' → d'.f0 ≠ 10 ∧ (d'.f0 = 11 → d'.f2 - d'.f1 ≤ 1) := by
      intro a b d' hd'; rw [hlast] at hd'; cases hd'; exact ⟨a, b⟩
    refine Ev_ite (fun h1 => Ev_ite (fun _ => tr) (fun h2 => Ev_ite (fun _ => tr) (fun h3 => ?_))) (fun h1 => Ev_ite (fun _ => tr) (fun h3 => ?_))
    · exact parts_tail s t x y c hs ex ey ec (ok h3 (fun _ => by omega))
    · exact parts_tail s t x y c hs ex ey ec (ok h3 (fun h => absurd h h1))
  · exact parts_tail s t x y c hs ex ey ec (by
      intro d hd
      have : x = [] := List.eq_nil_of_length_eq_zero (by omega)
      rw [this] at hd; simp at hd)
theorem LexParts_pure (s t : ByteArray) (hs : s.size ≤ 140737488351232) (ht : t.size ≤ 140737488351232) : ∃ k, minuetlaw9_LexParts.f k s t = some true := by
  refine Ev.rounds (Ev.congr (fun k => by rw [minuetlaw9_LexParts.f]) ?_)
  refine Ev.bind awake_ev ?_
  have z1 : (s ++ (⟨#[10]⟩ : ByteArray)).size = s.size + 1 := ByteArray.size_append
  have z2 : ((s ++ (⟨#[10]⟩ : ByteArray)) ++ t).size = s.size + 1 + t.size := by rw [ByteArray.size_append, z1]
  simp only [if_true, tok_all, opt_some, num_eq, if_pos (show s.size + 1 ≤ 9223372036854775807 by omega), if_pos (show (s ++ (⟨#[10]⟩ : ByteArray)).size + t.size ≤ 9223372036854775807 by omega)]
  by_cases h : s.size + t.size + 1 ≤ 300
  · have e1 : er s = 0 := if_pos (by omega)
    have e2 : er t = 0 := if_pos (by omega)
    have e3 : er ((s ++ (⟨#[10]⟩ : ByteArray)) ++ t) = 0 := if_pos (by omega)
    rw [e1, e2, e3, show tkk s = toks (byt s) from if_pos (by omega), show tkk t = toks (byt t) from if_pos (by omega), show tkk ((s ++ (⟨#[10]⟩ : ByteArray)) ++ t) = toks (byt ((s ++ (⟨#[10]⟩ : ByteArray)) ++ t)) from if_pos (by omega)]
    simp only [if_true, bne_self_eq_false]
    exact parts_j0 s t h
  · have e3 : er ((s ++ (⟨#[10]⟩ : ByteArray)) ++ t) = 900 := if_neg (by omega)
    rw [e3]
    have go := fun x y z => j0_true s t x y z hs ht (by omega)
    refine Ev_ite (fun _ => Ev_ite (fun _ => ?_) (fun _ => go _ _ _)) (fun _ => go _ _ _)
    rw [show ((900 : Int) != 0) = true from rfl]
    exact go _ _ _
end Go.Proofs.Ytnhkdpcncjkmlaa.Pl
