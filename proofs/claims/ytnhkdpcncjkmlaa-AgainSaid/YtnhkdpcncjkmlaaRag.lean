/- The reference's Again computes the same. -/
import Derived.Test.YtnhkdpcncjkmlaaLr
import Derived.Test.YtnhkdpcncjkmlaaAg
import Derived.Test.YtnhkdpcncjkmlaaGMinuetref9PAgain
namespace Go.Proofs.Ytnhkdpcncjkmlaa.Pl
open Go.RowKit Go.Proofs.Ytnhkdpcncjkmlaa.G Go.Proofs.Ytnhkdpcncjkmlaa.Lx Go.Proofs.YtnhkdpcncjkmlaaW.PrintWords Go.Proofs.YtnhkdpcncjkmlaaW.PrintLast Go.Proofs.YtnhkdpcncjkmlaaW.PrintMore
set_option linter.unusedVariables false
set_option linter.unusedSimpArgs false
theorem rag_j5f (x y : List Tk) (i j d : Int) : Ev (fun k => minuetref9_Again.j5 k x y i j d false) (y, i, j, 0) := by
  refine Ev.step (fun k => by rw [minuetref9_Again.j5]) ?_
  simp only [Bool.false_eq_true, if_false]
  exact Ev.now _
theorem rag_l2 (x y : List Tk) (d : Int) (hx : x.length ≤ 300) (hy : y.length ≤ 300) (hb : ∀ c ∈ x, 0 ≤ c.f1 ∧ c.f1 ≤ 300 ∧ 0 ≤ c.f2 ∧ c.f2 ≤ 300) (hd : -1000 ≤ d ∧ d ≤ 1000) (i : Nat) (hi : i ≤ min x.length y.length) :
    ∀ (g j : Nat), min x.length y.length - i = j + g → Ev (fun k => minuetref9_Again.l2 k x y (i : Int) (j : Int) d) (y, (i : Int), ((j + bh g d x y j : Nat) : Int), 0) := by
  have u0 : wrap64 ((x.length : Int) - (i : Int)) = (x.length : Int) - (i : Int) := w64 (by omega) (by omega)
  have u1 : wrap64 ((y.length : Int) - (i : Int)) = (y.length : Int) - (i : Int) := w64 (by clear u0; omega) (by clear u0; omega)
  intro g
  induction g with
  | zero =>
    intro j h
    refine Ev.step (fun k => by rw [minuetref9_Again.l2]) ?_
    rw [u0, u1]
    clear u0 u1
    simp only [bh, Nat.add_zero]
    by_cases q : (j : Int) < (x.length : Int) - (i : Int)
    · simp only [if_pos q]
      rw [decide_eq_false (show ¬ (j : Int) < (y.length : Int) - (i : Int) by omega)]
      exact rag_j5f _ _ _ _ _
    · simp only [if_neg q]
      exact rag_j5f _ _ _ _ _
  | succ g ih =>
    intro j h
    refine Ev.step (fun k => by rw [minuetref9_Again.l2]) ?_
    rw [u0, u1]
    clear u0 u1
    simp only [if_pos (show (j : Int) < (x.length : Int) - (i : Int) by omega)]
    rw [decide_eq_true (show (j : Int) < (y.length : Int) - (i : Int) by omega)]
    have p1 : (0 : Int) ≤ ((x.length - 1 - j : Nat) : Int) := by omega
    have p2 : (0 : Int) ≤ ((y.length - 1 - j : Nat) : Int) := by omega
    have p3 : ((x.length - 1 - j : Nat) : Int) < (x.length : Int) := by omega
    have p4 : ((y.length - 1 - j : Nat) : Int) < (y.length : Int) := by omega
    have hm := hb _ (rd_mem (xs := x) (i := x.length - 1 - j) (by omega))
    have w1 : wrap64 ((x.length : Int) - 1) = (x.length : Int) - 1 := w64 (by omega) (by omega)
    have w2 : wrap64 ((y.length : Int) - 1) = (y.length : Int) - 1 := w64 (by clear w1; omega) (by clear w1; omega)
    have w3 : wrap64 ((x.length : Int) - 1 - (j : Int)) = ((x.length - 1 - j : Nat) : Int) := by clear w1 w2; rw [w64 (by omega) (by omega)]; omega
    have w4 : wrap64 ((y.length : Int) - 1 - (j : Int)) = ((y.length - 1 - j : Nat) : Int) := by clear w1 w2 w3; rw [w64 (by omega) (by omega)]; omega
    have w5 : wrap64 ((j : Int) + 1) = ((j + 1 : Nat) : Int) := by clear w1 w2 w3 w4; rw [w64 (by omega) (by omega)]; omega
    refine Ev.step (fun k => by rw [minuetref9_Again.j5]) ?_
    rw [bh]
    simp only [w1, w2, w3, w4, w5, if_pos p1, if_pos p2, if_pos p3, if_pos p4, if_true]
    clear w1 w2 w3 w4 w5
    generalize rd_T34 x ((x.length - 1 - j : Nat) : Int) = c at hm
    generalize rd_T34 y ((y.length - 1 - j : Nat) : Int) = e
    have v1 : wrap64 (c.f1 + d) = c.f1 + d := w64 (by omega) (by omega)
    have v2 : wrap64 (c.f2 + d) = c.f2 + d := w64 (by omega) (by omega)
    rw [v1, v2]
    by_cases hs : sm d c e = true
    · have e1 := sm_iff.1 hs
      subst e1
      rw [if_pos hs]
      simp only [mv, if_true]
      have := ih (j + 1) (by omega)
      rwa [show j + 1 + bh g d x y (j + 1) = j + (bh g d x y (j + 1) + 1) by omega] at this
    · rw [if_neg hs]
      simp only [Nat.add_zero]
      refine Ev_ite (fun h0 => ?_) (fun _ => Ev.now _)
      refine Ev_ite (fun h1 => ?_) (fun _ => Ev.now _)
      refine Ev_ite (fun h2 => ?_) (fun _ => Ev.now _)
      exact absurd (sm_iff.2 (tk_ext h0 h1 h2)) hs
theorem rag_l1 (x y : List Tk) (d : Int) (hx : x.length ≤ 300) (hy : y.length ≤ 300) (hb : ∀ c ∈ x, 0 ≤ c.f1 ∧ c.f1 ≤ 300 ∧ 0 ≤ c.f2 ∧ c.f2 ≤ 300) (hd : -1000 ≤ d ∧ d ≤ 1000) :
    ∀ (g i : Nat), min x.length y.length = i + g → Ev (fun k => minuetref9_Again.l1 k x y (i : Int) 0 d) (y, ((i + ah g x y i : Nat) : Int), ((bh (min x.length y.length - (i + ah g x y i)) d x y 0 : Nat) : Int), 0) := by
  have stop : ∀ i : Nat, i ≤ min x.length y.length → Ev (fun k => minuetref9_Again.j3 k x y (i : Int) 0 d) (y, (i : Int), ((bh (min x.length y.length - i) d x y 0 : Nat) : Int), 0) := by
    intro i hi
    refine Ev.step (fun k => by rw [minuetref9_Again.j3]) ?_
    have := rag_l2 x y d hx hy hb hd i hi (min x.length y.length - i) 0 (by omega)
    rwa [Nat.zero_add] at this
  intro g
  induction g with
  | zero =>
    intro i h
    refine Ev.step (fun k => by rw [minuetref9_Again.l1]) ?_
    simp only [ah, Nat.add_zero]
    by_cases q : (i : Int) < (x.length : Int)
    · simp only [if_pos q, if_neg (show ¬ (i : Int) < (y.length : Int) by omega)]
      exact stop i (by omega)
    · simp only [if_neg q]
      exact stop i (by omega)
  | succ g ih =>
    intro i h
    have w5 : wrap64 ((i : Int) + 1) = ((i + 1 : Nat) : Int) := by rw [w64 (by omega) (by omega)]; omega
    refine Ev.step (fun k => by rw [minuetref9_Again.l1]) ?_
    rw [ah]
    simp only [w5, if_pos (show (0 : Int) ≤ (i : Int) by omega), if_pos (show (i : Int) < (x.length : Int) by omega), if_pos (show (i : Int) < (y.length : Int) by omega)]
    by_cases hs : sq (rd_T34 x (i : Int)) (rd_T34 y (i : Int)) = true
    · rw [if_pos hs]
      unfold sq at hs
      simp only [if_pos hs]
      have := ih (i + 1) (by omega)
      rwa [show i + 1 + ah g x y (i + 1) = i + (ah g x y (i + 1) + 1) by omega] at this
    · rw [if_neg hs]
      unfold sq at hs
      simp only [if_neg hs, Nat.add_zero]
      exact stop i (by omega)
theorem rag_l0 (s : ByteArray) (ts : List Tk) (a c : Int) (put : ByteArray) (t : List Tk) (hl : ts.length = t.length) (hx : ts.length ≤ 300) (R : List Tk × Int × Int × Int)
    (hR : ts = t → Ev (fun k => minuetref9_Again.l0 k s ts a c put t (ts.length : Int)) R) :
    ∀ (g i : Nat), ts.length = i + g → (∀ j, j < i → rd_T34 ts (j : Int) = rd_T34 t (j : Int)) →
      (ts = t → Ev (fun k => minuetref9_Again.l0 k s ts a c put t (i : Int)) R) ∧ (ts ≠ t → Ev (fun k => minuetref9_Again.l0 k s ts a c put t (i : Int)) ([], 0, 0, 1000)) := by
  intro g
  induction g with
  | zero =>
    intro i h ha
    have e : i = ts.length := by omega
    subst e
    exact ⟨hR, fun hn => absurd (tks_ext hl ha) hn⟩
  | succ g ih =>
    intro i h ha
    have w5 : wrap64 ((i : Int) + 1) = ((i + 1 : Nat) : Int) := by rw [w64 (by omega) (by omega)]; omega
    by_cases hs : sq (rd_T34 ts (i : Int)) (rd_T34 t (i : Int)) = true
    · have e := sq_iff.1 hs
      have go := ih (i + 1) (by omega) (fun j hj => by
        by_cases q : j = i
        · subst q; exact e
        · exact ha j (by omega))
      have st : ∀ r, Ev (fun k => minuetref9_Again.l0 k s ts a c put t ((i + 1 : Nat) : Int)) r → Ev (fun k => minuetref9_Again.l0 k s ts a c put t (i : Int)) r := by
        intro r hr
        refine Ev.step (fun k => by rw [minuetref9_Again.l0]) ?_
        simp only [w5, if_pos (show (0 : Int) ≤ (i : Int) by omega), if_pos (show (i : Int) < (ts.length : Int) by omega), if_pos (show (i : Int) < (t.length : Int) by omega), e, beq_self_eq_true, Bool.not_true, Bool.or_self, Bool.false_eq_true, if_false]
        exact hr
      exact ⟨fun q => st _ (go.1 q), fun q => st _ (go.2 q)⟩
    · refine ⟨fun q => by subst q; exact absurd (sq_iff.2 rfl) hs, fun _ => ?_⟩
      refine Ev.step (fun k => by rw [minuetref9_Again.l0]) ?_
      simp only [w5, if_pos (show (0 : Int) ≤ (i : Int) by omega), if_pos (show (i : Int) < (ts.length : Int) by omega), if_pos (show (i : Int) < (t.length : Int) by omega)]
      generalize rd_T34 ts (i : Int) = p at hs
      generalize rd_T34 t (i : Int) = e at hs
      have c0 : (!(p.f0 == e.f0) || (!(p.f1 == e.f1) || !(p.f2 == e.f2))) = true := by
        unfold sq at hs
        cases h0 : (p.f0 == e.f0) <;> cases h1 : (p.f1 == e.f1) <;> cases h2 : (p.f2 == e.f2) <;> simp_all
      simp only [if_pos c0]
      exact Ev.now _
theorem rag_tail {s : ByteArray} {ts : List Tk} {a c : Int} {put : ByteArray} (h : agP s ts a c put) :
    Ev (fun k => minuetref9_Again.l0 k s ts a c put ts (ts.length : Int)) (agM s ts a c put) := by
  unfold agM
  rw [if_pos h]
  obtain ⟨h1, rfl, h3, h4, h5, h6, h7⟩ := h
  have hz := edS_size (put := put) h3 h4 h5 h6
  have w0 : wrap64 (a + c) = a + c := w64 (by omega) (by omega)
  have w1 : wrap64 ((put.size : Int) - c) = (put.size : Int) - c := w64 (by clear w0; omega) (by clear w0; omega)
  have z1 : (s.extract 0 a.toNat).size = a.toNat := by rw [ByteArray.size_extract]; omega
  have z2 : (s.extract (a + c).toNat s.size).size = s.size - (a + c).toNat := by rw [ByteArray.size_extract]; omega
  have z3 : ((s.extract 0 a.toNat) ++ put).size = a.toNat + put.size := by rw [ByteArray.size_append, z1]
  refine Ev.step (fun k => by rw [minuetref9_Again.l0]) ?_
  simp only [if_neg (show ¬ ((toks (byt s)).length : Int) < ((toks (byt s)).length : Int) by omega), w0, w1, if_pos h3, if_pos h4, if_pos (show (0 : Int) ≤ a + c by omega), if_pos (show a + c ≤ (s.size : Int) by omega), if_pos (show (s.extract 0 a.toNat).size + put.size ≤ 9223372036854775807 by omega), if_pos (show ((s.extract 0 a.toNat) ++ put).size + (s.extract (a + c).toNat s.size).size ≤ 9223372036854775807 by omega)]
  show Ev (fun k => (minuetref9_Tokens.f k (edS s a c put)).bind _) _
  by_cases hu : (edS s a c put).size ≤ 300
  · refine Ev.bind (rtok_ev hu) ?_
    simp only [if_pos hu, if_true]
    have q1 := toks_sz h1
    have q2 := toks_sz hu
    generalize toks (byt s) = x at q1
    generalize toks (byt (edS s a c put)) = y at q2
    have := rag_l1 x y ((put.size : Int) - c) q1.1 q2.1 q1.2 (by omega) (min x.length y.length) 0 (by omega)
    simp only [Nat.zero_add] at this
    exact this
  · refine Ev.bind (rtok_big hu) ?_
    simp only [if_neg hu]
    exact Ev.now _
theorem rag_j0t (s : ByteArray) (ts : List Tk) (a c : Int) (put : ByteArray) (t : List Tk) : Ev (fun k => minuetref9_Again.j0 k s ts a c put t true) ([], 0, 0, 1000) := by
  refine Ev.step (fun k => by rw [minuetref9_Again.j0]) ?_
  exact Ev.now _
theorem agM_no {s : ByteArray} {ts : List Tk} {a c : Int} {put : ByteArray} (h : ¬ agP s ts a c put) : agM s ts a c put = ([], 0, 0, 1000) := by
  unfold agM; rw [if_neg h]
theorem rag_ev (s : ByteArray) (ts : List Tk) (a c : Int) (put : ByteArray) : Ev (fun k => minuetref9_Again.f k s ts a c put) (agM s ts a c put) := by
  refine Ev.congr (fun k => by rw [minuetref9_Again.f]) ?_
  by_cases h1 : s.size ≤ 300
  · refine Ev.bind (rtok_ev h1) ?_
    simp only [if_true]
    refine Ev_ite (fun hl => ?_) (fun hl => ?_)
    · refine Ev_ite (fun k3 => ?_) (fun k3 => ?_)
      · rw [agM_no (fun h => by have := h.2.2.1; omega)]; exact rag_j0t _ _ _ _ _ _
      refine Ev_ite (fun k4 => ?_) (fun k4 => ?_)
      · rw [agM_no (fun h => by have := h.2.2.2.1; omega)]; exact rag_j0t _ _ _ _ _ _
      have w0 : wrap64 ((s.size : Int) - a) = (s.size : Int) - a := w64 (by omega) (by omega)
      rw [w0]
      refine Ev_ite (fun k5 => ?_) (fun k5 => ?_)
      · rw [agM_no (fun h => by have := h.2.2.2.2.1; omega)]; exact rag_j0t _ _ _ _ _ _
      refine Ev_ite (fun k6 => ?_) (fun k6 => ?_)
      · rw [agM_no (fun h => by have := h.2.2.2.2.2.1; omega)]; exact rag_j0t _ _ _ _ _ _
      by_cases k7 : (put.size : Int) > 300
      · rw [decide_eq_true k7, agM_no (fun h => by have := h.2.2.2.2.2.2; omega)]; exact rag_j0t _ _ _ _ _ _
      rw [decide_eq_false k7]
      refine Ev.step (fun k => by rw [minuetref9_Again.j0]) ?_
      simp only [Bool.false_eq_true, if_false]
      have hl' : ts.length = (toks (byt s)).length := by omega
      have go := rag_l0 s ts a c put (toks (byt s)) hl' (by have := (toks_sz h1).1; omega) (agM s ts a c put) (fun e => by
        have := rag_tail (s := s) (ts := ts) (a := a) (c := c) (put := put) ⟨h1, e.symm, by omega, by omega, by omega, by omega, by omega⟩
        rw [← e]; exact this) ts.length 0 (by omega) (fun j hj => absurd hj (by omega))
      by_cases e : ts = toks (byt s)
      · exact go.1 e
      · rw [agM_no (fun h => e h.2.1.symm)]; exact go.2 e
    · rw [agM_no (fun h => by have := h.2.1; subst this; exact hl rfl)]; exact rag_j0t _ _ _ _ _ _
  · rw [agM_no (fun h => h1 h.1)]
    refine Ev.bind (rtok_big h1) ?_
    simp only [show ((900 : Int) = 0) = False by simp, if_false]
    exact rag_j0t _ _ _ _ _ _
end Go.Proofs.Ytnhkdpcncjkmlaa.Pl
