/- What relex.Again computes: the new tokens, how many are as they were ahead, and behind. -/
import Derived.Test.YtnhkdpcncjkmlaaLq
import Derived.Test.YtnhkdpcncjkmlaaGRelexPAgain
import Derived.Test.YtnhkdpcncjkmlaaGApiPToken
import Derived.Test.YtnhkdpcncjkmlaaGEditPThere
namespace Go.Proofs.Ytnhkdpcncjkmlaa.Pl
open Go.RowKit Go.Proofs.Ytnhkdpcncjkmlaa.G Go.Proofs.Ytnhkdpcncjkmlaa.Lx Go.Proofs.YtnhkdpcncjkmlaaW.PrintWords Go.Proofs.YtnhkdpcncjkmlaaW.PrintLast Go.Proofs.YtnhkdpcncjkmlaaW.PrintMore
set_option linter.unusedVariables false
set_option linter.unusedSimpArgs false
theorem tk_ext {a b : Tk} (h0 : a.f0 = b.f0) (h1 : a.f1 = b.f1) (h2 : a.f2 = b.f2) : a = b := by
  cases a; cases b; simp only at h0 h1 h2; subst h0; subst h1; subst h2; rfl
theorem tks_ext {x y : List Tk} (hl : x.length = y.length) (h : ∀ j, j < x.length → rd_T34 x (j : Int) = rd_T34 y (j : Int)) : x = y := by
  refine List.ext_getElem hl (fun i h1 h2 => ?_)
  have := h i h1
  rwa [rd_get h1, rd_get h2] at this
/-! ### one list is another -/
theorem eq_l0 (x y : List Tk) (hl : x.length = y.length) (hx : x.length ≤ 300) : ∀ (g i : Nat), i + g = x.length → (∀ j, j < i → rd_T34 x (j : Int) = rd_T34 y (j : Int)) →
    ∃ b, Ev (fun k => api_Token.l0 k x y (x.length : Int) (i : Int)) b ∧ (b = true ↔ x = y) := by
  intro g
  induction g with
  | zero =>
    intro i h hj
    refine ⟨true, ?_, ⟨fun _ => tks_ext hl (fun j h' => hj j (by omega)), fun _ => rfl⟩⟩
    refine Ev.step (fun k => by rw [api_Token.l0]) ?_
    simp only [if_neg (show ¬ (i : Int) < (x.length : Int) by omega)]
    exact Ev.now _
  | succ g ih =>
    intro i h hj
    have w3 : wrap64 ((i : Int) + 1) = ((i + 1 : Nat) : Int) := by rw [w64 (by omega) (by omega)]; omega
    by_cases e : rd_T34 x (i : Int) = rd_T34 y (i : Int)
    · obtain ⟨b, hb, hb2⟩ := ih (i + 1) (by omega) (by
        intro j h'
        by_cases hji : j = i
        · subst hji; exact e
        · exact hj j (by omega))
      refine ⟨b, ?_, hb2⟩
      refine Ev.step (fun k => by rw [api_Token.l0]) ?_
      simp only [if_pos (show (i : Int) < (x.length : Int) by omega), if_pos (show (0 : Int) ≤ (i : Int) by omega), if_pos (show (i : Int) < (y.length : Int) by omega), e, beq_self_eq_true, Bool.not_true, Bool.or_self, Bool.false_eq_true, if_false, w3]
      exact hb
    · refine ⟨false, ?_, ⟨fun h => by (cases h), fun h => absurd (by rw [h]) e⟩⟩
      refine Ev.step (fun k => by rw [api_Token.l0]) ?_
      have c : (!((rd_T34 x (i : Int)).f0 == (rd_T34 y (i : Int)).f0) || (!((rd_T34 x (i : Int)).f1 == (rd_T34 y (i : Int)).f1) || !((rd_T34 x (i : Int)).f2 == (rd_T34 y (i : Int)).f2))) = true := by
        cases hc : (!((rd_T34 x (i : Int)).f0 == (rd_T34 y (i : Int)).f0) || (!((rd_T34 x (i : Int)).f1 == (rd_T34 y (i : Int)).f1) || !((rd_T34 x (i : Int)).f2 == (rd_T34 y (i : Int)).f2))) with
        | true => rfl
        | false =>
          exfalso; apply e
          simp only [Bool.or_eq_false_iff, Bool.not_eq_false', beq_iff_eq] at hc
          exact tk_ext hc.1 hc.2.1 hc.2.2
      simp only [if_pos (show (i : Int) < (x.length : Int) by omega), if_pos (show (0 : Int) ≤ (i : Int) by omega), if_pos (show (i : Int) < (y.length : Int) by omega), if_pos c]
      exact Ev.now _
theorem eq_ev (x y : List Tk) (hx : x.length ≤ 300) : ∃ b, Ev (fun k => api_Token.f k x y) b ∧ (b = true ↔ x = y) := by
  by_cases hl : x.length = y.length
  · obtain ⟨b, h1, h2⟩ := eq_l0 x y hl hx x.length 0 (by omega) (by intro j h; omega)
    refine ⟨b, Ev.congr (fun k => by rw [api_Token.f, if_pos (show (x.length : Int) = (y.length : Int) by omega)]; rfl) h1, h2⟩
  · exact ⟨false, Ev.congr (fun k => by rw [api_Token.f, if_neg (show ¬ (x.length : Int) = (y.length : Int) by omega)]) (Ev.now _), ⟨fun h => by (cases h), fun h => absurd (by rw [h]) hl⟩⟩
/-! ### how many are alike -/
def sq (a b : Tk) : Bool := a.f0 == b.f0 && (a.f1 == b.f1 && (a.f2 == b.f2))
def sm (d : Int) (a b : Tk) : Bool := a.f0 == b.f0 && (a.f1 + d == b.f1 && (a.f2 + d == b.f2))
theorem sq_iff {a b : Tk} : sq a b = true ↔ a = b := by
  unfold sq
  simp only [Bool.and_eq_true, beq_iff_eq]
  exact ⟨fun h => tk_ext h.1 h.2.1 h.2.2, fun h => by subst h; exact ⟨rfl, rfl, rfl⟩⟩
theorem sm_iff {d : Int} {a b : Tk} : sm d a b = true ↔ mv d a = b := by
  unfold sm
  simp only [Bool.and_eq_true, beq_iff_eq]
  exact ⟨fun h => tk_ext h.1 h.2.1 h.2.2, fun h => by subst h; exact ⟨rfl, rfl, rfl⟩⟩
/-- From a place on, at most so many. -/
def ah : Nat → List Tk → List Tk → Nat → Nat
  | 0, _, _, _ => 0
  | n + 1, x, y, i => if sq (rd_T34 x (i : Int)) (rd_T34 y (i : Int)) = true then ah n x y (i + 1) + 1 else 0
/-- From behind. -/
def bh : Nat → Int → List Tk → List Tk → Nat → Nat
  | 0, _, _, _, _ => 0
  | n + 1, d, x, y, j => if sm d (rd_T34 x ((x.length - 1 - j : Nat) : Int)) (rd_T34 y ((y.length - 1 - j : Nat) : Int)) = true then bh n d x y (j + 1) + 1 else 0
theorem ah_le : ∀ n x y i, ah n x y i ≤ n := by
  intro n
  induction n with
  | zero => intro x y i; exact Nat.le_refl _
  | succ n ih => intro x y i; rw [ah]; split; · have := ih x y (i + 1); omega
                 · omega
theorem ag_l1 (x y : List Tk) (d : Int) (hx : x.length ≤ 300) (hy : y.length ≤ 300) (hb : ∀ c ∈ x, 0 ≤ c.f1 ∧ c.f1 ≤ 300 ∧ 0 ≤ c.f2 ∧ c.f2 ≤ 300) (hd : -1000 ≤ d ∧ d ≤ 1000) (m a : Int) (ha : 0 ≤ a) (ham : a ≤ m) (hmx : m ≤ x.length) (hmy : m ≤ y.length) :
    ∀ (g j : Nat), m - a = j + g → Ev (fun k => relex_Again.l1 k x y m a d (j : Int)) (y, a, ((j + bh g d x y j : Nat) : Int), 0) := by
  have w0 : wrap64 (m - a) = m - a := w64 (by omega) (by omega)
  intro g
  induction g with
  | zero =>
    intro j h
    refine Ev.step (fun k => by rw [relex_Again.l1]) ?_
    rw [w0]
    simp only [if_neg (show ¬ (j : Int) < m - a by omega), bh, Nat.add_zero]
    exact Ev.now _
  | succ g ih =>
    intro j h
    have p0 : (j : Int) < m - a := by omega
    have p1 : (0 : Int) ≤ ((x.length - 1 - j : Nat) : Int) := by omega
    have p2 : (0 : Int) ≤ ((y.length - 1 - j : Nat) : Int) := by omega
    have p3 : ((x.length - 1 - j : Nat) : Int) < (x.length : Int) := by omega
    have p4 : ((y.length - 1 - j : Nat) : Int) < (y.length : Int) := by omega
    have hm := hb _ (rd_mem (xs := x) (i := x.length - 1 - j) (by omega))
    have w1 : wrap64 ((x.length : Int) - 1) = (x.length : Int) - 1 := w64 (by omega) (by omega)
    have w2 : wrap64 ((y.length : Int) - 1) = (y.length : Int) - 1 := w64 (by clear w1 w0; omega) (by clear w1 w0; omega)
    have w3 : wrap64 ((x.length : Int) - 1 - (j : Int)) = ((x.length - 1 - j : Nat) : Int) := by clear w1 w2 w0; rw [w64 (by omega) (by omega)]; omega
    have w4 : wrap64 ((y.length : Int) - 1 - (j : Int)) = ((y.length - 1 - j : Nat) : Int) := by clear w1 w2 w3 w0; rw [w64 (by omega) (by omega)]; omega
    have w5 : wrap64 ((j : Int) + 1) = ((j + 1 : Nat) : Int) := by clear w1 w2 w3 w4 w0; rw [w64 (by omega) (by omega)]; omega
    refine Ev.step (fun k => by rw [relex_Again.l1]) ?_
    rw [bh]
    simp only [w0, w1, w2, w3, w4, w5, if_pos p0, if_pos p1, if_pos p2, if_pos p3, if_pos p4]
    clear w0 w1 w2 w3 w4 w5
    generalize rd_T34 x ((x.length - 1 - j : Nat) : Int) = c at hm
    generalize rd_T34 y ((y.length - 1 - j : Nat) : Int) = e
    have v1 : wrap64 (c.f1 + d) = c.f1 + d := w64 (by omega) (by omega)
    have v2 : wrap64 (c.f2 + d) = c.f2 + d := w64 (by omega) (by omega)
    rw [v1, v2]
    by_cases hs : sm d c e = true
    · have e1 := sm_iff.1 hs
      subst e1
      rw [if_pos hs]
      simp only [mv, beq_self_eq_true, Bool.not_true, Bool.or_self, Bool.false_eq_true, if_false]
      have := ih (j + 1) (by omega)
      rwa [show j + 1 + bh g d x y (j + 1) = j + (bh g d x y (j + 1) + 1) by omega] at this
    · rw [if_neg hs]
      have c0 : (!(c.f0 == e.f0) || (!(c.f1 + d == e.f1) || !(c.f2 + d == e.f2))) = true := by
        unfold sm at hs
        cases h0 : (c.f0 == e.f0) <;> cases h1 : (c.f1 + d == e.f1) <;> cases h2 : (c.f2 + d == e.f2) <;> simp_all
      simp only [if_pos c0, Nat.add_zero]
      exact Ev.now _
theorem ag_l0 (x y : List Tk) (a3 : Int) (a4 : ByteArray) (hx : x.length ≤ 300) (hy : y.length ≤ 300) (hb : ∀ c ∈ x, 0 ≤ c.f1 ∧ c.f1 ≤ 300 ∧ 0 ≤ c.f2 ∧ c.f2 ≤ 300) (h3 : 0 ≤ a3 ∧ a3 ≤ 300) (h4 : a4.size ≤ 300) (m : Nat) (hmx : m ≤ x.length) (hmy : m ≤ y.length) :
    ∀ (g i : Nat), m = i + g → Ev (fun k => relex_Again.l0 k a3 a4 x y (m : Int) (i : Int)) (y, ((i + ah g x y i : Nat) : Int), ((bh (m - (i + ah g x y i)) ((a4.size : Int) - a3) x y 0 : Nat) : Int), 0) := by
  have w0 : wrap64 ((a4.size : Int) - a3) = (a4.size : Int) - a3 := w64 (by omega) (by omega)
  have stop : ∀ i : Nat, i ≤ m → Ev (fun k => relex_Again.j2 k a3 a4 x y (m : Int) (i : Int)) (y, (i : Int), ((bh (m - i) ((a4.size : Int) - a3) x y 0 : Nat) : Int), 0) := by
    intro i hi
    refine Ev.step (fun k => by rw [relex_Again.j2]) ?_
    rw [w0]
    have := ag_l1 x y ((a4.size : Int) - a3) hx hy hb (by omega) (m : Int) (i : Int) (by omega) (by omega) (by omega) (by omega) (m - i) 0 (by omega)
    rwa [Nat.zero_add] at this
  intro g
  induction g with
  | zero =>
    intro i h
    refine Ev.step (fun k => by rw [relex_Again.l0]) ?_
    simp only [if_neg (show ¬ (i : Int) < (m : Int) by omega), ah, Nat.add_zero]
    exact stop i (by omega)
  | succ g ih =>
    intro i h
    have w5 : wrap64 ((i : Int) + 1) = ((i + 1 : Nat) : Int) := by rw [w64 (by omega) (by omega)]; omega
    refine Ev.step (fun k => by rw [relex_Again.l0]) ?_
    rw [ah]
    simp only [w5, if_pos (show (i : Int) < (m : Int) by omega), if_pos (show (0 : Int) ≤ (i : Int) by omega), if_pos (show (i : Int) < (x.length : Int) by omega), if_pos (show (i : Int) < (y.length : Int) by omega)]
    by_cases hs : sq (rd_T34 x (i : Int)) (rd_T34 y (i : Int)) = true
    · rw [if_pos hs]
      unfold sq at hs
      simp only [if_pos hs]
      have := ih (i + 1) (by omega)
      rwa [show i + 1 + ah g x y (i + 1) = i + (ah g x y (i + 1) + 1) by omega] at this
    · rw [if_neg hs]
      unfold sq at hs
      simp only [if_neg hs, Nat.add_zero]
      exact stop i (by omega)
/-! ### Again as a whole -/
def agP (s : ByteArray) (ts : List Tk) (a c : Int) (put : ByteArray) : Prop := s.size ≤ 300 ∧ toks (byt s) = ts ∧ 0 ≤ a ∧ a ≤ (s.size : Int) ∧ 0 ≤ c ∧ c ≤ (s.size : Int) - a ∧ put.size ≤ 300
def edS (s : ByteArray) (a c : Int) (put : ByteArray) : ByteArray := ((s.extract 0 a.toNat) ++ put) ++ (s.extract (a + c).toNat s.size)
theorem edS_size {s : ByteArray} {a c : Int} {put : ByteArray} (h1 : 0 ≤ a) (h2 : a ≤ (s.size : Int)) (h3 : 0 ≤ c) (h4 : c ≤ (s.size : Int) - a) : (edS s a c put).size = a.toNat + put.size + (s.size - (a + c).toNat) := by
  unfold edS
  rw [ByteArray.size_append, ByteArray.size_append, ByteArray.size_extract, ByteArray.size_extract]
  omega
theorem toks_sz {s : ByteArray} (h : s.size ≤ 300) : (toks (byt s)).length ≤ 300 ∧ ∀ c ∈ toks (byt s), 0 ≤ c.f1 ∧ c.f1 ≤ 300 ∧ 0 ≤ c.f2 ∧ c.f2 ≤ 300 := by
  refine ⟨by have := toks_len (byt s); rw [byt_len] at this; omega, fun c hc => ?_⟩
  have := toks_bd hc; rw [byt_len] at this; omega
def agN (x y : List Tk) : Nat := ah (min x.length y.length) x y 0
def bhN (d : Int) (x y : List Tk) : Nat := bh (min x.length y.length - agN x y) d x y 0
theorem mn_nat (a b : Nat) : mn (a : Int) (b : Int) = ((min a b : Nat) : Int) := by unfold mn; split <;> omega
theorem Again_j0 {s : ByteArray} {ts : List Tk} {a c : Int} {put : ByteArray} (h : agP s ts a c put) :
    Ev (fun k => relex_Again.j0 k s a c put ts false) (if (edS s a c put).size ≤ 300 then (toks (byt (edS s a c put)), (agN ts (toks (byt (edS s a c put))) : Int), (bhN ((put.size : Int) - c) ts (toks (byt (edS s a c put))) : Int), 0) else ([], 0, 0, 1000)) := by
  obtain ⟨h1, rfl, h3, h4, h5, h6, h7⟩ := h
  have hz := edS_size (put := put) h3 h4 h5 h6
  have w0 : wrap64 (a + c) = a + c := w64 (by omega) (by omega)
  have z1 : (s.extract 0 a.toNat).size = a.toNat := by rw [ByteArray.size_extract]; omega
  have z2 : (s.extract (a + c).toNat s.size).size = s.size - (a + c).toNat := by rw [ByteArray.size_extract]; omega
  have z3 : ((s.extract 0 a.toNat) ++ put).size = a.toNat + put.size := by rw [ByteArray.size_append, z1]
  refine Ev.step (fun k => by rw [relex_Again.j0]) ?_
  simp only [Bool.false_eq_true, if_false, w0, if_pos h3, if_pos h4, if_pos (show (0 : Int) ≤ a + c by omega), if_pos (show a + c ≤ (s.size : Int) by omega), if_pos (show (s.extract 0 a.toNat).size + put.size ≤ 9223372036854775807 by omega), if_pos (show ((s.extract 0 a.toNat) ++ put).size + (s.extract (a + c).toNat s.size).size ≤ 9223372036854775807 by omega)]
  show Ev (fun k => (lex_Tokens.f (edS s a c put)).bind _) _
  by_cases hu : (edS s a c put).size ≤ 300
  · rw [tok_ev hu]
    simp only [if_pos hu, opt_some, if_true]
    rw [mn_nat]
    have q1 := toks_sz h1
    have q2 := toks_sz hu
    generalize toks (byt s) = x at q1
    generalize toks (byt (edS s a c put)) = y at q2
    have := ag_l0 x y c put q1.1 q2.1 q1.2 (by omega) h7 (min x.length y.length) (Nat.min_le_left _ _) (Nat.min_le_right _ _) (min x.length y.length) 0 (by omega)
    simp only [Nat.zero_add] at this
    exact this
  · rw [tok_big hu]
    simp only [if_neg hu, opt_some]
    exact Ev.now _
theorem Again_j0t (s : ByteArray) (a c : Int) (put : ByteArray) (ts : List Tk) : Ev (fun k => relex_Again.j0 k s a c put ts true) ([], 0, 0, 1000) := by
  refine Ev.step (fun k => by rw [relex_Again.j0]) ?_
  exact Ev.now _
open Classical in
noncomputable def agM (s : ByteArray) (ts : List Tk) (a c : Int) (put : ByteArray) : List Tk × Int × Int × Int :=
  if agP s ts a c put then (if (edS s a c put).size ≤ 300 then (toks (byt (edS s a c put)), (agN ts (toks (byt (edS s a c put))) : Int), (bhN ((put.size : Int) - c) ts (toks (byt (edS s a c put))) : Int), 0) else ([], 0, 0, 1000)) else ([], 0, 0, 1000)
theorem Again_ev (s : ByteArray) (ts : List Tk) (a c : Int) (put : ByteArray) (hs : s.size ≤ 140737488351232) : Ev (fun k => relex_Again.f k s ts a c put) (agM s ts a c put) := by
  refine Ev.congr (fun k => by rw [relex_Again.f]) ?_
  unfold agM
  by_cases h : agP s ts a c put
  · rw [if_pos h]
    obtain ⟨h1, h2, h3, h4, h5, h6, h7⟩ := h
    rw [tok_ev h1]
    simp only [opt_some, if_true]
    obtain ⟨b, e1, e2⟩ := eq_ev (toks (byt s)) ts (toks_sz h1).1
    rw [e2.2 h2] at e1
    refine Ev.bind e1 ?_
    have w0 : wrap64 ((s.size : Int) - a) = (s.size : Int) - a := w64 (by omega) (by omega)
    have ht : edit_There.f s a c = some true := by
      unfold edit_There.f
      rw [if_pos (show a ≥ 0 from h3), if_pos h4, if_pos (show c ≥ 0 from h5), w0, decide_eq_true h6]
    simp only [if_true, ht, opt_some]
    rw [decide_eq_false (show ¬ ((put.size : Int) > 300) by omega)]
    have := Again_j0 (s := s) (ts := ts) (a := a) (c := c) (put := put) ⟨h1, h2, h3, h4, h5, h6, h7⟩
    rw [h2]
    exact this
  · rw [if_neg h]
    by_cases h1 : s.size ≤ 300
    · rw [tok_ev h1]
      simp only [opt_some, if_true]
      obtain ⟨b, e1, e2⟩ := eq_ev (toks (byt s)) ts (toks_sz h1).1
      refine Ev.bind e1 ?_
      refine Ev_ite (fun hb => ?_) (fun hb => Again_j0t _ _ _ _ _)
      have h2 := e2.1 hb
      have bad : ∀ B : Bool, (B = true → (0 ≤ a ∧ a ≤ (s.size : Int) ∧ 0 ≤ c ∧ c ≤ (s.size : Int) - a)) → Ev (fun k => if B = true then relex_Again.j0 k s a c put (toks (byt s)) (decide ((put.size : Int) > 300)) else relex_Again.j0 k s a c put (toks (byt s)) true) ([], 0, 0, 1000) := by
        intro B hB
        refine Ev_ite (fun hb => ?_) (fun hb => Again_j0t _ _ _ _ _)
        obtain ⟨k3, k4, k5, k6⟩ := hB hb
        have : (put.size : Int) > 300 := by
          by_cases k7 : (put.size : Int) > 300
          · exact k7
          · exact absurd ⟨h1, h2, k3, k4, k5, k6, by omega⟩ h
        rw [decide_eq_true this]
        exact Again_j0t _ _ _ _ _
      unfold edit_There.f
      by_cases k3 : a ≥ 0
      · rw [if_pos k3]
        by_cases k4 : a ≤ (s.size : Int)
        · rw [if_pos k4]
          by_cases k5 : c ≥ 0
          · rw [if_pos k5]
            have w0 : wrap64 ((s.size : Int) - a) = (s.size : Int) - a := w64 (by omega) (by omega)
            rw [w0]
            simp only [opt_some]
            exact bad _ (fun hh => ⟨k3, k4, k5, of_decide_eq_true hh⟩)
          · rw [if_neg k5]; simp only [opt_some]; exact bad false (fun hh => by cases hh)
        · rw [if_neg k4]; simp only [opt_some]; exact bad false (fun hh => by cases hh)
      · rw [if_neg k3]; simp only [opt_some]; exact bad false (fun hh => by cases hh)
    · rw [tok_big h1]
      simp only [opt_some]
      simp only [show ((900 : Int) = 0) = False by simp, if_false]
      exact Again_j0t _ _ _ _ _
theorem Again_ok {s : ByteArray} {ts : List Tk} {a c : Int} {put : ByteArray} (h : agP s ts a c put) (hu : (edS s a c put).size ≤ 300) :
    Ev (fun k => relex_Again.f k s ts a c put) (toks (byt (edS s a c put)), (agN ts (toks (byt (edS s a c put))) : Int), (bhN ((put.size : Int) - c) ts (toks (byt (edS s a c put))) : Int), 0) := by
  have := Again_ev s ts a c put (by have := h.1; omega)
  unfold agM at this
  rwa [if_pos h, if_pos hu] at this
theorem Again_no {s : ByteArray} {ts : List Tk} {a c : Int} {put : ByteArray} (h : ¬ agP s ts a c put) (hs : s.size ≤ 140737488351232) : Ev (fun k => relex_Again.f k s ts a c put) ([], 0, 0, 1000) := by
  have := Again_ev s ts a c put hs
  unfold agM at this
  rwa [if_neg h] at this
end Go.Proofs.Ytnhkdpcncjkmlaa.Pl
