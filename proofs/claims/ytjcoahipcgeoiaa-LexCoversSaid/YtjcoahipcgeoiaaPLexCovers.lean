/- The plain law LexCovers. -/
import Derived.Test.YtjcoahipcgeoiaaLa
import Derived.Test.YtjcoahipcgeoiaaGMinuetlaw9PLexCovers
namespace Go.Proofs.Ytjcoahipcgeoiaa.Pl
open Go.RowKit Go.Proofs.Ytjcoahipcgeoiaa.G Go.Proofs.Ytjcoahipcgeoiaa.Lx Go.Proofs.YtjcoahipcgeoiaaW.PrintWords Go.Proofs.YtjcoahipcgeoiaaW.PrintLast
set_option linter.unusedVariables false
set_option linter.unusedSimpArgs false
theorem cov (s : ByteArray) (ts : List Tk) (hts : ts.length ≤ 300) : ∀ (n i : Nat) (l : List UInt8) (pre : List Tk), l.length ≤ n → i + l.length = s.size → ts = pre ++ tks n i l →
    (∀ c, pre.getLast? = some c → c.f0 = 10 → ∀ b, l.head? = some b → isB b = false) →
    Ev (fun k => minuetlaw9_LexCovers.l0 k s ts 0 (i : Int) (pre.length : Int)) true := by
  intro n
  induction n with
  | zero =>
    intro i l pre hn hi e hp
    have : l = [] := List.eq_nil_of_length_eq_zero (by omega)
    subst this
    refine Ev.step (fun k => by rw [minuetlaw9_LexCovers.l0]) ?_
    simp only [tks] at e
    simp only [if_neg (nlt_of e), num_eq, opt_some, if_true]
    rw [show ((i : Int) == (s.size : Int)) = true by simp at hi; simp [hi]]
    exact Ev.now _
  | succ n ih =>
    intro i l pre hn hi e hp
    cases l with
    | nil =>
      refine Ev.step (fun k => by rw [minuetlaw9_LexCovers.l0]) ?_
      simp only [tks] at e
      simp only [if_neg (nlt_of e), num_eq, opt_some, if_true]
      rw [show ((i : Int) == (s.size : Int)) = true by simp at hi; simp [hi]]
      exact Ev.now _
    | cons b r =>
      have h2 := tk_le (b := b) (r := r)
      have h3 := tk_kind (b :: r)
      simp only [tks] at e
      have hlt := lt_of e
      have hrd := rd_of e
      have h0 : (0 : Int) ≤ (pre.length : Int) := by omega
      have go := ih (i + (tk (b :: r)).2) ((b :: r).drop (tk (b :: r)).2) (pre ++ [⟨(tk (b :: r)).1, (i : Int), ((i + (tk (b :: r)).2 : Nat) : Int)⟩])
        (by rw [List.length_drop]; omega) (by rw [List.length_drop]; omega) (by rw [e]; simp) (by
          intro c hc h10 d hd
          simp only [List.getLast?_concat, Option.some.injEq] at hc
          subst hc
          simp only at h10
          rw [tk_blank h10] at hd
          exact run_stop _ _ _ hd)
      rw [List.length_append, List.length_singleton] at go
      refine Ev.step (fun k => by rw [minuetlaw9_LexCovers.l0]) ?_
      rw [hrd]
      have hw : wrap64 ((pre.length : Int) + 1) = ((pre.length + 1 : Nat) : Int) := by rw [w64 (by omega) (by omega)]; omega
      have a1 : ¬ (((i + (tk (b :: r)).2 : Nat) : Int) ≤ (i : Int)) := by omega
      have a2 : ¬ (((i + (tk (b :: r)).2 : Nat) : Int) > (s.size : Int)) := by omega
      have a3 : ¬ ((tk (b :: r)).1 < 0) := by omega
      have a4 : ¬ ((tk (b :: r)).1 > 11) := by omega
      simp only [if_pos hlt, if_pos h0, if_true, if_neg a1, if_neg a2, if_neg a3, if_neg a4, hw]
      refine Ev_ite (fun c1 => Ev_ite (fun c2 => ?_) (fun _ => go)) (fun _ => go)
      have hw2 : wrap64 ((pre.length : Int) - 1) = ((pre.length - 1 : Nat) : Int) := by rw [w64 (by omega) (by omega)]; omega
      have b1 : (0 : Int) ≤ ((pre.length - 1 : Nat) : Int) := by omega
      have b2 : ((pre.length - 1 : Nat) : Int) < (ts.length : Int) := by omega
      simp only [hw2, if_pos b1, if_pos b2]
      obtain ⟨p0, c, hc⟩ : ∃ p0 c, pre = p0 ++ [c] := ⟨pre.dropLast, pre.getLast (by intro h; subst h; simp at c1), (List.dropLast_concat_getLast _).symm⟩
      have hr2 : rd_T34 ts ((pre.length - 1 : Nat) : Int) = c := by
        have : ts = p0 ++ c :: (⟨(tk (b :: r)).1, (i : Int), ((i + (tk (b :: r)).2 : Nat) : Int)⟩ :: tks n (i + (tk (b :: r)).2) ((b :: r).drop (tk (b :: r)).2)) := by rw [e, hc]; simp
        have := rd_of this
        rw [hc, List.length_append, List.length_singleton, Nat.add_sub_cancel]
        exact this
      rw [hr2]
      have hn10 : ¬ c.f0 = 10 := by
        intro h10
        have := hp c (by rw [hc]; simp) h10 b rfl
        rw [tk_head c2] at this; cases this
      simp only [if_neg hn10]
      exact go
theorem LexCovers_pure (s : ByteArray) (hs : s.size ≤ 140737488351232) : ∃ k, minuetlaw9_LexCovers.f k s = some true := by
  refine Ev.rounds (Ev.congr (fun k => by rw [minuetlaw9_LexCovers.f]) ?_)
  refine Ev.bind awake_ev ?_
  simp only [if_true]
  by_cases h : s.size ≤ 300
  · rw [tok_ev h]
    simp only [opt_some, if_neg (show ¬ ((s.size : Int) > 300) by omega)]
    have hl := toks_len (byt s)
    have hb := byt_len s
    exact cov s (toks (byt s)) (by omega) (byt s).length 0 (byt s) [] (Nat.le_refl _) (by omega) rfl (by intro c hc; simp at hc)
  · rw [tok_big h]
    simp only [opt_some, if_pos (show ((s.size : Int) > 300) by omega), List.length_nil, num_eq]
    exact Ev.now _
end Go.Proofs.Ytjcoahipcgeoiaa.Pl
