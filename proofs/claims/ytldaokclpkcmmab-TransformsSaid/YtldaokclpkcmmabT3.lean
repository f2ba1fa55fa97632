/- What the reference's Transform comes to: the model of T1. -/
import Derived.Test.YtldaokclpkcmmabT2
import Derived.Test.YtldaokclpkcmmabK3r
import Derived.Test.YtldaokclpkcmmabGMinuetref1PTransform
namespace Go.Proofs.Ytldaokclpkcmmab.Pl
open Go.RowKit Go.Proofs.Ytldaokclpkcmmab.G Go.Proofs.YtldaokclpkcmmabW.PrintWords Go.Proofs.YtldaokclpkcmmabW.PrintLast
set_option linter.unusedVariables false
set_option linter.unusedSimpArgs false
theorem rwhole_ev (P Q : List Cm) : Ev (fun k => minuetref1_whole.f k P Q) (trE P Q) := by
  unfold minuetref1_whole.f trE
  refine Ev.bind (rCompsMay_ev P) ?_
  by_cases hp : mayB P = true
  · simp only [hp, if_true, true_and]
    refine Ev.bind (rCompsMay_ev Q) ?_
    by_cases hq : mayB Q = true
    · simp only [hq, if_true]; exact Ev.now _
    · simp only [hq, if_false, Bool.false_eq_true]; exact Ev.now _
  · simp only [hp, if_false, false_and, Bool.false_eq_true]; exact Ev.now _
theorem rp_nil {cs r : List Cm} {i p : Int} (h : RrOk cs i r p) (e : rep r p = []) : ∃ z, Rr.peek cs i p = some (z, false) := by
  cases r with
  | nil => exact rr_peek_nil h
  | cons x r => simp only [rep] at e; cases e
theorem rp_cons {cs r A : List Cm} {c : Cm} {i p : Int} (h : RrOk cs i r p) (e : rep r p = c :: A) : Rr.peek cs i p = some (c, true) := by
  cases r with
  | nil => simp only [rep] at e; cases e
  | cons x r =>
    simp only [rep] at e
    injection e with e1 e2
    subst e1 e2
    exact rr_peek h
theorem rp_any {cs r A : List Cm} {i p : Int} (h : RrOk cs i r p) (e : rep r p = A) : ∃ z : Cm, Rr.peek cs i p = some (z, !A.isEmpty) ∧ ∀ c A', A = c :: A' → z = c := by
  cases A with
  | nil => obtain ⟨z, hz⟩ := rp_nil h e; exact ⟨z, hz, fun c A' h => by cases h⟩
  | cons c A => exact ⟨c, rp_cons h e, fun d A' h => by injection h⟩
theorem rt_all {cs r A : List Cm} {c : Cm} {i p : Int} (h : RrOk cs i r p) (e : rep r p = c :: A) : ∃ i' r' p', Rr.take cs i p 4096 = some (c, i', p') ∧ rep r' p' = A ∧ RrOk cs i' r' p' := by
  cases r with
  | nil => simp only [rep] at e; cases e
  | cons x r =>
    simp only [rep] at e
    injection e with e1 e2
    subst e1 e2
    exact rr_whole h
theorem rt_some {cs r A : List Cm} {c : Cm} {i p : Int} (h : RrOk cs i r p) (e : rep r p = c :: A) {m : Int} (h0 : 0 ≤ m) (h1 : m ≤ sz c) : ∃ i' r' p', Rr.take cs i p m = some (hd m c, i', p') ∧ rep r' p' = rst m c A ∧ RrOk cs i' r' p' := by
  cases r with
  | nil => simp only [rep] at e; cases e
  | cons x r =>
    simp only [rep] at e
    injection e with e1 e2
    subst e1 e2
    exact rr_take h (by unfold Rr.mini; split <;> omega) h0 h1
theorem rTransform_l0 (xs ys : List Cm) (f : Bool) : ∀ (n : Nat) (A B : List Cm) (ia ib : Int) (ra rb : List Cm) (pa pb : Int) (p q : List Cm), rep ra pa = A → rep rb pb = B → A.length + B.length ≤ n → n ≤ 65536 → RrOk xs ia ra pa → RrOk ys ib rb pb → froms A = froms B →
    (∀ c ∈ p, good c) → (∀ c ∈ q, good c) → tot p + tot A + tot B ≤ 1099511627776 → tot q + tot A + tot B ≤ 1099511627776 → p.length + n ≤ 1048576 → q.length + n ≤ 1048576 →
    Ev (fun k => minuetref1_Transform.l0 k xs ys f ia pa ib pb p q) (trE ((tr n f A B).1.foldl add p) ((tr n f A B).2.foldl add q)) := by
  intro n
  induction n with
  | zero =>
    intro A B ia ib ra rb pa pb p q eA eB hn hm ha hb hbal hp hq tp tq lp lq
    have e1 : A = [] := List.eq_nil_of_length_eq_zero (by omega)
    have e2 : B = [] := List.eq_nil_of_length_eq_zero (by omega)
    subst e1 e2
    obtain ⟨z1, s1⟩ := rp_nil ha eA; obtain ⟨z2, s2⟩ := rp_nil hb eB
    refine Ev.step (fun k => by rw [minuetref1_Transform.l0]) ?_
    simp only [s1, s2, Option.bind_some, and_self, if_true, tr, List.foldl_nil]
    exact rwhole_ev p q
  | succ n ih =>
    intro A B ia ib ra rb pa pb p q eA eB hn hm ha hb hbal hp hq tp tq lp lq
    have oa := rep_ok ha.ok; have ob := rep_ok hb.ok
    rw [eA] at oa
    rw [eB] at ob
    have ta := tot_nonneg (okA_good oa); have tb := tot_nonneg (okA_good ob)
    have putA : ∀ (c : Cm) (A' : List Cm), A = c :: A' → c.f0 = 1 → (f = true ∨ ∀ d B', B = d :: B' → d.f0 ≠ 1) → Ev (fun k => minuetref1_Transform.l0 k xs ys f ia pa ib pb p q) (trE ((c :: (tr n f A' B).1).foldl add p) ((kpc (sz c) :: (tr n f A' B).2).foldl add q)) := by
      intro c A' e kc hk
      subst e
      have s1 := rp_cons ha eA
      obtain ⟨z2, s2, z2e⟩ := rp_any hb eB
      have hc' := oa c List.mem_cons_self
      have hcp := pos hc'
      have hcs := sz_1 hc'.1 kc
      obtain ⟨i', r', p', et, er, hr'⟩ := rt_all ha eA
      simp only [tot] at tp tq ta
      simp only [List.length_cons] at hn
      rw [froms_put kc] at hbal
      have tA := tot_nonneg (okA_good (okA_tail oa))
      have hgk := kpc_good (k := sz c) (by omega)
      have hadd := rAdd_ev p c hp hc'.1 (by omega) (by omega)
      have hadq := rAdd_ev q (kpc (sz c)) hq hgk (by rw [kpc_sz]; omega) (by omega)
      have := ih A' B i' ib r' rb p' pb (add p c) (add q (kpc (sz c))) er eB (by omega) (by omega) hr' hb hbal (add_good hp hc'.1) (add_good hq hgk) (by rw [tot_add hp hc'.1]; omega) (by rw [tot_add hq hgk, kpc_sz]; omega) (by have := add_len p c; omega) (by have := add_len q (kpc (sz c)); omega)
      refine Ev.step (fun k => by rw [minuetref1_Transform.l0]) ?_
      have hk' : f = true ∨ ¬ ((!B.isEmpty) = true ∧ z2.f0 = 1) := by
        rcases hk with h | h
        · exact .inl h
        · refine .inr ?_
          intro hz
          cases B with
          | nil => simp at hz
          | cons d B => exact h d B rfl (by rw [← z2e d B rfl]; exact hz.2)
      simp only [s1, s2, Option.bind_some, Bool.true_eq_false, false_and, if_false, true_and, if_pos (show c.f0 = 1 ∧ (f = true ∨ ¬ ((!B.isEmpty) = true ∧ z2.f0 = 1)) from ⟨kc, hk'⟩), et, ← hcs, List.foldl_cons]
      exact Ev.bind hadd (Ev.bind hadq this)
    have putB : ∀ (d : Cm) (B' : List Cm), B = d :: B' → d.f0 = 1 → (∀ c A', A = c :: A' → ¬ (c.f0 = 1 ∧ f = true)) → Ev (fun k => minuetref1_Transform.l0 k xs ys f ia pa ib pb p q) (trE ((kpc (sz d) :: (tr n f A B').1).foldl add p) ((d :: (tr n f A B').2).foldl add q)) := by
      intro d B' e kd hk
      subst e
      have s2 := rp_cons hb eB
      obtain ⟨z1, s1, z1e⟩ := rp_any ha eA
      have hd' := ob d List.mem_cons_self
      have hdp := pos hd'
      have hds := sz_1 hd'.1 kd
      obtain ⟨i', r', p', et, er, hr'⟩ := rt_all hb eB
      simp only [tot] at tp tq tb
      simp only [List.length_cons] at hn
      rw [froms_put kd] at hbal
      have tB := tot_nonneg (okA_good (okA_tail ob))
      have hgk := kpc_good (k := sz d) (by omega)
      have hadd := rAdd_ev p (kpc (sz d)) hp hgk (by rw [kpc_sz]; omega) (by omega)
      have hadq := rAdd_ev q d hq hd'.1 (by omega) (by omega)
      have := ih A B' ia i' ra r' pa p' (add p (kpc (sz d))) (add q d) eA er (by omega) (by omega) ha hr' hbal (add_good hp hgk) (add_good hq hd'.1) (by rw [tot_add hp hgk, kpc_sz]; omega) (by rw [tot_add hq hd'.1]; omega) (by have := add_len p (kpc (sz d)); omega) (by have := add_len q d; omega)
      refine Ev.step (fun k => by rw [minuetref1_Transform.l0]) ?_
      have hk' : ¬ (((!A.isEmpty) = true ∧ z1.f0 = 1) ∧ (f = true ∨ ¬ (True ∧ d.f0 = 1))) := by
        intro hz
        have hf : f = true := by rcases hz.2 with h | h; exact h; exact absurd ⟨True.intro, kd⟩ h
        cases A with
        | nil => simp at hz
        | cons c A => exact hk c A rfl ⟨by rw [← z1e c A rfl]; exact hz.1.2, hf⟩
      simp only [true_and] at hk'
      simp only [s1, s2, Option.bind_some, Bool.true_eq_false, and_false, if_false, true_and, if_neg hk', if_pos kd, et, ← hds, List.foldl_cons]
      exact Ev.bind hadq (Ev.bind hadd this)
    cases A with
    | nil =>
      obtain ⟨z1, s1⟩ := rp_nil ha eA
      cases B with
      | nil =>
        obtain ⟨z2, s2⟩ := rp_nil hb eB
        refine Ev.step (fun k => by rw [minuetref1_Transform.l0]) ?_
        simp only [s1, s2, Option.bind_some, and_self, if_true, tr, List.foldl_nil]
        exact rwhole_ev p q
      | cons d B =>
        have hd' := ob d List.mem_cons_self
        have hf := froms_le (okA_good (okA_tail ob))
        have hdp := pos hd'
        have kd : d.f0 = 1 := by
          apply Classical.byContradiction
          intro kn
          rw [froms_cons hd'.1, ← sz_n hd'.1 kn] at hbal
          simp only [froms] at hbal; omega
        simp only [tr, if_pos kd]
        exact putB d B rfl kd (fun c A' h => by cases h)
    | cons c A =>
      have s1 := rp_cons ha eA
      have hc' := oa c List.mem_cons_self
      have hcp := pos hc'
      cases B with
      | nil =>
        have hf := froms_le (okA_good (okA_tail oa))
        have kc : c.f0 = 1 := by
          apply Classical.byContradiction
          intro kn
          rw [froms_cons hc'.1, ← sz_n hc'.1 kn] at hbal
          simp only [froms] at hbal; omega
        simp only [tr, if_pos kc]
        exact putA c A rfl kc (.inr (fun d B' h => by cases h))
      | cons d B =>
        have s2 := rp_cons hb eB
        have hd' := ob d List.mem_cons_self
        have hdp := pos hd'
        by_cases kk : c.f0 = 1 ∧ (f = true ∨ d.f0 ≠ 1)
        · simp only [tr, if_pos kk]
          exact putA c A rfl kk.1 (by rcases kk.2 with h | h; exact .inl h; exact .inr (fun d' B' e => by injection e with e1 e2; rw [← e1]; exact h))
        · by_cases kd : d.f0 = 1
          · simp only [tr, if_neg kk, if_pos kd]
            exact putB d B rfl kd (fun c' A' e h => by injection e with e1 e2; exact kk ⟨by rw [e1]; exact h.1, .inl h.2⟩)
          · have kc : ¬ c.f0 = 1 := fun h => kk ⟨h, .inr kd⟩
            have hck := hc'.1.2.1; have hdk := hd'.1.2.1
            obtain ⟨q1, q2, q3⟩ := mn_le (sz c) (sz d)
            simp only [tr, if_neg kk, if_neg kd]
            refine Ev.step (fun k => by rw [minuetref1_Transform.l0]) ?_
            have emn : Rr.mini (sz c) (sz d) = mn (sz c) (sz d) := rfl
            simp only [s1, s2, Option.bind_some, Bool.true_eq_false, and_self, if_false, true_and, if_true, if_neg kk, if_neg kd, rsize_eq _ hc'.1, rsize_eq _ hd'.1, emn]
            generalize mn (sz c) (sz d) = m at q1 q2 q3 ⊢
            have m0 : 0 ≤ m := by omega
            obtain ⟨ia', ra', pa', ea, era, hra⟩ := rt_some ha eA m0 q1
            obtain ⟨ib', rb', pb', eb, erb, hrb⟩ := rt_some hb eB m0 q2
            have e1 := rst_froms (A := A) hc'.1 m0 q1
            have e2 := rst_froms (A := B) hd'.1 m0 q2
            rw [if_neg kc] at e1
            rw [if_neg kd] at e2
            have t1 := rst_tot (A := A) hc'.1 m0 q1
            have t2 := rst_tot (A := B) hd'.1 m0 q2
            have g1 := hd_good hc'.1 m0; have g2 := hd_good hd'.1 m0
            have z1 := hd_sz hc'.1 m0 q1; have z2 := hd_sz hd'.1 m0 q2
            have tA := tot_nonneg (okA_good (okA_tail oa)); have tB := tot_nonneg (okA_good (okA_tail ob))
            simp only [tot] at t1 t2 tp tq
            simp only [List.length_cons] at hn
            have hlen : (rst m c A).length + (rst m d B).length ≤ n := by
              rcases q3 with q3 | q3
              · have := rst_len m d B
                have := rst_len' (c := c) A
                rw [← q3] at this; omega
              · have := rst_len m c A
                have := rst_len' (c := d) B
                rw [← q3] at this; omega
            have next : ∀ o u : List Cm, (∀ c ∈ o, good c) → (∀ c ∈ u, good c) → tot o ≤ tot p + m → tot u ≤ tot q + m → o.length ≤ p.length + 1 → u.length ≤ q.length + 1 →
                Ev (fun k => minuetref1_Transform.l0 k xs ys f ia' pa' ib' pb' o u) (trE ((tr n f (rst m c A) (rst m d B)).1.foldl add o) ((tr n f (rst m c A) (rst m d B)).2.foldl add u)) := by
              intro o u og ug ot ut ol ul
              exact ih _ _ ia' ib' ra' rb' pa' pb' o u era erb hlen (by omega) hra hrb (by omega) og ug (by omega) (by omega) (by omega) (by omega)
            simp only [ea, eb, Option.bind_some, hd_k]
            have hadp := rAdd_ev p (hd m c) hp g1 (by omega) (by omega)
            have hadq := rAdd_ev q (hd m d) hq g2 (by omega) (by omega)
            rw [hd_k] at hadp hadq
            have lp1 := add_len p (hd m c); have lq1 := add_len q (hd m d)
            have tp1 := tot_add hp g1; have tq1 := tot_add hq g2
            have gp1 := add_good hp g1; have gq1 := add_good hq g2
            by_cases kd0 : d.f0 = 0
            · by_cases kc0 : c.f0 = 0
              · simp only [if_pos kd0, if_pos kc0, List.singleton_append, List.foldl_cons]
                exact Ev.bind hadp (Ev.bind hadq (next _ _ gp1 gq1 (by omega) (by omega) (by omega) (by omega)))
              · simp only [if_pos kd0, if_neg kc0, List.singleton_append, List.foldl_cons, List.nil_append, Option.bind_some]
                exact Ev.bind hadp (next _ _ gp1 hq (by omega) (by omega) (by omega) (by omega))
            · by_cases kc0 : c.f0 = 0
              · simp only [if_neg kd0, if_pos kc0, List.singleton_append, List.foldl_cons, List.nil_append, Option.bind_some]
                exact Ev.bind hadq (next _ _ hp gq1 (by omega) (by omega) (by omega) (by omega))
              · simp only [if_neg kd0, if_neg kc0, List.nil_append, Option.bind_some]
                exact next _ _ hp hq (by omega) (by omega) (by omega) (by omega)
theorem rTransform_ev (a b : List Cm) (f : Bool) : Ev (fun k => minuetref1_Transform.f k a b f) (trM f a b) := by
  refine Ev.congr (fun k => by rw [minuetref1_Transform.f]) (Ev.bind (rLengths_ev a) ?_)
  refine Ev.bind (rLengths_ev b) ?_
  unfold trM
  by_cases ha : mayB a = true
  · rw [lens_ok a ha]
    by_cases hb : mayB b = true
    · rw [lens_ok b hb]
      simp only [ha, hb, true_and]
      by_cases e : froms a = froms b
      · simp only [e, if_true, true_and]
        obtain ⟨a1, a2, a3⟩ := may_bounds ha
        obtain ⟨b1, b2, b3⟩ := may_bounds hb
        have := rTransform_l0 a b f (a.length + b.length) a b 0 0 a b 0 0 [] [] (rep_zero a) (rep_zero b) (Nat.le_refl _) (by omega) (RrOk.start (may_ok ha) (may_small ha)) (RrOk.start (may_ok hb) (may_small hb)) e no_good no_good (by simp only [tot]; omega) (by simp only [tot]; omega) (by simp only [List.length_nil]; omega) (by simp only [List.length_nil]; omega)
        exact this
      · simp only [e, if_false, false_and]; exact Ev.now _
    · rw [lens_err b hb]
      simp only [Int.reduceEq, false_and, and_false, if_false, hb, Bool.false_eq_true, and_false]
      exact Ev.now _
  · rw [lens_err a ha]
    simp only [Int.reduceEq, false_and, if_false, ha, Bool.false_eq_true]
    exact Ev.now _
end Go.Proofs.Ytldaokclpkcmmab.Pl
