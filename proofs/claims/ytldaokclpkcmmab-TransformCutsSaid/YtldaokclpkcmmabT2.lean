/- What transform.Transform comes to: the model of T1. -/
import Derived.Test.YtldaokclpkcmmabT1
import Derived.Test.YtldaokclpkcmmabK1r
import Derived.Test.YtldaokclpkcmmabGTransformPTransform
namespace Go.Proofs.Ytldaokclpkcmmab.Pl
open Go.RowKit Go.Proofs.Ytldaokclpkcmmab.G Go.Proofs.YtldaokclpkcmmabW.PrintWords Go.Proofs.YtldaokclpkcmmabW.PrintLast
set_option linter.unusedVariables false
set_option linter.unusedSimpArgs false
def trE (P Q : List Cm) : List Cm × List Cm × Int := if mayB P = true ∧ mayB Q = true then (P, Q, 0) else ([], [], 500)
theorem trmini_mn (x y : Int) : transform_Transform.mini x y = mn x y := rfl
theorem tr_nil (n : Nat) (f : Bool) : tr n f [] [] = ([], []) := by cases n <;> rfl
theorem Tfin_ev (P Q : List Cm) : Ev (fun k => transform_Transform.fin k P Q) (trE P Q) := by
  unfold transform_Transform.fin trE
  refine Ev.bind (May_ev P) ?_
  by_cases hp : mayB P = true
  · simp only [hp, if_true, true_and]
    refine Ev.bind (May_ev Q) ?_
    by_cases hq : mayB Q = true
    · simp only [hq, if_true]; exact Ev.now _
    · simp only [hq, if_false, Bool.false_eq_true]; exact Ev.now _
  · simp only [hp, if_false, false_and, Bool.false_eq_true]; exact Ev.now _
theorem kd_nil (p : Int) (r : List Cm) (h : rep r p = []) : Rd.kd r = -1 := by have := rd_kd r p; rw [h] at this; exact this
theorem kd_cons {p : Int} {r A : List Cm} {c : Cm} (h : rep r p = c :: A) : Rd.kd r = c.f0 := by have := rd_kd r p; rw [h] at this; exact this
theorem take_all {p : Int} {r A : List Cm} {c : Cm} (h : RdOk r p) (e : rep r p = c :: A) : ∃ r' p', Rd.take r p (sz c) = some (c, r', p') ∧ rep r' p' = A ∧ RdOk r' p' := by
  cases r with
  | nil => simp only [rep] at e; cases e
  | cons x r =>
    have o := rep_ok h
    simp only [rep] at e o
    injection e with e1 e2
    subst e1 e2
    have hc := o (tl p x) List.mem_cons_self
    obtain ⟨r', p', e, er, hr⟩ := rd_take h (k := sz (tl p x)) (by have := pos hc; omega) (Int.le_refl _)
    rw [hd_all hc.1] at e
    unfold rst at er; rw [if_pos rfl] at er
    exact ⟨r', p', e, er, hr⟩
theorem take_some {p : Int} {r A : List Cm} {c : Cm} (h : RdOk r p) (e : rep r p = c :: A) {m : Int} (h0 : 0 ≤ m) (h1 : m ≤ sz c) : ∃ r' p', Rd.take r p m = some (hd m c, r', p') ∧ rep r' p' = rst m c A ∧ RdOk r' p' := by
  cases r with
  | nil => simp only [rep] at e; cases e
  | cons x r =>
    simp only [rep] at e
    injection e with e1 e2
    subst e1 e2
    obtain ⟨r', p', e, er, hr⟩ := rd_take h h0 h1
    exact ⟨r', p', e, er, hr⟩
theorem Transform_l0 (f : Bool) : ∀ (n : Nat) (A B : List Cm) (ra rb : List Cm) (pa pb : Int) (p q : List Cm), rep ra pa = A → rep rb pb = B → A.length + B.length ≤ n → n ≤ 65536 → RdOk ra pa → RdOk rb pb → froms A = froms B →
    (∀ c ∈ p, good c) → (∀ c ∈ q, good c) → tot p + tot A + tot B ≤ 1099511627776 → tot q + tot A + tot B ≤ 1099511627776 → p.length + n ≤ 1048576 → q.length + n ≤ 1048576 →
    Ev (fun k => transform_Transform.l0 k f ra pa rb pb p q) (trE ((tr n f A B).1.foldl add p) ((tr n f A B).2.foldl add q)) := by
  intro n
  induction n with
  | zero =>
    intro A B ra rb pa pb p q eA eB hn hm ha hb hbal hp hq tp tq lp lq
    have e1 : A = [] := List.eq_nil_of_length_eq_zero (by omega)
    have e2 : B = [] := List.eq_nil_of_length_eq_zero (by omega)
    subst e1 e2
    have k1 := kd_nil _ _ eA; have k2 := kd_nil _ _ eB
    have s1 := rd_sz ha; have s2 := rd_sz hb
    rw [eA] at s1
    rw [eB] at s2
    refine Ev.step (fun k => by rw [transform_Transform.l0]) ?_
    simp only [s1, s2, Option.bind_some, k1, k2, if_pos (show (-1 : Int) < 0 ∧ (-1 : Int) < 0 by omega), tr, List.foldl_nil]
    exact Tfin_ev p q
  | succ n ih =>
    intro A B ra rb pa pb p q eA eB hn hm ha hb hbal hp hq tp tq lp lq
    have oa := rep_ok ha; have ob := rep_ok hb
    have s1 := rd_sz ha; have s2 := rd_sz hb
    rw [eA] at oa s1
    rw [eB] at ob s2
    have ta := tot_nonneg (okA_good oa); have tb := tot_nonneg (okA_good ob)
    have putA : ∀ (c : Cm) (A' : List Cm), A = c :: A' → c.f0 = 1 → (f = true ∨ Rd.kd rb ≠ 1) → Ev (fun k => transform_Transform.l0 k f ra pa rb pb p q) (trE ((c :: (tr n f A' B).1).foldl add p) ((kpc (sz c) :: (tr n f A' B).2).foldl add q)) := by
      intro c A' e kc hk
      subst e
      have k1 := kd_cons eA
      have hc' := oa c List.mem_cons_self
      have hcp := pos hc'
      obtain ⟨r', p', et, er, hr'⟩ := take_all ha eA
      simp only [tot] at tp tq ta
      simp only [List.length_cons] at hn
      rw [froms_put kc] at hbal
      have tA := tot_nonneg (okA_good (okA_tail oa))
      have hgk := kpc_good (k := sz c) (by omega)
      have hadd := Add_ev p c hp hc'.1 (by omega) (by omega)
      have hadq := Add_ev q (kpc (sz c)) hq hgk (by rw [kpc_sz]; omega) (by omega)
      have := ih A' B r' rb p' pb (add p c) (add q (kpc (sz c))) er eB (by omega) (by omega) hr' hb hbal (add_good hp hc'.1) (add_good hq hgk) (by rw [tot_add hp hc'.1]; omega) (by rw [tot_add hq hgk, kpc_sz]; omega) (by have := add_len p c; omega) (by have := add_len q (kpc (sz c)); omega)
      simp only at s1
      refine Ev.step (fun k => by rw [transform_Transform.l0]) ?_
      simp only [s1, s2, Option.bind_some, k1, if_neg (show ¬ (c.f0 < 0 ∧ Rd.kd rb < 0) by omega), if_pos (show c.f0 = 1 ∧ (f = true ∨ Rd.kd rb ≠ 1) from ⟨kc, hk⟩), et, List.foldl_cons]
      exact Ev.bind hadd (Ev.bind hadq this)
    have putB : ∀ (d : Cm) (B' : List Cm), B = d :: B' → d.f0 = 1 → ¬ (Rd.kd ra = 1 ∧ (f = true ∨ Rd.kd rb ≠ 1)) → Ev (fun k => transform_Transform.l0 k f ra pa rb pb p q) (trE ((kpc (sz d) :: (tr n f A B').1).foldl add p) ((d :: (tr n f A B').2).foldl add q)) := by
      intro d B' e kd hk
      subst e
      have k2 := kd_cons eB
      have hd' := ob d List.mem_cons_self
      have hdp := pos hd'
      obtain ⟨r', p', et, er, hr'⟩ := take_all hb eB
      simp only [tot] at tp tq tb
      simp only [List.length_cons] at hn
      rw [froms_put kd] at hbal
      have tB := tot_nonneg (okA_good (okA_tail ob))
      have hgk := kpc_good (k := sz d) (by omega)
      have hadd := Add_ev p (kpc (sz d)) hp hgk (by rw [kpc_sz]; omega) (by omega)
      have hadq := Add_ev q d hq hd'.1 (by omega) (by omega)
      have := ih A B' ra r' pa p' (add p (kpc (sz d))) (add q d) eA er (by omega) (by omega) ha hr' hbal (add_good hp hgk) (add_good hq hd'.1) (by rw [tot_add hp hgk, kpc_sz]; omega) (by rw [tot_add hq hd'.1]; omega) (by have := add_len p (kpc (sz d)); omega) (by have := add_len q d; omega)
      simp only at s2
      refine Ev.step (fun k => by rw [transform_Transform.l0]) ?_
      rw [k2] at hk
      simp only [s1, s2, Option.bind_some, k2, if_neg (show ¬ (Rd.kd ra < 0 ∧ d.f0 < 0) by omega), if_neg hk, if_pos kd, et, List.foldl_cons]
      exact Ev.bind hadd (Ev.bind hadq this)
    cases A with
    | nil =>
      have k1 := kd_nil _ _ eA
      cases B with
      | nil =>
        have k2 := kd_nil _ _ eB
        refine Ev.step (fun k => by rw [transform_Transform.l0]) ?_
        simp only [s1, s2, Option.bind_some, k1, k2, if_pos (show (-1 : Int) < 0 ∧ (-1 : Int) < 0 by omega), tr, List.foldl_nil]
        exact Tfin_ev p q
      | cons d B =>
        have hd' := ob d List.mem_cons_self
        have hf := froms_le (okA_good (okA_tail ob))
        have hdp := pos hd'
        have kd : d.f0 = 1 := by
          apply Classical.byContradiction
          intro kn
          rw [froms_cons hd'.1, ← sz_n hd'.1 kn] at hbal
          simp only [froms] at hbal; omega
        simp only [tr, if_pos kd]
        exact putB d B rfl kd (by omega)
    | cons c A =>
      have k1 := kd_cons eA
      have hc' := oa c List.mem_cons_self
      have hcp := pos hc'
      cases B with
      | nil =>
        have k2 := kd_nil _ _ eB
        have hf := froms_le (okA_good (okA_tail oa))
        have kc : c.f0 = 1 := by
          apply Classical.byContradiction
          intro kn
          rw [froms_cons hc'.1, ← sz_n hc'.1 kn] at hbal
          simp only [froms] at hbal; omega
        simp only [tr, if_pos kc]
        exact putA c A rfl kc (.inr (by omega))
      | cons d B =>
        have k2 := kd_cons eB
        have hd' := ob d List.mem_cons_self
        have hdp := pos hd'
        by_cases kk : c.f0 = 1 ∧ (f = true ∨ d.f0 ≠ 1)
        · simp only [tr, if_pos kk]
          exact putA c A rfl kk.1 (by rw [k2]; exact kk.2)
        · by_cases kd : d.f0 = 1
          · simp only [tr, if_neg kk, if_pos kd]
            exact putB d B rfl kd (by rw [k1, k2]; exact kk)
          · have kc : ¬ c.f0 = 1 := fun h => kk ⟨h, .inr kd⟩
            have hck := hc'.1.2.1; have hdk := hd'.1.2.1
            obtain ⟨q1, q2, q3⟩ := mn_le (sz c) (sz d)
            simp only [tr, if_neg kk, if_neg kd]
            simp only at s1 s2
            refine Ev.step (fun k => by rw [transform_Transform.l0]) ?_
            simp only [s1, s2, Option.bind_some, k1, k2, if_neg (show ¬ (c.f0 < 0 ∧ d.f0 < 0) by omega), if_neg kk, if_neg kd, trmini_mn]
            generalize mn (sz c) (sz d) = m at q1 q2 q3 ⊢
            have m0 : 0 ≤ m := by omega
            obtain ⟨ra', pa', ea, era, hra⟩ := take_some ha eA m0 q1
            obtain ⟨rb', pb', eb, erb, hrb⟩ := take_some hb eB m0 q2
            have e1 := rst_froms (A := A) hc'.1 m0 q1
            have e2 := rst_froms (A := B) hd'.1 m0 q2
            rw [if_neg kc] at e1
            rw [if_neg kd] at e2
            have t1 := rst_tot (A := A) hc'.1 m0 q1
            have t2 := rst_tot (A := B) hd'.1 m0 q2
            have g1 := hd_good hc'.1 m0; have g2 := hd_good hd'.1 m0
            have z1 := hd_sz hc'.1 m0 q1; have z2 := hd_sz hd'.1 m0 q2
            have tA := tot_nonneg (okA_good (okA_tail oa)); have tB := tot_nonneg (okA_good (okA_tail ob))
            simp only [tot] at t1 t2 tp tq
            simp only [List.length_cons] at hn
            have hlen : (rst m c A).length + (rst m d B).length ≤ n := by
              rcases q3 with q3 | q3
              · have := rst_len m d B
                have := rst_len' (c := c) A
                rw [← q3] at this; omega
              · have := rst_len m c A
                have := rst_len' (c := d) B
                rw [← q3] at this; omega
            have next : ∀ o u : List Cm, (∀ c ∈ o, good c) → (∀ c ∈ u, good c) → tot o ≤ tot p + m → tot u ≤ tot q + m → o.length ≤ p.length + 1 → u.length ≤ q.length + 1 →
                Ev (fun k => transform_Transform.l0 k f ra' pa' rb' pb' o u) (trE ((tr n f (rst m c A) (rst m d B)).1.foldl add o) ((tr n f (rst m c A) (rst m d B)).2.foldl add u)) := by
              intro o u og ug ot ut ol ul
              exact ih _ _ ra' rb' pa' pb' o u era erb hlen (by omega) hra hrb (by omega) og ug (by omega) (by omega) (by omega) (by omega)
            simp only [ea, eb, Option.bind_some, hd_k]
            have hadp := Add_ev p (hd m c) hp g1 (by omega) (by omega)
            have hadq := Add_ev q (hd m d) hq g2 (by omega) (by omega)
            rw [hd_k] at hadp hadq
            have lp1 := add_len p (hd m c); have lq1 := add_len q (hd m d)
            have tp1 := tot_add hp g1; have tq1 := tot_add hq g2
            have gp1 := add_good hp g1; have gq1 := add_good hq g2
            by_cases kd0 : d.f0 = 0
            · by_cases kc0 : c.f0 = 0
              · simp only [if_pos kd0, if_pos kc0, List.singleton_append, List.foldl_cons]
                exact Ev.bind hadp (Ev.bind hadq (next _ _ gp1 gq1 (by omega) (by omega) (by omega) (by omega)))
              · simp only [if_pos kd0, if_neg kc0, List.singleton_append, List.foldl_cons, List.nil_append, Option.bind_some]
                exact Ev.bind hadp (next _ _ gp1 hq (by omega) (by omega) (by omega) (by omega))
            · by_cases kc0 : c.f0 = 0
              · simp only [if_neg kd0, if_pos kc0, List.singleton_append, List.foldl_cons, List.nil_append, Option.bind_some]
                exact Ev.bind hadq (next _ _ hp gq1 (by omega) (by omega) (by omega) (by omega))
              · simp only [if_neg kd0, if_neg kc0, List.nil_append, Option.bind_some]
                exact next _ _ hp hq (by omega) (by omega) (by omega) (by omega)
theorem Transform_ev (a b : List Cm) (f : Bool) : Ev (fun k => transform_Transform.f k a b f) (trM f a b) := by
  refine Ev.congr (fun k => by rw [transform_Transform.f]) (Ev.bind (Lengths_ev a) ?_)
  refine Ev.bind (Lengths_ev b) ?_
  unfold trM
  by_cases ha : mayB a = true
  · rw [lens_ok a ha]
    by_cases hb : mayB b = true
    · rw [lens_ok b hb]
      simp only [ha, hb, true_and]
      by_cases e : froms a = froms b
      · simp only [e, if_true, true_and]
        obtain ⟨a1, a2, a3⟩ := may_bounds ha
        obtain ⟨b1, b2, b3⟩ := may_bounds hb
        have := Transform_l0 f (a.length + b.length) a b a b 0 0 [] [] (rep_zero a) (rep_zero b) (Nat.le_refl _) (by omega) (RdOk.start (may_ok ha) (may_small ha)) (RdOk.start (may_ok hb) (may_small hb)) e no_good no_good (by simp only [tot]; omega) (by simp only [tot]; omega) (by simp only [List.length_nil]; omega) (by simp only [List.length_nil]; omega)
        exact this
      · simp only [e, if_false, false_and]; exact Ev.now _
    · rw [lens_err b hb]
      simp only [Int.reduceEq, false_and, and_false, if_false, hb, Bool.false_eq_true, and_false]
      exact Ev.now _
  · rw [lens_err a ha]
    simp only [Int.reduceEq, false_and, if_false, ha, Bool.false_eq_true]
    exact Ev.now _
end Go.Proofs.Ytldaokclpkcmmab.Pl
