/- What the reference's Compose comes to: the model of K1. -/
import Derived.Test.YtldaokclpkcmmabK3r
import Derived.Test.YtldaokclpkcmmabGMinuetref1PCompose
namespace Go.Proofs.Ytldaokclpkcmmab.Pl
open Go.RowKit Go.Proofs.Ytldaokclpkcmmab.G Go.Proofs.YtldaokclpkcmmabW.PrintWords Go.Proofs.YtldaokclpkcmmabW.PrintLast
set_option linter.unusedVariables false
set_option linter.unusedSimpArgs false
theorem keeps_same {m : Int} {c d : Cm} (hc : good c) (hd' : good d) (kc : c.f0 = 0) (kd : d.f0 = 0) : hd m c = hd m d := by
  rw [hd_n (by omega), hd_n (by omega), kc, kd]
  congr 1
  apply bl_inj
  rw [size0 (hc.2.2.2 (by omega)), size0 (hd'.2.2.2 (by omega))]
theorem rCompose_l0 (xs ys : List Cm) : ∀ (n : Nat) (ia ib : Int) (ra rb : List Cm) (pa pb : Int) (out : List Cm), (rep ra pa).length + (rep rb pb).length ≤ n → n ≤ 65536 → RrOk xs ia ra pa → RrOk ys ib rb pb → tos (rep ra pa) = froms (rep rb pb) →
    (∀ c ∈ out, good c) → tot out + tot (rep ra pa) + tot (rep rb pb) ≤ 1099511627776 → out.length + n ≤ 1048576 →
    Ev (fun k => minuetref1_Compose.l0 k xs ys ia pa ib pb out) (if mayB ((em n (rep ra pa) (rep rb pb)).foldl add out) = true then ((em n (rep ra pa) (rep rb pb)).foldl add out, 0) else ([], 400)) := by
  intro n
  induction n with
  | zero =>
    intro ia ib ra rb pa pb out hn hm ha hb hbal ho ht hl
    have e1 : ra = [] := by cases ra with | nil => rfl | cons c r => simp only [rep, List.length_cons] at hn; omega
    have e2 : rb = [] := by cases rb with | nil => rfl | cons c r => simp only [rep, List.length_cons] at hn; omega
    subst e1 e2
    obtain ⟨z1, s1⟩ := rr_peek_nil ha
    obtain ⟨z2, s2⟩ := rr_peek_nil hb
    refine Ev.step (fun k => by rw [minuetref1_Compose.l0]) ?_
    simp only [s1, s2, Option.bind_some, and_self, if_true, minuetref1_Compose.fin, em, List.foldl_nil]
    refine Ev.bind (rCompsMay_ev out) ?_
    by_cases hmy : mayB out = true
    · simp only [hmy, if_true]; exact Ev.now _
    · simp only [hmy, if_false]; exact Ev.now _
  | succ n ih =>
    intro ia ib ra rb pa pb out hn hm ha hb hbal ho ht hl
    have oa := rep_ok ha.ok; have ob := rep_ok hb.ok
    cases ra with
    | nil =>
      obtain ⟨z1, s1⟩ := rr_peek_nil ha
      cases rb with
      | nil =>
        obtain ⟨z2, s2⟩ := rr_peek_nil hb
        refine Ev.step (fun k => by rw [minuetref1_Compose.l0]) ?_
        simp only [s1, s2, Option.bind_some, and_self, if_true, minuetref1_Compose.fin, rep, em, List.foldl_nil]
        refine Ev.bind (rCompsMay_ev out) ?_
        by_cases hmy : mayB out = true
        · simp only [hmy, if_true]; exact Ev.now _
        · simp only [hmy, if_false]; exact Ev.now _
      | cons d rb =>
        have s2 := rr_peek hb
        have hd' := ob (tl pb d) List.mem_cons_self
        have hdp := pos hd'
        have htb := tot_nonneg (okA_good (okA_tail ob))
        simp only [rep] at hn hbal ht ⊢
        have hf := froms_le (okA_good (okA_tail ob))
        have kd : (tl pb d).f0 = 1 := by
          apply Classical.byContradiction
          intro kn
          rw [froms_cons hd'.1, ← sz_n hd'.1 kn] at hbal
          simp only [tos] at hbal; omega
        obtain ⟨i', r', p', e, er, hr'⟩ := rr_whole hb
        rw [froms_cons hd'.1, hd'.1.2.2.1 kd] at hbal
        simp only [tot] at ht
        simp only [List.length_cons, List.length_nil] at hn
        have hadd := rAdd_ev out (tl pb d) ho hd'.1 (by omega) (by omega)
        have := ih ia i' [] r' pa p' (add out (tl pb d)) (by rw [er]; simp only [rep, List.length_nil]; omega) (by omega) ha hr' (by rw [er]; simp only [rep, tos] at hbal ⊢; omega) (add_good ho hd'.1) (by rw [er, tot_add ho hd'.1]; simp only [rep, tot]; omega) (by have := add_len out (tl pb d); omega)
        rw [er] at this
        refine Ev.step (fun k => by rw [minuetref1_Compose.l0]) ?_
        simp only [s1, s2, Option.bind_some, Bool.true_eq_false, and_false, if_false, Bool.false_eq_true, false_and, true_and, if_pos kd, e, em, List.foldl_cons]
        exact Ev.bind hadd this
    | cons c ra =>
      have s1 := rr_peek ha
      have hc' := oa (tl pa c) List.mem_cons_self
      have hcp := pos hc'
      have hta := tot_nonneg (okA_good (okA_tail oa))
      have hto := tos_le (okA_good (okA_tail oa))
      by_cases kc : (tl pa c).f0 = 2
      · obtain ⟨i', r', p', e, er, hr'⟩ := rr_whole ha
        have hbt := tot_nonneg (okA_good ob)
        have erep : rep (c :: ra) pa = tl pa c :: ra := rfl
        rw [erep] at hn hbal ht ⊢
        rw [tos_cons, if_pos kc] at hbal
        simp only [tot] at ht
        simp only [List.length_cons] at hn
        have hadd := rAdd_ev out (tl pa c) ho hc'.1 (by omega) (by omega)
        have := ih i' ib r' rb p' pb (add out (tl pa c)) (by rw [er]; omega) (by omega) hr' hb (by rw [er]; omega) (add_good ho hc'.1) (by rw [er, tot_add ho hc'.1]; omega) (by have := add_len out (tl pa c); omega)
        rw [er] at this
        have eem : em (n + 1) (tl pa c :: ra) (rep rb pb) = tl pa c :: em n ra (rep rb pb) := by
          cases rep rb pb with
          | nil => simp only [em, if_pos kc]
          | cons d B => simp only [em, if_pos kc]
        rw [eem]
        have ex : ∃ z b, Rr.peek ys ib pb = some (z, b) := by
          cases rb with
          | nil => obtain ⟨z, hz⟩ := rr_peek_nil hb; exact ⟨z, _, hz⟩
          | cons d r => exact ⟨_, _, rr_peek hb⟩
        obtain ⟨z, b, s2⟩ := ex
        refine Ev.step (fun k => by rw [minuetref1_Compose.l0]) ?_
        simp only [s1, s2, Option.bind_some, Bool.true_eq_false, false_and, if_false, true_and, if_pos kc, e, List.foldl_cons]
        exact Ev.bind hadd this
      · cases rb with
        | nil =>
          simp only [rep] at hbal
          rw [tos_cons, if_neg kc] at hbal
          simp only [froms] at hbal; omega
        | cons d rb =>
          have s2 := rr_peek hb
          have hd' := ob (tl pb d) List.mem_cons_self
          have hdp := pos hd'
          have htb := tot_nonneg (okA_good (okA_tail ob))
          by_cases kd : (tl pb d).f0 = 1
          · obtain ⟨i', r', p', e, er, hr'⟩ := rr_whole hb
            simp only [rep] at hn hbal ht ⊢
            rw [froms_cons hd'.1, hd'.1.2.2.1 kd] at hbal
            simp only [tot] at ht
            simp only [List.length_cons] at hn
            have hadd := rAdd_ev out (tl pb d) ho hd'.1 (by omega) (by omega)
            have := ih ia i' (c :: ra) r' pa p' (add out (tl pb d)) (by rw [er]; simp only [rep, List.length_cons]; omega) (by omega) ha hr' (by rw [er]; simp only [rep]; omega) (add_good ho hd'.1) (by rw [er, tot_add ho hd'.1]; simp only [rep, tot]; omega) (by have := add_len out (tl pb d); omega)
            rw [er] at this
            simp only [rep] at this
            refine Ev.step (fun k => by rw [minuetref1_Compose.l0]) ?_
            simp only [s1, s2, Option.bind_some, Bool.true_eq_false, false_and, if_false, true_and, if_neg kc, if_pos kd, e, em, List.foldl_cons]
            exact Ev.bind hadd this
          · simp only [rep] at hn hbal ht ⊢
            obtain ⟨q1, q2, q3⟩ := mn_le (sz (tl pa c)) (sz (tl pb d))
            simp only [em, if_neg kc, if_neg kd]
            refine Ev.step (fun k => by rw [minuetref1_Compose.l0]) ?_
            have emn : Rr.mini (sz (tl pa c)) (sz (tl pb d)) = mn (sz (tl pa c)) (sz (tl pb d)) := rfl
            simp only [s1, s2, Option.bind_some, Bool.true_eq_false, false_and, if_false, true_and, if_neg kc, if_neg kd, and_self, if_true, rsize_eq _ hc'.1, rsize_eq _ hd'.1, emn]
            generalize mn (sz (tl pa c)) (sz (tl pb d)) = m at q1 q2 q3 ⊢
            have m0 : 0 ≤ m := by omega
            obtain ⟨ia', ra', pa', ea, era, hra⟩ := rr_take ha (k := m) (m := m) (by unfold Rr.mini; split <;> omega) m0 q1
            obtain ⟨ib', rb', pb', eb, erb, hrb⟩ := rr_take hb (k := m) (m := m) (by unfold Rr.mini; split <;> omega) m0 q2
            have e1 := rst_tos (A := ra) hc'.1 m0 q1
            have e2 := rst_froms (A := rb) hd'.1 m0 q2
            rw [if_neg kc] at e1
            rw [if_neg kd] at e2
            have t1 := rst_tot (A := ra) hc'.1 m0 q1
            have t2 := rst_tot (A := rb) hd'.1 m0 q2
            have g1 := hd_good hc'.1 m0; have g2 := hd_good hd'.1 m0
            have z1 := hd_sz hc'.1 m0 q1; have z2 := hd_sz hd'.1 m0 q2
            simp only [tot] at t1 t2 ht
            simp only [List.length_cons] at hn
            have hlen : (rst m (tl pa c) ra).length + (rst m (tl pb d) rb).length ≤ n := by
              rcases q3 with q3 | q3
              · have := rst_len m (tl pb d) rb
                have := rst_len' (c := tl pa c) ra
                rw [← q3] at this; omega
              · have := rst_len m (tl pa c) ra
                have := rst_len' (c := tl pb d) rb
                rw [← q3] at this; omega
            have next : ∀ o : List Cm, (∀ c ∈ o, good c) → tot o ≤ tot out + m → o.length ≤ out.length + 1 → Ev (fun k => minuetref1_Compose.l0 k xs ys ia' pa' ib' pb' o) (if mayB ((em n (rst m (tl pa c) ra) (rst m (tl pb d) rb)).foldl add o) = true then ((em n (rst m (tl pa c) ra) (rst m (tl pb d) rb)).foldl add o, 0) else ([], 400)) := by
              intro o og ot ol
              have := ih ia' ib' ra' rb' pa' pb' o (by rw [era, erb]; exact hlen) (by omega) hra hrb (by rw [era, erb]; omega) og (by rw [era, erb]; omega) (by omega)
              rw [era, erb] at this
              exact this
            simp only [ea, eb, Option.bind_some, hd_k]
            by_cases kd0 : (tl pb d).f0 = 0
            · have kd2 : ¬ (tl pb d).f0 = 2 := by omega
              simp only [if_pos kd0, kd2, and_false, if_false, List.singleton_append, List.foldl_cons]
              by_cases kc1 : (tl pa c).f0 = 1
              · simp only [if_pos kc1]
                have hadd := rAdd_ev out (hd m (tl pa c)) ho g1 (by omega) (by omega)
                rw [hd_k] at hadd
                exact Ev.bind hadd (next _ (add_good ho g1) (by rw [tot_add ho g1, z1]; omega) (by have := add_len out (hd m (tl pa c)); omega))
              · simp only [if_neg kc1]
                rw [keeps_same (m := m) hc'.1 hd'.1 (by have := hc'.1.2.1; omega) kd0]
                have hadd := rAdd_ev out (hd m (tl pb d)) ho g2 (by omega) (by omega)
                rw [hd_k] at hadd
                simp only [kd0] at hadd ⊢
                exact Ev.bind hadd (next _ (add_good ho g2) (by rw [tot_add ho g2, z2]; omega) (by have := add_len out (hd m (tl pb d)); omega))
            · have kd2 : (tl pb d).f0 = 2 := by have := hd'.1.2.1; omega
              simp only [if_neg kd0, kd2, and_true]
              by_cases kc1 : (tl pa c).f0 = 1
              · have kc0 : ¬ (tl pa c).f0 = 0 := by omega
                simp only [if_pos kc1, if_neg kc0, List.nil_append]
                exact next out ho (by omega) (by omega)
              · have kc0 : (tl pa c).f0 = 0 := by have := hc'.1.2.1; omega
                simp only [if_neg kc1, if_pos kc0, List.singleton_append, List.foldl_cons]
                have hadd := rAdd_ev out (hd m (tl pb d)) ho g2 (by omega) (by omega)
                rw [hd_k] at hadd
                simp only [kd2] at hadd
                exact Ev.bind hadd (next _ (add_good ho g2) (by rw [tot_add ho g2, z2]; omega) (by have := add_len out (hd m (tl pb d)); omega))
theorem rCompose_ev (a b : List Cm) : Ev (fun k => minuetref1_Compose.f k a b) (cpM a b) := by
  refine Ev.congr (fun k => by rw [minuetref1_Compose.f]) (Ev.bind (rLengths_ev a) ?_)
  refine Ev.bind (rLengths_ev b) ?_
  unfold cpM
  by_cases ha : mayB a = true
  · rw [lens_ok a ha]
    by_cases hb : mayB b = true
    · rw [lens_ok b hb]
      simp only [ha, hb, true_and]
      by_cases e : tos a = froms b
      · simp only [e, if_true, true_and]
        obtain ⟨a1, a2, a3⟩ := may_bounds ha
        obtain ⟨b1, b2, b3⟩ := may_bounds hb
        have := rCompose_l0 a b (a.length + b.length) 0 0 a b 0 0 [] (by rw [rep_zero, rep_zero]; exact Nat.le_refl _) (by omega) (RrOk.start (may_ok ha) (may_small ha)) (RrOk.start (may_ok hb) (may_small hb)) (by rw [rep_zero, rep_zero]; exact e) no_good (by rw [rep_zero, rep_zero]; simp only [tot]; omega) (by simp only [List.length_nil]; omega)
        rw [rep_zero, rep_zero] at this
        exact this
      · simp only [e, if_false, false_and]; exact Ev.now _
    · rw [lens_err b hb]
      simp only [Int.reduceEq, false_and, and_false, if_false, hb, Bool.false_eq_true, and_false]
      exact Ev.now _
  · rw [lens_err a ha]
    simp only [Int.reduceEq, false_and, if_false, ha, Bool.false_eq_true]
    exact Ev.now _
end Go.Proofs.Ytldaokclpkcmmab.Pl
