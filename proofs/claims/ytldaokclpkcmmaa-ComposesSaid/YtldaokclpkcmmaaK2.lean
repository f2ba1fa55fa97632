/- What compose.Compose comes to: the model of K1. -/
import Derived.Test.YtldaokclpkcmmaaK1r
import Derived.Test.YtldaokclpkcmmaaGComposePCompose
namespace Go.Proofs.Ytldaokclpkcmmaa.Pl
open Go.RowKit Go.Proofs.Ytldaokclpkcmmaa.G Go.Proofs.YtldaokclpkcmmaaW.PrintWords Go.Proofs.YtldaokclpkcmmaaW.PrintLast
set_option linter.unusedVariables false
set_option linter.unusedSimpArgs false
theorem mini_mn (x y : Int) : compose_Compose.mini x y = mn x y := rfl
theorem Compose_l0 : ∀ (n : Nat) (ra rb : List Cm) (pa pb : Int) (out : List Cm), (rep ra pa).length + (rep rb pb).length ≤ n → n ≤ 65536 → RdOk ra pa → RdOk rb pb → tos (rep ra pa) = froms (rep rb pb) →
    (∀ c ∈ out, good c) → tot out + tot (rep ra pa) + tot (rep rb pb) ≤ 1099511627776 → out.length + n ≤ 1048576 →
    Ev (fun k => compose_Compose.l0 k ra pa rb pb out) (if mayB ((em n (rep ra pa) (rep rb pb)).foldl add out) = true then ((em n (rep ra pa) (rep rb pb)).foldl add out, 0) else ([], 400)) := by
  intro n
  induction n with
  | zero =>
    intro ra rb pa pb out hn hm ha hb hbal ho ht hl
    have e1 : rep ra pa = [] := List.eq_nil_of_length_eq_zero (by omega)
    have e2 : rep rb pb = [] := List.eq_nil_of_length_eq_zero (by omega)
    have k1 := rd_kd ra pa; have k2 := rd_kd rb pb
    have s1 := rd_sz ha; have s2 := rd_sz hb
    rw [e1] at k1 s1 ⊢
    rw [e2] at k2 s2 ⊢
    simp only at k1 k2 s1 s2
    refine Ev.step (fun k => by rw [compose_Compose.l0]) ?_
    simp only [s1, s2, Option.bind_some, k1, k2, if_pos (show (-1 : Int) < 0 ∧ (-1 : Int) < 0 by omega), compose_Compose.fin, em, List.foldl_nil]
    refine Ev.bind (May_ev out) ?_
    by_cases hmy : mayB out = true
    · simp only [hmy, if_true]; exact Ev.now _
    · simp only [hmy, if_false]; exact Ev.now _
  | succ n ih =>
    intro ra rb pa pb out hn hm ha hb hbal ho ht hl
    have oa := rep_ok ha; have ob := rep_ok hb
    have k1 := rd_kd ra pa; have k2 := rd_kd rb pb
    have s1 := rd_sz ha; have s2 := rd_sz hb
    cases ra with
    | nil =>
      cases rb with
      | nil =>
        simp only [rep] at k1 k2 s1 s2 ⊢
        refine Ev.step (fun k => by rw [compose_Compose.l0]) ?_
        simp only [s1, s2, Option.bind_some, k1, k2, if_pos (show (-1 : Int) < 0 ∧ (-1 : Int) < 0 by omega), compose_Compose.fin, em, List.foldl_nil]
        refine Ev.bind (May_ev out) ?_
        by_cases hmy : mayB out = true
        · simp only [hmy, if_true]; exact Ev.now _
        · simp only [hmy, if_false]; exact Ev.now _
      | cons d rb =>
        have hd' := ob (tl pb d) List.mem_cons_self
        have hdp := pos hd'
        have htb := tot_nonneg (okA_good (okA_tail ob))
        simp only [rep] at k1 k2 s1 s2 hn hbal ht ⊢
        have hf := froms_le (okA_good (okA_tail ob))
        have kd : (tl pb d).f0 = 1 := by
          apply Classical.byContradiction
          intro kn
          rw [froms_cons hd'.1, ← sz_n hd'.1 kn] at hbal
          simp only [tos] at hbal; omega
        obtain ⟨r', p', e, er, hr'⟩ := rd_take hb (k := sz (tl pb d)) (by omega) (Int.le_refl _)
        rw [hd_all hd'.1] at e
        unfold rst at er; rw [if_pos rfl] at er
        rw [froms_cons hd'.1, hd'.1.2.2.1 kd] at hbal
        simp only [tot] at ht
        simp only [List.length_cons, List.length_nil] at hn
        have hadd := Add_ev out (tl pb d) ho hd'.1 (by omega) (by omega)
        have := ih [] r' pa p' (add out (tl pb d)) (by rw [er]; simp only [rep, List.length_nil]; omega) (by omega) ha hr' (by rw [er]; simp only [rep, tos] at hbal ⊢; omega) (add_good ho hd'.1) (by rw [er, tot_add ho hd'.1]; simp only [rep, tot]; omega) (by have := add_len out (tl pb d); omega)
        rw [er] at this
        refine Ev.step (fun k => by rw [compose_Compose.l0]) ?_
        simp only [s1, s2, Option.bind_some, k1, k2, if_neg (show ¬ ((-1 : Int) < 0 ∧ (tl pb d).f0 < 0) by omega), if_neg (show ¬ (-1 : Int) = 2 by omega), if_pos kd, e, em, List.foldl_cons]
        exact Ev.bind hadd this
    | cons c ra =>
      have hc' := oa (tl pa c) List.mem_cons_self
      have hcp := pos hc'
      have hta := tot_nonneg (okA_good (okA_tail oa))
      have hto := tos_le (okA_good (okA_tail oa))
      have hck := hc'.1.2.1
      by_cases kc : (tl pa c).f0 = 2
      · obtain ⟨r', p', e, er, hr'⟩ := rd_take ha (k := sz (tl pa c)) (by omega) (Int.le_refl _)
        rw [hd_all hc'.1] at e
        unfold rst at er; rw [if_pos rfl] at er
        have hbt := tot_nonneg (okA_good ob)
        have erep : rep (c :: ra) pa = tl pa c :: ra := rfl
        rw [erep] at k1 s1 hn hbal ht ⊢
        rw [tos_cons, if_pos kc] at hbal
        simp only [tot] at ht
        simp only [List.length_cons] at hn
        have hadd := Add_ev out (tl pa c) ho hc'.1 (by omega) (by omega)
        have := ih r' rb p' pb (add out (tl pa c)) (by rw [er]; omega) (by omega) hr' hb (by rw [er]; omega) (add_good ho hc'.1) (by rw [er, tot_add ho hc'.1]; omega) (by have := add_len out (tl pa c); omega)
        rw [er] at this
        have eem : em (n + 1) (tl pa c :: ra) (rep rb pb) = tl pa c :: em n ra (rep rb pb) := by
          cases rep rb pb with
          | nil => simp only [em, if_pos kc]
          | cons d B => simp only [em, if_pos kc]
        rw [eem]
        refine Ev.step (fun k => by rw [compose_Compose.l0]) ?_
        simp only [s1, s2, Option.bind_some, k1, if_neg (show ¬ ((tl pa c).f0 < 0 ∧ Rd.kd rb < 0) by omega), if_pos kc, e, List.foldl_cons]
        exact Ev.bind hadd this
      · cases rb with
        | nil =>
          simp only [rep] at hbal
          rw [tos_cons, if_neg kc] at hbal
          simp only [froms] at hbal; omega
        | cons d rb =>
          have hd' := ob (tl pb d) List.mem_cons_self
          have hdp := pos hd'
          have htb := tot_nonneg (okA_good (okA_tail ob))
          by_cases kd : (tl pb d).f0 = 1
          · obtain ⟨r', p', e, er, hr'⟩ := rd_take hb (k := sz (tl pb d)) (by omega) (Int.le_refl _)
            rw [hd_all hd'.1] at e
            unfold rst at er; rw [if_pos rfl] at er
            simp only [rep] at k1 k2 s1 s2 hn hbal ht ⊢
            rw [froms_cons hd'.1, hd'.1.2.2.1 kd] at hbal
            simp only [tot] at ht
            simp only [List.length_cons] at hn
            have hadd := Add_ev out (tl pb d) ho hd'.1 (by omega) (by omega)
            have := ih (c :: ra) r' pa p' (add out (tl pb d)) (by rw [er]; simp only [rep, List.length_cons]; omega) (by omega) ha hr' (by rw [er]; simp only [rep]; omega) (add_good ho hd'.1) (by rw [er, tot_add ho hd'.1]; simp only [rep, tot]; omega) (by have := add_len out (tl pb d); omega)
            rw [er] at this
            simp only [rep] at this
            refine Ev.step (fun k => by rw [compose_Compose.l0]) ?_
            simp only [s1, s2, Option.bind_some, k1, k2, if_neg (show ¬ ((tl pa c).f0 < 0 ∧ (tl pb d).f0 < 0) by omega), if_neg kc, if_pos kd, e, em, List.foldl_cons]
            exact Ev.bind hadd this
          · simp only [rep] at k1 k2 s1 s2 hn hbal ht ⊢
            obtain ⟨q1, q2, q3⟩ := mn_le (sz (tl pa c)) (sz (tl pb d))
            simp only [em, if_neg kc, if_neg kd]
            refine Ev.step (fun k => by rw [compose_Compose.l0]) ?_
            simp only [s1, s2, Option.bind_some, k1, k2, if_neg (show ¬ ((tl pa c).f0 < 0 ∧ (tl pb d).f0 < 0) by omega), if_neg kc, if_neg kd, mini_mn]
            generalize mn (sz (tl pa c)) (sz (tl pb d)) = m at q1 q2 q3 ⊢
            have m0 : 0 ≤ m := by omega
            obtain ⟨ra', pa', ea, era, hra⟩ := rd_take ha m0 q1
            obtain ⟨rb', pb', eb, erb, hrb⟩ := rd_take hb m0 q2
            have e1 := rst_tos (A := ra) hc'.1 m0 q1
            have e2 := rst_froms (A := rb) hd'.1 m0 q2
            rw [if_neg kc] at e1
            rw [if_neg kd] at e2
            have t1 := rst_tot (A := ra) hc'.1 m0 q1
            have t2 := rst_tot (A := rb) hd'.1 m0 q2
            have g1 := hd_good hc'.1 m0; have g2 := hd_good hd'.1 m0
            have z1 := hd_sz hc'.1 m0 q1; have z2 := hd_sz hd'.1 m0 q2
            simp only [tot] at t1 t2 ht
            simp only [List.length_cons] at hn
            have hlen : (rst m (tl pa c) ra).length + (rst m (tl pb d) rb).length ≤ n := by
              rcases q3 with q3 | q3
              · have := rst_len m (tl pb d) rb
                have := rst_len' (c := tl pa c) ra
                rw [← q3] at this; omega
              · have := rst_len m (tl pa c) ra
                have := rst_len' (c := tl pb d) rb
                rw [← q3] at this; omega
            have next : ∀ o : List Cm, (∀ c ∈ o, good c) → tot o ≤ tot out + m → o.length ≤ out.length + 1 → Ev (fun k => compose_Compose.l0 k ra' pa' rb' pb' o) (if mayB ((em n (rst m (tl pa c) ra) (rst m (tl pb d) rb)).foldl add o) = true then ((em n (rst m (tl pa c) ra) (rst m (tl pb d) rb)).foldl add o, 0) else ([], 400)) := by
              intro o og ot ol
              have := ih ra' rb' pa' pb' o (by rw [era, erb]; exact hlen) (by omega) hra hrb (by rw [era, erb]; omega) og (by rw [era, erb]; omega) (by omega)
              rw [era, erb] at this
              exact this
            simp only [ea, eb, Option.bind_some, hd_k]
            by_cases kd0 : (tl pb d).f0 = 0
            · simp only [if_pos kd0, List.singleton_append, List.foldl_cons]
              have hadd := Add_ev out (hd m (tl pa c)) ho g1 (by omega) (by omega)
              rw [hd_k] at hadd
              exact Ev.bind hadd (next _ (add_good ho g1) (by rw [tot_add ho g1, z1]; omega) (by have := add_len out (hd m (tl pa c)); omega))
            · simp only [if_neg kd0]
              by_cases kc0 : (tl pa c).f0 = 0
              · simp only [if_pos kc0, List.singleton_append, List.foldl_cons]
                have hadd := Add_ev out (hd m (tl pb d)) ho g2 (by omega) (by omega)
                rw [hd_k] at hadd
                exact Ev.bind hadd (next _ (add_good ho g2) (by rw [tot_add ho g2, z2]; omega) (by have := add_len out (hd m (tl pb d)); omega))
              · simp only [if_neg kc0, List.nil_append]
                exact next out ho (by omega) (by omega)
theorem Compose_ev (a b : List Cm) : Ev (fun k => compose_Compose.f k a b) (cpM a b) := by
  refine Ev.congr (fun k => by rw [compose_Compose.f]) (Ev.bind (Lengths_ev a) ?_)
  refine Ev.bind (Lengths_ev b) ?_
  unfold cpM
  by_cases ha : mayB a = true
  · rw [lens_ok a ha]
    by_cases hb : mayB b = true
    · rw [lens_ok b hb]
      simp only [ha, hb, true_and]
      by_cases e : tos a = froms b
      · simp only [e, if_true, true_and]
        obtain ⟨a1, a2, a3⟩ := may_bounds ha
        obtain ⟨b1, b2, b3⟩ := may_bounds hb
        have := Compose_l0 (a.length + b.length) a b 0 0 [] (by rw [rep_zero, rep_zero]; exact Nat.le_refl _) (by omega) (RdOk.start (may_ok ha) (may_small ha)) (RdOk.start (may_ok hb) (may_small hb)) (by rw [rep_zero, rep_zero]; exact e) no_good (by rw [rep_zero, rep_zero]; simp only [tot]; omega) (by simp only [List.length_nil]; omega)
        rw [rep_zero, rep_zero] at this
        exact this
      · simp only [e, if_false, false_and]; exact Ev.now _
    · rw [lens_err b hb]
      simp only [Int.reduceEq, false_and, and_false, if_false, hb, Bool.false_eq_true, and_false]
      exact Ev.now _
  · rw [lens_err a ha]
    simp only [Int.reduceEq, false_and, if_false, ha, Bool.false_eq_true]
    exact Ev.now _
end Go.Proofs.Ytldaokclpkcmmaa.Pl
