/- A text is in the language just if its tree holds no errors: the two plain models against one another. -/
import Derived.Test.YtehojohacombkaaPm1
namespace Go.Proofs.Ytehojohacombkaa.Ps
open Go.RowKit Go.Proofs.Ytehojohacombkaa.G Go.Proofs.YtehojohacombkaaW.PrintWords Go.Proofs.YtehojohacombkaaW.PrintLast
open Go.Proofs.Ytehojohacombkaa.Lx (Tk)
open Go.Proofs.Ytehojohacombkaa.Gd (hdk lp rs one1 val Less)
set_option linter.unusedVariables false
set_option linter.unusedSimpArgs false
def kinds (ns : List Nd) : List Int := ns.map (fun x => x.f1)
theorem kinds_set (ns : List Nd) (i : Int) (x : Nd) (h : x.f1 = (rdn ns i).f1) : kinds (ns.set i.toNat x) = kinds ns := by
  unfold kinds
  apply List.ext_getElem?
  intro j
  rw [List.getElem?_map, List.getElem?_map, List.getElem?_set]
  by_cases hj : i.toNat = j
  · rw [if_pos hj]
    by_cases hl : i.toNat < ns.length
    · rw [if_pos hl, ← hj, List.getElem?_eq_getElem hl, Option.map_some, Option.map_some, h]
      unfold rdn rd_T34
      rw [List.getD_eq_getElem?_getD, List.getElem?_eq_getElem hl]
      rfl
    · rw [if_neg hl, ← hj, List.getElem?_eq_none (by omega)]
  · rw [if_neg hj]
theorem kinds_put (ns : List Nd) (p k f t : Int) : kinds (putN ns p k f t) = kinds ns ++ [k] := by
  have e : kinds (ns ++ [nd ns.length k f t]) = kinds ns ++ [k] := by unfold kinds; rw [List.map_append]; rfl
  unfold putN
  split
  · unfold kidAdd; rw [kinds_set _ p (withKid _ _) rfl, e]
  · exact e
theorem kinds_setTo (ns : List Nd) (id tz : Int) : kinds (setTo ns id tz) = kinds ns := kinds_set _ _ _ rfl
theorem kinds_reach (ns : List Nd) (id tz : Int) : kinds (reachN ns id tz) = kinds ns := by
  unfold reachN; split
  · rw [kinds_setTo, kinds_setTo]
  · exact kinds_setTo _ _ _
def errs (ns : List Nd) : Nat := (kinds ns).count 7
theorem errs_put (ns : List Nd) (p k f t : Int) (h : k ≠ 7) : errs (putN ns p k f t) = errs ns := by
  unfold errs; rw [kinds_put, List.count_append, List.count_cons, List.count_nil, if_neg (by simpa using h)]; rfl
theorem errs_put7 (ns : List Nd) (p f t : Int) : errs (putN ns p 7 f t) = errs ns + 1 := by
  unfold errs; rw [kinds_put, List.count_append]; rfl
theorem errs_lack (ns : List Nd) (p a : Int) : errs (lackN ns p a) = errs ns + 1 := errs_put7 _ _ _ _
theorem errs_reach (ns : List Nd) (id tz : Int) : errs (reachN ns id tz) = errs ns := by unfold errs; rw [kinds_reach]
/-- What a step says of the language: no new error and the rest of the tokens, or an error. -/
def Tells (o : Option (List Tk)) (ns : List Nd) (r : St) : Prop := match o with | some us => r.1 = us ∧ errs r.2 = errs ns | none => errs ns < errs r.2
theorem Tells.le {o : Option (List Tk)} {ns : List Nd} {r : St} (h : Tells o ns r) : errs ns ≤ errs r.2 := by
  cases o with
  | none => exact Nat.le_of_lt h
  | some us => exact Nat.le_of_eq h.2.symm
def OneLe (one : One) : Prop := ∀ p ts ns, errs ns ≤ errs (one p ts ns).2
theorem list_le {one : One} (h : OneLe one) (bg : Tk → Bool) (en c id : Int) : ∀ (n : Nat) (s : Int) (ts : List Tk) (ns : List Nd), errs ns ≤ errs (listN one bg en c id n s ts ns).2 := by
  intro n
  induction n with
  | zero => intro s ts ns; exact Nat.le_refl _
  | succ n ih =>
    intro s ts ns
    cases ts with
    | nil => show errs ns ≤ errs (reachN (lackN ns id en) id en); rw [errs_reach, errs_lack]; omega
    | cons t r =>
      rw [listN]
      split
      · show errs ns ≤ errs (reachN _ id t.f2)
        rw [errs_reach]; split
        · rw [errs_lack]; omega
        · exact Nat.le_refl _
      · split
        · exact ih 2 r ns
        · split
          · refine Nat.le_trans ?_ (ih 1 _ _)
            refine Nat.le_trans ?_ (h id (t :: r) _)
            split
            · rw [errs_lack]; omega
            · exact Nat.le_refl _
          · refine Nat.le_trans ?_ (ih s _ _)
            rw [errs_put7]; omega
theorem wrap_lt {v : One} (h : OneLe v) (en p : Int) (ts : List Tk) (ns : List Nd) : errs ns < errs (wrapN v en p ts ns).2 := by
  show errs ns < errs (reachN _ _ _)
  rw [errs_reach]
  refine Nat.lt_of_lt_of_le ?_ (h ns.length ts _)
  rw [errs_put7]; omega
theorem wrap_le {v : One} (h : OneLe v) (en : Int) : OneLe (wrapN v en) := fun p ts ns => Nat.le_of_lt (wrap_lt h en p ts ns)
theorem col_le (en x : Int) (t : Tk) (a : St) : errs a.2 ≤ errs (colN en x t a).1.2 := by
  unfold colN; split
  · exact Nat.le_refl _
  · show errs a.2 ≤ errs (lackN _ _ _); rw [errs_lack]; omega
theorem pv_le {v : One} (h : OneLe v) (bg : Tk → Bool) (en x : Int) (b : St) : errs b.2 ≤ errs (pvN v bg en x b).2 := by
  unfold pvN; split
  · exact h _ _ _
  · show errs b.2 ≤ errs (lackN _ _ _); rw [errs_lack]; omega
theorem pair_le {v : One} (h : OneLe v) (bg : Tk → Bool) (en x : Int) (t : Tk) (a : St) : errs (colN en x t a).1.2 ≤ errs (pairN v bg en x t a).2 := by
  show _ ≤ errs (reachN _ _ _)
  rw [errs_reach]; exact pv_le h bg en x _
theorem mem_le {v : One} (h : OneLe v) (bg : Tk → Bool) (en : Int) : OneLe (memN v bg en) := by
  intro p ts ns
  unfold memN; split
  · refine Nat.le_trans ?_ (pair_le h bg en _ _ _)
    refine Nat.le_trans ?_ (col_le en _ _ _)
    refine Nat.le_trans ?_ (h _ _ _)
    rw [errs_put _ _ _ _ _ (by decide)]; omega
  · exact wrap_le h en p ts ns
theorem errs_scal (p : Int) (t : Tk) (ns : List Nd) : errs (scal p t ns) = errs ns := by
  unfold scal; split
  · exact errs_put _ _ _ _ _ (by decide)
  · split
    · exact errs_put _ _ _ _ _ (by decide)
    · split
      · exact errs_put _ _ _ _ _ (by decide)
      · rfl
theorem val_le (en : Int) : ∀ k, OneLe (valN en k) := by
  intro k
  induction k with
  | zero => intro p ts ns; exact Nat.le_of_eq (errs_scal _ _ _).symm
  | succ k ih =>
    intro p ts ns
    unfold valN; split
    · refine Nat.le_trans ?_ (list_le (mem_le ih _ en) _ en 1 _ _ _ _ _)
      rw [errs_put _ _ _ _ _ (by decide)]; omega
    · split
      · refine Nat.le_trans ?_ (list_le ih _ en 3 _ _ _ _ _)
        rw [errs_put _ _ _ _ _ (by decide)]; omega
      · exact Nat.le_of_eq (errs_scal _ _ _).symm
def OneG (one : One) (one' : List Tk → Option (List Tk)) (bg : Tk → Bool) (en : Int) : Prop := ∀ p ts ns, bg (nextT en ts) = true → Tells (one' ts) ns (one p ts ns)
def OneB (one' : List Tk → Option (List Tk)) (bg : Tk → Bool) : Prop := ∀ ts us, one' ts = some us → ∃ t r, ts = t :: r ∧ bg t = true
theorem hdk_cons (t : Tk) (r : List Tk) (k : Int) : hdk (t :: r) k = (t.f0 == k) := rfl
/-- What may stand now: at the start, behind an element, behind a comma. -/
def spec (one' : List Tk → Option (List Tk)) (c : Int) (m : Nat) (s : Int) (ts : List Tk) : Option (List Tk) :=
  if s = 1 then (if hdk ts c = true then some ts.tail else if hdk ts 5 = true then lp one' c m ts.tail else none)
  else if s = 0 then (if hdk ts c = true then some ts.tail else lp one' c m ts)
  else lp one' c m ts
theorem lp_none {one' : List Tk → Option (List Tk)} {c : Int} {m : Nat} {ts : List Tk} (h : one' ts = none) : lp one' c m ts = none := by
  cases m with
  | zero => rfl
  | succ m => rw [lp, h]
theorem lp_some {one' : List Tk → Option (List Tk)} {c : Int} {m : Nat} {ts us : List Tk} (h : one' ts = some us) : lp one' c (m + 1) ts = spec one' c m 1 us := by
  rw [lp, h]; unfold spec; rw [if_pos rfl]
theorem list_tells {one : One} {one' : List Tk → Option (List Tk)} {k : Nat} {en : Int} (hG : OneG one one' (bgK k) en) (hL : Less one') (hB : OneB one' (bgK k)) (hE : OneLe one) (c id : Int) (hc5 : c ≠ 5) (hcb : ∀ t : Tk, t.f0 = c → bgK k t = false) :
    ∀ (n : Nat) (s : Int) (ts : List Tk) (ns : List Nd) (m : Nat), (s = 0 ∨ s = 1 ∨ s = 2) → ts.length < n → ts.length < m → Tells (spec one' c m s ts) ns (listN one (bgK k) en c id n s ts ns) := by
  have hno : ∀ t r, bgK k t = false → one' (t :: r) = none := by
    intro t r h
    cases ho : one' (t :: r) with
    | none => rfl
    | some us => obtain ⟨t', r', e, hb⟩ := hB _ _ ho; cases e; rw [h] at hb; cases hb
  intro n
  induction n with
  | zero => intro s ts ns m hs h1; omega
  | succ n ih =>
    intro s ts ns m hs h1 h2
    cases ts with
    | nil =>
      have hn : one' [] = none := by
        cases ho : one' [] with
        | none => rfl
        | some us => obtain ⟨t', r', e, hb⟩ := hB _ _ ho; cases e
      have e : spec one' c m s [] = none := by
        unfold spec
        split
        · rfl
        · split
          · show (if false = true then _ else _) = _; rw [if_neg (by decide), lp_none hn]
          · exact lp_none hn
      rw [e]
      show errs ns < errs (reachN (lackN ns id en) id en)
      rw [errs_reach, errs_lack]; omega
    | cons t r =>
      simp only [List.length_cons] at h1 h2
      rw [listN]
      by_cases hc : t.f0 = c
      · rw [if_pos hc]
        have hh : hdk (t :: r) c = true := by rw [hdk_cons]; exact beq_iff_eq.mpr hc
        by_cases hs2 : s = 2
        · have e : spec one' c m s (t :: r) = none := by
            unfold spec; rw [if_neg (by omega), if_neg (by omega)]; exact lp_none (hno t r (hcb t hc))
          rw [e, if_pos hs2]
          show errs ns < errs (reachN (lackN ns id t.f1) id t.f2)
          rw [errs_reach, errs_lack]; omega
        · have e : spec one' c m s (t :: r) = some r := by
            unfold spec
            split
            · first | rfl | (rw [if_pos hh]; rfl)
            · first | rfl | (rw [if_pos (by omega)]; rfl) | (rw [if_pos (by omega), if_pos hh]; rfl)
          rw [e, if_neg hs2]
          exact ⟨rfl, errs_reach _ _ _⟩
      · rw [if_neg hc]
        have hh : hdk (t :: r) c = false := by rw [hdk_cons]; exact beq_eq_false_iff_ne.mpr hc
        by_cases h5 : t.f0 = 5 ∧ s = 1
        · rw [if_pos h5]
          have hh5 : hdk (t :: r) 5 = true := by rw [hdk_cons]; exact beq_iff_eq.mpr h5.1
          have e : spec one' c m s (t :: r) = spec one' c m 2 r := by
            unfold spec
            rw [if_pos h5.2, hh, if_neg (by decide), hh5, if_pos rfl, if_neg (by decide), if_neg (by decide)]; rfl
          rw [e]
          exact ih 2 r ns m (by omega) (by omega) (by omega)
        · rw [if_neg h5]
          by_cases hb : bgK k t = true
          · rw [if_pos hb]
            have n5 : hdk (t :: r) 5 = false := by
              rw [hdk_cons]; refine beq_eq_false_iff_ne.mpr (fun h => ?_)
              unfold bgK at hb; rw [h] at hb; simp at hb
            by_cases hs1 : s = 1
            · have e : spec one' c m s (t :: r) = none := by
                unfold spec; rw [if_pos hs1, hh, if_neg (by decide), n5, if_neg (by decide)]
              rw [e, if_pos hs1]
              show errs ns < errs _
              refine Nat.lt_of_lt_of_le ?_ (list_le hE (bgK k) en c id n 1 _ _)
              refine Nat.lt_of_lt_of_le ?_ (hE id (t :: r) _)
              rw [errs_lack]; omega
            · rw [if_neg hs1]
              have e : spec one' c m s (t :: r) = lp one' c m (t :: r) := by
                unfold spec; rw [if_neg hs1]; split
                · rw [hh, if_neg (by decide)]
                · rfl
              rw [e]
              have g := hG id (t :: r) ns hb
              cases ho : one' (t :: r) with
              | none =>
                rw [ho] at g
                rw [lp_none ho]
                exact Nat.lt_of_lt_of_le g (list_le hE (bgK k) en c id n 1 _ _)
              | some us =>
                rw [ho] at g
                have hlt := hL _ _ ho
                simp only [List.length_cons] at hlt
                cases m with
                | zero => omega
                | succ m =>
                  rw [lp_some ho]
                  have g1 : (one id (t :: r) ns).1 = us := g.1
                  have g2 : errs (one id (t :: r) ns).2 = errs ns := g.2
                  have := ih 1 us (one id (t :: r) ns).2 m (by omega) (by omega) (by omega)
                  rw [g1]
                  unfold Tells at this ⊢
                  rw [g2] at this
                  exact this
          · rw [if_neg hb]
            have hb' : bgK k t = false := by simpa using hb
            have e : spec one' c m s (t :: r) = none := by
              unfold spec
              split
              · rename_i h1s
                rw [hh, if_neg (by decide)]
                have n5 : hdk (t :: r) 5 = false := by rw [hdk_cons]; exact beq_eq_false_iff_ne.mpr (fun h => h5 ⟨h, h1s⟩)
                rw [n5, if_neg (by decide)]
              · split
                · rw [hh, if_neg (by decide)]; exact lp_none (hno t r hb')
                · exact lp_none (hno t r hb')
            rw [e]
            show errs ns < errs _
            refine Nat.lt_of_lt_of_le ?_ (list_le hE (bgK k) en c id n s _ _)
            rw [errs_put7]; omega
theorem bg_text {t : Tk} {k : Nat} (h : t.f0 = 6) : bgK k t = true := by unfold bgK; rw [h]; rfl
theorem one1_begins {v : List Tk → Option (List Tk)} (k : Nat) : OneB (one1 v) (bgK k) := by
  intro ts us h
  unfold one1 at h
  split at h
  · rename_i h6
    cases ts with
    | nil => cases h6
    | cons t r => exact ⟨t, r, rfl, bg_text (by rw [hdk_cons] at h6; exact beq_iff_eq.mp h6)⟩
  · cases h
theorem val_begins : ∀ k, OneB (val k) (bgK k) := by
  intro k ts us h
  cases ts with
  | nil => cases k <;> simp [val, hdk] at h
  | cons t r =>
    refine ⟨t, r, rfl, ?_⟩
    cases hb : bgK k t with
    | true => rfl
    | false =>
      exfalso
      unfold bgK at hb
      simp only [Bool.or_eq_false_iff, Bool.and_eq_false_iff] at hb
      obtain ⟨⟨⟨h6, h7⟩, h8⟩, h02⟩ := hb
      cases k with
      | zero =>
        rw [val] at h
        simp only [hdk_cons, h6, h7, h8, Bool.false_eq_true, or_self, if_false] at h
        cases h
      | succ k =>
        rw [val] at h
        have h0 : (t.f0 == 0) = false ∧ (t.f0 == 2) = false := by
          rcases h02 with h | h
          · exact h
          · simp at h
        simp only [hdk_cons, h6, h7, h8, h0.1, h0.2, Bool.false_eq_true, or_self, if_false] at h
        cases h
theorem mem_tells {k : Nat} {en : Int} (hG : OneG (valN en k) (val k) (bgK k) en) : OneG (memN (valN en k) (bgK k) en) (one1 (val k)) (bgK k) en := by
  intro p ts ns hb
  cases ts with
  | nil => simp [nextT, bgK] at hb
  | cons t r =>
    have et : nextT en (t :: r) = t := rfl
    rw [et] at hb
    unfold memN one1
    rw [et]
    by_cases h6 : t.f0 = 6
    · have hh6 : hdk (t :: r) 6 = true := by rw [hdk_cons]; exact beq_iff_eq.mpr h6
      rw [if_pos h6, if_pos hh6]
      have hv : valN en k ns.length (t :: r) (putN ns p 3 t.f1 t.f2) = (r, scal ns.length t (putN ns p 3 t.f1 t.f2)) := by
        cases k with
        | zero => rfl
        | succ k => unfold valN; rw [et, if_neg (by omega), if_neg (by omega)]; rfl
      rw [hv]
      have hes : errs (scal (ns.length : Int) t (putN ns p 3 t.f1 t.f2)) = errs ns := by rw [errs_scal, errs_put _ _ _ _ _ (by decide)]
      generalize scal (ns.length : Int) t (putN ns p 3 t.f1 t.f2) = ms at hes
      show Tells (if hdk r 4 = true then val k r.tail else none) ns _
      cases r with
      | nil =>
        show errs ns < _
        refine Nat.lt_of_lt_of_le ?_ (pair_le (val_le en k) (bgK k) en _ t _)
        unfold colN
        rw [if_neg (by show ¬ (-1 : Int) = 4; decide)]
        show errs ns < errs (lackN ms _ _)
        rw [errs_lack]; omega
      | cons t2 r2 =>
        have e2 : nextT en (t2 :: r2) = t2 := rfl
        by_cases h4 : t2.f0 = 4
        · have hh4 : hdk (t2 :: r2) 4 = true := by rw [hdk_cons]; exact beq_iff_eq.mpr h4
          rw [if_pos hh4]
          have ec : colN en ns.length t (t2 :: r2, ms) = ((r2, ms), t2.f2) := by unfold colN; rw [e2, if_pos h4]; rfl
          unfold pairN
          rw [ec]
          show Tells (val k r2) ns ((pvN (valN en k) (bgK k) en ns.length (r2, ms)).1, reachN (pvN (valN en k) (bgK k) en ns.length (r2, ms)).2 ns.length t2.f2)
          unfold pvN
          by_cases hb3 : bgK k (nextT en r2) = true
          · rw [if_pos hb3]
            have g := hG ns.length r2 ms hb3
            unfold Tells at g ⊢
            cases hvv : val k r2 with
            | none => rw [hvv] at g; show errs ns < errs (reachN (valN en k ns.length r2 ms).2 ns.length t2.f2); rw [errs_reach]; have g' : errs ms < errs (valN en k ns.length r2 ms).2 := g; omega
            | some us => rw [hvv] at g; exact ⟨g.1, by show errs (reachN _ _ _) = _; rw [errs_reach, g.2, hes]⟩
          · rw [if_neg hb3]
            have hn : val k r2 = none := by
              cases ho : val k r2 with
              | none => rfl
              | some us => obtain ⟨t', r', e, hb'⟩ := val_begins k _ _ ho; subst e; exact absurd hb' hb3
            rw [hn]
            show errs ns < errs (reachN (lackN ms _ _) _ _)
            rw [errs_reach, errs_lack]; omega
        · have hh4 : hdk (t2 :: r2) 4 = false := by rw [hdk_cons]; exact beq_eq_false_iff_ne.mpr h4
          rw [hh4, if_neg (by decide)]
          show errs ns < _
          refine Nat.lt_of_lt_of_le ?_ (pair_le (val_le en k) (bgK k) en _ t _)
          unfold colN
          rw [e2, if_neg h4]
          show errs ns < errs (lackN ms _ _)
          rw [errs_lack]; omega
    · have hh6 : hdk (t :: r) 6 = false := by rw [hdk_cons]; exact beq_eq_false_iff_ne.mpr h6
      rw [if_neg h6, hh6, if_neg (by decide)]
      exact wrap_lt (val_le en k) en p (t :: r) ns
theorem scal_tells {p en : Int} {ts : List Tk} {ns : List Nd} : Tells (some ts.tail) ns (ts.tail, scal p (nextT en ts) ns) := ⟨rfl, errs_scal _ _ _⟩
theorem closes (c : Int) (h : c = 1 ∨ c = 3) (k : Nat) (t : Tk) (e : t.f0 = c) : bgK k t = false := by
  unfold bgK; rcases h with rfl | rfl <;> rw [e] <;> rfl
theorem val_tells (en : Int) : ∀ k, OneG (valN en k) (val k) (bgK k) en := by
  intro k
  induction k with
  | zero =>
    intro p ts ns hb
    cases ts with
    | nil => simp [nextT, bgK] at hb
    | cons t r =>
      have e : val 0 (t :: r) = some r := by
        rw [val]
        have : (t.f0 == 6) = true ∨ (t.f0 == 7) = true ∨ (t.f0 == 8) = true := by
          simp only [nextT, bgK, Bool.or_eq_true, Bool.and_eq_true, beq_iff_eq, decide_eq_true_eq] at hb ⊢; omega
        rw [if_pos (show hdk (t :: r) 6 = true ∨ hdk (t :: r) 7 = true ∨ hdk (t :: r) 8 = true from this)]; rfl
      rw [e]; exact scal_tells
  | succ k ih =>
    intro p ts ns hb
    cases ts with
    | nil => simp [nextT, bgK] at hb
    | cons t r =>
      have et : nextT en (t :: r) = t := rfl
      rw [et] at hb
      rw [val]
      by_cases hs : (t.f0 == 6) = true ∨ (t.f0 == 7) = true ∨ (t.f0 == 8) = true
      · rw [if_pos (show hdk (t :: r) 6 = true ∨ hdk (t :: r) 7 = true ∨ hdk (t :: r) 8 = true from hs)]
        simp only [beq_iff_eq] at hs
        unfold valN
        rw [et, if_neg (by omega), if_neg (by omega)]
        exact scal_tells (en := en) (ts := t :: r)
      · rw [if_neg (show ¬ (hdk (t :: r) 6 = true ∨ hdk (t :: r) 7 = true ∨ hdk (t :: r) 8 = true) from hs)]
        unfold valN
        rw [et]
        by_cases h0 : t.f0 = 0
        · rw [if_pos h0, if_pos (show hdk (t :: r) 0 = true by rw [hdk_cons]; exact beq_iff_eq.mpr h0)]
          have g := list_tells (mem_tells ih) (Go.Proofs.Ytehojohacombkaa.Gd.one1_less (Go.Proofs.Ytehojohacombkaa.Gd.val_less k)) (one1_begins k) (mem_le (val_le en k) _ en) 1 ns.length (by decide) (closes 1 (.inl rfl) k) ((t :: r).length + 1) 0 r (putN ns p 1 t.f1 t.f2) (r.length + 1) (.inl rfl) (by simp only [List.length_cons]; omega) (by omega)
          have e : spec (one1 (val k)) 1 (r.length + 1) 0 r = rs (one1 (val k)) 1 r := by unfold spec rs; rw [if_neg (by decide), if_pos rfl]
          rw [e] at g
          unfold Tells at g ⊢
          rw [errs_put _ _ _ _ _ (by decide)] at g
          exact g
        · rw [if_neg h0, if_neg (show ¬ hdk (t :: r) 0 = true by rw [hdk_cons]; simpa using h0)]
          by_cases h2 : t.f0 = 2
          · rw [if_pos h2, if_pos (show hdk (t :: r) 2 = true by rw [hdk_cons]; exact beq_iff_eq.mpr h2)]
            have g := list_tells ih (Go.Proofs.Ytehojohacombkaa.Gd.val_less k) (val_begins k) (val_le en k) 3 ns.length (by decide) (closes 3 (.inr rfl) k) ((t :: r).length + 1) 0 r (putN ns p 2 t.f1 t.f2) (r.length + 1) (.inl rfl) (by simp only [List.length_cons]; omega) (by omega)
            have e : spec (val k) 3 (r.length + 1) 0 r = rs (val k) 3 r := by unfold spec rs; rw [if_neg (by decide), if_pos rfl]
            rw [e] at g
            unfold Tells at g ⊢
            rw [errs_put _ _ _ _ _ (by decide)] at g
            exact g
          · exfalso
            simp only [bgK, Bool.or_eq_true, Bool.and_eq_true, beq_iff_eq] at hb hs
            omega
theorem main_le {v : One} (h : OneLe v) (bg : Tk → Bool) (en : Int) : ∀ (n : Nat) (had : Bool) (ts : List Tk) (ns : List Nd), errs ns ≤ errs (mainN v bg en n had ts ns) := by
  intro n
  induction n with
  | zero => intro had ts ns; exact Nat.le_refl _
  | succ n ih =>
    intro had ts ns
    cases ts with
    | nil =>
      show errs ns ≤ errs (if had = true then ns else lackN ns 0 en)
      split
      · exact Nat.le_refl _
      · rw [errs_lack]; omega
    | cons t r =>
      rw [mainN]; split
      · split
        · exact Nat.le_trans (wrap_le h en 0 (t :: r) ns) (ih true _ _)
        · exact Nat.le_trans (h 0 (t :: r) ns) (ih true _ _)
      · refine Nat.le_trans ?_ (ih had _ _)
        rw [errs_put7]; omega
theorem main_good (en : Int) (n : Nat) (ts : List Tk) (ns : List Nd) (hn : ts.length < n) (h0 : errs ns = 0) :
    decide (errs (mainN (valN en 12) (bgK 12) en n false ts ns) = 0) = (match val 12 ts with | some [] => true | _ => false) := by
  have hno : ∀ t r, bgK 12 t = false → val 12 (t :: r) = none := by
    intro t r h
    cases ho : val 12 (t :: r) with
    | none => rfl
    | some us => obtain ⟨t', r', e, hb⟩ := val_begins 12 _ _ ho; cases e; rw [h] at hb; cases hb
  cases n with
  | zero => omega
  | succ n =>
    cases ts with
    | nil =>
      show decide (errs (lackN ns 0 en) = 0) = false
      rw [errs_lack]; simp
    | cons t r =>
      rw [mainN]
      cases hb : bgK 12 t with
      | false =>
        rw [if_neg (by decide), hno t r hb]
        have := main_le (val_le en 12) (bgK 12) en n false r (putN ns 0 7 t.f1 t.f2)
        rw [errs_put7] at this
        exact decide_eq_false (by omega)
      | true =>
        rw [if_pos rfl, if_neg (by decide)]
        have g := val_tells en 12 0 (t :: r) ns hb
        have gl := main_le (val_le en 12) (bgK 12) en n true (valN en 12 0 (t :: r) ns).1 (valN en 12 0 (t :: r) ns).2
        cases ho : val 12 (t :: r) with
        | none =>
          rw [ho] at g
          have g' : errs ns < errs (valN en 12 0 (t :: r) ns).2 := g
          exact decide_eq_false (by omega)
        | some us =>
          rw [ho] at g
          obtain ⟨g1, g2⟩ := g
          have hlt := Go.Proofs.Ytehojohacombkaa.Gd.val_less 12 _ _ ho
          simp only [List.length_cons] at hlt hn
          rw [g1]
          cases n with
          | zero => omega
          | succ n =>
            cases us with
            | nil =>
              show decide (errs (valN en 12 0 (t :: r) ns).2 = 0) = true
              exact decide_eq_true (by omega)
            | cons t2 r2 =>
              rw [mainN]
              cases hb2 : bgK 12 t2 with
              | false =>
                rw [if_neg (by decide)]
                have := main_le (val_le en 12) (bgK 12) en n true r2 (putN (valN en 12 0 (t :: r) ns).2 0 7 t2.f1 t2.f2)
                rw [errs_put7] at this
                exact decide_eq_false (by omega)
              | true =>
                rw [if_pos rfl, if_pos rfl]
                have := main_le (val_le en 12) (bgK 12) en n true (wrapN (valN en 12) en 0 (t2 :: r2) (valN en 12 0 (t :: r) ns).2).1 (wrapN (valN en 12) en 0 (t2 :: r2) (valN en 12 0 (t :: r) ns).2).2
                have := wrap_lt (val_le en 12) en 0 (t2 :: r2) (valN en 12 0 (t :: r) ns).2
                exact decide_eq_false (by omega)
theorem errs_root (en : Int) : errs (putN [] 0 0 0 en) = 0 := by rw [errs_put _ _ _ _ _ (by decide)]; rfl
/-- The tree's errors and the language. -/
theorem good_tree (l : List UInt8) : decide (errs (nodesN l) = 0) = Go.Proofs.Ytehojohacombkaa.Gd.good l := main_good _ _ _ _ (Nat.lt_succ_self _) (errs_root _)
end Go.Proofs.Ytehojohacombkaa.Ps
