/- The plain law CursorSigns: no program in sight but the printed function. -/
import Derived.Test.YtldaokclpkcmmaaC1
import Derived.Test.YtldaokclpkcmmaaM6r
import Derived.Test.YtldaokclpkcmmaaGMinuetlaw6PCursorSigns
namespace Go.Proofs.Ytldaokclpkcmmaa.Pl
open Go.RowKit Go.Proofs.Ytldaokclpkcmmaa.G Go.Proofs.YtldaokclpkcmmaaW.PrintWords Go.Proofs.YtldaokclpkcmmaaW.PrintLast Go.Proofs.YtldaokclpkcmmaaW.PrintMore
set_option linter.unusedVariables false
set_option linter.unusedSimpArgs false
/-- Is the byte at a place kept? -/
def kpAt : Int → List Cm → Bool
  | _, [] => false
  | p, c :: r => if c.f0 = 1 then kpAt p r else ((decide (c.f0 = 0) && (decide (0 ≤ p) && decide (p < c.f1))) || kpAt (p - c.f1) r)
theorem kpAt_neg {cs : List Cm} (hs : solid cs) : ∀ p, p < 0 → kpAt p cs = false := by
  induction cs with
  | nil => intro p _; rfl
  | cons c r ih =>
    intro p h
    have h0 := (hs c List.mem_cons_self).1.1
    rw [kpAt]
    split
    · exact ih (solid_tail hs) p h
    · rw [ih (solid_tail hs) _ (by omega), decide_eq_false (show ¬ 0 ≤ p by omega)]; simp
theorem mv_zero {cs : List Cm} : mv false 0 cs = 0 := by
  cases cs with
  | nil => rfl
  | cons c r => rw [mv_cons, if_pos ⟨rfl, .inr rfl⟩]
theorem kp_law {cs : List Cm} (hs : solid cs) : ∀ (p : Int) (s : List UInt8), 0 ≤ p → froms cs = (s.length : Int) → p < froms cs → kpAt p cs = true →
    mv false (p + 1) cs = mv true p cs + 1 ∧ 0 ≤ mv true p cs ∧ mv true p cs < tos cs ∧ (ap s cs).getD (mv true p cs).toNat 0 = s.getD p.toNat 0 := by
  induction cs with
  | nil => intro p s h0 h1 h2 h3; cases h3
  | cons c r ih =>
    intro p s h0 h1 h2 h3
    have hc := (hs c List.mem_cons_self).1
    have hz := (hs c List.mem_cons_self).2
    have hcz := good_sz hc
    have h0c := hc.1
    have hr := solid_tail hs
    have hgr := solid_good hr
    have hfr := (froms_le hgr).1
    have htr := (tos_le hgr).1
    rw [kpAt] at h3
    by_cases k1 : c.f0 = 1
    · rw [if_pos k1] at h3
      have hf : froms (c :: r) = froms r := by simp only [froms, if_pos k1, Int.zero_add]
      rw [hf] at h1 h2
      obtain ⟨i1, i0, i2, i3⟩ := ih hr p s h0 h1 h2 h3
      have hsz : sz c = (c.f2.size : Int) := by unfold sz; have := hc.2.2.1 k1; omega
      have e1 : mv true p (c :: r) = (c.f2.size : Int) + mv true p r := by
        rw [mv_cons, if_neg (show ¬ (p = 0 ∧ (c.f0 ≠ 1 ∨ true = false)) by simp [k1]), if_pos k1]
      have e2 : mv false (p + 1) (c :: r) = (c.f2.size : Int) + mv false (p + 1) r := by
        rw [mv_cons, if_neg (show ¬ (p + 1 = 0 ∧ (c.f0 ≠ 1 ∨ false = false)) by omega), if_pos k1]
      have e3 : tos (c :: r) = (c.f2.size : Int) + tos r := by simp only [tos, if_neg (show ¬ c.f0 = 2 by omega), hsz]
      have e4 : ap s (c :: r) = bl c.f2 ++ ap s r := by rw [ap_not (by omega), hc.2.2.1 k1]; rfl
      rw [e1, e2, e3, e4]
      refine ⟨by omega, by omega, by omega, ?_⟩
      rw [← i3, List.getD_eq_getElem?_getD, List.getD_eq_getElem?_getD, List.getElem?_append_right (by rw [bl_len]; omega), bl_len]
      congr 2; omega
    · rw [if_neg k1] at h3
      have hsz : sz c = c.f1 := by unfold sz; have := hc.2.2.2 k1; omega
      have hf : froms (c :: r) = c.f1 + froms r := by simp only [froms, if_neg k1]
      rw [hf] at h1 h2
      have htx := size0 (hc.2.2.2 k1)
      by_cases hlt : p < c.f1
      · rw [kpAt_neg hr (p - c.f1) (by omega), decide_eq_true hlt, decide_eq_true h0] at h3
        have k0 : c.f0 = 0 := by simpa using h3
        have e1 : mv true p (c :: r) = p := by
          rw [mv_cons]
          by_cases hp : p = 0
          · rw [if_pos ⟨hp, .inl k1⟩, hp]
          · rw [if_neg (by omega), if_neg k1, if_pos k0, if_pos hlt]
        have e2 : mv false (p + 1) (c :: r) = p + 1 := by
          rw [mv_cons, if_neg (by omega), if_neg k1, if_pos k0]
          by_cases hq : p + 1 < c.f1
          · rw [if_pos hq]
          · rw [if_neg hq, show p + 1 - c.f1 = 0 by omega, mv_zero]; omega
        have e3 : tos (c :: r) = c.f1 + tos r := by simp only [tos, if_neg (show ¬ c.f0 = 2 by omega), hsz]
        rw [e1, e2, e3]
        refine ⟨rfl, h0, by omega, ?_⟩
        rw [ap_keep k0, List.getD_eq_getElem?_getD, List.getD_eq_getElem?_getD, List.getElem?_append_left (by rw [List.length_take]; omega), List.getElem?_take_of_lt (by omega)]
      · rw [decide_eq_false hlt] at h3
        have h3' : kpAt (p - c.f1) r = true := by simpa using h3
        obtain ⟨i1, i0, i2, i3⟩ := ih hr (p - c.f1) (s.drop c.f1.toNat) (by omega) (by rw [List.length_drop]; omega) (by omega) h3'
        have hnz : ¬ (p = 0 ∧ (c.f0 ≠ 1 ∨ true = false)) := by omega
        have hnz2 : ¬ (p + 1 = 0 ∧ (c.f0 ≠ 1 ∨ false = false)) := by omega
        have hget : (s.drop c.f1.toNat).getD (p - c.f1).toNat 0 = s.getD p.toNat 0 := by
          rw [List.getD_eq_getElem?_getD, List.getD_eq_getElem?_getD, List.getElem?_drop]
          congr 2; omega
        rw [hget] at i3
        by_cases k0 : c.f0 = 0
        · have e1 : mv true p (c :: r) = c.f1 + mv true (p - c.f1) r := by rw [mv_cons, if_neg hnz, if_neg k1, if_pos k0, if_neg hlt]
          have e2 : mv false (p + 1) (c :: r) = c.f1 + mv false (p + 1 - c.f1) r := by rw [mv_cons, if_neg hnz2, if_neg k1, if_pos k0, if_neg (by omega)]
          have e3 : tos (c :: r) = c.f1 + tos r := by simp only [tos, if_neg (show ¬ c.f0 = 2 by omega), hsz]
          rw [show p - c.f1 + 1 = p + 1 - c.f1 by omega] at i1
          rw [e1, e2, e3]
          refine ⟨by omega, by omega, by omega, ?_⟩
          rw [← i3, ap_keep k0, htx, List.nil_append, List.getD_eq_getElem?_getD, List.getD_eq_getElem?_getD, List.getElem?_append_right (by rw [List.length_take]; omega), List.length_take]
          congr 2; omega
        · have k2 : c.f0 = 2 := by have := hc.2.1; omega
          have e1 : mv true p (c :: r) = mv true (p - c.f1) r := by rw [mv_cons, if_neg hnz, if_neg k1, if_neg k0, if_neg hlt]
          have e2 : mv false (p + 1) (c :: r) = mv false (p + 1 - c.f1) r := by rw [mv_cons, if_neg hnz2, if_neg k1, if_neg k0, if_neg (by omega)]
          have e3 : tos (c :: r) = tos r := by simp only [tos, if_pos k2, Int.zero_add]
          rw [show p - c.f1 + 1 = p + 1 - c.f1 by omega] at i1
          rw [e1, e2, e3]
          refine ⟨by omega, by omega, by omega, ?_⟩
          rw [← i3, ap_not k0, htx, List.nil_append]
theorem bt_get (s : ByteArray) (i : Nat) (h : i < s.size) : bt s (i : Int) = (((bl s).getD i 0).toNat : Int) := by
  unfold bt
  rw [dif_pos (show ((i : Int)).toNat < s.size by rw [Int.toNat_natCast]; exact h)]
  simp only [Int.toNat_natCast]
  congr 1
  have h' : i < (bl s).length := by rw [bl_len]; exact h
  rw [List.getD_eq_getElem?_getD, List.getElem?_eq_getElem h']
  rfl
theorem Signs_l0 (s t : ByteArray) (xs : List Cm) (hs : solid xs) (hl : xs.length ≤ 4096) (ht : froms xs ≤ 4096) (i a b : Int) (hi : 0 ≤ i) (hi2 : i < (s.size : Int)) (hts : t.size ≤ 4611686018427387904)
    (hfin : kpAt i xs = true → b = a + 1 ∧ 0 ≤ a ∧ a < (t.size : Int) ∧ bt t a = bt s i) :
    ∀ (suf pre : List Cm) (old : Int) (kept : Bool), xs = pre ++ suf → old = froms pre → (kpAt i xs = (kept || kpAt (i - old) suf)) → Ev (fun k => minuetlaw6_CursorSigns.l0 k s xs t i a b old kept (pre.length : Int)) true := by
  intro suf
  induction suf with
  | nil =>
    intro pre old kept e ho hk
    refine Ev.step (fun k => by rw [minuetlaw6_CursorSigns.l0]) ?_
    simp only [if_neg (nlt_of e)]
    cases kept with
    | false => simp only [Bool.false_eq_true, if_false]; exact Ev.now _
    | true =>
      obtain ⟨q1, q2, q3, q4⟩ := hfin (by rw [hk]; rfl)
      simp only [if_true, if_pos (show b = wrap64 (a + 1) by rw [w64 (by omega) (by omega)]; exact q1), if_pos q2, if_pos q3, if_pos hi, if_pos hi2, q4, beq_self_eq_true]
      exact Ev.now _
  | cons c suf ih =>
    intro pre old kept e ho hk
    have hlt := lt_len e
    have hc := (hs c (mem_of e)).1
    have hpre : ∀ c ∈ pre, good c := fun d hd => (hs d (by rw [e]; simp [hd])).1
    have hsuf : ∀ c ∈ suf, good c := fun d hd => (hs d (by rw [e]; simp [hd])).1
    have h0 := hc.1; have h1 := (froms_le hpre).1; have h2 := (froms_le hsuf).1
    have h3 : froms pre + froms (c :: suf) = froms xs := by rw [e, froms_append]
    refine Ev.step (fun k => by rw [minuetlaw6_CursorSigns.l0]) ?_
    simp only [if_pos (lt_of e), if_pos (nat_nonneg _), rd_of e, len_next pre c (by omega)]
    rw [kpAt] at hk
    by_cases k1 : c.f0 = 1
    · simp only [if_pos k1]
      rw [if_pos k1] at hk
      exact ih (pre ++ [c]) old kept (next_of e) (by rw [froms_append, ho]; simp [froms, k1]) hk
    · rw [if_neg k1] at hk
      have hf : froms (c :: suf) = c.f1 + froms suf := by simp only [froms, if_neg k1]
      have hw : wrap64 (old + c.f1) = old + c.f1 := w64 (by omega) (by omega)
      have hn : old + c.f1 = froms (pre ++ [c]) := by rw [froms_append, ho]; simp [froms, k1]
      simp only [if_neg k1, hw]
      cases kept with
      | true =>
        simp only [if_true]
        exact ih (pre ++ [c]) (old + c.f1) true (next_of e) hn (by rw [hk]; simp)
      | false =>
        simp only [Bool.false_eq_true, if_false]
        rw [Bool.false_or, show i - old - c.f1 = i - (old + c.f1) by omega] at hk
        by_cases k0 : c.f0 = 0
        · simp only [if_pos k0]
          by_cases hge : i ≥ old
          · simp only [if_pos hge]
            refine ih (pre ++ [c]) (old + c.f1) _ (next_of e) hn ?_
            rw [hk, decide_eq_true k0, decide_eq_true (show 0 ≤ i - old by omega), Bool.true_and, Bool.true_and]
            congr 1
            rw [Bool.eq_iff_iff]; simp only [decide_eq_true_eq]; omega
          · simp only [if_neg hge]
            refine ih (pre ++ [c]) (old + c.f1) false (next_of e) hn ?_
            rw [hk, decide_eq_false (show ¬ 0 ≤ i - old by omega)]; simp
        · simp only [if_neg k0]
          refine ih (pre ++ [c]) (old + c.f1) false (next_of e) hn ?_
          rw [hk, decide_eq_false k0]; simp
theorem CursorSigns_pure {ok : Cm → Prop} (s : ByteArray) (cs : List Cm) (at_ : Int) (_hs : s.size ≤ 140737488351232) (_h : ∀ a ∈ cs, ok a) (_h2 : cs.length * 32 ≤ 140737488351232) (_ha : (Lit.int .i64 at_).wf = true) : ∃ k, minuetlaw6_CursorSigns.f k s cs at_ = some true := by
  refine Ev.rounds (Ev.congr (fun k => by rw [minuetlaw6_CursorSigns.f]) (Ev.bind awake6 ?_))
  simp only [if_true]
  refine Ev.bind (rApply_ev s cs) ?_
  have out : ∀ t, Ev (fun k => minuetlaw6_CursorSigns.j0 k s cs at_ t true) true := by
    intro t
    refine Ev.step (fun k => by rw [minuetlaw6_CursorSigns.j0]) ?_
    simp only [if_true]; exact Ev.now _
  by_cases h : mayB cs = true ∧ froms cs = (s.size : Int)
  · obtain ⟨hm, hf⟩ := h
    obtain ⟨c1, c2, c3⟩ := may_bounds hm
    obtain ⟨_, _, _, p1, p2⟩ := (may_iff cs).1 hm
    have hso := may_solid hm
    rw [apM_ok hm hf]
    simp only [if_true]
    by_cases hz : (s.size : Int) = 0
    · rw [beq_iff_eq.mpr hz]; exact out _
    · rw [beq_eq_false_iff_ne.mpr hz]
      refine Ev.step (fun k => by rw [minuetlaw6_CursorSigns.j0]) ?_
      have m1 := modix at_ ((s.size : Int) - 1) (by omega) (by omega)
      have m2 := u64_ne ((s.size : Int) - 1) (by omega) (by omega)
      rw [Int.sub_add_cancel] at m1 m2
      rw [w64 (x := (s.size : Int)) (by omega) (by omega)] at m1 m2
      simp only [Bool.false_eq_true, if_false, if_neg m2]
      generalize wrap64 (Int.tmod (IntKind.u64.wrap at_) (IntKind.u64.wrap (s.size : Int))) = i at m1 ⊢
      have hw : wrap64 (i + 1) = i + 1 := w64 (by omega) (by omega)
      simp only [hw]
      refine Ev.bind (Move_ev cs i true) ?_
      refine Ev.bind (Move_ev cs (i + 1) false) ?_
      rw [move_ok true hm m1.1 (by omega), move_ok false hm (by omega) (by omega)]
      simp only [num_eq, Option.bind_some, if_true]
      have r1 := mv_range (b := true) hso i m1.1 (by omega)
      have r2 := mv_range (b := false) hso (i + 1) (by omega) (by omega)
      have ht : ((bs (ap (bl s) cs)).size : Int) = tos cs := by
        rw [bs_size]
        exact ap_len c2 (bl s) (by rw [bl_len]; omega)
      have hap : ∀ j, j < (ap (bl s) cs).length → bt (bs (ap (bl s) cs)) (j : Int) = (((ap (bl s) cs).getD j 0).toNat : Int) := fun j hj => by
        rw [bt_get _ j (by rw [bs_size]; exact hj), bl_bs]
      have hlen : ((ap (bl s) cs).length : Int) = tos cs := ap_len c2 (bl s) (by rw [bl_len]; omega)
      simp only [if_neg (show ¬ mv true i cs < 0 by omega), ht, if_neg (show ¬ mv false (i + 1) cs > tos cs by omega)]
      rw [w64 (x := mv false (i + 1) cs + tos cs) (by omega) (by omega), decide_eq_false (show ¬ mv true i cs > mv false (i + 1) cs + tos cs by omega)]
      refine Ev.step (fun k => by rw [minuetlaw6_CursorSigns.j1]) ?_
      simp only [Bool.false_eq_true, if_false]
      refine Signs_l0 s (bs (ap (bl s) cs)) cs hso c1 (by omega) i (mv true i cs) (mv false (i + 1) cs) m1.1 (by omega) (by omega) ?_ cs [] 0 false rfl rfl (by rw [Bool.false_or, Int.sub_zero])
      intro hk
      obtain ⟨q1, q2, q3, q4⟩ := kp_law hso i (bl s) m1.1 (by rw [bl_len]; exact hf) (by omega) hk
      refine ⟨q1, q2, by rw [ht]; exact q3, ?_⟩
      have x1 := hap (mv true i cs).toNat (by omega)
      have x2 := bt_get s i.toNat (by omega)
      rw [Int.toNat_of_nonneg q2, q4] at x1
      rw [Int.toNat_of_nonneg m1.1] at x2
      rw [x1, x2]
  · rw [apM_err h]
    simp only [Int.reduceEq, if_false]
    exact out _
end Go.Proofs.Ytldaokclpkcmmaa.Pl
