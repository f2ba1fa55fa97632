/- Two edits of one text, byte by byte: what the one does behind the other. No program in sight. -/
import Derived.Test.YtldaokclpkcmmabT1
import Derived.Test.YtldaokclpkcmmabE6
namespace Go.Proofs.Ytldaokclpkcmmab.Pl
open Go.RowKit Go.Proofs.Ytldaokclpkcmmab.G Go.Proofs.YtldaokclpkcmmabW.PrintWords Go.Proofs.YtldaokclpkcmmabW.PrintLast
set_option linter.unusedVariables false
set_option linter.unusedSimpArgs false
/-- A put, or a byte that is kept (true) or cut (false). -/
abbrev Un := List UInt8 ⊕ Bool
def us : List Cm → List Un
  | [] => []
  | c :: A => (if c.f0 = 1 then [.inl (bl c.f2)] else List.replicate c.f1.toNat (.inr (decide (c.f0 = 0)))) ++ us A
def mu (f : Bool) (A B : List Un) (s : List UInt8) : List UInt8 :=
  match A, B with
  | .inl p :: A', .inl q :: B' => if f = true then p ++ mu f A' (.inl q :: B') s else q ++ mu f (.inl p :: A') B' s
  | .inl p :: A', .inr b :: B' => p ++ mu f A' (.inr b :: B') s
  | .inl p :: A', [] => p ++ mu f A' [] s
  | .inr a :: A', .inl q :: B' => q ++ mu f (.inr a :: A') B' s
  | [], .inl q :: B' => q ++ mu f [] B' s
  | .inr a :: A', .inr b :: B' => (if a && b then s.take 1 else []) ++ mu f A' B' (s.drop 1)
  | [], .inr _ :: _ => []
  | .inr _ :: _, [] => []
  | [], [] => []
termination_by A.length + B.length
theorem mu_rr (f a b : Bool) (A B : List Un) (s : List UInt8) : mu f (.inr a :: A) (.inr b :: B) s = (if a && b then s.take 1 else []) ++ mu f A B (s.drop 1) := by rw [mu]
theorem mu_rep (f a b : Bool) (A B : List Un) : ∀ (m : Nat) (s : List UInt8), mu f (List.replicate m (.inr a) ++ A) (List.replicate m (.inr b) ++ B) s = (if a && b then s.take m else []) ++ mu f A B (s.drop m) := by
  intro m
  induction m with
  | zero => intro s; simp
  | succ m ih =>
    intro s
    rw [List.replicate_succ, List.replicate_succ, List.cons_append, List.cons_append, mu_rr, ih, List.drop_drop, Nat.add_comm 1 m, ← List.append_assoc]
    congr 1
    by_cases h : (a && b) = true
    · rw [if_pos h, if_pos h, if_pos h, Nat.add_comm m 1, List.take_add]
    · rw [if_neg h, if_neg h, if_neg h]; rfl
theorem us_put {c : Cm} (h : c.f0 = 1) (A : List Cm) : us (c :: A) = .inl (bl c.f2) :: us A := by rw [us, if_pos h]; rfl
theorem us_app (a b : List Cm) : us (a ++ b) = us a ++ us b := by
  induction a with
  | nil => rfl
  | cons c a ih => rw [List.cons_append, us, us, ih, List.append_assoc]
theorem us_rst {c : Cm} {A : List Cm} (hc : good c) (k : ¬ c.f0 = 1) {m : Int} (h0 : 0 ≤ m) (h1 : m ≤ sz c) : us (c :: A) = List.replicate m.toNat (.inr (decide (c.f0 = 0))) ++ us (rst m c A) := by
  have hs := sz_n hc k
  unfold rst
  by_cases e : m = sz c
  · rw [if_pos e, us, if_neg k, e, hs]
  · rw [if_neg e, tl_n k, us, if_neg k, us]
    simp only
    rw [if_neg k, ← List.append_assoc, List.replicate_append_replicate]
    congr 2; omega
/-- What the one edit does behind the other one is told by the pieces' bytes. -/
theorem tr_mu : ∀ (n : Nat) (f : Bool) (A B : List Cm), A.length + B.length ≤ n → okA A → okA B → froms A = froms B → ∀ s : List UInt8, froms A ≤ s.length → ap (ap s B) (tr n f A B).1 = mu f (us A) (us B) s := by
  intro n
  induction n with
  | zero =>
    intro f A B hn hA hB hb s hs
    have e1 : A = [] := List.eq_nil_of_length_eq_zero (by omega)
    have e2 : B = [] := List.eq_nil_of_length_eq_zero (by omega)
    subst e1 e2
    simp only [us]; rw [mu]; rfl
  | succ n ih =>
    intro f A B hn hA hB hb s hs
    cases A with
    | nil =>
      cases B with
      | nil => simp only [us]; rw [mu]; rfl
      | cons d B =>
        have hd' := hB d List.mem_cons_self
        have hB' := okA_tail hB
        have hf := froms_le (okA_good hB')
        have hp := pos hd'
        by_cases k : d.f0 = 1
        · rw [froms_put k] at hb
          simp only [List.length_nil, List.length_cons] at hn
          have := ih f [] B (by simp only [List.length_nil]; omega) hA hB' hb s hs
          rw [us_put k, ap_put hd'.1 k]
          simp only [tr, if_pos k]
          rw [ap_kpc (by rw [bl_len, sz_1 hd'.1 k]), this]
          simp only [us]
          rw [mu.eq_def f [] (_ :: _)]
        · rw [froms_cons hd'.1, ← sz_n hd'.1 k] at hb
          simp only [froms] at hb; omega
    | cons c A =>
      have hc' := hA c List.mem_cons_self
      have hA' := okA_tail hA
      have hcp := pos hc'
      have hfA := froms_le (okA_good hA')
      cases B with
      | nil =>
        by_cases k : c.f0 = 1
        · rw [froms_put k] at hb hs
          simp only [List.length_nil, List.length_cons] at hn
          have := ih f A [] (by simp only [List.length_nil]; omega) hA' hB hb s hs
          rw [us_put k]
          simp only [tr, if_pos k]
          rw [ap_put hc'.1 k, this]
          simp only [us]
          rw [mu.eq_def f (_ :: _) []]
        · rw [froms_cons hc'.1, ← sz_n hc'.1 k] at hb
          simp only [froms] at hb; omega
      | cons d B =>
        have hd' := hB d List.mem_cons_self
        have hB' := okA_tail hB
        have hdp := pos hd'
        simp only [List.length_cons] at hn
        have cons_r : ∀ (x : Cm) (X : List Cm), good x → sz x ≠ 0 → ¬ x.f0 = 1 → ∃ t, us (x :: X) = .inr (decide (x.f0 = 0)) :: t := by
          intro x X hx h0 k
          have hz := sz_n hx k; have := good_sz hx
          rw [us, if_neg k]
          obtain ⟨j, hj⟩ : ∃ j, x.f1.toNat = j + 1 := ⟨x.f1.toNat - 1, by omega⟩
          rw [hj, List.replicate_succ, List.cons_append]
          exact ⟨_, rfl⟩
        by_cases k1 : c.f0 = 1 ∧ (f = true ∨ d.f0 ≠ 1)
        · rw [froms_put k1.1] at hb hs
          have := ih f A (d :: B) (by simp only [List.length_cons]; omega) hA' hB hb s hs
          simp only [tr, if_pos k1]
          rw [ap_put hc'.1 k1.1, this, us_put k1.1]
          by_cases kd : d.f0 = 1
          · have hf : f = true := k1.2.resolve_right (fun h => h kd)
            rw [us_put kd, mu.eq_def f (_ :: _) (_ :: _)]
            simp only [hf, if_true]
          · obtain ⟨t, ht⟩ := cons_r d B hd'.1 hd'.2 kd
            rw [ht, mu.eq_def f (_ :: _) (_ :: _)]
        · by_cases kd : d.f0 = 1
          · rw [froms_put kd] at hb
            have := ih f (c :: A) B (by simp only [List.length_cons]; omega) hA hB' hb s hs
            simp only [tr, if_neg k1, if_pos kd]
            rw [ap_put hd'.1 kd, ap_kpc (by rw [bl_len, sz_1 hd'.1 kd]), this, us_put kd]
            by_cases kc : c.f0 = 1
            · have hf : ¬ f = true := fun h => k1 ⟨kc, .inl h⟩
              rw [us_put kc, mu.eq_def f (_ :: _) (.inl _ :: _)]
              simp only [if_neg hf]
            · obtain ⟨t, ht⟩ := cons_r c A hc'.1 hc'.2 kc
              rw [ht, mu.eq_def f (_ :: _) (.inl _ :: _)]
          · have kc : ¬ c.f0 = 1 := fun h => k1 ⟨h, .inr kd⟩
            obtain ⟨q1, q2, q3⟩ := mn_le (sz c) (sz d)
            simp only [tr, if_neg k1, if_neg kd]
            generalize mn (sz c) (sz d) = m at q1 q2 q3 ⊢
            have m0 : 0 ≤ m := by omega
            have e1 := rst_froms (A := A) hc'.1 m0 q1
            have e2 := rst_froms (A := B) hd'.1 m0 q2
            rw [if_neg kc] at e1
            rw [if_neg kd] at e2
            have hlen : (rst m c A).length + (rst m d B).length + 1 ≤ (c :: A).length + (d :: B).length := by
              simp only [List.length_cons]
              rcases q3 with q3 | q3
              · have := rst_len m d B
                have := rst_len' (c := c) A
                rw [← q3] at this; omega
              · have := rst_len m c A
                have := rst_len' (c := d) B
                rw [← q3] at this; omega
            have hr := froms_le (okA_good (rst_ok hA m0 q1))
            have hr2 := froms_le (okA_good (rst_ok hB m0 q2))
            have t := ih f (rst m c A) (rst m d B) (by simp only [List.length_cons] at hlen; omega) (rst_ok hA m0 q1) (rst_ok hB m0 q2) (by omega) (s.drop m.toNat) (by rw [List.length_drop]; omega)
            have g1 := hd_good hc'.1 m0; have g2 := hd_good hd'.1 m0
            have f1 : (hd m c).f1 = m := by rw [hd_n kc]
            have f2 : (hd m d).f1 = m := by rw [hd_n kd]
            have ck : c.f0 = 0 ∨ c.f0 = 2 := by have := hc'.1.2.1; omega
            have dk : d.f0 = 0 ∨ d.f0 = 2 := by have := hd'.1.2.1; omega
            rw [us_rst hc'.1 kc m0 q1, us_rst hd'.1 kd m0 q2, mu_rep, ← t]
            rw [ap_split hd'.1 m0 q2 s B, ap_cons g2, f2]
            have ho : outp s (hd m d) = if d.f0 = 0 then s.take m.toNat else [] := by
              unfold outp; rw [hd_k, f2]
              split
              · rfl
              · rw [hd_n kd]; exact size0 (hd'.1.2.2.2 kd)
            rw [ho]
            rcases dk with k0 | k0
            · have hl : (s.take m.toNat).length = m.toNat := by rw [List.length_take]; omega
              rw [if_pos k0, if_pos k0, List.singleton_append, ap_cons g1, f1, List.drop_left' hl]
              congr 1
              unfold outp; rw [hd_k, f1]
              rcases ck with k1' | k1'
              · rw [if_pos k1', List.take_left' hl, if_pos (by simp [k1', k0])]
              · rw [if_neg (by omega), if_neg (by simp [k1']), hd_n kc]; exact size0 (hc'.1.2.2.2 kc)
            · rw [if_neg (by omega), if_neg (by omega), List.nil_append, List.nil_append, if_neg (by simp [k0]), List.nil_append]
theorem trM_mu {f : Bool} {a b : List Cm} (ha : mayB a = true) (hb : mayB b = true) (h : froms a = froms b) (hl : a.length + b.length ≤ 4096) (h1 : tos b + psz a ≤ 4096) (h2 : tos a + psz b ≤ 4096) :
    ∃ p q, trM f a b = (p, q, 0) ∧ mayB p = true ∧ mayB q = true ∧ froms p = tos b ∧ froms q = tos a ∧ ∀ s : List UInt8, froms a ≤ s.length → ap (ap s b) p = mu f (us a) (us b) s ∧ ap (ap s a) q = mu f (us a) (us b) s := by
  have e := emitT_ok (f := f) ha hb h
  obtain ⟨_, _, _, p1, p2⟩ := (may_iff a).1 ha
  obtain ⟨_, _, _, p3, p4⟩ := (may_iff b).1 hb
  have t1 := e.tP; have t2 := e.tQ; have l1 := e.lP; have l2 := e.lQ
  have mp := norm_may _ (by omega) e.gP (by rw [e.fP]; exact p4) (by omega)
  have mq := norm_may _ (by omega) e.gQ (by rw [e.fQ]; exact p2) (by omega)
  refine ⟨_, _, trM_ok ha hb h mp mq, mp, mq, by rw [norm_froms e.gP]; exact e.fP, by rw [norm_froms e.gQ]; exact e.fQ, ?_⟩
  intro s hs
  have := tr_mu (a.length + b.length) f a b (Nat.le_refl _) (may_ok ha) (may_ok hb) h s hs
  rw [ap_norm e.gP, ap_norm e.gQ, e.app s hs]
  exact ⟨this, this⟩
/-- The pieces of an edit made, byte by byte. -/
theorem us_kp (a : Int) (h : 0 ≤ a) : us (kp a) = List.replicate a.toNat (.inr true) := by
  unfold kp; split
  · rename_i e; subst e; rfl
  · simp [us]
theorem us_ct (a : Int) (h : 0 ≤ a) : us (ct a) = List.replicate a.toNat (.inr false) := by
  unfold ct; split
  · rename_i e; subst e; rfl
  · simp [us]
theorem us_mk4 {a : Int} {p : ByteArray} {c b : Int} (ha : 0 ≤ a) (hc : 0 ≤ c) (hb : 0 ≤ b) : us (mk4 a p c b) = List.replicate a.toNat (.inr true) ++ (us (pt p) ++ (List.replicate c.toNat (.inr false) ++ List.replicate b.toNat (.inr true))) := by
  by_cases h : p.size = 0 ∧ c = 0
  · rw [mk4_deg a p c b ha hb h, us_kp _ (by omega)]
    have : pt p = [] := if_pos h.1
    rw [this, h.2]
    simp only [us, List.nil_append, Int.toNat_zero, List.replicate_zero, List.replicate_append_replicate]
    congr 1; omega
  · rw [mk4_gen a p c b h, us_app, us_app, us_app, us_kp a ha, us_ct c hc, us_kp b hb, List.append_assoc, List.append_assoc]
/-- A put, ahead of the rest of the one that has none there. -/
theorem mu_pt (f : Bool) (p : ByteArray) (A B : List Un) (s : List UInt8) (hA : ∀ q A', A ≠ .inl q :: A') : mu f A (us (pt p) ++ B) s = bl p ++ mu f A B s := by
  unfold pt; split
  · rename_i e; rw [size0 e]; rfl
  · simp only [us, if_true, List.append_nil, List.singleton_append]
    cases A with
    | nil => rw [mu.eq_def f [] (_ :: _)]
    | cons x A' =>
      cases x with
      | inl q => exact absurd rfl (hA q A')
      | inr a => rw [mu.eq_def f (_ :: _) (.inl _ :: _)]
theorem mu_tp (f : Bool) (p : ByteArray) (A B : List Un) (s : List UInt8) (hB : ∀ q B', B ≠ .inl q :: B') : mu f (us (pt p) ++ A) B s = bl p ++ mu f A B s := by
  unfold pt; split
  · rename_i e; rw [size0 e]; rfl
  · simp only [us, if_true, List.append_nil, List.singleton_append]
    cases B with
    | nil => rw [mu.eq_def f (_ :: _) []]
    | cons x B' =>
      cases x with
      | inl q => exact absurd rfl (hB q B')
      | inr a => rw [mu.eq_def f (.inl _ :: _) (_ :: _)]
theorem Ev_ite {α : Type} {c : Prop} [Decidable c] {f g : Nat → Option α} {r : α} (h1 : c → Ev f r) (h2 : ¬ c → Ev g r) : Ev (fun k => if c then f k else g k) r := by
  by_cases h : c
  · simp only [if_pos h]; exact h1 h
  · simp only [if_neg h]; exact h2 h
def noP (B : List Un) : Prop := ∀ q B', B ≠ .inl q :: B'
theorem noP_rep (m : Nat) (b : Bool) (B : List Un) (h : 0 < m ∨ noP B) : noP (List.replicate m (.inr b) ++ B) := by
  intro q B' e
  cases m with
  | zero => rw [List.replicate_zero, List.nil_append] at e; exact h.elim (fun h => absurd h (Nat.lt_irrefl 0)) (fun h => h q B' e)
  | succ m => rw [List.replicate_succ, List.cons_append] at e; injection e with e1 _; cases e1
theorem mu_tl (f : Bool) (p : ByteArray) (A B : List Un) (s : List UInt8) (h : f = true ∨ noP B) : mu f (us (pt p) ++ A) B s = bl p ++ mu f A B s := by
  by_cases k : noP B
  · exact mu_tp f p A B s k
  · have hf := h.resolve_right k
    unfold pt; split
    · rename_i e; rw [size0 e]; rfl
    · simp only [us, if_true, List.append_nil, List.singleton_append]
      cases B with
      | nil => exact absurd (fun q B' e => by cases e) k
      | cons x B' =>
        cases x with
        | inl q => rw [mu.eq_def f (.inl _ :: _) (_ :: _)]; simp only [hf, if_true]
        | inr a => rw [mu.eq_def f (.inl _ :: _) (_ :: _)]
theorem mu_tr (f : Bool) (p : ByteArray) (A B : List Un) (s : List UInt8) (h : f = false ∨ noP A) : mu f A (us (pt p) ++ B) s = bl p ++ mu f A B s := by
  by_cases k : noP A
  · exact mu_pt f p A B s k
  · have hf := h.resolve_right k
    unfold pt; split
    · rename_i e; rw [size0 e]; rfl
    · simp only [us, if_true, List.append_nil, List.singleton_append]
      cases A with
      | nil => exact absurd (fun q B' e => by cases e) k
      | cons x A' =>
        cases x with
        | inl q => rw [mu.eq_def f (.inl _ :: _) (.inl _ :: _)]; simp only [hf, Bool.false_eq_true, if_false]
        | inr a => rw [mu.eq_def f (.inr _ :: _) (.inl _ :: _)]
theorem mu_nil (f : Bool) (s : List UInt8) : mu f [] [] s = [] := by rw [mu]
/-- Two puts, the one ahead. -/
theorem mu_two (f : Bool) (P Q : ByteArray) (x y n : Nat) (s : List UInt8) (h1 : x ≤ y) (h2 : y ≤ n) (h : x < y ∨ f = true) :
    mu f (List.replicate x (.inr true) ++ (us (pt P) ++ List.replicate (n - x) (.inr true))) (List.replicate y (.inr true) ++ (us (pt Q) ++ List.replicate (n - y) (.inr true))) s = s.take x ++ (bl P ++ ((s.drop x).take (y - x) ++ (bl Q ++ (s.drop y).take (n - y)))) := by
  have e1 : (List.replicate y (.inr true) : List Un) = List.replicate x (.inr true) ++ List.replicate (y - x) (.inr true) := by rw [List.replicate_append_replicate]; congr 1; omega
  have e2 : (List.replicate (n - x) (.inr true) : List Un) = List.replicate (y - x) (.inr true) ++ List.replicate (n - y) (.inr true) := by rw [List.replicate_append_replicate]; congr 1; omega
  rw [e1, e2, List.append_assoc, mu_rep, mu_tl _ _ _ _ _ (by
    by_cases k : f = true
    · exact .inl k
    · exact .inr (noP_rep _ _ _ (.inl (by have := h.resolve_right k; omega)))), mu_rep, mu_tr _ _ _ _ _ (.inr (by
      have := noP_rep (n - y) true [] (.inr (fun q B' e => by cases e))
      rwa [List.append_nil] at this))]
  have e3 := mu_rep f true true [] [] (n - y) ((s.drop x).drop (y - x))
  rw [List.append_nil, mu_nil, List.append_nil] at e3
  rw [e3, List.drop_drop, show x + (y - x) = y by omega]
  simp
theorem mu_two' (f : Bool) (P Q : ByteArray) (x y n : Nat) (s : List UInt8) (h1 : y ≤ x) (h2 : x ≤ n) (h : y < x ∨ f = false) :
    mu f (List.replicate x (.inr true) ++ (us (pt P) ++ List.replicate (n - x) (.inr true))) (List.replicate y (.inr true) ++ (us (pt Q) ++ List.replicate (n - y) (.inr true))) s = s.take y ++ (bl Q ++ ((s.drop y).take (x - y) ++ (bl P ++ (s.drop x).take (n - x)))) := by
  have e1 : (List.replicate x (.inr true) : List Un) = List.replicate y (.inr true) ++ List.replicate (x - y) (.inr true) := by rw [List.replicate_append_replicate]; congr 1; omega
  have e2 : (List.replicate (n - y) (.inr true) : List Un) = List.replicate (x - y) (.inr true) ++ List.replicate (n - x) (.inr true) := by rw [List.replicate_append_replicate]; congr 1; omega
  rw [e1, e2, List.append_assoc, mu_rep, mu_tr _ _ _ _ _ (by
    by_cases k : f = false
    · exact .inl k
    · exact .inr (noP_rep _ _ _ (.inl (by have := h.resolve_right k; omega)))), mu_rep, mu_tl _ _ _ _ _ (.inr (by
      have := noP_rep (n - x) true [] (.inr (fun q B' e => by cases e))
      rwa [List.append_nil] at this))]
  have e3 := mu_rep f true true [] [] (n - x) ((s.drop y).drop (x - y))
  rw [List.append_nil, mu_nil, List.append_nil] at e3
  rw [e3, List.drop_drop, show y + (x - y) = x by omega]
  simp
theorem psz_to {a : List Cm} (h : ∀ c ∈ a, good c) : psz a ≤ tos a := by
  induction a with
  | nil => simp [psz, tos]
  | cons c r ih =>
    have := ih (fun d hd => h d (List.mem_cons_of_mem _ hd))
    have hc := h c List.mem_cons_self
    rw [tos_cons]
    simp only [psz]
    have hz := good_sz hc
    by_cases k : c.f0 = 2
    · rw [if_pos k]; have := hc.2.2.2 (by omega); omega
    · rw [if_neg k]
      have : (c.f2.size : Int) ≤ sz c := by unfold sz; have := hc.1; omega
      omega
end Go.Proofs.Ytldaokclpkcmmab.Pl
