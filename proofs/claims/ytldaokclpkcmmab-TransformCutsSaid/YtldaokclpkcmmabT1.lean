/- Two edits of one text: the plain model of Transform. No program in sight. -/
import Derived.Test.YtldaokclpkcmmabK1q
namespace Go.Proofs.Ytldaokclpkcmmab.Pl
open Go.RowKit Go.Proofs.Ytldaokclpkcmmab.G Go.Proofs.YtldaokclpkcmmabW.PrintWords Go.Proofs.YtldaokclpkcmmabW.PrintLast
set_option linter.unusedVariables false
set_option linter.unusedSimpArgs false
def kpc (k : Int) : Cm := ⟨0, k, ⟨#[]⟩⟩
theorem kpc_sz (k : Int) : sz (kpc k) = k := kq_sz k
theorem kpc_good {k : Int} (h : 0 ≤ k) : good (kpc k) := ⟨h, .inl rfl, fun e => by simp [kpc] at e, fun _ => rfl⟩
/-- What Transform adds, one by one: the pieces of the one, and of the other one. -/
def tr : Nat → Bool → List Cm → List Cm → List Cm × List Cm
  | 0, _, _, _ => ([], [])
  | _ + 1, _, [], [] => ([], [])
  | n + 1, f, [], d :: B => if d.f0 = 1 then (kpc (sz d) :: (tr n f [] B).1, d :: (tr n f [] B).2) else ([], [])
  | n + 1, f, c :: A, [] => if c.f0 = 1 then (c :: (tr n f A []).1, kpc (sz c) :: (tr n f A []).2) else ([], [])
  | n + 1, f, c :: A, d :: B =>
    if c.f0 = 1 ∧ (f = true ∨ d.f0 ≠ 1) then (c :: (tr n f A (d :: B)).1, kpc (sz c) :: (tr n f A (d :: B)).2)
    else if d.f0 = 1 then (kpc (sz d) :: (tr n f (c :: A) B).1, d :: (tr n f (c :: A) B).2)
    else ((if d.f0 = 0 then [hd (mn (sz c) (sz d)) c] else []) ++ (tr n f (rst (mn (sz c) (sz d)) c A) (rst (mn (sz c) (sz d)) d B)).1,
          (if c.f0 = 0 then [hd (mn (sz c) (sz d)) d] else []) ++ (tr n f (rst (mn (sz c) (sz d)) c A) (rst (mn (sz c) (sz d)) d B)).2)
theorem mn_comm (x y : Int) : mn x y = mn y x := by unfold mn; split <;> split <;> omega
/-- Told the other way, with the other one first. -/
theorem tr_swap : ∀ (n : Nat) (f : Bool) (A B : List Cm), tr n (!f) B A = ((tr n f A B).2, (tr n f A B).1) := by
  intro n
  induction n with
  | zero => intro f A B; rfl
  | succ n ih =>
    intro f A B
    cases A with
    | nil =>
      cases B with
      | nil => rfl
      | cons d B =>
        simp only [tr]
        by_cases k : d.f0 = 1
        · simp only [if_pos k, ih f [] B]
        · simp only [if_neg k]
    | cons c A =>
      cases B with
      | nil =>
        simp only [tr]
        by_cases k : c.f0 = 1
        · simp only [if_pos k, ih f A []]
        · simp only [if_neg k]
      | cons d B =>
        simp only [tr]
        by_cases kc : c.f0 = 1
        · by_cases kd : d.f0 = 1
          · cases f with
            | true =>
              rw [if_neg (show ¬ (d.f0 = 1 ∧ ((!true) = true ∨ c.f0 ≠ 1)) by simp [kc]), if_pos kc, if_pos (show c.f0 = 1 ∧ (true = true ∨ d.f0 ≠ 1) from ⟨kc, .inl rfl⟩)]
              rw [ih true A (d :: B)]
            | false =>
              rw [if_pos (show d.f0 = 1 ∧ ((!false) = true ∨ c.f0 ≠ 1) from ⟨kd, .inl rfl⟩), if_neg (show ¬ (c.f0 = 1 ∧ (false = true ∨ d.f0 ≠ 1)) by simp [kd]), if_pos kd]
              rw [ih false (c :: A) B]
          · rw [if_neg (show ¬ (d.f0 = 1 ∧ ((!f) = true ∨ c.f0 ≠ 1)) from fun h => kd h.1), if_pos kc, if_pos (show c.f0 = 1 ∧ (f = true ∨ d.f0 ≠ 1) from ⟨kc, .inr kd⟩)]
            rw [ih f A (d :: B)]
        · by_cases kd : d.f0 = 1
          · rw [if_pos (show d.f0 = 1 ∧ ((!f) = true ∨ c.f0 ≠ 1) from ⟨kd, .inr kc⟩), if_neg (show ¬ (c.f0 = 1 ∧ (f = true ∨ d.f0 ≠ 1)) from fun h => kc h.1), if_pos kd]
            rw [ih f (c :: A) B]
          · rw [if_neg (show ¬ (d.f0 = 1 ∧ ((!f) = true ∨ c.f0 ≠ 1)) from fun h => kd h.1), if_neg kc, if_neg (show ¬ (c.f0 = 1 ∧ (f = true ∨ d.f0 ≠ 1)) from fun h => kc h.1), if_neg kd, mn_comm (sz d) (sz c), ih f]
def psz : List Cm → Int
  | [] => 0
  | c :: r => (c.f2.size : Int) + psz r
theorem psz_nonneg (a : List Cm) : 0 ≤ psz a := by induction a with | nil => simp [psz] | cons c r ih => simp only [psz]; omega
structure TrOk (A B P Q : List Cm) : Prop where
  gP : ∀ c ∈ P, good c
  gQ : ∀ c ∈ Q, good c
  fP : froms P = tos B
  fQ : froms Q = tos A
  tt : tos P = tos Q
  tP : tos P ≤ tos B + psz A
  tQ : tos Q ≤ tos A + psz B
  lP : P.length ≤ A.length + B.length
  lQ : Q.length ≤ A.length + B.length
  app : ∀ s : List UInt8, froms A ≤ s.length → ap (ap s A) Q = ap (ap s B) P
theorem cons_good {c : Cm} {P : List Cm} (hc : good c) (h : ∀ d ∈ P, good d) : ∀ d ∈ c :: P, good d := by
  intro d hd
  rcases List.mem_cons.1 hd with rfl | hd
  · exact hc
  · exact h d hd
theorem froms_put {c : Cm} (h : c.f0 = 1) (r : List Cm) : froms (c :: r) = froms r := by simp only [froms, if_pos h]; omega
theorem tos_put {c : Cm} (hc : good c) (h : c.f0 = 1) (r : List Cm) : tos (c :: r) = (c.f2.size : Int) + tos r := by rw [tos_cons, if_neg (by omega), sz_1 hc h]
theorem kpc_froms (k : Int) (r : List Cm) : froms (kpc k :: r) = k + froms r := by simp [froms, kpc]
theorem kpc_tos (k : Int) (r : List Cm) : tos (kpc k :: r) = k + tos r := by rw [tos_cons, kpc_sz]; simp [kpc]
theorem ap_kpc {t u : List UInt8} {k : Int} (h : (t.length : Int) = k) (r : List Cm) : ap (t ++ u) (kpc k :: r) = t ++ ap u r := by
  rw [ap_keep (by rfl)]
  simp only [kpc, bl_nil, List.nil_append]
  rw [List.take_left' (by omega), List.drop_left' (by omega)]
theorem ap_put {c : Cm} (hc : good c) (h : c.f0 = 1) (s : List UInt8) (r : List Cm) : ap s (c :: r) = bl c.f2 ++ ap s r := by
  rw [ap_not (by omega), hc.2.2.1 h]; rfl
theorem rst_psz {c : Cm} {A : List Cm} (hc : good c) (k : ¬ c.f0 = 1) (m : Int) : psz (rst m c A) ≤ psz (c :: A) := by
  unfold rst
  split
  · simp only [psz]; omega
  · rw [tl_n k]; simp only [psz]; omega
theorem tr_ok : ∀ (n : Nat) (f : Bool) (A B : List Cm), A.length + B.length ≤ n → okA A → okA B → froms A = froms B → TrOk A B (tr n f A B).1 (tr n f A B).2 := by
  intro n
  induction n with
  | zero =>
    intro f A B hn hA hB hb
    have e1 : A = [] := List.eq_nil_of_length_eq_zero (by omega)
    have e2 : B = [] := List.eq_nil_of_length_eq_zero (by omega)
    subst e1 e2
    exact ⟨no_good, no_good, rfl, rfl, rfl, by simp [tr, tos, psz], by simp [tr, tos, psz], by simp [tr], by simp [tr], fun s _ => rfl⟩
  | succ n ih =>
    intro f A B hn hA hB hb
    -- a put of the one
    have putA : ∀ (c : Cm) (A' : List Cm), A = c :: A' → c.f0 = 1 → TrOk A' B (tr n f A' B).1 (tr n f A' B).2 → TrOk A B (c :: (tr n f A' B).1) (kpc (sz c) :: (tr n f A' B).2) := by
      intro c A' e k t
      subst e
      have hc := hA c List.mem_cons_self
      have z := sz_1 hc.1 k
      have hp := pos hc
      refine ⟨cons_good hc.1 t.gP, cons_good (kpc_good (by omega)) t.gQ, by rw [froms_put k]; exact t.fP, by rw [kpc_froms, tos_put hc.1 k, t.fQ]; omega, by rw [tos_put hc.1 k, kpc_tos, t.tt]; omega, ?_, ?_, ?_, ?_, ?_⟩
      · rw [tos_put hc.1 k]; simp only [psz]; have := t.tP; omega
      · rw [kpc_tos, tos_put hc.1 k]; have := t.tQ; omega
      · have := t.lP; simp only [List.length_cons] at this ⊢; omega
      · have := t.lQ; simp only [List.length_cons] at this ⊢; omega
      · intro s hs
        rw [froms_put k] at hs
        rw [ap_put hc.1 k, ap_kpc (by rw [bl_len]; omega), ap_put hc.1 k, t.app s hs]
    have putB : ∀ (d : Cm) (B' : List Cm), B = d :: B' → d.f0 = 1 → TrOk A B' (tr n f A B').1 (tr n f A B').2 → TrOk A B (kpc (sz d) :: (tr n f A B').1) (d :: (tr n f A B').2) := by
      intro d B' e k t
      subst e
      have hd' := hB d List.mem_cons_self
      have z := sz_1 hd'.1 k
      have hp := pos hd'
      refine ⟨cons_good (kpc_good (by omega)) t.gP, cons_good hd'.1 t.gQ, by rw [kpc_froms, tos_put hd'.1 k, t.fP]; omega, by rw [froms_put k]; exact t.fQ, by rw [tos_put hd'.1 k, kpc_tos, t.tt]; omega, ?_, ?_, ?_, ?_, ?_⟩
      · rw [kpc_tos, tos_put hd'.1 k]; have := t.tP; omega
      · rw [tos_put hd'.1 k]; simp only [psz]; have := t.tQ; omega
      · have := t.lP; simp only [List.length_cons] at this ⊢; omega
      · have := t.lQ; simp only [List.length_cons] at this ⊢; omega
      · intro s hs
        rw [ap_put hd'.1 k, ap_put hd'.1 k, ap_kpc (by rw [bl_len]; omega), t.app s hs]
    cases A with
    | nil =>
      cases B with
      | nil => exact ⟨no_good, no_good, rfl, rfl, rfl, by simp [tr, tos, psz], by simp [tr, tos, psz], by simp [tr], by simp [tr], fun s _ => rfl⟩
      | cons d B =>
        have hd' := hB d List.mem_cons_self
        have hB' := okA_tail hB
        have hf := froms_le (okA_good hB')
        have hp := pos hd'
        by_cases k : d.f0 = 1
        · rw [froms_put k] at hb
          simp only [List.length_nil, List.length_cons] at hn
          have := putB d B rfl k (ih f [] B (by simp only [List.length_nil]; omega) hA hB' hb)
          simp only [tr, if_pos k]
          exact this
        · rw [froms_cons hd'.1, ← sz_n hd'.1 k] at hb
          simp only [froms] at hb; omega
    | cons c A =>
      have hc' := hA c List.mem_cons_self
      have hA' := okA_tail hA
      have hcp := pos hc'
      have hfA := froms_le (okA_good hA')
      cases B with
      | nil =>
        by_cases k : c.f0 = 1
        · rw [froms_put k] at hb
          simp only [List.length_nil, List.length_cons] at hn
          have := putA c A rfl k (ih f A [] (by simp only [List.length_nil]; omega) hA' hB hb)
          simp only [tr, if_pos k]
          exact this
        · rw [froms_cons hc'.1, ← sz_n hc'.1 k] at hb
          simp only [froms] at hb; omega
      | cons d B =>
        have hd' := hB d List.mem_cons_self
        have hB' := okA_tail hB
        have hdp := pos hd'
        simp only [List.length_cons] at hn
        by_cases k1 : c.f0 = 1 ∧ (f = true ∨ d.f0 ≠ 1)
        · rw [froms_put k1.1] at hb
          have := putA c A rfl k1.1 (ih f A (d :: B) (by simp only [List.length_cons]; omega) hA' hB hb)
          simp only [tr, if_pos k1]
          exact this
        · by_cases kd : d.f0 = 1
          · rw [froms_put kd] at hb
            have := putB d B rfl kd (ih f (c :: A) B (by simp only [List.length_cons]; omega) hA hB' hb)
            simp only [tr, if_neg k1, if_pos kd]
            exact this
          · have kc : ¬ c.f0 = 1 := fun h => k1 ⟨h, .inr kd⟩
            obtain ⟨q1, q2, q3⟩ := mn_le (sz c) (sz d)
            simp only [tr, if_neg k1, if_neg kd]
            generalize mn (sz c) (sz d) = m at q1 q2 q3 ⊢
            have m0 : 0 ≤ m := by omega
            have e1 := rst_froms (A := A) hc'.1 m0 q1
            have e2 := rst_froms (A := B) hd'.1 m0 q2
            rw [if_neg kc] at e1
            rw [if_neg kd] at e2
            have hlen : (rst m c A).length + (rst m d B).length + 1 ≤ (c :: A).length + (d :: B).length := by
              simp only [List.length_cons]
              rcases q3 with q3 | q3
              · have := rst_len m d B
                have := rst_len' (c := c) A
                rw [← q3] at this; omega
              · have := rst_len m c A
                have := rst_len' (c := d) B
                rw [← q3] at this; omega
            have t := ih f (rst m c A) (rst m d B) (by simp only [List.length_cons] at hlen; omega) (rst_ok hA m0 q1) (rst_ok hB m0 q2) (by omega)
            have g1 := hd_good hc'.1 m0; have g2 := hd_good hd'.1 m0
            have z1 := hd_sz hc'.1 m0 q1; have z2 := hd_sz hd'.1 m0 q2
            have t1 := rst_tos (A := A) hc'.1 m0 q1
            have t2 := rst_tos (A := B) hd'.1 m0 q2
            have p1 := rst_psz (A := A) hc'.1 kc m
            have p2 := rst_psz (A := B) hd'.1 kd m
            have f1 : (hd m c).f1 = m := by rw [hd_n kc]
            have f2 : (hd m d).f1 = m := by rw [hd_n kd]
            have lP := t.lP; have lQ := t.lQ; have tP := t.tP; have tQ := t.tQ; have ttt := t.tt
            have ck : c.f0 = 0 ∨ c.f0 = 2 := by have := hc'.1.2.1; omega
            have dk : d.f0 = 0 ∨ d.f0 = 2 := by have := hd'.1.2.1; omega
            have gX : ∀ (x : Cm) (b : Bool), good x → ∀ y ∈ (if b then [x] else []), good y := by
              intro x b hx y hy
              cases b with
              | true => rw [List.mem_singleton.1 hy]; exact hx
              | false => cases hy
            have hapA : ∀ s : List UInt8, froms (c :: A) ≤ s.length → ap (ap s (c :: A)) ((if c.f0 = 0 then [hd m d] else []) ++ (tr n f (rst m c A) (rst m d B)).2) = (if c.f0 = 0 ∧ d.f0 = 0 then s.take m.toNat else []) ++ ap (ap (s.drop m.toNat) (rst m c A)) (tr n f (rst m c A) (rst m d B)).2 := by
              intro s hs
              have hr := froms_le (okA_good (rst_ok hA m0 q1))
              rw [ap_split hc'.1 m0 q1 s A, ap_cons g1, f1]
              have ho : outp s (hd m c) = if c.f0 = 0 then s.take m.toNat else [] := by
                unfold outp; rw [hd_k, f1]
                split
                · rfl
                · rw [hd_n kc]; exact size0 (hc'.1.2.2.2 kc)
              rw [ho]
              rcases ck with k0 | k0
              · have hl : (s.take m.toNat).length = m.toNat := by rw [List.length_take]; omega
                rw [if_pos k0, if_pos k0, List.singleton_append, ap_cons g2, f2, List.drop_left' hl]
                congr 1
                unfold outp; rw [hd_k, f2]
                rcases dk with k1' | k1'
                · rw [if_pos k1', if_pos ⟨k0, k1'⟩, List.take_left' hl]
                · rw [if_neg (by omega), if_neg (by omega), hd_n kd]; exact size0 (hd'.1.2.2.2 kd)
              · rw [if_neg (by omega), if_neg (by omega), if_neg (by omega), List.nil_append, List.nil_append, List.nil_append]
            have hapB : ∀ s : List UInt8, froms (d :: B) ≤ s.length → ap (ap s (d :: B)) ((if d.f0 = 0 then [hd m c] else []) ++ (tr n f (rst m c A) (rst m d B)).1) = (if c.f0 = 0 ∧ d.f0 = 0 then s.take m.toNat else []) ++ ap (ap (s.drop m.toNat) (rst m d B)) (tr n f (rst m c A) (rst m d B)).1 := by
              intro s hs
              have hr := froms_le (okA_good (rst_ok hB m0 q2))
              rw [ap_split hd'.1 m0 q2 s B, ap_cons g2, f2]
              have ho : outp s (hd m d) = if d.f0 = 0 then s.take m.toNat else [] := by
                unfold outp; rw [hd_k, f2]
                split
                · rfl
                · rw [hd_n kd]; exact size0 (hd'.1.2.2.2 kd)
              rw [ho]
              rcases dk with k0 | k0
              · have hl : (s.take m.toNat).length = m.toNat := by rw [List.length_take]; omega
                rw [if_pos k0, if_pos k0, List.singleton_append, ap_cons g1, f1, List.drop_left' hl]
                congr 1
                unfold outp; rw [hd_k, f1]
                rcases ck with k1' | k1'
                · rw [if_pos k1', if_pos ⟨k1', k0⟩, List.take_left' hl]
                · rw [if_neg (by omega), if_neg (by omega), hd_n kc]; exact size0 (hc'.1.2.2.2 kc)
              · rw [if_neg (by omega), if_neg (by omega), if_neg (by omega), List.nil_append, List.nil_append, List.nil_append]
            have hfr : ∀ s : List UInt8, froms (c :: A) ≤ s.length → froms (rst m c A) ≤ (s.drop m.toNat).length := by
              intro s hs; rw [List.length_drop]; omega
            refine ⟨?_, ?_, ?_, ?_, ?_, ?_, ?_, ?_, ?_, ?_⟩
            · intro e he
              rcases List.mem_append.1 he with he | he
              · split at he
                · rw [List.mem_singleton.1 he]; exact g1
                · cases he
              · exact t.gP e he
            · intro e he
              rcases List.mem_append.1 he with he | he
              · split at he
                · rw [List.mem_singleton.1 he]; exact g2
                · cases he
              · exact t.gQ e he
            · rw [froms_append, t.fP, t2]
              rcases dk with k0 | k0
              · rw [if_pos k0, if_neg (by omega)]; simp only [froms, hd_k, if_neg kc, f1]; omega
              · rw [if_neg (by omega), if_pos k0]; simp only [froms]; omega
            · rw [froms_append, t.fQ, t1]
              rcases ck with k0 | k0
              · rw [if_pos k0, if_neg (by omega)]; simp only [froms, hd_k, if_neg kd, f2]; omega
              · rw [if_neg (by omega), if_pos k0]; simp only [froms]; omega
            · rw [tos_append, tos_append, t.tt]
              rcases ck with k0 | k0
              · rcases dk with k1' | k1'
                · rw [if_pos k0, if_pos k1']; simp only [tos, hd_k, z1, z2]; rw [if_neg (by omega), if_neg (by omega)]
                · rw [if_neg (by omega), if_pos k0]; simp only [tos, hd_k]; rw [if_pos k1']; omega
              · rcases dk with k1' | k1'
                · rw [if_pos k1', if_neg (by omega)]; simp only [tos, hd_k]; rw [if_pos k0]; omega
                · rw [if_neg (by omega), if_neg (by omega)]
            · rw [tos_append]
              rcases dk with k1' | k1'
              · rw [if_neg (by omega)] at t2
                rw [if_pos k1']; simp only [tos, hd_k, z1]
                split <;> simp only [tos, psz] at * <;> omega
              · rw [if_pos k1'] at t2
                rw [if_neg (by omega)]; simp only [tos] at *; omega
            · rw [tos_append]
              rcases ck with k1' | k1'
              · rw [if_neg (by omega)] at t1
                rw [if_pos k1']; simp only [tos, hd_k, z2]
                split <;> simp only [tos, psz] at * <;> omega
              · rw [if_pos k1'] at t1
                rw [if_neg (by omega)]; simp only [tos] at *; omega
            · rw [List.length_append]
              have : (if d.f0 = 0 then [hd m c] else []).length ≤ 1 := by split <;> simp
              omega
            · rw [List.length_append]
              have : (if c.f0 = 0 then [hd m d] else []).length ≤ 1 := by split <;> simp
              omega
            · intro s hs
              rw [hapA s hs, hapB s (by omega), t.app _ (hfr s hs)]
def emitT (f : Bool) (a b : List Cm) : List Cm × List Cm := tr (a.length + b.length) f a b
/-- What Transform comes to. -/
def trM (f : Bool) (a b : List Cm) : List Cm × List Cm × Int :=
  if mayB a = true ∧ mayB b = true ∧ froms a = froms b ∧ mayB (norm (emitT f a b).1) = true ∧ mayB (norm (emitT f a b).2) = true then (norm (emitT f a b).1, norm (emitT f a b).2, 0) else ([], [], 500)
theorem emitT_ok {f : Bool} {a b : List Cm} (ha : mayB a = true) (hb : mayB b = true) (h : froms a = froms b) : TrOk a b (emitT f a b).1 (emitT f a b).2 := tr_ok _ f a b (Nat.le_refl _) (may_ok ha) (may_ok hb) h
theorem trM_ok {f : Bool} {a b : List Cm} (ha : mayB a = true) (hb : mayB b = true) (h : froms a = froms b) (hp : mayB (norm (emitT f a b).1) = true) (hq : mayB (norm (emitT f a b).2) = true) : trM f a b = (norm (emitT f a b).1, norm (emitT f a b).2, 0) := if_pos ⟨ha, hb, h, hp, hq⟩
theorem trM_err {f : Bool} {a b : List Cm} (h : ¬ (mayB a = true ∧ mayB b = true ∧ froms a = froms b ∧ mayB (norm (emitT f a b).1) = true ∧ mayB (norm (emitT f a b).2) = true)) : trM f a b = ([], [], 500) := if_neg h
theorem norm_len (a : List Cm) : (norm a).length ≤ a.length := by
  have := fold_len a []
  simp only [List.length_nil] at this
  unfold norm; omega
/-- Two edits of one text, with not too many pieces and bytes: both may be, and lead to one text. -/
theorem tr_all {f : Bool} {a b : List Cm} (ha : mayB a = true) (hb : mayB b = true) (h : froms a = froms b) (hl : a.length + b.length ≤ 4096) (h1 : tos b + psz a ≤ 4096) (h2 : tos a + psz b ≤ 4096) :
    ∃ p q, trM f a b = (p, q, 0) ∧ mayB p = true ∧ mayB q = true ∧ froms p = tos b ∧ froms q = tos a ∧ tos p = tos q ∧ tos p ≤ tos b + psz a ∧ p.length ≤ a.length + b.length ∧ q.length ≤ a.length + b.length ∧ ∀ s : List UInt8, froms a ≤ s.length → ap (ap s a) q = ap (ap s b) p := by
  have e := emitT_ok (f := f) ha hb h
  obtain ⟨_, _, _, p1, p2⟩ := (may_iff a).1 ha
  obtain ⟨_, _, _, p3, p4⟩ := (may_iff b).1 hb
  have t1 := e.tP; have t2 := e.tQ; have l1 := e.lP; have l2 := e.lQ
  have mp := norm_may _ (by omega) e.gP (by rw [e.fP]; exact p4) (by omega)
  have mq := norm_may _ (by omega) e.gQ (by rw [e.fQ]; exact p2) (by omega)
  have n1 := norm_len (emitT f a b).1; have n2 := norm_len (emitT f a b).2
  refine ⟨_, _, trM_ok ha hb h mp mq, mp, mq, by rw [norm_froms e.gP]; exact e.fP, by rw [norm_froms e.gQ]; exact e.fQ, by rw [norm_tos e.gP, norm_tos e.gQ]; exact e.tt, by rw [norm_tos e.gP]; exact t1, by omega, by omega, ?_⟩
  intro s hs
  rw [ap_norm e.gP, ap_norm e.gQ, e.app s hs]
end Go.Proofs.Ytldaokclpkcmmab.Pl
