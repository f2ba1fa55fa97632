/- One edit, then another one: the plain model of Compose. No program in sight. -/
import Derived.Test.YtldaokclpkcmmabM6a
namespace Go.Proofs.Ytldaokclpkcmmab.Pl
open Go.RowKit Go.Proofs.Ytldaokclpkcmmab.G Go.Proofs.YtldaokclpkcmmabW.PrintWords Go.Proofs.YtldaokclpkcmmabW.PrintLast
set_option linter.unusedVariables false
set_option linter.unusedSimpArgs false
/-- The first k of a piece, and what is left of it. -/
def hd (k : Int) (c : Cm) : Cm := if c.f0 = 1 then ⟨c.f0, c.f1, c.f2.extract 0 k.toNat⟩ else ⟨c.f0, k, c.f2⟩
def tl (k : Int) (c : Cm) : Cm := if c.f0 = 1 then ⟨c.f0, c.f1, c.f2.extract k.toNat c.f2.size⟩ else ⟨c.f0, c.f1 - k, c.f2⟩
def rst (k : Int) (c : Cm) (A : List Cm) : List Cm := if k = sz c then A else tl k c :: A
theorem hd_1 {c : Cm} (h : c.f0 = 1) (k : Int) : hd k c = ⟨c.f0, c.f1, c.f2.extract 0 k.toNat⟩ := if_pos h
theorem hd_n {c : Cm} (h : ¬ c.f0 = 1) (k : Int) : hd k c = ⟨c.f0, k, c.f2⟩ := if_neg h
theorem tl_1 {c : Cm} (h : c.f0 = 1) (k : Int) : tl k c = ⟨c.f0, c.f1, c.f2.extract k.toNat c.f2.size⟩ := if_pos h
theorem tl_n {c : Cm} (h : ¬ c.f0 = 1) (k : Int) : tl k c = ⟨c.f0, c.f1 - k, c.f2⟩ := if_neg h
theorem hd_k (k : Int) (c : Cm) : (hd k c).f0 = c.f0 := by unfold hd; split <;> rfl
theorem tl_k (k : Int) (c : Cm) : (tl k c).f0 = c.f0 := by unfold tl; split <;> rfl
theorem sz_1 {c : Cm} (hc : good c) (h : c.f0 = 1) : sz c = (c.f2.size : Int) := by unfold sz; rw [hc.2.2.1 h]; omega
theorem sz_n {c : Cm} (hc : good c) (h : ¬ c.f0 = 1) : sz c = c.f1 := by unfold sz; rw [hc.2.2.2 h]; simp
theorem hd_sz {c : Cm} (hc : good c) {k : Int} (h0 : 0 ≤ k) (h1 : k ≤ sz c) : sz (hd k c) = k := by
  by_cases h : c.f0 = 1
  · have := hc.2.2.1 h; rw [sz_1 hc h] at h1; rw [hd_1 h]; unfold sz; simp only [ByteArray.size_extract]; omega
  · have := hc.2.2.2 h; rw [hd_n h]; unfold sz; simp only; omega
theorem tl_sz {c : Cm} (hc : good c) {k : Int} (h0 : 0 ≤ k) (h1 : k ≤ sz c) : sz (tl k c) = sz c - k := by
  by_cases h : c.f0 = 1
  · have := hc.2.2.1 h; rw [sz_1 hc h] at h1; rw [tl_1 h]; unfold sz; simp only [ByteArray.size_extract]; omega
  · have := hc.2.2.2 h; rw [tl_n h]; unfold sz; simp only; omega
theorem hd_good {c : Cm} (hc : good c) {k : Int} (h0 : 0 ≤ k) : good (hd k c) := by
  by_cases h : c.f0 = 1
  · rw [hd_1 h]; exact ⟨hc.1, hc.2.1, hc.2.2.1, fun hh => absurd h hh⟩
  · rw [hd_n h]; exact ⟨h0, hc.2.1, fun hh => absurd hh h, hc.2.2.2⟩
theorem tl_good {c : Cm} (hc : good c) {k : Int} (h1 : k ≤ sz c) : good (tl k c) := by
  by_cases h : c.f0 = 1
  · rw [tl_1 h]; exact ⟨hc.1, hc.2.1, hc.2.2.1, fun hh => absurd h hh⟩
  · rw [sz_n hc h] at h1; rw [tl_n h]; exact ⟨by simp only; omega, hc.2.1, fun hh => absurd hh h, hc.2.2.2⟩
theorem ext_all (s : ByteArray) : s.extract 0 s.size = s := by apply bl_inj; rw [bl_ext, List.drop_zero, Nat.sub_zero, List.take_of_length_le (by rw [bl_len]; omega)]
theorem tl_zero (c : Cm) : tl 0 c = c := by
  unfold tl
  split
  · show (⟨c.f0, c.f1, c.f2.extract 0 c.f2.size⟩ : Cm) = c; rw [ext_all]
  · show (⟨c.f0, c.f1 - 0, c.f2⟩ : Cm) = c; rw [Int.sub_zero]
theorem hd_all {c : Cm} (hc : good c) : hd (sz c) c = c := by
  by_cases h : c.f0 = 1
  · rw [sz_1 hc h, hd_1 h, Int.toNat_natCast, ext_all]
  · rw [sz_n hc h, hd_n h]
theorem tl_tl {c : Cm} (hc : good c) {p k : Int} (h0 : 0 ≤ p) (h1 : 0 ≤ k) (h2 : p + k ≤ sz c) : tl k (tl p c) = tl (p + k) c := by
  by_cases h : c.f0 = 1
  · rw [sz_1 hc h] at h2
    rw [tl_1 h, tl_1 h, tl_1 (by exact h)]
    congr 1
    apply bl_inj
    simp only [bl_ext, ByteArray.size_extract]
    rw [List.take_of_length_le (by simp only [List.length_drop, List.length_take, bl_len]; omega), List.take_of_length_le (by simp only [List.length_drop, bl_len]; omega), List.take_of_length_le (by simp only [List.length_drop, bl_len]; omega), List.drop_drop]
    congr 1; omega
  · rw [tl_n h, tl_n h, tl_n (by exact h)]
    congr 1; simp only; omega
theorem hd_tl {c : Cm} (hc : good c) {p k : Int} (h0 : 0 ≤ p) (h1 : 0 ≤ k) (h2 : p + k ≤ sz c) : hd k (tl p c) = if c.f0 = 1 then ⟨c.f0, c.f1, c.f2.extract p.toNat (p + k).toNat⟩ else ⟨c.f0, k, c.f2⟩ := by
  by_cases h : c.f0 = 1
  · rw [sz_1 hc h] at h2
    rw [if_pos h, tl_1 h, hd_1 (by exact h)]
    congr 1
    apply bl_inj
    simp only [bl_ext, List.drop_zero, Nat.sub_zero]
    rw [List.take_take]
    congr 1; omega
  · rw [if_neg h, tl_n h, hd_n (by exact h)]
/-- Pieces that may stand in an edit, none empty. -/
def okA (A : List Cm) : Prop := ∀ c ∈ A, good c ∧ sz c ≠ 0
theorem okA_tail {c : Cm} {A : List Cm} (h : okA (c :: A)) : okA A := fun d hd => h d (List.mem_cons_of_mem _ hd)
theorem okA_good {A : List Cm} (h : okA A) : ∀ c ∈ A, good c := fun c hc => (h c hc).1
theorem pos {c : Cm} (h : good c ∧ sz c ≠ 0) : 0 < sz c := by have := good_sz h.1; have := h.2; omega
theorem rst_ok {c : Cm} {A : List Cm} (h : okA (c :: A)) {k : Int} (h0 : 0 ≤ k) (h1 : k ≤ sz c) : okA (rst k c A) := by
  have hc := h c List.mem_cons_self
  unfold rst
  split
  · exact okA_tail h
  · rename_i hne
    intro d hd
    rcases List.mem_cons.1 hd with rfl | hd
    · exact ⟨tl_good hc.1 h1, by rw [tl_sz hc.1 h0 h1]; omega⟩
    · exact okA_tail h d hd
theorem rst_tot {c : Cm} {A : List Cm} (hc : good c) {k : Int} (h0 : 0 ≤ k) (h1 : k ≤ sz c) : tot (rst k c A) = tot (c :: A) - k := by
  unfold rst
  split
  · simp only [tot]; omega
  · simp only [tot, tl_sz hc h0 h1]; omega
theorem rst_froms {c : Cm} {A : List Cm} (hc : good c) {k : Int} (h0 : 0 ≤ k) (h1 : k ≤ sz c) : froms (rst k c A) = froms (c :: A) - (if c.f0 = 1 then 0 else k) := by
  unfold rst
  by_cases h : c.f0 = 1
  · rw [if_pos h]
    split
    · simp only [froms, if_pos h]; omega
    · simp only [froms, tl_k, if_pos h]; omega
  · rw [if_neg h]
    have e := sz_n hc h
    split
    · simp only [froms, if_neg h]; omega
    · simp only [froms, tl_k, if_neg h]; rw [tl_n h]; simp only; omega
theorem rst_tos {c : Cm} {A : List Cm} (hc : good c) {k : Int} (h0 : 0 ≤ k) (h1 : k ≤ sz c) : tos (rst k c A) = tos (c :: A) - (if c.f0 = 2 then 0 else k) := by
  unfold rst
  by_cases h : c.f0 = 2
  · rw [if_pos h]
    split
    · simp only [tos, if_pos h]; omega
    · simp only [tos, tl_k, if_pos h]; omega
  · rw [if_neg h]
    split
    · simp only [tos, if_neg h]; omega
    · simp only [tos, tl_k, if_neg h, tl_sz hc h0 h1]; omega
theorem rst_len (k : Int) (c : Cm) (A : List Cm) : (rst k c A).length ≤ A.length + 1 := by unfold rst; split <;> simp
theorem rst_len' {c : Cm} (A : List Cm) : (rst (sz c) c A).length = A.length := by unfold rst; rw [if_pos rfl]
/-- What a piece puts out of a text, and how much it takes. -/
def outp (s : List UInt8) (c : Cm) : List UInt8 := if c.f0 = 0 then s.take c.f1.toNat else bl c.f2
theorem ap_cons {c : Cm} (hc : good c) (s : List UInt8) (A : List Cm) : ap s (c :: A) = outp s c ++ ap (s.drop c.f1.toNat) A := by
  unfold outp
  by_cases h : c.f0 = 0
  · rw [ap_keep h, if_pos h, size0 (hc.2.2.2 (by omega)), List.nil_append]
  · rw [ap_not h, if_neg h]
theorem outp_len {c : Cm} (hc : good c) (s : List UInt8) (h : c.f1 ≤ s.length) (hk : c.f0 ≠ 2) : ((outp s c).length : Int) = sz c := by
  unfold outp
  have h0 := hc.1
  by_cases k : c.f0 = 0
  · rw [if_pos k, sz_n hc (by omega), List.length_take]; omega
  · rw [if_neg k, sz_1 hc (by have := hc.2.1; omega), bl_len]
/-- Taking a piece apart does not matter. -/
theorem ap_split {c : Cm} (hc : good c) {k : Int} (h0 : 0 ≤ k) (h1 : k ≤ sz c) (s : List UInt8) (A : List Cm) : ap s (c :: A) = ap s (hd k c :: rst k c A) := by
  by_cases e : k = sz c
  · rw [e, hd_all hc]; unfold rst; rw [if_pos rfl]
  · unfold rst; rw [if_neg e]
    have g1 := hd_good hc h0; have g2 := tl_good hc h1
    rw [ap_cons hc, ap_cons g1, ap_cons g2, ← List.append_assoc]
    have key : outp s c = outp s (hd k c) ++ outp (s.drop (hd k c).f1.toNat) (tl k c) ∧ c.f1.toNat = (hd k c).f1.toNat + (tl k c).f1.toNat := by
      by_cases h : c.f0 = 1
      · rw [sz_1 hc h] at h1
        have z := hc.2.2.1 h
        rw [hd_1 h, tl_1 h]
        refine ⟨?_, by simp only [z]; rfl⟩
        unfold outp
        rw [if_neg (by omega), if_neg (by simp only; omega), if_neg (by simp only; omega)]
        simp only [bl_ext, List.drop_zero, Nat.sub_zero]
        rw [List.take_of_length_le (l := (bl c.f2).drop _) (by rw [List.length_drop, bl_len]; omega), List.take_append_drop]
      · rw [sz_n hc h] at h1
        rw [hd_n h, tl_n h]
        refine ⟨?_, by simp only; omega⟩
        unfold outp
        by_cases h2 : c.f0 = 0
        · rw [if_pos h2, if_pos (by exact h2), if_pos (by exact h2)]
          simp only
          rw [show c.f1.toNat = k.toNat + (c.f1 - k).toNat by omega, List.take_add]
        · rw [if_neg h2, if_neg (by exact h2), if_neg (by exact h2)]
          simp only
          rw [size0 (hc.2.2.2 h)]; rfl
    rw [key.1, key.2, List.drop_drop]
def mn (x y : Int) : Int := if y < x then y else x
theorem mn_le (x y : Int) : mn x y ≤ x ∧ mn x y ≤ y ∧ (mn x y = x ∨ mn x y = y) := by unfold mn; split <;> omega
/-- The pieces that Compose adds, one by one. -/
def em : Nat → List Cm → List Cm → List Cm
  | 0, _, _ => []
  | _ + 1, [], [] => []
  | n + 1, [], d :: B => if d.f0 = 1 then d :: em n [] B else []
  | n + 1, c :: A, [] => if c.f0 = 2 then c :: em n A [] else []
  | n + 1, c :: A, d :: B => if c.f0 = 2 then c :: em n A (d :: B) else if d.f0 = 1 then d :: em n (c :: A) B else
      (if d.f0 = 0 then [hd (mn (sz c) (sz d)) c] else if c.f0 = 0 then [hd (mn (sz c) (sz d)) d] else []) ++ em n (rst (mn (sz c) (sz d)) c A) (rst (mn (sz c) (sz d)) d B)
theorem tos_cons {c : Cm} {r : List Cm} : tos (c :: r) = (if c.f0 = 2 then 0 else sz c) + tos r := rfl
structure EmOk (A B E : List Cm) : Prop where
  good : ∀ c ∈ E, good c
  fr : froms E = froms A
  tt : tos E = tos B
  len : E.length ≤ A.length + B.length
  app : ∀ s : List UInt8, froms A ≤ s.length → ap s E = ap (ap s A) B
theorem em_ok : ∀ (n : Nat) (A B : List Cm), A.length + B.length ≤ n → okA A → okA B → tos A = froms B → EmOk A B (em n A B) := by
  intro n
  induction n with
  | zero =>
    intro A B hn hA hB hb
    have e1 : A = [] := List.eq_nil_of_length_eq_zero (by omega)
    have e2 : B = [] := List.eq_nil_of_length_eq_zero (by omega)
    subst e1 e2
    exact ⟨no_good, rfl, rfl, by simp [em], fun s _ => rfl⟩
  | succ n ih =>
    intro A B hn hA hB hb
    cases A with
    | nil =>
      cases B with
      | nil => exact ⟨no_good, rfl, rfl, by simp [em], fun s _ => rfl⟩
      | cons d B =>
        have hd' := hB d List.mem_cons_self
        have hB' := okA_tail hB
        have hf := froms_le (okA_good hB')
        have hp := pos hd'
        by_cases k : d.f0 = 1
        · rw [froms_cons hd'.1, hd'.1.2.2.1 k] at hb
          simp only [List.length_nil, List.length_cons] at hn
          have := ih [] B (by simp only [List.length_nil]; omega) hA hB' (by omega)
          simp only [em, if_pos k]
          refine ⟨?_, ?_, ?_, ?_, ?_⟩
          · intro c hc
            rcases List.mem_cons.1 hc with rfl | hc
            · exact hd'.1
            · exact this.good c hc
          · rw [froms_cons hd'.1, hd'.1.2.2.1 k, this.fr]; omega
          · rw [tos_cons, tos_cons, this.tt]
          · have := this.len; simp only [List.length_cons, List.length_nil] at this ⊢; omega
          · intro s hs
            rw [ap_not (by omega), ap_not (by omega), hd'.1.2.2.1 k]
            simp only [Int.toNat_zero, List.drop_zero]
            rw [this.app s hs]
        · rw [froms_cons hd'.1, ← sz_n hd'.1 k] at hb
          simp only [tos] at hb; omega
    | cons c A =>
      have hc' := hA c List.mem_cons_self
      have hA' := okA_tail hA
      have hcp := pos hc'
      have htA := tos_le (okA_good hA')
      have hfA := froms_le (okA_good hA')
      have hc0 := hc'.1.1
      cases B with
      | nil =>
        by_cases k : c.f0 = 2
        · rw [tos_cons, if_pos k] at hb
          simp only [List.length_nil, List.length_cons] at hn
          have := ih A [] (by simp only [List.length_nil]; omega) hA' hB (by omega)
          simp only [em, if_pos k]
          refine ⟨?_, ?_, ?_, ?_, ?_⟩
          · intro e he
            rcases List.mem_cons.1 he with rfl | he
            · exact hc'.1
            · exact this.good e he
          · rw [froms_cons hc'.1, froms_cons hc'.1, this.fr]
          · rw [tos_cons, if_pos k, this.tt]; omega
          · have := this.len; simp only [List.length_cons, List.length_nil] at this ⊢; omega
          · intro s hs
            rw [froms_cons hc'.1] at hs
            rw [ap_cons hc'.1, ap_cons hc'.1]
            have e0 : outp s c = [] := by unfold outp; rw [if_neg (by omega), size0 (hc'.1.2.2.2 (by omega))]
            rw [e0, List.nil_append, List.nil_append, this.app _ (by rw [List.length_drop]; omega)]
        · rw [tos_cons, if_neg k] at hb
          simp only [froms] at hb; omega
      | cons d B =>
        have hd' := hB d List.mem_cons_self
        have hB' := okA_tail hB
        have hdp := pos hd'
        have hd0 := hd'.1.1
        simp only [List.length_cons] at hn
        by_cases k : c.f0 = 2
        · rw [tos_cons, if_pos k] at hb
          have := ih A (d :: B) (by simp only [List.length_cons]; omega) hA' hB (by omega)
          simp only [em, if_pos k]
          refine ⟨?_, ?_, ?_, ?_, ?_⟩
          · intro e he
            rcases List.mem_cons.1 he with rfl | he
            · exact hc'.1
            · exact this.good e he
          · rw [froms_cons hc'.1, froms_cons hc'.1, this.fr]
          · rw [tos_cons, if_pos k, this.tt]; omega
          · have := this.len; simp only [List.length_cons] at this ⊢; omega
          · intro s hs
            rw [froms_cons hc'.1] at hs
            rw [ap_cons hc'.1 s, ap_cons hc'.1 s]
            have e0 : outp s c = [] := by unfold outp; rw [if_neg (by omega), size0 (hc'.1.2.2.2 (by omega))]
            rw [e0, List.nil_append, List.nil_append, this.app _ (by rw [List.length_drop]; omega)]
        · by_cases k2 : d.f0 = 1
          · rw [froms_cons hd'.1, hd'.1.2.2.1 k2] at hb
            have := ih (c :: A) B (by simp only [List.length_cons]; omega) hA hB' (by omega)
            simp only [em, if_neg k, if_pos k2]
            refine ⟨?_, ?_, ?_, ?_, ?_⟩
            · intro e he
              rcases List.mem_cons.1 he with rfl | he
              · exact hd'.1
              · exact this.good e he
            · rw [froms_cons hd'.1, hd'.1.2.2.1 k2, this.fr]; omega
            · rw [tos_cons, tos_cons, this.tt]
            · have := this.len; simp only [List.length_cons] at this ⊢; omega
            · intro s hs
              rw [ap_not (by omega), ap_not (by omega), hd'.1.2.2.1 k2]
              simp only [Int.toNat_zero, List.drop_zero]
              rw [this.app s hs]
          · obtain ⟨q1, q2, q3⟩ := mn_le (sz c) (sz d)
            simp only [em, if_neg k, if_neg k2]
            generalize mn (sz c) (sz d) = m at q1 q2 q3 ⊢
            have m0 : 0 ≤ m := by omega
            have e1 := rst_tos (A := A) hc'.1 m0 q1
            have e2 := rst_froms (A := B) hd'.1 m0 q2
            rw [if_neg k] at e1
            rw [if_neg k2] at e2
            have hl : (rst m c A).length + (rst m d B).length ≤ n := by
              rcases q3 with q3 | q3
              · have := rst_len m d B
                have := rst_len' (c := c) A
                rw [← q3] at this; omega
              · have := rst_len m c A
                have := rst_len' (c := d) B
                rw [← q3] at this; omega
            have := ih (rst m c A) (rst m d B) hl (rst_ok hA m0 q1) (rst_ok hB m0 q2) (by omega)
            have g1 := hd_good hc'.1 m0; have g2 := hd_good hd'.1 m0
            have z1 := hd_sz hc'.1 m0 q1; have z2 := hd_sz hd'.1 m0 q2
            have f1 := rst_froms (A := A) hc'.1 m0 q1
            have t2 := rst_tos (A := B) hd'.1 m0 q2
            have lenx : ∀ X : List Cm, X.length ≤ 1 → (X ++ em n (rst m c A) (rst m d B)).length ≤ (c :: A).length + (d :: B).length := by
              intro X hX
              have l1 := this.len
              have : (rst m c A).length + (rst m d B).length + 1 ≤ (c :: A).length + (d :: B).length := by
                simp only [List.length_cons]
                rcases q3 with q3 | q3
                · have := rst_len m d B
                  have := rst_len' (c := c) A
                  rw [← q3] at this; omega
                · have := rst_len m c A
                  have := rst_len' (c := d) B
                  rw [← q3] at this; omega
              rw [List.length_append]; omega
            have apx : ∀ s : List UInt8, froms (c :: A) ≤ s.length → ap (ap s (c :: A)) (d :: B) = (if d.f0 = 0 then outp s (hd m c) else []) ++ ap (s.drop (hd m c).f1.toNat) (em n (rst m c A) (rst m d B)) := by
              intro s hs
              have hfr : (hd m c).f1 + froms (rst m c A) = froms (c :: A) := by
                rw [f1]
                by_cases kk : c.f0 = 1
                · rw [if_pos kk, hd_1 kk]; have := hc'.1.2.2.1 kk; simp only; omega
                · rw [if_neg kk, hd_n kk]; simp only; omega
              have hr := froms_le (okA_good (rst_ok hA m0 q1))
              have h0 := g1.1
              rw [ap_split hc'.1 m0 q1 s A, ap_split hd'.1 m0 q2 _ B, ap_cons g1, ap_cons g2, this.app _ (by rw [List.length_drop]; omega)]
              have l1 := outp_len g1 s (by omega) (by rw [hd_k]; exact k)
              rw [z1] at l1
              have hf : (hd m d).f1 = m := by rw [hd_n k2]
              rw [hf, List.drop_left' (by omega)]
              congr 1
              unfold outp
              rw [hd_k, hd_k, hf]
              by_cases kd : d.f0 = 0
              · rw [if_pos kd, if_pos kd, List.take_left' (by unfold outp at l1; rw [hd_k] at l1; omega)]
              · rw [if_neg kd, if_neg kd, hd_n k2]; exact size0 (hd'.1.2.2.2 k2)
            by_cases kd : d.f0 = 0
            · rw [if_pos kd]
              refine ⟨?_, ?_, ?_, lenx _ (by simp), ?_⟩
              · intro e he
                rcases List.mem_append.1 he with he | he
                · rw [List.mem_singleton.1 he]; exact g1
                · exact this.good e he
              · rw [froms_append, this.fr, f1]
                simp only [froms, hd_k]
                by_cases kk : c.f0 = 1
                · simp only [if_pos kk]; omega
                · simp only [if_neg kk]; rw [hd_n kk]; simp only; omega
              · rw [tos_append, this.tt, t2, if_neg (by omega)]
                simp only [tos, hd_k, if_neg k, z1]; omega
              · intro s hs
                rw [apx s hs, if_pos kd, List.singleton_append, ap_cons g1]
            · have kd2 : d.f0 = 2 := by have := hd'.1.2.1; omega
              rw [if_neg kd]
              by_cases kc : c.f0 = 0
              · rw [if_pos kc]
                refine ⟨?_, ?_, ?_, lenx _ (by simp), ?_⟩
                · intro e he
                  rcases List.mem_append.1 he with he | he
                  · rw [List.mem_singleton.1 he]; exact g2
                  · exact this.good e he
                · rw [froms_append, this.fr, f1, if_neg (by omega)]
                  simp only [froms, hd_k, if_neg k2]; rw [hd_n k2]; simp only; omega
                · rw [tos_append, this.tt, t2, if_pos kd2]
                  simp only [tos, hd_k, if_pos kd2]; omega
                · intro s hs
                  rw [apx s hs, if_neg kd, List.singleton_append, ap_cons g2]
                  have e3 : outp s (hd m d) = [] := by unfold outp; rw [hd_k, if_neg kd, hd_n k2]; exact size0 (hd'.1.2.2.2 k2)
                  rw [e3, hd_n k2, hd_n (show ¬ c.f0 = 1 by omega)]
              · have kc1 : c.f0 = 1 := by have := hc'.1.2.1; omega
                rw [if_neg kc]
                refine ⟨?_, ?_, ?_, lenx _ (by simp), ?_⟩
                · intro e he; exact this.good e he
                · rw [List.nil_append, this.fr, f1, if_pos kc1]; omega
                · rw [List.nil_append, this.tt, t2, if_pos kd2]; omega
                · intro s hs
                  rw [apx s hs, if_neg kd, List.nil_append, List.nil_append, hd_1 kc1, hc'.1.2.2.1 kc1]
                  rfl
/-- What Compose comes to. -/
def emit (A B : List Cm) : List Cm := em (A.length + B.length) A B
def cpM (a b : List Cm) : List Cm × Int := if mayB a = true ∧ mayB b = true ∧ tos a = froms b ∧ mayB (norm (emit a b)) = true then (norm (emit a b), 0) else ([], 400)
theorem nf_ne {a : List Cm} (h : nf a) : ∀ c ∈ a, sz c ≠ 0 := by
  unfold nf at h
  have key : ∀ r : List Cm, nfR r → ∀ c ∈ r, sz c ≠ 0 := by
    intro r
    induction r with
    | nil => intro _ c hc; cases hc
    | cons d r ih =>
      intro h c hc
      rcases List.mem_cons.1 hc with rfl | hc
      · exact h.1
      · exact ih h.2.2 c hc
  intro c hc
  exact key _ h c (List.mem_reverse.2 hc)
theorem may_ok {a : List Cm} (h : mayB a = true) : okA a := by
  obtain ⟨h1, h2, h3⟩ := may_bounds h
  exact fun c hc => ⟨h2 c hc, nf_ne (may_nf h) c hc⟩
theorem emit_ok {a b : List Cm} (ha : mayB a = true) (hb : mayB b = true) (h : tos a = froms b) : EmOk a b (emit a b) := em_ok _ a b (Nat.le_refl _) (may_ok ha) (may_ok hb) h
/-- It may be, if there are not too many pieces. -/
theorem emit_may {a b : List Cm} (ha : mayB a = true) (hb : mayB b = true) (h : tos a = froms b) (hl : a.length + b.length ≤ 4096) : mayB (norm (emit a b)) = true := by
  have e := emit_ok ha hb h
  obtain ⟨_, _, _, p1, p2⟩ := (may_iff a).1 ha
  obtain ⟨_, _, _, p3, p4⟩ := (may_iff b).1 hb
  exact norm_may _ (by have := e.len; omega) e.good (by rw [e.fr]; exact p1) (by rw [e.tt]; exact p4)
end Go.Proofs.Ytldaokclpkcmmab.Pl
