/- Facts on the plain model of Compose; what is kept all. -/
import Derived.Test.YtldaokclpkcmmabK1
namespace Go.Proofs.Ytldaokclpkcmmab.Pl
open Go.RowKit Go.Proofs.Ytldaokclpkcmmab.G Go.Proofs.YtldaokclpkcmmabW.PrintWords Go.Proofs.YtldaokclpkcmmabW.PrintLast Go.Proofs.YtldaokclpkcmmabW.PrintMore
set_option linter.unusedVariables false
set_option linter.unusedSimpArgs false
theorem cpM_ok {a b : List Cm} (ha : mayB a = true) (hb : mayB b = true) (h : tos a = froms b) (hm : mayB (norm (emit a b)) = true) : cpM a b = (norm (emit a b), 0) := if_pos ⟨ha, hb, h, hm⟩
theorem cpM_err {a b : List Cm} (h : ¬ (mayB a = true ∧ mayB b = true ∧ tos a = froms b ∧ mayB (norm (emit a b)) = true)) : cpM a b = ([], 400) := if_neg h
/-- Two edits that fit, and not too many pieces: their composition does both. -/
theorem cp_all {a b : List Cm} (ha : mayB a = true) (hb : mayB b = true) (h : tos a = froms b) (hl : a.length + b.length ≤ 4096) :
    ∃ c, cpM a b = (c, 0) ∧ mayB c = true ∧ froms c = froms a ∧ tos c = tos b ∧ c.length ≤ a.length + b.length ∧ ∀ s : List UInt8, froms a ≤ s.length → ap s c = ap (ap s a) b := by
  have e := emit_ok ha hb h
  have hm := emit_may ha hb h hl
  refine ⟨_, cpM_ok ha hb h hm, hm, by rw [norm_froms e.good, e.fr], by rw [norm_tos e.good, e.tt], ?_, fun s hs => by rw [ap_norm e.good, e.app s hs]⟩
  have := fold_len (emit a b) []
  have := e.len
  simp only [List.length_nil] at *
  unfold norm; omega
def kq (a : Int) : List Cm := if a = 0 then [] else [⟨0, a, ⟨#[]⟩⟩]
theorem kq_sz (a : Int) : sz (⟨0, a, ⟨#[]⟩⟩ : Cm) = a := by simp only [sz]; rw [show (⟨#[]⟩ : ByteArray).size = 0 from rfl]; simp
theorem kq_pos {a : Int} (h : 0 < a) : kq a = [⟨0, a, ⟨#[]⟩⟩] := if_neg (by omega)
theorem kq_rst {m a : Int} (h0 : 0 ≤ m) (h1 : m ≤ a) : rst m ⟨0, a, ⟨#[]⟩⟩ [] = kq (a - m) := by
  unfold rst kq
  rw [kq_sz]
  by_cases e : m = a
  · rw [if_pos e, if_pos (by omega)]
  · rw [if_neg e, if_neg (by omega), tl_n (by simp)]
theorem empty_of {s : ByteArray} (h : s.size = 0) : s = ⟨#[]⟩ := bl_inj (by rw [size0 h, bl_nil])
/-- An edit that keeps all ahead of another one. -/
theorem em_keep_a : ∀ (n : Nat) (B : List Cm), okA B → (kq (froms B)).length + B.length ≤ n → em n (kq (froms B)) B = B := by
  intro n
  induction n with
  | zero =>
    intro B hB hn
    have e2 : B = [] := List.eq_nil_of_length_eq_zero (by omega)
    subst e2; rfl
  | succ n ih =>
    intro B hB hn
    cases B with
    | nil => rfl
    | cons d B =>
      have hd' := hB d List.mem_cons_self
      have hB' := okA_tail hB
      have hp := pos hd'
      have hf := froms_le (okA_good hB')
      have hfc : froms (d :: B) = d.f1 + froms B := froms_cons hd'.1
      by_cases k : d.f0 = 1
      · have hz := hd'.1.2.2.1 k
        rw [hfc, hz, Int.zero_add] at hn ⊢
        have := ih B hB' (by simp only [List.length_cons] at hn; omega)
        by_cases e : froms B = 0
        · have ek : kq (froms B) = [] := by rw [kq, if_pos e]
          rw [ek] at this ⊢
          simp only [em, if_pos k, this]
        · rw [kq_pos (by omega)] at this ⊢
          simp only [em, if_pos k]
          rw [if_neg (by omega), this]
      · have hz := sz_n hd'.1 k
        have h0 : 0 < froms (d :: B) := by omega
        rw [kq_pos h0]
        simp only [em, if_neg k, kq_sz]
        rw [if_neg (by omega)]
        have em_ : mn (froms (d :: B)) (sz d) = sz d := by unfold mn; split <;> omega
        rw [em_, kq_rst (by omega) (by omega)]
        have er : rst (sz d) d B = B := by unfold rst; rw [if_pos rfl]
        have ef : froms (d :: B) - sz d = froms B := by omega
        rw [er, ef]
        have hlen : (kq (froms B)).length + B.length ≤ n := by
          have hq : (kq (froms B)).length ≤ 1 := by unfold kq; split <;> simp
          cases B with
          | nil => simp [froms, kq]
          | cons e B =>
            rw [kq_pos h0] at hn
            simp only [List.length_cons, List.length_nil] at hn hq ⊢; omega
        rw [ih B hB' hlen]
        by_cases kd : d.f0 = 0
        · rw [if_pos kd, hd_n (by simp), List.singleton_append]
          congr 1
          obtain ⟨f0, f1, f2⟩ := d
          simp only at kd hz
          have h2 := empty_of (hd'.1.2.2.2 k)
          simp only at h2
          rw [hz, ← kd, ← h2]
        · rw [if_neg kd]
          simp only [if_true]
          rw [hd_all hd'.1, List.singleton_append]
/-- .. and behind another one. -/
theorem em_keep_b : ∀ (n : Nat) (A : List Cm), okA A → A.length + (kq (tos A)).length ≤ n → em n A (kq (tos A)) = A := by
  intro n
  induction n with
  | zero =>
    intro A hA hn
    have e2 : A = [] := List.eq_nil_of_length_eq_zero (by omega)
    subst e2; rfl
  | succ n ih =>
    intro A hA hn
    cases A with
    | nil => rfl
    | cons c A =>
      have hc' := hA c List.mem_cons_self
      have hA' := okA_tail hA
      have hp := pos hc'
      have hf := tos_le (okA_good hA')
      by_cases k : c.f0 = 2
      · rw [tos_cons, if_pos k, Int.zero_add] at hn ⊢
        have := ih A hA' (by simp only [List.length_cons] at hn; omega)
        by_cases e : tos A = 0
        · have ek : kq (tos A) = [] := by rw [kq, if_pos e]
          rw [ek] at this ⊢
          simp only [em, if_pos k, this]
        · rw [kq_pos (by omega)] at this ⊢
          simp only [em, if_pos k, this]
      · have ht : tos (c :: A) = sz c + tos A := by rw [tos_cons, if_neg k]
        have h0 : 0 < tos (c :: A) := by omega
        rw [kq_pos h0]
        simp only [em, if_neg k, kq_sz]
        rw [if_neg (by omega)]
        simp only [if_true]
        have em_ : mn (sz c) (tos (c :: A)) = sz c := by unfold mn; split <;> omega
        rw [em_, kq_rst (by omega) (by omega)]
        have er : rst (sz c) c A = A := by unfold rst; rw [if_pos rfl]
        have ef : tos (c :: A) - sz c = tos A := by omega
        rw [er, ef]
        have hlen : A.length + (kq (tos A)).length ≤ n := by
          have hq : (kq (tos A)).length ≤ 1 := by unfold kq; split <;> simp
          rw [kq_pos h0] at hn
          simp only [List.length_cons, List.length_nil] at hn; omega
        rw [ih A hA' hlen, hd_all hc'.1, List.singleton_append]
theorem kq_may {a : Int} (h0 : 0 ≤ a) (h1 : a ≤ 4096) : mayB (kq a) = true := by
  unfold kq
  by_cases e : a = 0
  · rw [if_pos e]; rfl
  · rw [if_neg e]
    refine (may_iff _).2 ⟨by simp, ?_, ?_, ?_, ?_⟩
    · intro c hc
      rw [List.mem_singleton.1 hc]
      exact decide_eq_true (.inl ⟨.inl rfl, h0, h1, rfl⟩)
    · exact ⟨by rw [kq_sz]; exact e, trivial, trivial⟩
    · simp [froms]; omega
    · simp only [tos, kq_sz]; simp; omega
theorem kq_froms (a : Int) : froms (kq a) = a := by unfold kq; split <;> simp [froms] <;> omega
theorem kq_tos (a : Int) : tos (kq a) = a := by unfold kq; split <;> simp [tos, kq_sz] <;> omega
end Go.Proofs.Ytldaokclpkcmmab.Pl
