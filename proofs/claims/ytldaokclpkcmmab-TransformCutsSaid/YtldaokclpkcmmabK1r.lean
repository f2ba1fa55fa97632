/- Readers of pieces: what Next and Take come to. -/
import Derived.Test.YtldaokclpkcmmabK1
import Derived.Test.YtldaokclpkcmmabRd
namespace Go.Proofs.Ytldaokclpkcmmab.Pl
open Go.RowKit Go.Proofs.Ytldaokclpkcmmab.G Go.Proofs.YtldaokclpkcmmabW.PrintWords Go.Proofs.YtldaokclpkcmmabW.PrintLast
set_option linter.unusedVariables false
set_option linter.unusedSimpArgs false
/-- What a reader has left. -/
def rep : List Cm → Int → List Cm
  | [], _ => []
  | c :: r, p => tl p c :: r
structure RdOk (r : List Cm) (p : Int) : Prop where
  okr : okA r
  small : ∀ c ∈ r, sz c ≤ 4096
  p0 : 0 ≤ p
  p1 : ∀ c, r.head? = some c → p < sz c
theorem rep_zero (r : List Cm) : rep r 0 = r := by
  cases r with
  | nil => rfl
  | cons c r => simp only [rep, tl_zero]
theorem RdOk.start {r : List Cm} (h : okA r) (hs : ∀ c ∈ r, sz c ≤ 4096) : RdOk r 0 :=
  ⟨h, hs, by omega, fun c hc => pos (h c (by cases r with | nil => cases hc | cons d r => simp only [List.head?_cons, Option.some.injEq] at hc; rw [hc]; exact List.mem_cons_self))⟩
theorem rep_ok {r : List Cm} {p : Int} (h : RdOk r p) : okA (rep r p) := by
  cases r with
  | nil => exact h.okr
  | cons c r =>
    have hc := h.okr c List.mem_cons_self
    have hp := h.p1 c rfl
    have h0 := h.p0
    intro d hd
    rcases List.mem_cons.1 hd with rfl | hd
    · exact ⟨tl_good hc.1 (by omega), by rw [tl_sz hc.1 h0 (by omega)]; omega⟩
    · exact okA_tail h.okr d hd
theorem rd_kd (r : List Cm) (p : Int) : Rd.kd r = match rep r p with | [] => -1 | c :: _ => c.f0 := by
  cases r with
  | nil => rfl
  | cons c r => simp only [Rd.kd, rep, tl_k]
theorem rd_sz {r : List Cm} {p : Int} (h : RdOk r p) : Rd.sz r p = some (match rep r p with | [] => 0 | c :: _ => sz c) := by
  cases r with
  | nil => rfl
  | cons c r =>
    have hc := h.okr c List.mem_cons_self
    have hp := h.p1 c rfl
    have hs := h.small c List.mem_cons_self
    have h0 := h.p0
    simp only [Rd.sz, rep, Size_eq c hc.1 (by omega), Option.bind_some]
    rw [w64 (by omega) (by omega), tl_sz hc.1 h0 (by omega)]
/-- Taking so much of the next piece. -/
theorem rd_take {c : Cm} {r : List Cm} {p : Int} (h : RdOk (c :: r) p) {k : Int} (h0 : 0 ≤ k) (h1 : k ≤ sz (tl p c)) :
    ∃ r' p', Rd.take (c :: r) p k = some (hd k (tl p c), r', p') ∧ rep r' p' = rst k (tl p c) r ∧ RdOk r' p' := by
  have hc := h.okr c List.mem_cons_self
  have hp := h.p1 c rfl
  have hs := h.small c List.mem_cons_self
  have hp0 := h.p0
  have hz := tl_sz hc.1 hp0 (by omega : p ≤ sz c)
  have hg : 0 ≤ p ∧ 0 ≤ k ∧ p + k ≤ 4096 ∧ (c.f0 = 1 → p + k ≤ (c.f2.size : Int) ∧ c.f2.size ≤ 4096) := ⟨hp0, h0, by omega, fun k1 => by have := sz_1 hc.1 k1; omega⟩
  have e1 := hd_tl hc.1 hp0 h0 (by omega)
  by_cases e : p + k = sz c
  · refine ⟨r, 0, ?_, ?_, RdOk.start (okA_tail h.okr) (fun d hd => h.small d (List.mem_cons_of_mem _ hd))⟩
    · simp only [Rd.take, Size_eq c hc.1 (by omega), Option.bind_some, if_pos hg, if_pos e, e1]
    · rw [rep_zero]; unfold rst; rw [if_pos (by omega)]
  · refine ⟨c :: r, p + k, ?_, ?_, ⟨h.okr, h.small, by omega, fun d hd => by simp only [List.head?_cons, Option.some.injEq] at hd; subst hd; omega⟩⟩
    · simp only [Rd.take, Size_eq c hc.1 (by omega), Option.bind_some, if_pos hg, if_neg e, e1]
    · simp only [rep]; unfold rst; rw [if_neg (by omega), tl_tl hc.1 hp0 h0 (by omega)]
theorem may_small {a : List Cm} (h : mayB a = true) : ∀ c ∈ a, sz c ≤ 4096 := fun c hc => raw_sz (((may_iff a).1 h).2.1 c hc)
end Go.Proofs.Ytldaokclpkcmmab.Pl
