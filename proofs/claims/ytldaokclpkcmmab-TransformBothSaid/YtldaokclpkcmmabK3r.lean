/- The reference's reader: what peek and take come to. -/
import Derived.Test.YtldaokclpkcmmabK1r
import Derived.Test.YtldaokclpkcmmabRr
namespace Go.Proofs.Ytldaokclpkcmmab.Pl
open Go.RowKit Go.Proofs.Ytldaokclpkcmmab.G Go.Proofs.YtldaokclpkcmmabW.PrintWords Go.Proofs.YtldaokclpkcmmabW.PrintLast
set_option linter.unusedVariables false
set_option linter.unusedSimpArgs false
/-- The reference's reader stands at place i of cs. -/
structure RrOk (cs : List Cm) (i : Int) (r : List Cm) (p : Int) : Prop where
  ok : RdOk r p
  i0 : 0 ≤ i
  dr : cs.drop i.toNat = r
  le : i ≤ (cs.length : Int)
theorem RrOk.start {r : List Cm} (h : okA r) (hs : ∀ c ∈ r, sz c ≤ 4096) : RrOk r 0 r 0 := ⟨RdOk.start h hs, by omega, rfl, by omega⟩
theorem drop_at {cs r : List Cm} {c : Cm} {i : Int} (h0 : 0 ≤ i) (h : cs.drop i.toNat = c :: r) : i < (cs.length : Int) ∧ rd_T37 cs i = c ∧ cs.drop (i + 1).toNat = r := by
  have hl : i.toNat < cs.length := by
    apply Classical.byContradiction
    intro hn
    rw [List.drop_eq_nil_of_le (by omega)] at h
    cases h
  refine ⟨by omega, ?_, ?_⟩
  · unfold rd_T37
    rw [List.drop_eq_getElem_cons hl] at h
    injection h with h1 h2
    rw [List.getD_eq_getElem?_getD, List.getElem?_eq_getElem hl, Option.getD_some]; exact h1
  · rw [show (i + 1).toNat = i.toNat + 1 by omega, ← List.drop_drop, h]; rfl
theorem rr_peek_nil {cs : List Cm} {i p : Int} (h : RrOk cs i [] p) : ∃ z, Rr.peek cs i p = some (z, false) := by
  have hd := h.dr
  have : cs.length ≤ i.toNat := by
    apply Classical.byContradiction
    intro hn
    have := congrArg List.length hd
    simp only [List.length_drop, List.length_nil] at this; omega
  have := h.i0
  unfold Rr.peek
  rw [if_pos (by omega)]
  exact ⟨_, rfl⟩
theorem rr_peek {cs : List Cm} {i p : Int} {c : Cm} {r : List Cm} (h : RrOk cs i (c :: r) p) : Rr.peek cs i p = some (tl p c, true) := by
  obtain ⟨h1, h2, h3⟩ := drop_at h.i0 h.dr
  have hc := h.ok.okr c List.mem_cons_self
  have hp := h.ok.p1 c rfl
  have hs := h.ok.small c List.mem_cons_self
  have hp0 := h.ok.p0
  unfold Rr.peek
  rw [if_neg (by omega), if_pos h.i0, h2]
  by_cases k : c.f0 = 1
  · have := sz_1 hc.1 k
    rw [if_pos k, if_pos ⟨hp0, by omega⟩, tl_1 k]
  · have := sz_n hc.1 k
    rw [if_neg k, tl_n k, w64 (by omega) (by omega)]
theorem rr_take {cs : List Cm} {i p : Int} {c : Cm} {r : List Cm} (h : RrOk cs i (c :: r) p) {k m : Int} (hm : Rr.mini k (sz (tl p c)) = m) (h0 : 0 ≤ m) (h1 : m ≤ sz (tl p c)) :
    ∃ i' r' p', Rr.take cs i p k = some (hd m (tl p c), i', p') ∧ rep r' p' = rst m (tl p c) r ∧ RrOk cs i' r' p' := by
  obtain ⟨q1, q2, q3⟩ := drop_at h.i0 h.dr
  have hc := h.ok.okr c List.mem_cons_self
  have hp := h.ok.p1 c rfl
  have hs := h.ok.small c List.mem_cons_self
  have hp0 := h.ok.p0
  have hz := tl_sz hc.1 hp0 (by omega : p ≤ sz c)
  have g := tl_good hc.1 (by omega : p ≤ sz c)
  have hg : 0 ≤ p ∧ 0 ≤ m ∧ p + m ≤ 1048576 ∧ ((tl p c).f0 = 1 → m ≤ ((tl p c).f2.size : Int)) := ⟨hp0, h0, by omega, fun k1 => by have := sz_1 g k1; omega⟩
  have e0 : (if (tl p c).f0 = 1 then (⟨(tl p c).f0, (tl p c).f1, (tl p c).f2.extract 0 m.toNat⟩ : Cm) else ⟨(tl p c).f0, m, (tl p c).f2⟩) = hd m (tl p c) := rfl
  by_cases e : sz c ≤ p + m
  · refine ⟨i + 1, r, 0, ?_, ?_, ⟨RdOk.start (okA_tail h.ok.okr) (fun d hd => h.ok.small d (List.mem_cons_of_mem _ hd)), by have := h.i0; omega, q3, by omega⟩⟩
    · simp only [Rr.take, rr_peek h, Option.bind_some, if_true, rsize_eq _ g, q2, rsize_eq _ hc.1, hm, if_pos hg, if_pos e, e0]
    · rw [rep_zero]; unfold rst; rw [if_pos (by omega)]
  · refine ⟨i, c :: r, p + m, ?_, ?_, ⟨⟨h.ok.okr, h.ok.small, by omega, fun d hd => by simp only [List.head?_cons, Option.some.injEq] at hd; subst hd; omega⟩, h.i0, h.dr, h.le⟩⟩
    · simp only [Rr.take, rr_peek h, Option.bind_some, if_true, rsize_eq _ g, q2, rsize_eq _ hc.1, hm, if_pos hg, if_neg e, e0]
    · simp only [rep]; unfold rst; rw [if_neg (by omega), tl_tl hc.1 hp0 h0 (by omega)]
theorem rr_whole {cs : List Cm} {i p : Int} {c : Cm} {r : List Cm} (h : RrOk cs i (c :: r) p) : ∃ i' r' p', Rr.take cs i p 4096 = some (tl p c, i', p') ∧ rep r' p' = r ∧ RrOk cs i' r' p' := by
  have hc := h.ok.okr c List.mem_cons_self
  have hp := h.ok.p1 c rfl
  have hs := h.ok.small c List.mem_cons_self
  have hp0 := h.ok.p0
  have hz := tl_sz hc.1 hp0 (by omega : p ≤ sz c)
  have g := tl_good hc.1 (by omega : p ≤ sz c)
  obtain ⟨i', r', p', e1, e2, e3⟩ := rr_take h (k := 4096) (m := sz (tl p c)) (by unfold Rr.mini; split <;> omega) (by omega) (Int.le_refl _)
  rw [hd_all g] at e1
  unfold rst at e2; rw [if_pos rfl] at e2
  exact ⟨i', r', p', e1, e2, e3⟩
end Go.Proofs.Ytldaokclpkcmmab.Pl
