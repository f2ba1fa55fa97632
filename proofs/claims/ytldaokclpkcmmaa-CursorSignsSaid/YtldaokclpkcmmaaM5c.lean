/- Places under edits: what cursor.Move comes to. -/
import Derived.Test.YtldaokclpkcmmaaB2
import Derived.Test.YtldaokclpkcmmaaGCursorPMove
namespace Go.Proofs.Ytldaokclpkcmmaa.Pl
open Go.RowKit Go.Proofs.Ytldaokclpkcmmaa.G Go.Proofs.YtldaokclpkcmmaaW.PrintWords Go.Proofs.YtldaokclpkcmmaaW.PrintLast
set_option linter.unusedVariables false
set_option linter.unusedSimpArgs false

def mv (behind : Bool) : Int → List Cm → Int
  | _, [] => 0
  | p, c :: r => if p = 0 ∧ (c.f0 ≠ 1 ∨ behind = false) then 0
    else if c.f0 = 1 then (c.f2.size : Int) + mv behind p r
    else if c.f0 = 0 then (if p < c.f1 then p else c.f1 + mv behind (p - c.f1) r)
    else if p < c.f1 then 0 else mv behind (p - c.f1) r
theorem mv_cons (behind : Bool) (p : Int) (c : Cm) (r : List Cm) : mv behind p (c :: r) = (if p = 0 ∧ (c.f0 ≠ 1 ∨ behind = false) then 0
    else if c.f0 = 1 then (c.f2.size : Int) + mv behind p r
    else if c.f0 = 0 then (if p < c.f1 then p else c.f1 + mv behind (p - c.f1) r)
    else if p < c.f1 then 0 else mv behind (p - c.f1) r) := rfl
def move (cs : List Cm) (p : Int) (behind : Bool) : Int × Int := if mayB cs = true ∧ 0 ≤ p ∧ p ≤ froms cs then (mv behind p cs, 0) else (0, 600)
/-- What of an edit that may be each piece is. -/
def solid (cs : List Cm) : Prop := ∀ c ∈ cs, good c ∧ sz c ≠ 0
theorem nfR_solid {r : List Cm} (h : nfR r) : ∀ c ∈ r, sz c ≠ 0 := by
  induction r with
  | nil => intro c hc; cases hc
  | cons d r ih =>
    intro c hc
    rcases List.mem_cons.1 hc with rfl | hc
    · exact h.1
    · exact ih h.2.2 c hc
theorem may_solid {cs : List Cm} (h : mayB cs = true) : solid cs := by
  obtain ⟨_, h2, h3, _⟩ := (may_iff cs).1 h
  intro c hc
  exact ⟨raw_good (h2 c hc), nfR_solid h3 c (by simpa using hc)⟩
theorem solid_tail {c : Cm} {r : List Cm} (h : solid (c :: r)) : solid r := fun d hd => h d (List.mem_cons_of_mem _ hd)
theorem solid_good {cs : List Cm} (h : solid cs) : ∀ c ∈ cs, good c := fun c hc => (h c hc).1
theorem mv_range {b : Bool} {cs : List Cm} (hs : solid cs) : ∀ p, 0 ≤ p → p ≤ froms cs → 0 ≤ mv b p cs ∧ mv b p cs ≤ tos cs := by
  induction cs with
  | nil => intro p h0 h1; simp [mv, tos]
  | cons c r ih =>
    intro p h0 h1
    obtain ⟨hg, hz⟩ := hs c List.mem_cons_self
    have hr := tos_le (solid_good (solid_tail hs))
    have hc1 := hg.1
    have hcz := good_sz hg
    simp only [froms] at h1
    simp only [mv, tos]
    by_cases a : p = 0 ∧ (c.f0 ≠ 1 ∨ b = false)
    · rw [if_pos a]; split <;> omega
    · rw [if_neg a]
      by_cases k1 : c.f0 = 1
      · have := ih (solid_tail hs) p h0 (by rw [if_pos k1] at h1; omega)
        have := hg.2.2.1 k1
        rw [if_pos k1, if_neg (by omega)]; unfold sz; omega
      · rw [if_neg k1] at h1 ⊢
        have hszc : sz c = c.f1 := by unfold sz; have := hg.2.2.2 k1; omega
        by_cases k0 : c.f0 = 0
        · rw [if_pos k0, if_neg (show ¬ c.f0 = 2 by omega)]
          by_cases hlt : p < c.f1
          · rw [if_pos hlt]; omega
          · rw [if_neg hlt]; have := ih (solid_tail hs) (p - c.f1) (by omega) (by omega); omega
        · have := hg.2.1
          rw [if_neg k0, if_pos (show c.f0 = 2 by omega)]
          by_cases hlt : p < c.f1
          · rw [if_pos hlt]; omega
          · rw [if_neg hlt]; have := ih (solid_tail hs) (p - c.f1) (by omega) (by omega); omega

theorem Move_l0 (xs : List Cm) (b : Bool) (hl : xs.length ≤ 4096) (hs : solid xs) : ∀ (suf pre : List Cm) (p now : Int), xs = pre ++ suf → 0 ≤ p → p ≤ froms suf → 0 ≤ now → now + tot suf < 4611686018427387904 →
    Ev (fun k => cursor_Move.l0 k p b now xs (xs.length : Int) (pre.length : Int)) (now + mv b p suf, 0) := by
  intro suf
  induction suf with
  | nil =>
    intro pre p now e h0 h1 h2 h3
    refine Ev.step (fun k => by rw [cursor_Move.l0]) ?_
    simp only [if_neg (nlt_of e), mv, Int.add_zero]
    exact Ev.now _
  | cons c suf ih =>
    intro pre p now e h0 h1 h2 h3
    have hlt := lt_len e
    obtain ⟨hg, hz⟩ := hs c (mem_of e)
    have hcz := good_sz hg
    have hc1 := hg.1
    have hsuf : ∀ d ∈ suf, good d := fun d hd => (hs d (by rw [e]; simp [hd])).1
    have htn := tot_nonneg hsuf
    have hfr := froms_le hsuf
    simp only [tot] at h3
    simp only [froms] at h1
    have hf1 : c.f1 ≤ sz c := by unfold sz; omega
    have hf2 : (c.f2.size : Int) ≤ sz c := by unfold sz; omega
    have en := len_next pre c (by omega)
    have key : ∀ x, (x = true ↔ (p = 0 ∧ (c.f0 ≠ 1 ∨ b = false))) → Ev (fun k => cursor_Move.j2 k p b now xs (xs.length : Int) (pre.length : Int) x c.f0 c.f1 c.f2) (now + mv b p (c :: suf), 0) := by
      intro x hx
      refine Ev.step (fun k => by rw [cursor_Move.j2]) ?_
      simp only [mv]
      by_cases a : x = true
      · simp only [if_pos a, if_pos (hx.1 a), Int.add_zero]; exact Ev.now _
      · have a' : ¬ (p = 0 ∧ (c.f0 ≠ 1 ∨ b = false)) := fun h => a (hx.2 h)
        simp only [if_neg a, if_neg a', en]
        by_cases k1 : c.f0 = 1
        · simp only [if_pos k1]
          have e1 : wrap64 (now + (c.f2.size : Int)) = now + (c.f2.size : Int) := w64 (by omega) (by omega)
          simp only [e1]
          have := ih (pre ++ [c]) p (now + (c.f2.size : Int)) (next_of e) h0 (by rw [if_pos k1] at h1; omega) (by omega) (by omega)
          rw [Int.add_assoc] at this; exact this
        · rw [if_neg k1] at h1
          have hsz : sz c = c.f1 := by unfold sz; have := hg.2.2.2 k1; omega
          have e2 : wrap64 (now + p) = now + p := w64 (by omega) (by omega)
          have e3 : wrap64 (p - c.f1) = p - c.f1 := w64 (by omega) (by omega)
          have e4 : wrap64 (now + c.f1) = now + c.f1 := w64 (by omega) (by omega)
          by_cases k0 : c.f0 = 0
          · simp only [if_neg k1, if_pos k0]
            by_cases hp : p < c.f1
            · simp only [if_pos hp, e2]; exact Ev.now _
            · simp only [if_neg hp, e3, e4]
              have := ih (pre ++ [c]) (p - c.f1) (now + c.f1) (next_of e) (by omega) (by omega) (by omega) (by omega)
              rw [Int.add_assoc] at this; exact this
          · have k2 : c.f0 = 2 := by have := hg.2.1; omega
            simp only [if_neg k1, if_neg k0, if_pos k2]
            by_cases hp : p < c.f1
            · simp only [if_pos hp, Int.add_zero]; exact Ev.now _
            · simp only [if_neg hp, e3]
              exact ih (pre ++ [c]) (p - c.f1) now (next_of e) (by omega) (by omega) (by omega) (by omega)
    refine Ev.step (fun k => by rw [cursor_Move.l0]) ?_
    simp only [if_pos (lt_of e), if_pos (nat_nonneg _), rd_of e]
    by_cases p0 : p = 0
    · simp only [if_pos p0]
      by_cases k1 : c.f0 = 1
      · simp only [if_pos k1]; exact key _ (by simp [p0, k1])
      · simp only [if_neg k1]; exact key _ (by simp [p0, k1])
    · simp only [if_neg p0]; exact key _ (by simp [p0])
theorem Move_ev (xs : List Cm) (p : Int) (b : Bool) : Ev (fun k => cursor_Move.f k xs p b) (move xs p b) := by
  have bad : ∀ x, x = true → move xs p b = (0, 600) → Ev (fun k => cursor_Move.j0 k xs p b x) (move xs p b) := by
    intro x hx hm
    refine Ev.step (fun k => by rw [cursor_Move.j0]) ?_
    simp only [if_pos hx, hm]; exact Ev.now _
  refine Ev.congr (fun k => by rw [cursor_Move.f]) (Ev.bind (Lengths_ev xs) ?_)
  by_cases h : mayB xs = true
  · obtain ⟨h1, h2, h3⟩ := may_bounds h
    have hs := may_solid h
    have hfr := froms_le h2
    simp only [lens_ok xs h, if_true]
    by_cases h4 : p < 0
    · simp only [if_pos h4]; exact bad _ rfl (by unfold move; rw [if_neg (by omega)])
    · simp only [if_neg h4]
      by_cases h5 : p > froms xs
      · exact bad _ (by simpa using h5) (by unfold move; rw [if_neg (by omega)])
      · refine Ev.step (fun k => by rw [cursor_Move.j0]) ?_
        have h5' : decide (p > froms xs) = false := by simpa using h5
        have hm : move xs p b = (mv b p xs, 0) := by unfold move; rw [if_pos ⟨h, by omega, by omega⟩]
        simp only [h5', Bool.false_eq_true, if_false, hm]
        have := Move_l0 xs b h1 hs xs [] p 0 rfl (by omega) (by omega) (by omega) (by omega)
        simpa using this
  · simp only [lens_err xs h, show ¬ ((200 : Int) = 0) by omega, if_false]
    exact bad _ rfl (by unfold move; rw [if_neg (fun hh => h hh.1)])
end Go.Proofs.Ytldaokclpkcmmaa.Pl
