/- Package cursor is awake; what its model keeps. -/
import Derived.Test.YtldaokclpkcmmaaM5c
import Derived.Test.YtldaokclpkcmmaaB2
import Derived.Test.YtldaokclpkcmmaaGMinuetlaw6qawake
namespace Go.Proofs.Ytldaokclpkcmmaa.Pl
open Go.RowKit Go.Proofs.Ytldaokclpkcmmaa.G Go.Proofs.YtldaokclpkcmmaaW.PrintWords Go.Proofs.YtldaokclpkcmmaaW.PrintLast Go.Proofs.YtldaokclpkcmmaaW.PrintMore
set_option linter.unusedVariables false
set_option linter.unusedSimpArgs false

theorem awake6 : Ev (fun k => minuetlaw6_awake.f k) true := by
  have h : mayB [(⟨0, 2, ⟨#[]⟩⟩ : Cm), ⟨1, 0, ⟨#[120, 121]⟩⟩, ⟨2, 2, ⟨#[]⟩⟩, ⟨0, 1, ⟨#[]⟩⟩] = true := by decide
  refine Ev.congr (fun k => by rw [minuetlaw6_awake.f]) ?_
  simp only [Option.bind_some]
  refine Ev.bind (Move_ev _ 2 false) ?_
  refine Ev.bind (Move_ev _ 2 true) ?_
  refine Ev.bind (Move_ev _ 3 false) ?_
  refine Ev.bind (Move_ev _ 5 false) ?_
  refine Ev.bind (Move_ev _ 6 false) ?_
  have e1 : move [(⟨0, 2, ⟨#[]⟩⟩ : Cm), ⟨1, 0, ⟨#[120, 121]⟩⟩, ⟨2, 2, ⟨#[]⟩⟩, ⟨0, 1, ⟨#[]⟩⟩] 2 false = (2, 0) := by unfold move; rw [if_pos ⟨h, by decide, by decide⟩]; decide
  have e2 : move [(⟨0, 2, ⟨#[]⟩⟩ : Cm), ⟨1, 0, ⟨#[120, 121]⟩⟩, ⟨2, 2, ⟨#[]⟩⟩, ⟨0, 1, ⟨#[]⟩⟩] 2 true = (4, 0) := by unfold move; rw [if_pos ⟨h, by decide, by decide⟩]; decide
  have e3 : move [(⟨0, 2, ⟨#[]⟩⟩ : Cm), ⟨1, 0, ⟨#[120, 121]⟩⟩, ⟨2, 2, ⟨#[]⟩⟩, ⟨0, 1, ⟨#[]⟩⟩] 3 false = (4, 0) := by unfold move; rw [if_pos ⟨h, by decide, by decide⟩]; decide
  have e4 : move [(⟨0, 2, ⟨#[]⟩⟩ : Cm), ⟨1, 0, ⟨#[120, 121]⟩⟩, ⟨2, 2, ⟨#[]⟩⟩, ⟨0, 1, ⟨#[]⟩⟩] 5 false = (5, 0) := by unfold move; rw [if_pos ⟨h, by decide, by decide⟩]; decide
  have e5 : move [(⟨0, 2, ⟨#[]⟩⟩ : Cm), ⟨1, 0, ⟨#[120, 121]⟩⟩, ⟨2, 2, ⟨#[]⟩⟩, ⟨0, 1, ⟨#[]⟩⟩] 6 false = (0, 600) := by unfold move; rw [if_neg (by decide)]
  simp only [e1, e2, e3, e4, e5, num_eq, Option.bind_some, if_true]
  exact Ev.now _

theorem mv_start {cs : List Cm} : mv false 0 cs = 0 := by
  cases cs with
  | nil => rfl
  | cons c r => simp [mv]
theorem mv_end' {cs : List Cm} (hs : solid cs) : ∀ p, p = froms cs → mv true p cs = tos cs := by
  induction cs with
  | nil => intro p _; rfl
  | cons c r ih =>
    intro p hp
    obtain ⟨hg, hz⟩ := hs c List.mem_cons_self
    have hr := froms_le (solid_good (solid_tail hs))
    have hcz := good_sz hg
    have hc1 := hg.1
    have ih := ih (solid_tail hs)
    simp only [froms] at hp
    simp only [tos, mv]
    by_cases k1 : c.f0 = 1
    · have := hg.2.2.1 k1
      rw [if_pos k1, Int.zero_add] at hp
      rw [if_neg (by simp [k1]), if_pos k1, if_neg (show ¬ c.f0 = 2 by omega), ih p hp]; unfold sz; omega
    · have hsz : sz c = c.f1 := by unfold sz; have := hg.2.2.2 k1; omega
      rw [if_neg k1] at hp
      have hn : ¬ (p = 0 ∧ (c.f0 ≠ 1 ∨ true = false)) := by omega
      rw [if_neg hn, if_neg k1]
      by_cases k0 : c.f0 = 0
      · rw [if_pos k0, if_neg (show ¬ p < c.f1 by omega), if_neg (show ¬ c.f0 = 2 by omega), ih (p - c.f1) (by omega)]; omega
      · have k2 : c.f0 = 2 := by have := hg.2.1; omega
        rw [if_neg k0, if_neg (show ¬ p < c.f1 by omega), if_pos k2, ih (p - c.f1) (by omega)]; omega
theorem mv_end {cs : List Cm} (hs : solid cs) : mv true (froms cs) cs = tos cs := mv_end' hs _ rfl
theorem mv_mono {cs : List Cm} (hs : solid cs) (b : Bool) : ∀ p q, 0 ≤ p → p ≤ q → q ≤ froms cs → mv b p cs ≤ mv b q cs := by
  induction cs with
  | nil => intro p q _ _ _; simp [mv]
  | cons c r ih =>
    intro p q h0 h1 h2
    obtain ⟨hg, hz⟩ := hs c List.mem_cons_self
    have hcz := good_sz hg
    have hc1 := hg.1
    have hrange := mv_range (b := b) hs q (by omega) h2
    simp only [froms] at h2
    by_cases a : p = 0 ∧ (c.f0 ≠ 1 ∨ b = false)
    · have : mv b p (c :: r) = 0 := by simp only [mv]; rw [if_pos a]
      omega
    · by_cases a' : q = 0 ∧ (c.f0 ≠ 1 ∨ b = false)
      · exact absurd ⟨by omega, a'.2⟩ a
      · simp only [mv]
        rw [if_neg a, if_neg a']
        by_cases k1 : c.f0 = 1
        · rw [if_pos k1, if_pos k1]
          have := ih (solid_tail hs) p q h0 h1 (by rw [if_pos k1] at h2; omega)
          omega
        · rw [if_neg k1] at h2 ⊢; rw [if_neg k1]
          by_cases k0 : c.f0 = 0
          · rw [if_pos k0, if_pos k0]
            by_cases hp : p < c.f1
            · rw [if_pos hp]
              by_cases hq : q < c.f1
              · rw [if_pos hq]; omega
              · rw [if_neg hq]
                have := (mv_range (b := b) (solid_tail hs) (q - c.f1) (by omega) (by omega)).1
                omega
            · rw [if_neg hp, if_neg (by omega)]
              have := ih (solid_tail hs) (p - c.f1) (q - c.f1) (by omega) (by omega) (by omega)
              omega
          · rw [if_neg k0, if_neg k0]
            by_cases hp : p < c.f1
            · rw [if_pos hp]
              by_cases hq : q < c.f1
              · rw [if_pos hq]; omega
              · rw [if_neg hq]
                exact (mv_range (b := b) (solid_tail hs) (q - c.f1) (by omega) (by omega)).1
            · rw [if_neg hp, if_neg (by omega)]
              exact ih (solid_tail hs) (p - c.f1) (q - c.f1) (by omega) (by omega) (by omega)
theorem mv_behind {cs : List Cm} (hs : solid cs) : ∀ p, 0 ≤ p → p ≤ froms cs → mv false p cs ≤ mv true p cs := by
  induction cs with
  | nil => intro p _ _; simp [mv]
  | cons c r ih =>
    intro p h0 h2
    obtain ⟨hg, hz⟩ := hs c List.mem_cons_self
    have hcz := good_sz hg
    have hc1 := hg.1
    have hrange := mv_range (b := true) hs p h0 h2
    simp only [froms] at h2
    by_cases a : p = 0 ∧ (c.f0 ≠ 1 ∨ false = false)
    · have : mv false p (c :: r) = 0 := by rw [mv_cons, if_pos a]
      omega
    · have a' : ¬ (p = 0 ∧ (c.f0 ≠ 1 ∨ true = false)) := fun hh => a ⟨hh.1, .inr rfl⟩
      rw [mv_cons, mv_cons, if_neg a, if_neg a']
      by_cases k1 : c.f0 = 1
      · rw [if_pos k1, if_pos k1]
        have := ih (solid_tail hs) p h0 (by rw [if_pos k1] at h2; omega)
        omega
      · rw [if_neg k1] at h2 ⊢; rw [if_neg k1]
        by_cases k0 : c.f0 = 0
        · rw [if_pos k0, if_pos k0]
          by_cases hp : p < c.f1
          · rw [if_pos hp, if_pos hp]; omega
          · rw [if_neg hp, if_neg hp]
            have := ih (solid_tail hs) (p - c.f1) (by omega) (by omega)
            omega
        · rw [if_neg k0, if_neg k0]
          by_cases hp : p < c.f1
          · rw [if_pos hp, if_pos hp]; omega
          · rw [if_neg hp, if_neg hp]
            exact ih (solid_tail hs) (p - c.f1) (by omega) (by omega)
theorem move_ok {cs : List Cm} {p : Int} (b : Bool) (h : mayB cs = true) (h0 : 0 ≤ p) (h1 : p ≤ froms cs) : move cs p b = (mv b p cs, 0) := by
  unfold move; rw [if_pos ⟨h, h0, h1⟩]
theorem move_bad {cs : List Cm} {p : Int} (b : Bool) (h : ¬ (mayB cs = true ∧ 0 ≤ p ∧ p ≤ froms cs)) : move cs p b = (0, 600) := by
  unfold move; rw [if_neg h]

end Go.Proofs.Ytldaokclpkcmmaa.Pl
