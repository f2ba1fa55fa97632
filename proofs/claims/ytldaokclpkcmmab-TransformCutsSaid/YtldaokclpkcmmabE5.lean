/- The four pieces of an edit that was made, in normal form. -/
import Derived.Test.YtldaokclpkcmmabE4
namespace Go.Proofs.Ytldaokclpkcmmab.Pl
open Go.RowKit Go.Proofs.Ytldaokclpkcmmab.G Go.Proofs.YtldaokclpkcmmabW.PrintWords Go.Proofs.YtldaokclpkcmmabW.PrintLast Go.Proofs.YtldaokclpkcmmabW.PrintMore
set_option linter.unusedVariables false
set_option linter.unusedSimpArgs false
theorem fold_R (xs : List Cm) : ∀ r : List Cm, xs.foldl add r = (xs.foldl addR r.reverse).reverse := by
  induction xs with
  | nil => intro r; simp
  | cons c xs ih => intro r; rw [List.foldl_cons, List.foldl_cons, ih]; unfold add; rw [List.reverse_reverse]
theorem norm_R (xs : List Cm) : norm xs = (xs.foldl addR []).reverse := by unfold norm; rw [fold_R]; rfl
def kp (a : Int) : List Cm := if a = 0 then [] else [⟨0, a, ⟨#[]⟩⟩]
def pt (p : ByteArray) : List Cm := if p.size = 0 then [] else [⟨1, 0, p⟩]
def ct (c : Int) : List Cm := if c = 0 then [] else [⟨2, c, ⟨#[]⟩⟩]
theorem kp_sz (a : Int) : sz (⟨0, a, ⟨#[]⟩⟩ : Cm) = a := by simp only [sz]; rw [show (⟨#[]⟩ : ByteArray).size = 0 from rfl]; simp
theorem ct_sz (a : Int) : sz (⟨2, a, ⟨#[]⟩⟩ : Cm) = a := by simp only [sz]; rw [show (⟨#[]⟩ : ByteArray).size = 0 from rfl]; simp
theorem pt_sz (p : ByteArray) : sz (⟨1, 0, p⟩ : Cm) = (p.size : Int) := by simp [sz]
theorem mk4_gen (a : Int) (p : ByteArray) (c b : Int) (h : ¬ (p.size = 0 ∧ c = 0)) : mk4 a p c b = kp a ++ pt p ++ ct c ++ kp b := by
  unfold mk4 raw4
  rw [norm_R]
  unfold kp pt ct
  by_cases h1 : a = 0
  · by_cases h2 : p.size = 0
    · have h3 : ¬ c = 0 := fun e => h ⟨h2, e⟩
      by_cases h4 : b = 0
      · simp [addR, kp_sz, ct_sz, pt_sz, h1, h2, h3, h4]
      · simp [addR, kp_sz, ct_sz, pt_sz, h1, h2, h3, h4]
    · by_cases h3 : c = 0
      · by_cases h4 : b = 0
        · simp [addR, kp_sz, ct_sz, pt_sz, h1, h2, h3, h4]
        · simp [addR, kp_sz, ct_sz, pt_sz, h1, h2, h3, h4]
      · by_cases h4 : b = 0
        · simp [addR, kp_sz, ct_sz, pt_sz, h1, h2, h3, h4]
        · simp [addR, kp_sz, ct_sz, pt_sz, h1, h2, h3, h4]
  · by_cases h2 : p.size = 0
    · have h3 : ¬ c = 0 := fun e => h ⟨h2, e⟩
      by_cases h4 : b = 0
      · simp [addR, kp_sz, ct_sz, pt_sz, h1, h2, h3, h4]
      · simp [addR, kp_sz, ct_sz, pt_sz, h1, h2, h3, h4]
    · by_cases h3 : c = 0
      · by_cases h4 : b = 0
        · simp [addR, kp_sz, ct_sz, pt_sz, h1, h2, h3, h4]
        · simp [addR, kp_sz, ct_sz, pt_sz, h1, h2, h3, h4]
      · by_cases h4 : b = 0
        · simp [addR, kp_sz, ct_sz, pt_sz, h1, h2, h3, h4]
        · simp [addR, kp_sz, ct_sz, pt_sz, h1, h2, h3, h4]
theorem mk4_deg (a : Int) (p : ByteArray) (c b : Int) (ha : 0 ≤ a) (hb : 0 ≤ b) (h : p.size = 0 ∧ c = 0) : mk4 a p c b = kp (a + b) := by
  obtain ⟨h2, h3⟩ := h
  unfold mk4 raw4
  rw [norm_R]
  unfold kp
  have e0 : (⟨#[]⟩ : ByteArray) ++ ⟨#[]⟩ = ⟨#[]⟩ := rfl
  by_cases h1 : a = 0
  · by_cases h4 : b = 0
    · simp [addR, kp_sz, ct_sz, pt_sz, h1, h2, h3, h4]
    · simp [addR, kp_sz, ct_sz, pt_sz, h1, h2, h3, h4]
  · by_cases h4 : b = 0
    · simp [addR, kp_sz, ct_sz, pt_sz, h1, h2, h3, h4]
    · rw [if_neg (show ¬ a + b = 0 by omega)]
      simp [addR, kp_sz, ct_sz, pt_sz, h1, h2, h3, h4, e0]
end Go.Proofs.Ytldaokclpkcmmab.Pl
