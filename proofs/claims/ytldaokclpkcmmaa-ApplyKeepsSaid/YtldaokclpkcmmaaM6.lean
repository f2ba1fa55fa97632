/- Edits upon texts: what both Apply come to. -/
import Derived.Test.YtldaokclpkcmmaaM6r
import Derived.Test.YtldaokclpkcmmaaGApplyPApply
namespace Go.Proofs.Ytldaokclpkcmmaa.Pl
open Go.RowKit Go.Proofs.Ytldaokclpkcmmaa.G Go.Proofs.YtldaokclpkcmmaaW.PrintWords Go.Proofs.YtldaokclpkcmmaaW.PrintLast
set_option linter.unusedVariables false
set_option linter.unusedSimpArgs false

theorem go_eq (cs : List Cm) : ∀ out s : ByteArray, (∀ c ∈ cs, good c) → froms cs ≤ (s.size : Int) → (out.size : Int) + tot cs ≤ 140737488355328 → apply_Apply.go out s cs = some (out ++ bs (ap (bl s) cs)) := by
  induction cs with
  | nil => intro out s _ _ _; simp only [apply_Apply.go, ap]; rw [show bs [] = (⟨#[]⟩ : ByteArray) from rfl]; congr 1; apply bl_inj; rw [bl_app, bl_nil, List.append_nil]
  | cons c cs ih =>
    intro out s hg hf ht
    have hc := hg c List.mem_cons_self; have hg' : ∀ c ∈ cs, good c := fun d hd => hg d (List.mem_cons_of_mem _ hd)
    have h0 := hc.1; have h1 := (froms_le hg').1; have h2 := tot_nonneg hg'; have h3 := ap_len hg' 
    rw [froms_cons hc] at hf
    simp only [tot, sz] at ht
    have hs : (s.extract c.f1.toNat s.size).size = s.size - c.f1.toNat := by rw [← bl_len, bl_ext, List.length_take, List.length_drop, bl_len]; omega
    have hs0 : (s.extract 0 c.f1.toNat).size = c.f1.toNat := by rw [← bl_len, bl_ext, List.length_take, List.length_drop, bl_len]; omega
    simp only [apply_Apply.go]
    rw [if_pos ⟨h0, by omega, by omega⟩]
    have hz : (out ++ (if c.f0 = 0 then s.extract 0 c.f1.toNat else ⟨#[]⟩) ++ c.f2).size ≤ out.size + c.f1.toNat + c.f2.size := by
      rw [ByteArray.size_append, ByteArray.size_append]
      split
      · omega
      · have : (⟨#[]⟩ : ByteArray).size = 0 := rfl
        omega
    rw [ih _ _ hg' (by omega) (by omega)]
    congr 1
    apply bl_inj
    simp only [bl_app, bl_bs, ap, List.append_assoc]
    congr 1
    have e1 : bl (if c.f0 = 0 then s.extract 0 c.f1.toNat else ⟨#[]⟩) = if c.f0 = 0 then (bl s).take c.f1.toNat else [] := by
      split
      · rw [bl_ext, List.drop_zero, Nat.sub_zero]
      · rfl
    rw [e1]
    congr 2
    rw [bl_ext, List.take_of_length_le (by rw [List.length_drop, bl_len]; omega)]
theorem Apply_ev (s : ByteArray) (cs : List Cm) : Ev (fun k => apply_Apply.f k s cs) (apM s cs) := by
  refine Ev.congr (fun k => by rw [apply_Apply.f]) (Ev.bind (Lengths_ev cs) ?_)
  unfold apM
  by_cases h : mayB cs = true
  · rw [lens_ok cs h]
    obtain ⟨h1, h2, h3⟩ := may_bounds h
    simp only [if_true, h, true_and]
    by_cases e : froms cs = (s.size : Int)
    · simp only [if_pos e]
      rw [go_eq cs ⟨#[]⟩ s h2 (by omega) (by have : (⟨#[]⟩ : ByteArray).size = 0 := rfl; omega)]
      simp only [Option.bind_some]
      rw [show (⟨#[]⟩ : ByteArray) ++ bs (ap (bl s) cs) = bs (ap (bl s) cs) by apply bl_inj; rw [bl_app, bl_nil, List.nil_append]]
      exact Ev.now _
    · simp only [if_neg e]; exact Ev.now _
  · rw [lens_err cs h]
    simp only [h, Bool.false_eq_true, false_and, if_false]
    exact Ev.now _
end Go.Proofs.Ytldaokclpkcmmaa.Pl
