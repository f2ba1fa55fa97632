-- Laid by this session's own program gprint.py (wip/tools), out of the kit's print and of texts of this session. Lean checks it.
import Derived.Test.YtnhkdpcncjkmlaaGx0
import Derived.Test.YtnhkdpcncjkmlaaGMinuetref9PTokens
import Derived.Test.YtnhkdpcncjkmlaaGMinuetlaw0PSameTokens
import Derived.Test.YtnhkdpcncjkmlaaGMinuetlaw0PNum
import Derived.Test.YtnhkdpcncjkmlaaGMinuetlaw0PSpoilTokens
import Derived.Test.YtnhkdpcncjkmlaaGMinuetlaw0PLendTokens
import Derived.Test.YtnhkdpcncjkmlaaGRelexPAgain
import Derived.Test.YtnhkdpcncjkmlaaGMinuetref9PAgain
import Derived.Test.YtnhkdpcncjkmlaaGMinuetlaw0PKeptTokens
import Derived.Test.YtnhkdpcncjkmlaaGMinuetlaw10qawake
import Derived.Test.YtnhkdpcncjkmlaaGLendTokens
namespace Go.Proofs.Ytnhkdpcncjkmlaa.G
open Go.RowKit Go.Proofs.YtnhkdpcncjkmlaaW.PrintWords Go.Proofs.YtnhkdpcncjkmlaaW.PrintLast Go.Proofs.YtnhkdpcncjkmlaaW.PrintMore
attribute [local go_sem] max2_int min2_int max_two min_two max_three min_three max_four min_four   -- for this text's walks alone
set_option linter.unusedVariables false
set_option linter.unusedSimpArgs false

/-! ### minuetlaw10_Again: function 5 -/
mutual
def minuetlaw10_Again.j0 : Nat → List (S34) → List (S34) → List (S34) → Bool → Option (Bool)
 | 0, _, _, _, _ => none
 | k + 1, x1, x15, x16, x82 => if x82 = true then (none) else ((minuetlaw0_SpoilTokens.f k x16).bind fun t123 => ((minuetlaw0_KeptTokens.f k x15 x1).bind fun t124 => (if t124 = true then ((minuetlaw10_awake.f k).bind fun t125 => (some t125)) else (none))))
def minuetlaw10_Again.j1 : Nat → List (S34) → List (S34) → List (S34) → Bool → Option (Bool)
 | 0, _, _, _, _ => none
 | k + 1, x1, x15, x16, x82 => if x82 = true then (none) else ((minuetlaw0_SpoilTokens.f k x16).bind fun t144 => ((minuetlaw0_KeptTokens.f k x15 x1).bind fun t145 => (if t145 = true then ((minuetlaw10_awake.f k).bind fun t146 => (some t146)) else (none))))
def minuetlaw10_Again.j2 : Nat → List (S34) → List (S34) → List (S34) → Bool → Option (Bool)
 | 0, _, _, _, _ => none
 | k + 1, x1, x15, x16, x82 => if x82 = true then (none) else ((minuetlaw0_SpoilTokens.f k x16).bind fun t165 => ((minuetlaw0_KeptTokens.f k x15 x1).bind fun t166 => (if t166 = true then ((minuetlaw10_awake.f k).bind fun t167 => (some t167)) else (none))))
end
def minuetlaw10_Again.f (k : Nat) (a0 : ByteArray) (l1 : List (S34)) (a2 : Bool) (a3 : Int) (a4 : Int) (a5 : ByteArray) : Option (Bool) := if a2 = true then ((minuetref9_Tokens.f k a0).bind fun bt101 => (if bt101.2 = 0 then ((minuetlaw0_LendTokens.f bt101.1).bind fun t105 => ((relex_Again.f k a0 t105 a3 a4 a5).bind fun bt108 => ((minuetref9_Again.f k a0 bt101.1 a3 a4 a5).bind fun bt114 => ((minuetlaw0_SameTokens.f k bt108.1 bt114.1).bind fun t120 => (if t120 = true then (if bt108.2.1 = bt114.2.1 then (if bt108.2.2.1 = bt114.2.2.1 then ((minuetlaw0_Num.f bt108.2.2.2).bind fun t121 => (if t121 = bt114.2.2.2 then ((minuetlaw0_KeptTokens.f k t105 bt101.1).bind fun t122 => (minuetlaw10_Again.j0 k bt101.1 t105 bt108.1 (!t122))) else (minuetlaw10_Again.j0 k bt101.1 t105 bt108.1 true))) else (minuetlaw10_Again.j0 k bt101.1 t105 bt108.1 true)) else (minuetlaw10_Again.j0 k bt101.1 t105 bt108.1 true)) else (minuetlaw10_Again.j0 k bt101.1 t105 bt108.1 true)))))) else ((minuetlaw0_LendTokens.f l1).bind fun t126 => ((relex_Again.f k a0 t126 a3 a4 a5).bind fun bt129 => ((minuetref9_Again.f k a0 l1 a3 a4 a5).bind fun bt135 => ((minuetlaw0_SameTokens.f k bt129.1 bt135.1).bind fun t141 => (if t141 = true then (if bt129.2.1 = bt135.2.1 then (if bt129.2.2.1 = bt135.2.2.1 then ((minuetlaw0_Num.f bt129.2.2.2).bind fun t142 => (if t142 = bt135.2.2.2 then ((minuetlaw0_KeptTokens.f k t126 l1).bind fun t143 => (minuetlaw10_Again.j1 k l1 t126 bt129.1 (!t143))) else (minuetlaw10_Again.j1 k l1 t126 bt129.1 true))) else (minuetlaw10_Again.j1 k l1 t126 bt129.1 true)) else (minuetlaw10_Again.j1 k l1 t126 bt129.1 true)) else (minuetlaw10_Again.j1 k l1 t126 bt129.1 true)))))))) else ((minuetlaw0_LendTokens.f l1).bind fun t147 => ((relex_Again.f k a0 t147 a3 a4 a5).bind fun bt150 => ((minuetref9_Again.f k a0 l1 a3 a4 a5).bind fun bt156 => ((minuetlaw0_SameTokens.f k bt150.1 bt156.1).bind fun t162 => (if t162 = true then (if bt150.2.1 = bt156.2.1 then (if bt150.2.2.1 = bt156.2.2.1 then ((minuetlaw0_Num.f bt150.2.2.2).bind fun t163 => (if t163 = bt156.2.2.2 then ((minuetlaw0_KeptTokens.f k t147 l1).bind fun t164 => (minuetlaw10_Again.j2 k l1 t147 bt150.1 (!t164))) else (minuetlaw10_Again.j2 k l1 t147 bt150.1 true))) else (minuetlaw10_Again.j2 k l1 t147 bt150.1 true)) else (minuetlaw10_Again.j2 k l1 t147 bt150.1 true)) else (minuetlaw10_Again.j2 k l1 t147 bt150.1 true))))))
theorem minuetlaw10_Again.mono_l : ∀ k, (∀ y0 y1 y2 y3, LeO (minuetlaw10_Again.j0 k y0 y1 y2 y3) (minuetlaw10_Again.j0 (k + 1) y0 y1 y2 y3)) ∧ (∀ y0 y1 y2 y3, LeO (minuetlaw10_Again.j1 k y0 y1 y2 y3) (minuetlaw10_Again.j1 (k + 1) y0 y1 y2 y3)) ∧ (∀ y0 y1 y2 y3, LeO (minuetlaw10_Again.j2 k y0 y1 y2 y3) (minuetlaw10_Again.j2 (k + 1) y0 y1 y2 y3))
 | 0 => ⟨fun _ _ _ _ r h => by simp [minuetlaw10_Again.j0] at h, fun _ _ _ _ r h => by simp [minuetlaw10_Again.j1] at h, fun _ _ _ _ r h => by simp [minuetlaw10_Again.j2] at h⟩
 | k + 1 => by
  obtain ⟨ih0, ih1, ih2⟩ := minuetlaw10_Again.mono_l k
  refine ⟨?_, ?_, ?_⟩
  · intro y0 y1 y2 y3
    unfold minuetlaw10_Again.j0
    repeat' first
    | (with_reducible exact ih0 _ _ _ _)
    | (with_reducible exact ih1 _ _ _ _)
    | (with_reducible exact ih2 _ _ _ _)
    | (with_reducible exact minuetlaw0_KeptTokens.mono _ _ _)
    | (with_reducible exact minuetlaw0_SameTokens.mono _ _ _)
    | (with_reducible exact minuetlaw0_SpoilTokens.mono _ _)
    | (with_reducible exact minuetlaw10_awake.mono _)
    | (with_reducible exact minuetref9_Again.mono _ _ _ _ _ _)
    | (with_reducible exact minuetref9_Tokens.mono _ _)
    | (with_reducible exact relex_Again.mono _ _ _ _ _ _)
    | (with_reducible exact LeO.refl _)
    | (with_reducible exact LeO.none _)
    | (with_reducible refine LeO.ite ?_ ?_)
    | (with_reducible refine LeO.bind ?_ (fun _ => ?_))
    | exact ih0 _ _ _ _
    | exact ih1 _ _ _ _
    | exact ih2 _ _ _ _
    | exact minuetlaw0_KeptTokens.mono _ _ _
    | exact minuetlaw0_SameTokens.mono _ _ _
    | exact minuetlaw0_SpoilTokens.mono _ _
    | exact minuetlaw10_awake.mono _
    | exact minuetref9_Again.mono _ _ _ _ _ _
    | exact minuetref9_Tokens.mono _ _
    | exact relex_Again.mono _ _ _ _ _ _
    | exact LeO.none _
    | refine LeO.ite ?_ ?_
    | refine LeO.bind ?_ (fun _ => ?_)
  · intro y0 y1 y2 y3
    unfold minuetlaw10_Again.j1
    repeat' first
    | (with_reducible exact ih0 _ _ _ _)
    | (with_reducible exact ih1 _ _ _ _)
    | (with_reducible exact ih2 _ _ _ _)
    | (with_reducible exact minuetlaw0_KeptTokens.mono _ _ _)
    | (with_reducible exact minuetlaw0_SameTokens.mono _ _ _)
    | (with_reducible exact minuetlaw0_SpoilTokens.mono _ _)
    | (with_reducible exact minuetlaw10_awake.mono _)
    | (with_reducible exact minuetref9_Again.mono _ _ _ _ _ _)
    | (with_reducible exact minuetref9_Tokens.mono _ _)
    | (with_reducible exact relex_Again.mono _ _ _ _ _ _)
    | (with_reducible exact LeO.refl _)
    | (with_reducible exact LeO.none _)
    | (with_reducible refine LeO.ite ?_ ?_)
    | (with_reducible refine LeO.bind ?_ (fun _ => ?_))
    | exact ih0 _ _ _ _
    | exact ih1 _ _ _ _
    | exact ih2 _ _ _ _
    | exact minuetlaw0_KeptTokens.mono _ _ _
    | exact minuetlaw0_SameTokens.mono _ _ _
    | exact minuetlaw0_SpoilTokens.mono _ _
    | exact minuetlaw10_awake.mono _
    | exact minuetref9_Again.mono _ _ _ _ _ _
    | exact minuetref9_Tokens.mono _ _
    | exact relex_Again.mono _ _ _ _ _ _
    | exact LeO.none _
    | refine LeO.ite ?_ ?_
    | refine LeO.bind ?_ (fun _ => ?_)
  · intro y0 y1 y2 y3
    unfold minuetlaw10_Again.j2
    repeat' first
    | (with_reducible exact ih0 _ _ _ _)
    | (with_reducible exact ih1 _ _ _ _)
    | (with_reducible exact ih2 _ _ _ _)
    | (with_reducible exact minuetlaw0_KeptTokens.mono _ _ _)
    | (with_reducible exact minuetlaw0_SameTokens.mono _ _ _)
    | (with_reducible exact minuetlaw0_SpoilTokens.mono _ _)
    | (with_reducible exact minuetlaw10_awake.mono _)
    | (with_reducible exact minuetref9_Again.mono _ _ _ _ _ _)
    | (with_reducible exact minuetref9_Tokens.mono _ _)
    | (with_reducible exact relex_Again.mono _ _ _ _ _ _)
    | (with_reducible exact LeO.refl _)
    | (with_reducible exact LeO.none _)
    | (with_reducible refine LeO.ite ?_ ?_)
    | (with_reducible refine LeO.bind ?_ (fun _ => ?_))
    | exact ih0 _ _ _ _
    | exact ih1 _ _ _ _
    | exact ih2 _ _ _ _
    | exact minuetlaw0_KeptTokens.mono _ _ _
    | exact minuetlaw0_SameTokens.mono _ _ _
    | exact minuetlaw0_SpoilTokens.mono _ _
    | exact minuetlaw10_awake.mono _
    | exact minuetref9_Again.mono _ _ _ _ _ _
    | exact minuetref9_Tokens.mono _ _
    | exact relex_Again.mono _ _ _ _ _ _
    | exact LeO.none _
    | refine LeO.ite ?_ ?_
    | refine LeO.bind ?_ (fun _ => ?_)
theorem minuetlaw10_Again.mono : ∀ a0 a1 a2 a3 a4 a5 k, LeO (minuetlaw10_Again.f k a0 a1 a2 a3 a4 a5) (minuetlaw10_Again.f (k + 1) a0 a1 a2 a3 a4 a5) := by
 intro a0 a1 a2 a3 a4 a5 k
 obtain ⟨ih0, ih1, ih2⟩ := minuetlaw10_Again.mono_l k
 unfold minuetlaw10_Again.f
 repeat' first
  | (with_reducible exact ih0 _ _ _ _)
  | (with_reducible exact ih1 _ _ _ _)
  | (with_reducible exact ih2 _ _ _ _)
  | (with_reducible exact minuetlaw0_KeptTokens.mono _ _ _)
  | (with_reducible exact minuetlaw0_SameTokens.mono _ _ _)
  | (with_reducible exact minuetlaw0_SpoilTokens.mono _ _)
  | (with_reducible exact minuetlaw10_awake.mono _)
  | (with_reducible exact minuetref9_Again.mono _ _ _ _ _ _)
  | (with_reducible exact minuetref9_Tokens.mono _ _)
  | (with_reducible exact relex_Again.mono _ _ _ _ _ _)
  | (with_reducible exact LeO.refl _)
  | (with_reducible exact LeO.none _)
  | (with_reducible refine LeO.ite ?_ ?_)
  | (with_reducible refine LeO.bind ?_ (fun _ => ?_))
  | exact ih0 _ _ _ _
  | exact ih1 _ _ _ _
  | exact ih2 _ _ _ _
  | exact minuetlaw0_KeptTokens.mono _ _ _
  | exact minuetlaw0_SameTokens.mono _ _ _
  | exact minuetlaw0_SpoilTokens.mono _ _
  | exact minuetlaw10_awake.mono _
  | exact minuetref9_Again.mono _ _ _ _ _ _
  | exact minuetref9_Tokens.mono _ _
  | exact relex_Again.mono _ _ _ _ _ _
  | exact LeO.none _
  | refine LeO.ite ?_ ?_
  | refine LeO.bind ?_ (fun _ => ?_)
set_option maxHeartbeats 8000000 in
set_option maxRecDepth 100000 in
theorem minuetlaw10_Again.calls (k : Nat) (a0 : ByteArray) (A1 : Option Addr) (c1 : Nat) (l1 : List (S34)) (a2 : Bool) (a3 : Int) (a4 : Int) (a5 : ByteArray) (r : Bool) (w : World) (hr1 : Kd.C k34 w A1 l1.length l1) (hc1 : l1.length ≤ c1) (hm_ : MaxOk w) (h : minuetlaw10_Again.f k a0 l1 a2 a3 a4 a5 = some r) :
 Calls Try.prog 5 #[.string a0, .slice A1 l1.length c1, .bool a2, .int .i64 a3, .int .i64 a4, .string a5] w fun e w' => e = .returned (.bool r) ∧ Below w.heap.size w w' := by
 have HM_ := Aside0.mk hm_
 clear hm_
 have HR1 := Aside0.mk hr1
 have HC1 := Aside0.mk hc1
 clear hr1 hc1
 have HB := Aside0.mk (Below.refl w.heap.size w)
 have H : (if a2 = true then ((minuetref9_Tokens.f k a0).bind fun bt101 => (if bt101.2 = 0 then ((minuetlaw0_LendTokens.f bt101.1).bind fun t105 => ((relex_Again.f k a0 t105 a3 a4 a5).bind fun bt108 => ((minuetref9_Again.f k a0 bt101.1 a3 a4 a5).bind fun bt114 => ((minuetlaw0_SameTokens.f k bt108.1 bt114.1).bind fun t120 => (if t120 = true then (if bt108.2.1 = bt114.2.1 then (if bt108.2.2.1 = bt114.2.2.1 then ((minuetlaw0_Num.f bt108.2.2.2).bind fun t121 => (if t121 = bt114.2.2.2 then ((minuetlaw0_KeptTokens.f k t105 bt101.1).bind fun t122 => (minuetlaw10_Again.j0 k bt101.1 t105 bt108.1 (!t122))) else (minuetlaw10_Again.j0 k bt101.1 t105 bt108.1 true))) else (minuetlaw10_Again.j0 k bt101.1 t105 bt108.1 true)) else (minuetlaw10_Again.j0 k bt101.1 t105 bt108.1 true)) else (minuetlaw10_Again.j0 k bt101.1 t105 bt108.1 true)))))) else ((minuetlaw0_LendTokens.f l1).bind fun t126 => ((relex_Again.f k a0 t126 a3 a4 a5).bind fun bt129 => ((minuetref9_Again.f k a0 l1 a3 a4 a5).bind fun bt135 => ((minuetlaw0_SameTokens.f k bt129.1 bt135.1).bind fun t141 => (if t141 = true then (if bt129.2.1 = bt135.2.1 then (if bt129.2.2.1 = bt135.2.2.1 then ((minuetlaw0_Num.f bt129.2.2.2).bind fun t142 => (if t142 = bt135.2.2.2 then ((minuetlaw0_KeptTokens.f k t126 l1).bind fun t143 => (minuetlaw10_Again.j1 k l1 t126 bt129.1 (!t143))) else (minuetlaw10_Again.j1 k l1 t126 bt129.1 true))) else (minuetlaw10_Again.j1 k l1 t126 bt129.1 true)) else (minuetlaw10_Again.j1 k l1 t126 bt129.1 true)) else (minuetlaw10_Again.j1 k l1 t126 bt129.1 true)))))))) else ((minuetlaw0_LendTokens.f l1).bind fun t147 => ((relex_Again.f k a0 t147 a3 a4 a5).bind fun bt150 => ((minuetref9_Again.f k a0 l1 a3 a4 a5).bind fun bt156 => ((minuetlaw0_SameTokens.f k bt150.1 bt156.1).bind fun t162 => (if t162 = true then (if bt150.2.1 = bt156.2.1 then (if bt150.2.2.1 = bt156.2.2.1 then ((minuetlaw0_Num.f bt150.2.2.2).bind fun t163 => (if t163 = bt156.2.2.2 then ((minuetlaw0_KeptTokens.f k t147 l1).bind fun t164 => (minuetlaw10_Again.j2 k l1 t147 bt150.1 (!t164))) else (minuetlaw10_Again.j2 k l1 t147 bt150.1 true))) else (minuetlaw10_Again.j2 k l1 t147 bt150.1 true)) else (minuetlaw10_Again.j2 k l1 t147 bt150.1 true)) else (minuetlaw10_Again.j2 k l1 t147 bt150.1 true))))))) = some r := h
 clear h
 by_cases c7 : a2 = true
 · subst c7
   have H1 : ((minuetref9_Tokens.f k a0).bind fun bt101 => (if bt101.2 = 0 then ((minuetlaw0_LendTokens.f bt101.1).bind fun t105 => ((relex_Again.f k a0 t105 a3 a4 a5).bind fun bt108 => ((minuetref9_Again.f k a0 bt101.1 a3 a4 a5).bind fun bt114 => ((minuetlaw0_SameTokens.f k bt108.1 bt114.1).bind fun t120 => (if t120 = true then (if bt108.2.1 = bt114.2.1 then (if bt108.2.2.1 = bt114.2.2.1 then ((minuetlaw0_Num.f bt108.2.2.2).bind fun t121 => (if t121 = bt114.2.2.2 then ((minuetlaw0_KeptTokens.f k t105 bt101.1).bind fun t122 => (minuetlaw10_Again.j0 k bt101.1 t105 bt108.1 (!t122))) else (minuetlaw10_Again.j0 k bt101.1 t105 bt108.1 true))) else (minuetlaw10_Again.j0 k bt101.1 t105 bt108.1 true)) else (minuetlaw10_Again.j0 k bt101.1 t105 bt108.1 true)) else (minuetlaw10_Again.j0 k bt101.1 t105 bt108.1 true)))))) else ((minuetlaw0_LendTokens.f l1).bind fun t126 => ((relex_Again.f k a0 t126 a3 a4 a5).bind fun bt129 => ((minuetref9_Again.f k a0 l1 a3 a4 a5).bind fun bt135 => ((minuetlaw0_SameTokens.f k bt129.1 bt135.1).bind fun t141 => (if t141 = true then (if bt129.2.1 = bt135.2.1 then (if bt129.2.2.1 = bt135.2.2.1 then ((minuetlaw0_Num.f bt129.2.2.2).bind fun t142 => (if t142 = bt135.2.2.2 then ((minuetlaw0_KeptTokens.f k t126 l1).bind fun t143 => (minuetlaw10_Again.j1 k l1 t126 bt129.1 (!t143))) else (minuetlaw10_Again.j1 k l1 t126 bt129.1 true))) else (minuetlaw10_Again.j1 k l1 t126 bt129.1 true)) else (minuetlaw10_Again.j1 k l1 t126 bt129.1 true)) else (minuetlaw10_Again.j1 k l1 t126 bt129.1 true)))))))) = some r := by rw [if_pos rfl] at H; exact H
   clear H
   have H := H1
   clear H1
   replace H := Option.bind_eq_some_iff.mp H
   obtain ⟨⟨t101, t102⟩, A80, H⟩ := H
   replace H : (if t102 = 0 then ((minuetlaw0_LendTokens.f t101).bind fun t105 => ((relex_Again.f k a0 t105 a3 a4 a5).bind fun bt108 => ((minuetref9_Again.f k a0 t101 a3 a4 a5).bind fun bt114 => ((minuetlaw0_SameTokens.f k bt108.1 bt114.1).bind fun t120 => (if t120 = true then (if bt108.2.1 = bt114.2.1 then (if bt108.2.2.1 = bt114.2.2.1 then ((minuetlaw0_Num.f bt108.2.2.2).bind fun t121 => (if t121 = bt114.2.2.2 then ((minuetlaw0_KeptTokens.f k t105 t101).bind fun t122 => (minuetlaw10_Again.j0 k t101 t105 bt108.1 (!t122))) else (minuetlaw10_Again.j0 k t101 t105 bt108.1 true))) else (minuetlaw10_Again.j0 k t101 t105 bt108.1 true)) else (minuetlaw10_Again.j0 k t101 t105 bt108.1 true)) else (minuetlaw10_Again.j0 k t101 t105 bt108.1 true)))))) else ((minuetlaw0_LendTokens.f l1).bind fun t126 => ((relex_Again.f k a0 t126 a3 a4 a5).bind fun bt129 => ((minuetref9_Again.f k a0 l1 a3 a4 a5).bind fun bt135 => ((minuetlaw0_SameTokens.f k bt129.1 bt135.1).bind fun t141 => (if t141 = true then (if bt129.2.1 = bt135.2.1 then (if bt129.2.2.1 = bt135.2.2.1 then ((minuetlaw0_Num.f bt129.2.2.2).bind fun t142 => (if t142 = bt135.2.2.2 then ((minuetlaw0_KeptTokens.f k t126 l1).bind fun t143 => (minuetlaw10_Again.j1 k l1 t126 bt129.1 (!t143))) else (minuetlaw10_Again.j1 k l1 t126 bt129.1 true))) else (minuetlaw10_Again.j1 k l1 t126 bt129.1 true)) else (minuetlaw10_Again.j1 k l1 t126 bt129.1 true)) else (minuetlaw10_Again.j1 k l1 t126 bt129.1 true))))))) = some r := H
   have A8 := Aside0.mk A80
   clear A80
   by_cases c9 : t102 = 0
   · rw [if_pos c9] at H
     have c9b0 : (t102 == 0) = true := beq_iff_eq.mpr c9
     have c9b1 : (t102 != 0) = false := bne_eq_false_iff_eq.mpr c9
     clear c9
     replace H := Option.bind_eq_some_iff.mp H
     obtain ⟨t105, A100, H⟩ := H
     replace H : ((relex_Again.f k a0 t105 a3 a4 a5).bind fun bt108 => ((minuetref9_Again.f k a0 t101 a3 a4 a5).bind fun bt114 => ((minuetlaw0_SameTokens.f k bt108.1 bt114.1).bind fun t120 => (if t120 = true then (if bt108.2.1 = bt114.2.1 then (if bt108.2.2.1 = bt114.2.2.1 then ((minuetlaw0_Num.f bt108.2.2.2).bind fun t121 => (if t121 = bt114.2.2.2 then ((minuetlaw0_KeptTokens.f k t105 t101).bind fun t122 => (minuetlaw10_Again.j0 k t101 t105 bt108.1 (!t122))) else (minuetlaw10_Again.j0 k t101 t105 bt108.1 true))) else (minuetlaw10_Again.j0 k t101 t105 bt108.1 true)) else (minuetlaw10_Again.j0 k t101 t105 bt108.1 true)) else (minuetlaw10_Again.j0 k t101 t105 bt108.1 true))))) = some r := H
     have A10 := Aside0.mk A100
     clear A100
     replace H := Option.bind_eq_some_iff.mp H
     obtain ⟨⟨t108, t109, t110, t111⟩, A110, H⟩ := H
     replace H : ((minuetref9_Again.f k a0 t101 a3 a4 a5).bind fun bt114 => ((minuetlaw0_SameTokens.f k t108 bt114.1).bind fun t120 => (if t120 = true then (if t109 = bt114.2.1 then (if t110 = bt114.2.2.1 then ((minuetlaw0_Num.f t111).bind fun t121 => (if t121 = bt114.2.2.2 then ((minuetlaw0_KeptTokens.f k t105 t101).bind fun t122 => (minuetlaw10_Again.j0 k t101 t105 t108 (!t122))) else (minuetlaw10_Again.j0 k t101 t105 t108 true))) else (minuetlaw10_Again.j0 k t101 t105 t108 true)) else (minuetlaw10_Again.j0 k t101 t105 t108 true)) else (minuetlaw10_Again.j0 k t101 t105 t108 true)))) = some r := H
     have A11 := Aside0.mk A110
     clear A110
     replace H := Option.bind_eq_some_iff.mp H
     obtain ⟨⟨t114, t115, t116, t117⟩, A120, H⟩ := H
     replace H : ((minuetlaw0_SameTokens.f k t108 t114).bind fun t120 => (if t120 = true then (if t109 = t115 then (if t110 = t116 then ((minuetlaw0_Num.f t111).bind fun t121 => (if t121 = t117 then ((minuetlaw0_KeptTokens.f k t105 t101).bind fun t122 => (minuetlaw10_Again.j0 k t101 t105 t108 (!t122))) else (minuetlaw10_Again.j0 k t101 t105 t108 true))) else (minuetlaw10_Again.j0 k t101 t105 t108 true)) else (minuetlaw10_Again.j0 k t101 t105 t108 true)) else (minuetlaw10_Again.j0 k t101 t105 t108 true))) = some r := H
     have A12 := Aside0.mk A120
     clear A120
     have HC13 := Aside0.mk H
     clear H
     go_enter Try.func5, Try.ntmps5
     go_upto_region 8 with (first | ((with_reducible refine gate_callee (f := 13) rfl ?_); refine goesL_ (some 27) rfl rfl Try.func13 (by kernel_rfl) rfl #[.string a0] rfl (by (try simp only [List.map_toArray, List.map_cons, List.map_nil]); first | done | rfl | (simp only [List.length_drop, List.length_take]; rfl)) ?_; (with_reducible refine (minuetref9_Tokens.calls k a0 t101 t102 _ A8.out).mono ?_); rintro e w14 ⟨v103, rfl, ho0, hb⟩; refine ⟨_, rfl, ?_⟩; have n0_ := Aside0.mk (Kd.R_lower ho0 (below_size (by repeat (first | (with_reducible first | exact HB.out | apply below_alloc | apply pw_below_drewN | apply below_drew1) | exact HB.out)))); have n1_ := Aside0.mk (below_step (by repeat (first | (with_reducible first | exact HB.out | apply below_alloc | apply pw_below_drewN | apply below_drew1) | exact HB.out)) hb); clear HB; have HO104 := n0_; have HB := n1_; clear n0_ n1_; (try clear hb); (try clear hb2); (try clear hk); (try clear hi); (try clear ho0); obtain ⟨Ao15, co15, eo15⟩ := Kd.R_slice HO104.out; subst eo15) | ((with_reducible refine gate_callee (f := 18) rfl ?_); refine goesL_ (some 34) rfl rfl Try.func18 (by kernel_rfl) rfl #[.slice Ao15 t101.length co15] rfl (by (try simp only [List.map_toArray, List.map_cons, List.map_nil]); first | done | rfl | (simp only [List.length_drop, List.length_take]; rfl)) ?_; (with_reducible refine (minuetlaw0_LendTokens.calls2 _ _ t101 t105 _ ?side1 ?side2 A10.out).mono ?_); (case side1 => repeat (first | exact (Kd.R_reads' HO104.out).2.2 | (with_reducible refine Kd.C_alloc ?_ _) | (with_reducible refine Kd.C_drewN ?_ _) | (with_reducible refine Kd.C_drew ?_))); (case side2 => exact (Kd.R_reads' HO104.out).2.1); rintro e w16 ⟨v106, rfl, ho0, hlent_, hb⟩; refine ⟨_, rfl, ?_⟩; have n0_ := Aside0.mk (Kd.R_elder' (by (with_reducible repeat (first | apply Kd.R_alloc | apply Kd.R_drewN | apply Kd.R_drew)); exact HO104.out) (Kd.R_base ho0) hb); have mA107_ := Aside0.mk (minuetlaw0_KeptTokens.Lent_map hlent_ (fun _ _ hM_ => (Kd.R_lower (Kd.R_new' hM_ (Kd.R_lt (by (with_reducible repeat (first | apply Kd.R_alloc | apply Kd.R_drewN | apply Kd.R_drew)); exact HO104.out))) (below_size (by repeat (first | (with_reducible first | exact HB.out | apply below_alloc | apply pw_below_drewN | apply below_drew1) | exact HB.out)))))); have n1_ := Aside0.mk (Kd.R_lower (Kd.R_new' ho0 (Kd.R_lt (by (with_reducible repeat (first | apply Kd.R_alloc | apply Kd.R_drewN | apply Kd.R_drew)); exact HO104.out))) (below_size (by repeat (first | (with_reducible first | exact HB.out | apply below_alloc | apply pw_below_drewN | apply below_drew1) | exact HB.out)))); have n2_ := Aside0.mk (below_step (by repeat (first | (with_reducible first | exact HB.out | apply below_alloc | apply pw_below_drewN | apply below_drew1) | exact HB.out)) hb); clear HO104; clear HB; have HO104 := n0_; have HO107 := n1_; have HM107 := mA107_; clear mA107_; have HB := n2_; clear n0_ n1_ n2_; (try clear hb); (try clear hb2); (try clear hk); (try clear hi); (try clear ho0); (try clear hlent_); obtain ⟨Ao17, co17, eo17⟩ := Kd.R_slice HO107.out; subst eo17; have HN_ := Aside0.mk (minuetlaw0_KeptTokens.Lent_R HM107.out); clear HM107; have HM107 := HN_; clear HN_) | ((with_reducible refine gate_callee (f := 19) rfl ?_); refine goesL_ (some 41) rfl rfl Try.func19 (by kernel_rfl) rfl #[.string a0, .slice Ao17 t105.length co17, .int .i64 a3, .int .i64 a4, .string a5] rfl (by (try simp only [List.map_toArray, List.map_cons, List.map_nil]); first | done | rfl | (simp only [List.length_drop, List.length_take]; rfl)) ?_; (with_reducible refine (relex_Again.calls k a0 _ _ t105 a3 a4 a5 t108 t109 t110 t111 _ ?side1 ?side2 (MaxOk.of HM_.out (by repeat (first | (with_reducible first | exact HB.out | apply below_alloc | apply pw_below_drewN | apply below_drew1) | exact HB.out))) A11.out).mono ?_); (case side1 => repeat (first | exact (Kd.R_reads' HO107.out).2.2 | (with_reducible refine Kd.C_alloc ?_ _) | (with_reducible refine Kd.C_drewN ?_ _) | (with_reducible refine Kd.C_drew ?_))); (case side2 => exact (Kd.R_reads' HO107.out).2.1); rintro e w18 ⟨v112, rfl, ho0, hb⟩; refine ⟨_, rfl, ?_⟩; have n0_ := Aside0.mk (Kd.R_elder' (by (with_reducible repeat (first | apply Kd.R_alloc | apply Kd.R_drewN | apply Kd.R_drew)); exact HO104.out) (Kd.R_base ho0) hb); have mA107_ := Aside0.mk (Kd.R_elder' (by (with_reducible repeat (first | apply Kd.R_alloc | apply Kd.R_drewN | apply Kd.R_drew)); exact HM107.out) (Kd.R_base ho0) hb); have n1_ := Aside0.mk (Kd.R_elder' (by (with_reducible repeat (first | apply Kd.R_alloc | apply Kd.R_drewN | apply Kd.R_drew)); exact HO107.out) (Kd.R_base ho0) hb); have n2_ := Aside0.mk (Kd.R_lower (Kd.R_new' (Kd.R_new' ho0 (Kd.R_lt (by (with_reducible repeat (first | apply Kd.R_alloc | apply Kd.R_drewN | apply Kd.R_drew)); exact HO104.out))) (Kd.R_lt (by (with_reducible repeat (first | apply Kd.R_alloc | apply Kd.R_drewN | apply Kd.R_drew)); exact HO107.out))) (below_size (by repeat (first | (with_reducible first | exact HB.out | apply below_alloc | apply pw_below_drewN | apply below_drew1) | exact HB.out)))); have n3_ := Aside0.mk (below_step (by repeat (first | (with_reducible first | exact HB.out | apply below_alloc | apply pw_below_drewN | apply below_drew1) | exact HB.out)) hb); clear HO104; clear HO107; clear HM107; clear HB; have HO104 := n0_; have HO107 := n1_; have HM107 := mA107_; clear mA107_; have HO113 := n2_; have HB := n3_; clear n0_ n1_ n2_ n3_; (try clear hb); (try clear hb2); (try clear hk); (try clear hi); (try clear ho0)) | ((with_reducible refine gate_callee (f := 20) rfl ?_); refine goesL_ (some 52) rfl rfl Try.func20 (by kernel_rfl) rfl #[.string a0, .slice Ao15 t101.length co15, .int .i64 a3, .int .i64 a4, .string a5] rfl (by (try simp only [List.map_toArray, List.map_cons, List.map_nil]); first | done | rfl | (simp only [List.length_drop, List.length_take]; rfl)) ?_; (with_reducible refine (minuetref9_Again.calls k a0 _ _ t101 a3 a4 a5 t114 t115 t116 t117 _ ?side1 ?side2 A12.out).mono ?_); (case side1 => repeat (first | exact (Kd.R_reads' HO104.out).2.2 | (with_reducible refine Kd.C_alloc ?_ _) | (with_reducible refine Kd.C_drewN ?_ _) | (with_reducible refine Kd.C_drew ?_))); (case side2 => exact (Kd.R_reads' HO104.out).2.1); rintro e w19 ⟨v118, rfl, ho0, hb⟩; refine ⟨_, rfl, ?_⟩; have n0_ := Aside0.mk (Kd.R_elder' (by (with_reducible repeat (first | apply Kd.R_alloc | apply Kd.R_drewN | apply Kd.R_drew)); exact HO104.out) (Kd.R_base ho0) hb); have mA107_ := Aside0.mk (Kd.R_elder' (by (with_reducible repeat (first | apply Kd.R_alloc | apply Kd.R_drewN | apply Kd.R_drew)); exact HM107.out) (Kd.R_base ho0) hb); have n1_ := Aside0.mk (Kd.R_elder' (by (with_reducible repeat (first | apply Kd.R_alloc | apply Kd.R_drewN | apply Kd.R_drew)); exact HO107.out) (Kd.R_base ho0) hb); have n2_ := Aside0.mk (Kd.R_elder' (by (with_reducible repeat (first | apply Kd.R_alloc | apply Kd.R_drewN | apply Kd.R_drew)); exact HO113.out) (Kd.R_base ho0) hb); have n3_ := Aside0.mk (Kd.R_lower (Kd.R_new' (Kd.R_new' (Kd.R_new' ho0 (Kd.R_lt (by (with_reducible repeat (first | apply Kd.R_alloc | apply Kd.R_drewN | apply Kd.R_drew)); exact HO104.out))) (Kd.R_lt (by (with_reducible repeat (first | apply Kd.R_alloc | apply Kd.R_drewN | apply Kd.R_drew)); exact HO107.out))) (Kd.R_lt (by (with_reducible repeat (first | apply Kd.R_alloc | apply Kd.R_drewN | apply Kd.R_drew)); exact HO113.out))) (below_size (by repeat (first | (with_reducible first | exact HB.out | apply below_alloc | apply pw_below_drewN | apply below_drew1) | exact HB.out)))); have n4_ := Aside0.mk (below_step (by repeat (first | (with_reducible first | exact HB.out | apply below_alloc | apply pw_below_drewN | apply below_drew1) | exact HB.out)) hb); clear HO104; clear HO107; clear HM107; clear HO113; clear HB; have HO104 := n0_; have HO107 := n1_; have HM107 := mA107_; clear mA107_; have HO113 := n2_; have HO119 := n3_; have HB := n4_; clear n0_ n1_ n2_ n3_ n4_; (try clear hb); (try clear hb2); (try clear hk); (try clear hi); (try clear ho0)))
     (try simp only [Act.put, List.setIfInBounds_toArray, List.set_cons_zero, List.set_cons_succ])
     go_cut [82] (fun v82 wc => ∃ (kq : Nat) (x82_12 : Bool), v82 = .bool x82_12 ∧ Aside0 (minuetlaw10_Again.j0 kq t101 t105 t108 x82_12 = some r) ∧ Aside0 (kq ≤ k) ∧ Aside0 (Kd.R k34 34 wc w.heap.size (fun k_ => some k_ ≠ ((.slice Ao17 t105.length co17) : Value).ownBlock ∧ some k_ ≠ (v112 : Value).ownBlock) (.slice Ao15 t101.length co15) t101) ∧ Aside0 (Kd.R k34 34 wc w.heap.size (fun k_ => some k_ ≠ ((.slice Ao15 t101.length co15) : Value).ownBlock ∧ some k_ ≠ (v112 : Value).ownBlock) (.slice Ao17 t105.length co17) t105) ∧ Aside0 (Kd.R k34 34 wc w.heap.size (fun k_ => some k_ ≠ ((.slice Ao15 t101.length co15) : Value).ownBlock ∧ some k_ ≠ (v112 : Value).ownBlock) (.slice Ao17 (t105.length + 2) co17) (t105 ++ [minuetlaw0_KeptTokens.mark, minuetlaw0_KeptTokens.mark])) ∧ Aside0 (Kd.R k34 34 wc w.heap.size (fun k_ => some k_ ≠ ((.slice Ao15 t101.length co15) : Value).ownBlock ∧ some k_ ≠ ((.slice Ao17 t105.length co17) : Value).ownBlock) v112 t108) ∧ Aside0 (Below w.heap.size w wc))
     case first =>
      have H := HC13.out
      clear HC13
      replace H := Option.bind_eq_some_iff.mp H
      obtain ⟨t120, A200, H⟩ := H
      replace H : (if t120 = true then (if t109 = t115 then (if t110 = t116 then ((minuetlaw0_Num.f t111).bind fun t121 => (if t121 = t117 then ((minuetlaw0_KeptTokens.f k t105 t101).bind fun t122 => (minuetlaw10_Again.j0 k t101 t105 t108 (!t122))) else (minuetlaw10_Again.j0 k t101 t105 t108 true))) else (minuetlaw10_Again.j0 k t101 t105 t108 true)) else (minuetlaw10_Again.j0 k t101 t105 t108 true)) else (minuetlaw10_Again.j0 k t101 t105 t108 true)) = some r := H
      have A20 := Aside0.mk A200
      clear A200
      by_cases c21 : t120 = true
      · subst c21
        have H1 : (if t109 = t115 then (if t110 = t116 then ((minuetlaw0_Num.f t111).bind fun t121 => (if t121 = t117 then ((minuetlaw0_KeptTokens.f k t105 t101).bind fun t122 => (minuetlaw10_Again.j0 k t101 t105 t108 (!t122))) else (minuetlaw10_Again.j0 k t101 t105 t108 true))) else (minuetlaw10_Again.j0 k t101 t105 t108 true)) else (minuetlaw10_Again.j0 k t101 t105 t108 true)) = some r := by rw [if_pos rfl] at H; exact H
        clear H
        have H := H1
        clear H1
        by_cases c22 : t109 = t115
        · rw [if_pos c22] at H
          have c22b0 : (t109 == t115) = true := beq_iff_eq.mpr c22
          have c22b1 : (t109 != t115) = false := bne_eq_false_iff_eq.mpr c22
          clear c22
          (first | rw [c22b0] | (simp only [i64_w, i32_w]; rw [c22b0]) | skip)
          by_cases c23 : t110 = t116
          · rw [if_pos c23] at H
            have c23b0 : (t110 == t116) = true := beq_iff_eq.mpr c23
            have c23b1 : (t110 != t116) = false := bne_eq_false_iff_eq.mpr c23
            clear c23
            replace H := Option.bind_eq_some_iff.mp H
            obtain ⟨t121, A240, H⟩ := H
            replace H : (if t121 = t117 then ((minuetlaw0_KeptTokens.f k t105 t101).bind fun t122 => (minuetlaw10_Again.j0 k t101 t105 t108 (!t122))) else (minuetlaw10_Again.j0 k t101 t105 t108 true)) = some r := H
            have A24 := Aside0.mk A240
            clear A240
            by_cases c25 : t121 = t117
            · rw [if_pos c25] at H
              have c25b0 : (t121 == t117) = true := beq_iff_eq.mpr c25
              have c25b1 : (t121 != t117) = false := bne_eq_false_iff_eq.mpr c25
              clear c25
              replace H := Option.bind_eq_some_iff.mp H
              obtain ⟨t122, A260, H⟩ := H
              replace H : (minuetlaw10_Again.j0 k t101 t105 t108 (!t122)) = some r := H
              have A26 := Aside0.mk A260
              clear A260
              have H' := Aside0.mk H
              clear H
              obtain ⟨Ao27, co27, eo27⟩ := Kd.R_slice HO113.out
              subst eo27
              obtain ⟨Ao28, co28, eo28⟩ := Kd.R_slice HO119.out
              subst eo28
              go_wp2_with (first | ((with_reducible refine gate_callee (f := 14) rfl ?_); refine goesL_ (some 59) rfl rfl Try.func14 (by kernel_rfl) rfl #[.slice Ao27 t108.length co27, .slice Ao28 t114.length co28] rfl (by (try simp only [List.map_toArray, List.map_cons, List.map_nil]); first | done | rfl | (simp only [List.length_drop, List.length_take]; rfl)) ?_; (with_reducible refine (minuetlaw0_SameTokens.calls k _ _ t108 _ _ t114 true _ ?side1 ?side2 ?side3 ?side4 A20.out).mono ?_); (case side1 => repeat (first | exact (Kd.R_reads' HO113.out).2.2 | (with_reducible refine Kd.C_alloc ?_ _) | (with_reducible refine Kd.C_drewN ?_ _) | (with_reducible refine Kd.C_drew ?_))); (case side2 => exact (Kd.R_reads' HO113.out).2.1); (case side3 => repeat (first | exact (Kd.R_reads' HO119.out).2.2 | (with_reducible refine Kd.C_alloc ?_ _) | (with_reducible refine Kd.C_drewN ?_ _) | (with_reducible refine Kd.C_drew ?_))); (case side4 => exact (Kd.R_reads' HO119.out).2.1); rintro e w' ⟨rfl, ⟨nd, rfl⟩⟩; refine ⟨_, rfl, ?_⟩) | (go_at_call 15; (with_reducible refine (minuetlaw0_Num.calls t111 t121 _ A24.out).mono ?_); rintro e w' ⟨rfl, ⟨nd, rfl⟩⟩) | (go_at_call 21; (with_reducible refine (minuetlaw0_KeptTokens.calls k _ _ t105 _ _ t101 t122 _ ?side1 ?side2 ?side3 ?side4 A26.out ?sideM).mono ?_); (case sideM => refine ⟨(Kd.R_reads' HM107.out).2.1, ?_⟩; repeat (first | exact (Kd.R_reads' HM107.out).2.2 | (with_reducible refine Kd.C_alloc ?_ _) | (with_reducible refine Kd.C_drewN ?_ _) | (with_reducible refine Kd.C_drew ?_))); (case side1 => repeat (first | exact (Kd.R_reads' HO107.out).2.2 | (with_reducible refine Kd.C_alloc ?_ _) | (with_reducible refine Kd.C_drewN ?_ _) | (with_reducible refine Kd.C_drew ?_))); (case side2 => exact (Kd.R_reads' HO107.out).2.1); (case side3 => repeat (first | exact (Kd.R_reads' HO104.out).2.2 | (with_reducible refine Kd.C_alloc ?_ _) | (with_reducible refine Kd.C_drewN ?_ _) | (with_reducible refine Kd.C_drew ?_))); (case side4 => exact (Kd.R_reads' HO104.out).2.1); rintro e w' ⟨rfl, ⟨nd, rfl⟩⟩))
              go_meet
              case rel => exact ⟨_, (!t122), (by first | rfl | (simp; done) | (simp [*]; done)), H', ⟨by first | omega | exact Nat.le_refl _⟩, ⟨by (with_reducible repeat (first | apply Kd.R_alloc | apply Kd.R_drewN | apply Kd.R_drew)); exact Kd.R_mono HO104.out (fun _ hk => ⟨hk.1.1.2, hk.1.2⟩)⟩, ⟨by (with_reducible repeat (first | apply Kd.R_alloc | apply Kd.R_drewN | apply Kd.R_drew)); exact Kd.R_mono HO107.out (fun _ hk => ⟨hk.1.1.2, hk.1.2⟩)⟩, ⟨by (with_reducible repeat (first | apply Kd.R_alloc | apply Kd.R_drewN | apply Kd.R_drew)); exact Kd.R_mono HM107.out (fun _ hk => ⟨hk.1.1.2, hk.1.2⟩)⟩, ⟨by (with_reducible repeat (first | apply Kd.R_alloc | apply Kd.R_drewN | apply Kd.R_drew)); exact Kd.R_mono HO113.out (fun _ hk => ⟨hk.1.1.2, hk.1.2⟩)⟩, ⟨by repeat (first | (with_reducible first | exact HB.out | apply below_alloc | apply pw_below_drewN | apply below_drew1) | exact HB.out)⟩⟩
            · rw [if_neg c25] at H
              have c25b0 : (t121 == t117) = false := beq_eq_false_iff_ne.mpr c25
              have c25b1 : (t121 != t117) = true := bne_iff_ne.mpr c25
              have H' := Aside0.mk H
              clear H
              obtain ⟨Ao29, co29, eo29⟩ := Kd.R_slice HO113.out
              subst eo29
              obtain ⟨Ao30, co30, eo30⟩ := Kd.R_slice HO119.out
              subst eo30
              go_wp2_with (first | ((with_reducible refine gate_callee (f := 14) rfl ?_); refine goesL_ (some 59) rfl rfl Try.func14 (by kernel_rfl) rfl #[.slice Ao29 t108.length co29, .slice Ao30 t114.length co30] rfl (by (try simp only [List.map_toArray, List.map_cons, List.map_nil]); first | done | rfl | (simp only [List.length_drop, List.length_take]; rfl)) ?_; (with_reducible refine (minuetlaw0_SameTokens.calls k _ _ t108 _ _ t114 true _ ?side1 ?side2 ?side3 ?side4 A20.out).mono ?_); (case side1 => repeat (first | exact (Kd.R_reads' HO113.out).2.2 | (with_reducible refine Kd.C_alloc ?_ _) | (with_reducible refine Kd.C_drewN ?_ _) | (with_reducible refine Kd.C_drew ?_))); (case side2 => exact (Kd.R_reads' HO113.out).2.1); (case side3 => repeat (first | exact (Kd.R_reads' HO119.out).2.2 | (with_reducible refine Kd.C_alloc ?_ _) | (with_reducible refine Kd.C_drewN ?_ _) | (with_reducible refine Kd.C_drew ?_))); (case side4 => exact (Kd.R_reads' HO119.out).2.1); rintro e w' ⟨rfl, ⟨nd, rfl⟩⟩; refine ⟨_, rfl, ?_⟩) | (go_at_call 15; (with_reducible refine (minuetlaw0_Num.calls t111 t121 _ A24.out).mono ?_); rintro e w' ⟨rfl, ⟨nd, rfl⟩⟩))
              go_meet
              case rel => exact ⟨_, (true), (by first | rfl | (simp; done) | (simp [*]; done)), H', ⟨by first | omega | exact Nat.le_refl _⟩, ⟨by (with_reducible repeat (first | apply Kd.R_alloc | apply Kd.R_drewN | apply Kd.R_drew)); exact Kd.R_mono HO104.out (fun _ hk => ⟨hk.1.1.2, hk.1.2⟩)⟩, ⟨by (with_reducible repeat (first | apply Kd.R_alloc | apply Kd.R_drewN | apply Kd.R_drew)); exact Kd.R_mono HO107.out (fun _ hk => ⟨hk.1.1.2, hk.1.2⟩)⟩, ⟨by (with_reducible repeat (first | apply Kd.R_alloc | apply Kd.R_drewN | apply Kd.R_drew)); exact Kd.R_mono HM107.out (fun _ hk => ⟨hk.1.1.2, hk.1.2⟩)⟩, ⟨by (with_reducible repeat (first | apply Kd.R_alloc | apply Kd.R_drewN | apply Kd.R_drew)); exact Kd.R_mono HO113.out (fun _ hk => ⟨hk.1.1.2, hk.1.2⟩)⟩, ⟨by repeat (first | (with_reducible first | exact HB.out | apply below_alloc | apply pw_below_drewN | apply below_drew1) | exact HB.out)⟩⟩
          · rw [if_neg c23] at H
            have c23b0 : (t110 == t116) = false := beq_eq_false_iff_ne.mpr c23
            have c23b1 : (t110 != t116) = true := bne_iff_ne.mpr c23
            have H' := Aside0.mk H
            clear H
            obtain ⟨Ao31, co31, eo31⟩ := Kd.R_slice HO113.out
            subst eo31
            obtain ⟨Ao32, co32, eo32⟩ := Kd.R_slice HO119.out
            subst eo32
            go_wp2_with (first | ((with_reducible refine gate_callee (f := 14) rfl ?_); refine goesL_ (some 59) rfl rfl Try.func14 (by kernel_rfl) rfl #[.slice Ao31 t108.length co31, .slice Ao32 t114.length co32] rfl (by (try simp only [List.map_toArray, List.map_cons, List.map_nil]); first | done | rfl | (simp only [List.length_drop, List.length_take]; rfl)) ?_; (with_reducible refine (minuetlaw0_SameTokens.calls k _ _ t108 _ _ t114 true _ ?side1 ?side2 ?side3 ?side4 A20.out).mono ?_); (case side1 => repeat (first | exact (Kd.R_reads' HO113.out).2.2 | (with_reducible refine Kd.C_alloc ?_ _) | (with_reducible refine Kd.C_drewN ?_ _) | (with_reducible refine Kd.C_drew ?_))); (case side2 => exact (Kd.R_reads' HO113.out).2.1); (case side3 => repeat (first | exact (Kd.R_reads' HO119.out).2.2 | (with_reducible refine Kd.C_alloc ?_ _) | (with_reducible refine Kd.C_drewN ?_ _) | (with_reducible refine Kd.C_drew ?_))); (case side4 => exact (Kd.R_reads' HO119.out).2.1); rintro e w' ⟨rfl, ⟨nd, rfl⟩⟩; refine ⟨_, rfl, ?_⟩))
            go_meet
            case rel => exact ⟨_, (true), (by first | rfl | (simp; done) | (simp [*]; done)), H', ⟨by first | omega | exact Nat.le_refl _⟩, ⟨by (with_reducible repeat (first | apply Kd.R_alloc | apply Kd.R_drewN | apply Kd.R_drew)); exact Kd.R_mono HO104.out (fun _ hk => ⟨hk.1.1.2, hk.1.2⟩)⟩, ⟨by (with_reducible repeat (first | apply Kd.R_alloc | apply Kd.R_drewN | apply Kd.R_drew)); exact Kd.R_mono HO107.out (fun _ hk => ⟨hk.1.1.2, hk.1.2⟩)⟩, ⟨by (with_reducible repeat (first | apply Kd.R_alloc | apply Kd.R_drewN | apply Kd.R_drew)); exact Kd.R_mono HM107.out (fun _ hk => ⟨hk.1.1.2, hk.1.2⟩)⟩, ⟨by (with_reducible repeat (first | apply Kd.R_alloc | apply Kd.R_drewN | apply Kd.R_drew)); exact Kd.R_mono HO113.out (fun _ hk => ⟨hk.1.1.2, hk.1.2⟩)⟩, ⟨by repeat (first | (with_reducible first | exact HB.out | apply below_alloc | apply pw_below_drewN | apply below_drew1) | exact HB.out)⟩⟩
        · rw [if_neg c22] at H
          have c22b0 : (t109 == t115) = false := beq_eq_false_iff_ne.mpr c22
          have c22b1 : (t109 != t115) = true := bne_iff_ne.mpr c22
          (first | rw [c22b0] | (simp only [i64_w, i32_w]; rw [c22b0]) | skip)
          have H' := Aside0.mk H
          clear H
          obtain ⟨Ao33, co33, eo33⟩ := Kd.R_slice HO113.out
          subst eo33
          obtain ⟨Ao34, co34, eo34⟩ := Kd.R_slice HO119.out
          subst eo34
          go_wp2_with (first | ((with_reducible refine gate_callee (f := 14) rfl ?_); refine goesL_ (some 59) rfl rfl Try.func14 (by kernel_rfl) rfl #[.slice Ao33 t108.length co33, .slice Ao34 t114.length co34] rfl (by (try simp only [List.map_toArray, List.map_cons, List.map_nil]); first | done | rfl | (simp only [List.length_drop, List.length_take]; rfl)) ?_; (with_reducible refine (minuetlaw0_SameTokens.calls k _ _ t108 _ _ t114 true _ ?side1 ?side2 ?side3 ?side4 A20.out).mono ?_); (case side1 => repeat (first | exact (Kd.R_reads' HO113.out).2.2 | (with_reducible refine Kd.C_alloc ?_ _) | (with_reducible refine Kd.C_drewN ?_ _) | (with_reducible refine Kd.C_drew ?_))); (case side2 => exact (Kd.R_reads' HO113.out).2.1); (case side3 => repeat (first | exact (Kd.R_reads' HO119.out).2.2 | (with_reducible refine Kd.C_alloc ?_ _) | (with_reducible refine Kd.C_drewN ?_ _) | (with_reducible refine Kd.C_drew ?_))); (case side4 => exact (Kd.R_reads' HO119.out).2.1); rintro e w' ⟨rfl, ⟨nd, rfl⟩⟩; refine ⟨_, rfl, ?_⟩))
          go_meet
          case rel => exact ⟨_, (true), (by first | rfl | (simp; done) | (simp [*]; done)), H', ⟨by first | omega | exact Nat.le_refl _⟩, ⟨by (with_reducible repeat (first | apply Kd.R_alloc | apply Kd.R_drewN | apply Kd.R_drew)); exact Kd.R_mono HO104.out (fun _ hk => ⟨hk.1.1.2, hk.1.2⟩)⟩, ⟨by (with_reducible repeat (first | apply Kd.R_alloc | apply Kd.R_drewN | apply Kd.R_drew)); exact Kd.R_mono HO107.out (fun _ hk => ⟨hk.1.1.2, hk.1.2⟩)⟩, ⟨by (with_reducible repeat (first | apply Kd.R_alloc | apply Kd.R_drewN | apply Kd.R_drew)); exact Kd.R_mono HM107.out (fun _ hk => ⟨hk.1.1.2, hk.1.2⟩)⟩, ⟨by (with_reducible repeat (first | apply Kd.R_alloc | apply Kd.R_drewN | apply Kd.R_drew)); exact Kd.R_mono HO113.out (fun _ hk => ⟨hk.1.1.2, hk.1.2⟩)⟩, ⟨by repeat (first | (with_reducible first | exact HB.out | apply below_alloc | apply pw_below_drewN | apply below_drew1) | exact HB.out)⟩⟩
      · replace c21 := Bool.eq_false_iff.mpr c21
        subst c21
        have H1 : (minuetlaw10_Again.j0 k t101 t105 t108 true) = some r := by rw [if_neg (show ¬ (false = true) by decide)] at H; exact H
        clear H
        have H := H1
        clear H1
        have H' := Aside0.mk H
        clear H
        obtain ⟨Ao35, co35, eo35⟩ := Kd.R_slice HO113.out
        subst eo35
        obtain ⟨Ao36, co36, eo36⟩ := Kd.R_slice HO119.out
        subst eo36
        go_wp2_with (first | ((with_reducible refine gate_callee (f := 14) rfl ?_); refine goesL_ (some 59) rfl rfl Try.func14 (by kernel_rfl) rfl #[.slice Ao35 t108.length co35, .slice Ao36 t114.length co36] rfl (by (try simp only [List.map_toArray, List.map_cons, List.map_nil]); first | done | rfl | (simp only [List.length_drop, List.length_take]; rfl)) ?_; (with_reducible refine (minuetlaw0_SameTokens.calls k _ _ t108 _ _ t114 false _ ?side1 ?side2 ?side3 ?side4 A20.out).mono ?_); (case side1 => repeat (first | exact (Kd.R_reads' HO113.out).2.2 | (with_reducible refine Kd.C_alloc ?_ _) | (with_reducible refine Kd.C_drewN ?_ _) | (with_reducible refine Kd.C_drew ?_))); (case side2 => exact (Kd.R_reads' HO113.out).2.1); (case side3 => repeat (first | exact (Kd.R_reads' HO119.out).2.2 | (with_reducible refine Kd.C_alloc ?_ _) | (with_reducible refine Kd.C_drewN ?_ _) | (with_reducible refine Kd.C_drew ?_))); (case side4 => exact (Kd.R_reads' HO119.out).2.1); rintro e w' ⟨rfl, ⟨nd, rfl⟩⟩; refine ⟨_, rfl, ?_⟩))
        go_meet
        case rel => exact ⟨_, (true), (by first | rfl | (simp; done) | (simp [*]; done)), H', ⟨by first | omega | exact Nat.le_refl _⟩, ⟨by (with_reducible repeat (first | apply Kd.R_alloc | apply Kd.R_drewN | apply Kd.R_drew)); exact Kd.R_mono HO104.out (fun _ hk => ⟨hk.1.1.2, hk.1.2⟩)⟩, ⟨by (with_reducible repeat (first | apply Kd.R_alloc | apply Kd.R_drewN | apply Kd.R_drew)); exact Kd.R_mono HO107.out (fun _ hk => ⟨hk.1.1.2, hk.1.2⟩)⟩, ⟨by (with_reducible repeat (first | apply Kd.R_alloc | apply Kd.R_drewN | apply Kd.R_drew)); exact Kd.R_mono HM107.out (fun _ hk => ⟨hk.1.1.2, hk.1.2⟩)⟩, ⟨by (with_reducible repeat (first | apply Kd.R_alloc | apply Kd.R_drewN | apply Kd.R_drew)); exact Kd.R_mono HO113.out (fun _ hk => ⟨hk.1.1.2, hk.1.2⟩)⟩, ⟨by repeat (first | (with_reducible first | exact HB.out | apply below_alloc | apply pw_below_drewN | apply below_drew1) | exact HB.out)⟩⟩
     case rest =>
      clear HC13
      try clear c1
      try clear c2
      try clear p2
      try clear c5
      try clear c7
      try clear c9
      try clear c9b0
      try clear c9b1
      try clear c13
      try clear c14
      try clear c18
      try clear c19
      try clear c20
      try clear c21
      try clear c22
      try clear c22b0
      try clear c22b1
      try clear c23
      try clear c23b0
      try clear c23b1
      try clear c25
      try clear c25b0
      try clear c25b1
      obtain ⟨kq, x82_12, rfl, HA, HJ12, HO_1, HO_15, HM_15, HO_16, HB⟩ := hcut
      cases kq with
      | zero => exact absurd HA.out (by simp [minuetlaw10_Again.j0])
      | succ kj12 =>
       have H := HA.out
       clear HA
       simp only [minuetlaw10_Again.j0] at H
       by_cases c37 : x82_12 = true
       · subst c37
         have H1 : (none) = some r := by rw [if_pos rfl] at H; exact H
         clear H
         have H := H1
         clear H1
         exact absurd H (by simp)
       · replace c37 := Bool.eq_false_iff.mpr c37
         subst c37
         have H1 : ((minuetlaw0_SpoilTokens.f kj12 t108).bind fun t123 => ((minuetlaw0_KeptTokens.f kj12 t105 t101).bind fun t124 => (if t124 = true then ((minuetlaw10_awake.f kj12).bind fun t125 => (some t125)) else (none)))) = some r := by rw [if_neg (show ¬ (false = true) by decide)] at H; exact H
         clear H
         have H := H1
         clear H1
         replace H := Option.bind_eq_some_iff.mp H
         obtain ⟨t123, A380, H⟩ := H
         replace H : ((minuetlaw0_KeptTokens.f kj12 t105 t101).bind fun t124 => (if t124 = true then ((minuetlaw10_awake.f kj12).bind fun t125 => (some t125)) else (none))) = some r := H
         have A38 := Aside0.mk A380
         clear A380
         replace H := Option.bind_eq_some_iff.mp H
         obtain ⟨t124, A390, H⟩ := H
         replace H : (if t124 = true then ((minuetlaw10_awake.f kj12).bind fun t125 => (some t125)) else (none)) = some r := H
         have A39 := Aside0.mk A390
         clear A390
         by_cases c40 : t124 = true
         · subst c40
           have H1 : ((minuetlaw10_awake.f kj12).bind fun t125 => (some t125)) = some r := by rw [if_pos rfl] at H; exact H
           clear H
           have H := H1
           clear H1
           replace H := Option.bind_eq_some_iff.mp H
           obtain ⟨t125, A410, H⟩ := H
           replace H : (some t125) = some r := H
           have A41 := Aside0.mk A410
           clear A410
           obtain rfl := Option.some.inj H
           obtain ⟨Ao42, co42, eo42⟩ := Kd.R_slice HO_16.out
           subst eo42
           go_wp2_with (first | ((with_reducible refine gate_callee (f := 16) rfl ?_); refine goesL_ (some 84) rfl rfl Try.func16 (by kernel_rfl) rfl #[.slice Ao42 t108.length co42] rfl (by (try simp only [List.map_toArray, List.map_cons, List.map_nil]); first | done | rfl | (simp only [List.length_drop, List.length_take]; rfl)) ?_; (with_reducible refine (minuetlaw0_SpoilTokens.calls kj12 (fun k_ => some k_ = (.slice Ao42 t108.length co42 : Value).ownBlock) (.slice Ao42 t108.length co42) t108 t123 w _ ?side1 ?side2 A38.out).mono ?_); (case side1 => repeat (first | (with_reducible first | exact HB.out | apply below_alloc | apply pw_below_drewN | apply below_drew1) | exact HB.out)); (case side2 => exact Kd.R_tight rfl HO_16.out); rintro e w43 ⟨rfl, hy0, hb, hkp⟩; refine ⟨_, rfl, ?_⟩; have n0_ := Aside0.mk (Kd.R_mono (ok' := fun k_ => some k_ ≠ (.slice Ao17 t105.length co17 : Value).ownBlock ∧ some k_ ≠ (.slice Ao42 t108.length co42 : Value).ownBlock) (Kd.R_keptB (HO_1.out) hkp (fun k_ hk_ hs_ => (hk_.2) hs_)) (fun k_ hk_ => ⟨hk_.1.1, hk_.1.2⟩)); have mA_15_ := Aside0.mk (Kd.R_mono (ok' := fun k_ => some k_ ≠ (.slice Ao15 t101.length co15 : Value).ownBlock ∧ some k_ ≠ (.slice Ao42 t108.length co42 : Value).ownBlock) (Kd.R_keptB (HM_15.out) hkp (fun k_ hk_ hs_ => (hk_.2) hs_)) (fun k_ hk_ => ⟨hk_.1.1, hk_.1.2⟩)); have n1_ := Aside0.mk (Kd.R_mono (ok' := fun k_ => some k_ ≠ (.slice Ao15 t101.length co15 : Value).ownBlock ∧ some k_ ≠ (.slice Ao42 t108.length co42 : Value).ownBlock) (Kd.R_keptB (HO_15.out) hkp (fun k_ hk_ hs_ => (hk_.2) hs_)) (fun k_ hk_ => ⟨hk_.1.1, hk_.1.2⟩)); have n2_ := Aside0.mk (Kd.R_reok rfl hy0 (fun k_ e_ => HO_16.out.1 k_ e_)); have n3_ := Aside0.mk (hb); clear HO_1; clear HO_15; clear HM_15; clear HO_16; clear HB; have HO_1 := n0_; have HO_15 := n1_; have HM_15 := mA_15_; clear mA_15_; have HO_16 := n2_; have HB := n3_; clear n0_ n1_ n2_ n3_; (try clear hb); (try clear hkp); (try clear hy0)) | ((with_reducible refine gate_callee (f := 21) rfl ?_); refine goesL_ (some 87) rfl rfl Try.func21 (by kernel_rfl) rfl #[.slice Ao17 t105.length co17, .slice Ao15 t101.length co15] rfl (by (try simp only [List.map_toArray, List.map_cons, List.map_nil]); first | done | rfl | (simp only [List.length_drop, List.length_take]; rfl)) ?_; (with_reducible refine (minuetlaw0_KeptTokens.calls kj12 _ _ t105 _ _ t101 true _ ?side1 ?side2 ?side3 ?side4 A39.out ?sideM).mono ?_); (case sideM => refine ⟨(Kd.R_reads' HM_15.out).2.1, ?_⟩; repeat (first | exact (Kd.R_reads' HM_15.out).2.2 | (with_reducible refine Kd.C_alloc ?_ _) | (with_reducible refine Kd.C_drewN ?_ _) | (with_reducible refine Kd.C_drew ?_))); (case side1 => repeat (first | exact (Kd.R_reads' HO_15.out).2.2 | (with_reducible refine Kd.C_alloc ?_ _) | (with_reducible refine Kd.C_drewN ?_ _) | (with_reducible refine Kd.C_drew ?_))); (case side2 => exact (Kd.R_reads' HO_15.out).2.1); (case side3 => repeat (first | exact (Kd.R_reads' HO_1.out).2.2 | (with_reducible refine Kd.C_alloc ?_ _) | (with_reducible refine Kd.C_drewN ?_ _) | (with_reducible refine Kd.C_drew ?_))); (case side4 => exact (Kd.R_reads' HO_1.out).2.1); rintro e w' ⟨rfl, ⟨nd, rfl⟩⟩; refine ⟨_, rfl, ?_⟩) | (go_at_call 22; (with_reducible refine (minuetlaw10_awake.calls kj12  t125 _ (MaxOk.of HM_.out (by repeat (first | (with_reducible first | exact HB.out | apply below_alloc | apply pw_below_drewN | apply below_drew1) | exact HB.out))) A41.out).mono ?_); rintro e w44 ⟨rfl, hb⟩; have n0_ := Aside0.mk (Kd.R_below (by (with_reducible repeat (first | apply Kd.R_alloc | apply Kd.R_drewN | apply Kd.R_drew)); exact HO_1.out) hb); have mA_15_ := Aside0.mk (Kd.R_below (by (with_reducible repeat (first | apply Kd.R_alloc | apply Kd.R_drewN | apply Kd.R_drew)); exact HM_15.out) hb); have n1_ := Aside0.mk (Kd.R_below (by (with_reducible repeat (first | apply Kd.R_alloc | apply Kd.R_drewN | apply Kd.R_drew)); exact HO_15.out) hb); have n2_ := Aside0.mk (Kd.R_below (by (with_reducible repeat (first | apply Kd.R_alloc | apply Kd.R_drewN | apply Kd.R_drew)); exact HO_16.out) hb); have n3_ := Aside0.mk (below_step (by repeat (first | (with_reducible first | exact HB.out | apply below_alloc | apply pw_below_drewN | apply below_drew1) | exact HB.out)) hb); clear HO_1; clear HO_15; clear HM_15; clear HO_16; clear HB; have HO_1 := n0_; have HO_15 := n1_; have HM_15 := mA_15_; clear mA_15_; have HO_16 := n2_; have HB := n3_; clear n0_ n1_ n2_ n3_; (try clear hb); (try clear hb2); (try clear hk); (try clear hi)))
           go_ret
           exact ⟨by first | rfl | (simp [errW_none, errW_some] <;> rfl) | (simp [*, errW_none, errW_some] <;> rfl), by repeat (first | (with_reducible first | exact HB.out | apply below_alloc | apply pw_below_drewN | apply below_drew1) | exact HB.out)⟩
         · replace c40 := Bool.eq_false_iff.mpr c40
           subst c40
           have H1 : (none) = some r := by rw [if_neg (show ¬ (false = true) by decide)] at H; exact H
           clear H
           have H := H1
           clear H1
           exact absurd H (by simp)
   · rw [if_neg c9] at H
     have c9b0 : (t102 == 0) = false := beq_eq_false_iff_ne.mpr c9
     have c9b1 : (t102 != 0) = true := bne_iff_ne.mpr c9
     replace H := Option.bind_eq_some_iff.mp H
     obtain ⟨t126, A450, H⟩ := H
     replace H : ((relex_Again.f k a0 t126 a3 a4 a5).bind fun bt129 => ((minuetref9_Again.f k a0 l1 a3 a4 a5).bind fun bt135 => ((minuetlaw0_SameTokens.f k bt129.1 bt135.1).bind fun t141 => (if t141 = true then (if bt129.2.1 = bt135.2.1 then (if bt129.2.2.1 = bt135.2.2.1 then ((minuetlaw0_Num.f bt129.2.2.2).bind fun t142 => (if t142 = bt135.2.2.2 then ((minuetlaw0_KeptTokens.f k t126 l1).bind fun t143 => (minuetlaw10_Again.j1 k l1 t126 bt129.1 (!t143))) else (minuetlaw10_Again.j1 k l1 t126 bt129.1 true))) else (minuetlaw10_Again.j1 k l1 t126 bt129.1 true)) else (minuetlaw10_Again.j1 k l1 t126 bt129.1 true)) else (minuetlaw10_Again.j1 k l1 t126 bt129.1 true))))) = some r := H
     have A45 := Aside0.mk A450
     clear A450
     replace H := Option.bind_eq_some_iff.mp H
     obtain ⟨⟨t129, t130, t131, t132⟩, A460, H⟩ := H
     replace H : ((minuetref9_Again.f k a0 l1 a3 a4 a5).bind fun bt135 => ((minuetlaw0_SameTokens.f k t129 bt135.1).bind fun t141 => (if t141 = true then (if t130 = bt135.2.1 then (if t131 = bt135.2.2.1 then ((minuetlaw0_Num.f t132).bind fun t142 => (if t142 = bt135.2.2.2 then ((minuetlaw0_KeptTokens.f k t126 l1).bind fun t143 => (minuetlaw10_Again.j1 k l1 t126 t129 (!t143))) else (minuetlaw10_Again.j1 k l1 t126 t129 true))) else (minuetlaw10_Again.j1 k l1 t126 t129 true)) else (minuetlaw10_Again.j1 k l1 t126 t129 true)) else (minuetlaw10_Again.j1 k l1 t126 t129 true)))) = some r := H
     have A46 := Aside0.mk A460
     clear A460
     replace H := Option.bind_eq_some_iff.mp H
     obtain ⟨⟨t135, t136, t137, t138⟩, A470, H⟩ := H
     replace H : ((minuetlaw0_SameTokens.f k t129 t135).bind fun t141 => (if t141 = true then (if t130 = t136 then (if t131 = t137 then ((minuetlaw0_Num.f t132).bind fun t142 => (if t142 = t138 then ((minuetlaw0_KeptTokens.f k t126 l1).bind fun t143 => (minuetlaw10_Again.j1 k l1 t126 t129 (!t143))) else (minuetlaw10_Again.j1 k l1 t126 t129 true))) else (minuetlaw10_Again.j1 k l1 t126 t129 true)) else (minuetlaw10_Again.j1 k l1 t126 t129 true)) else (minuetlaw10_Again.j1 k l1 t126 t129 true))) = some r := H
     have A47 := Aside0.mk A470
     clear A470
     have HC48 := Aside0.mk H
     clear H
     go_enter Try.func5, Try.ntmps5
     go_upto_region 8 with (first | ((with_reducible refine gate_callee (f := 13) rfl ?_); refine goesL_ (some 27) rfl rfl Try.func13 (by kernel_rfl) rfl #[.string a0] rfl (by (try simp only [List.map_toArray, List.map_cons, List.map_nil]); first | done | rfl | (simp only [List.length_drop, List.length_take]; rfl)) ?_; (with_reducible refine (minuetref9_Tokens.calls k a0 t101 t102 _ A8.out).mono ?_); rintro e w49 ⟨v103, rfl, ho0, hb⟩; refine ⟨_, rfl, ?_⟩; have n0_ := Aside0.mk (Kd.R_lower ho0 (below_size (by repeat (first | (with_reducible first | exact HB.out | apply below_alloc | apply pw_below_drewN | apply below_drew1) | exact HB.out)))); have n1_ := Aside0.mk (below_step (by repeat (first | (with_reducible first | exact HB.out | apply below_alloc | apply pw_below_drewN | apply below_drew1) | exact HB.out)) hb); clear HB; have HO104 := n0_; have HB := n1_; clear n0_ n1_; (try clear hb); (try clear hb2); (try clear hk); (try clear hi); (try clear ho0)) | ((with_reducible refine gate_callee (f := 18) rfl ?_); refine goesL_ (some 34) rfl rfl Try.func18 (by kernel_rfl) rfl #[.slice A1 l1.length c1] rfl (by (try simp only [List.map_toArray, List.map_cons, List.map_nil]); first | done | rfl | (simp only [List.length_drop, List.length_take]; rfl)) ?_; (with_reducible refine (minuetlaw0_LendTokens.calls2 _ _ l1 t126 _ ?side1 ?side2 A45.out).mono ?_); (case side1 => repeat (first | exact (Kd.C_below HR1.out HB.out) | (with_reducible refine Kd.C_alloc ?_ _) | (with_reducible refine Kd.C_drewN ?_ _) | (with_reducible refine Kd.C_drew ?_))); (case side2 => exact HC1.out); rintro e w50 ⟨v127, rfl, ho0, hlent_, hb⟩; refine ⟨_, rfl, ?_⟩; have n0_ := Aside0.mk (Kd.R_elder' (by (with_reducible repeat (first | apply Kd.R_alloc | apply Kd.R_drewN | apply Kd.R_drew)); exact HO104.out) (Kd.R_base ho0) hb); have mA128_ := Aside0.mk (minuetlaw0_KeptTokens.Lent_map hlent_ (fun _ _ hM_ => (Kd.R_lower (Kd.R_new' hM_ (Kd.R_lt (by (with_reducible repeat (first | apply Kd.R_alloc | apply Kd.R_drewN | apply Kd.R_drew)); exact HO104.out))) (below_size (by repeat (first | (with_reducible first | exact HB.out | apply below_alloc | apply pw_below_drewN | apply below_drew1) | exact HB.out)))))); have n1_ := Aside0.mk (Kd.R_lower (Kd.R_new' ho0 (Kd.R_lt (by (with_reducible repeat (first | apply Kd.R_alloc | apply Kd.R_drewN | apply Kd.R_drew)); exact HO104.out))) (below_size (by repeat (first | (with_reducible first | exact HB.out | apply below_alloc | apply pw_below_drewN | apply below_drew1) | exact HB.out)))); have n2_ := Aside0.mk (below_step (by repeat (first | (with_reducible first | exact HB.out | apply below_alloc | apply pw_below_drewN | apply below_drew1) | exact HB.out)) hb); clear HO104; clear HB; have HO104 := n0_; have HO128 := n1_; have HM128 := mA128_; clear mA128_; have HB := n2_; clear n0_ n1_ n2_; (try clear hb); (try clear hb2); (try clear hk); (try clear hi); (try clear ho0); (try clear hlent_); obtain ⟨Ao51, co51, eo51⟩ := Kd.R_slice HO128.out; subst eo51; have HN_ := Aside0.mk (minuetlaw0_KeptTokens.Lent_R HM128.out); clear HM128; have HM128 := HN_; clear HN_) | ((with_reducible refine gate_callee (f := 19) rfl ?_); refine goesL_ (some 41) rfl rfl Try.func19 (by kernel_rfl) rfl #[.string a0, .slice Ao51 t126.length co51, .int .i64 a3, .int .i64 a4, .string a5] rfl (by (try simp only [List.map_toArray, List.map_cons, List.map_nil]); first | done | rfl | (simp only [List.length_drop, List.length_take]; rfl)) ?_; (with_reducible refine (relex_Again.calls k a0 _ _ t126 a3 a4 a5 t129 t130 t131 t132 _ ?side1 ?side2 (MaxOk.of HM_.out (by repeat (first | (with_reducible first | exact HB.out | apply below_alloc | apply pw_below_drewN | apply below_drew1) | exact HB.out))) A46.out).mono ?_); (case side1 => repeat (first | exact (Kd.R_reads' HO128.out).2.2 | (with_reducible refine Kd.C_alloc ?_ _) | (with_reducible refine Kd.C_drewN ?_ _) | (with_reducible refine Kd.C_drew ?_))); (case side2 => exact (Kd.R_reads' HO128.out).2.1); rintro e w52 ⟨v133, rfl, ho0, hb⟩; refine ⟨_, rfl, ?_⟩; have n0_ := Aside0.mk (Kd.R_elder' (by (with_reducible repeat (first | apply Kd.R_alloc | apply Kd.R_drewN | apply Kd.R_drew)); exact HO104.out) (Kd.R_base ho0) hb); have mA128_ := Aside0.mk (Kd.R_elder' (by (with_reducible repeat (first | apply Kd.R_alloc | apply Kd.R_drewN | apply Kd.R_drew)); exact HM128.out) (Kd.R_base ho0) hb); have n1_ := Aside0.mk (Kd.R_elder' (by (with_reducible repeat (first | apply Kd.R_alloc | apply Kd.R_drewN | apply Kd.R_drew)); exact HO128.out) (Kd.R_base ho0) hb); have n2_ := Aside0.mk (Kd.R_lower (Kd.R_new' (Kd.R_new' ho0 (Kd.R_lt (by (with_reducible repeat (first | apply Kd.R_alloc | apply Kd.R_drewN | apply Kd.R_drew)); exact HO104.out))) (Kd.R_lt (by (with_reducible repeat (first | apply Kd.R_alloc | apply Kd.R_drewN | apply Kd.R_drew)); exact HO128.out))) (below_size (by repeat (first | (with_reducible first | exact HB.out | apply below_alloc | apply pw_below_drewN | apply below_drew1) | exact HB.out)))); have n3_ := Aside0.mk (below_step (by repeat (first | (with_reducible first | exact HB.out | apply below_alloc | apply pw_below_drewN | apply below_drew1) | exact HB.out)) hb); clear HO104; clear HO128; clear HM128; clear HB; have HO104 := n0_; have HO128 := n1_; have HM128 := mA128_; clear mA128_; have HO134 := n2_; have HB := n3_; clear n0_ n1_ n2_ n3_; (try clear hb); (try clear hb2); (try clear hk); (try clear hi); (try clear ho0)) | ((with_reducible refine gate_callee (f := 20) rfl ?_); refine goesL_ (some 52) rfl rfl Try.func20 (by kernel_rfl) rfl #[.string a0, .slice A1 l1.length c1, .int .i64 a3, .int .i64 a4, .string a5] rfl (by (try simp only [List.map_toArray, List.map_cons, List.map_nil]); first | done | rfl | (simp only [List.length_drop, List.length_take]; rfl)) ?_; (with_reducible refine (minuetref9_Again.calls k a0 _ _ l1 a3 a4 a5 t135 t136 t137 t138 _ ?side1 ?side2 A47.out).mono ?_); (case side1 => repeat (first | exact (Kd.C_below HR1.out HB.out) | (with_reducible refine Kd.C_alloc ?_ _) | (with_reducible refine Kd.C_drewN ?_ _) | (with_reducible refine Kd.C_drew ?_))); (case side2 => exact HC1.out); rintro e w53 ⟨v139, rfl, ho0, hb⟩; refine ⟨_, rfl, ?_⟩; have n0_ := Aside0.mk (Kd.R_elder' (by (with_reducible repeat (first | apply Kd.R_alloc | apply Kd.R_drewN | apply Kd.R_drew)); exact HO104.out) (Kd.R_base ho0) hb); have mA128_ := Aside0.mk (Kd.R_elder' (by (with_reducible repeat (first | apply Kd.R_alloc | apply Kd.R_drewN | apply Kd.R_drew)); exact HM128.out) (Kd.R_base ho0) hb); have n1_ := Aside0.mk (Kd.R_elder' (by (with_reducible repeat (first | apply Kd.R_alloc | apply Kd.R_drewN | apply Kd.R_drew)); exact HO128.out) (Kd.R_base ho0) hb); have n2_ := Aside0.mk (Kd.R_elder' (by (with_reducible repeat (first | apply Kd.R_alloc | apply Kd.R_drewN | apply Kd.R_drew)); exact HO134.out) (Kd.R_base ho0) hb); have n3_ := Aside0.mk (Kd.R_lower (Kd.R_new' (Kd.R_new' (Kd.R_new' ho0 (Kd.R_lt (by (with_reducible repeat (first | apply Kd.R_alloc | apply Kd.R_drewN | apply Kd.R_drew)); exact HO104.out))) (Kd.R_lt (by (with_reducible repeat (first | apply Kd.R_alloc | apply Kd.R_drewN | apply Kd.R_drew)); exact HO128.out))) (Kd.R_lt (by (with_reducible repeat (first | apply Kd.R_alloc | apply Kd.R_drewN | apply Kd.R_drew)); exact HO134.out))) (below_size (by repeat (first | (with_reducible first | exact HB.out | apply below_alloc | apply pw_below_drewN | apply below_drew1) | exact HB.out)))); have n4_ := Aside0.mk (below_step (by repeat (first | (with_reducible first | exact HB.out | apply below_alloc | apply pw_below_drewN | apply below_drew1) | exact HB.out)) hb); clear HO104; clear HO128; clear HM128; clear HO134; clear HB; have HO104 := n0_; have HO128 := n1_; have HM128 := mA128_; clear mA128_; have HO134 := n2_; have HO140 := n3_; have HB := n4_; clear n0_ n1_ n2_ n3_ n4_; (try clear hb); (try clear hb2); (try clear hk); (try clear hi); (try clear ho0)))
     (try simp only [Act.put, List.setIfInBounds_toArray, List.set_cons_zero, List.set_cons_succ])
     go_cut [82] (fun v82 wc => ∃ (kq : Nat) (x82_47 : Bool), v82 = .bool x82_47 ∧ Aside0 (minuetlaw10_Again.j1 kq l1 t126 t129 x82_47 = some r) ∧ Aside0 (kq ≤ k) ∧ Aside0 (Kd.R k34 34 wc w.heap.size (fun k_ => some k_ ≠ (v133 : Value).ownBlock) (.slice Ao51 t126.length co51) t126) ∧ Aside0 (Kd.R k34 34 wc w.heap.size (fun k_ => some k_ ≠ (v133 : Value).ownBlock) (.slice Ao51 (t126.length + 2) co51) (t126 ++ [minuetlaw0_KeptTokens.mark, minuetlaw0_KeptTokens.mark])) ∧ Aside0 (Kd.R k34 34 wc w.heap.size (fun k_ => some k_ ≠ ((.slice Ao51 t126.length co51) : Value).ownBlock) v133 t129) ∧ Aside0 (Below w.heap.size w wc))
     case first =>
      have H := HC48.out
      clear HC48
      replace H := Option.bind_eq_some_iff.mp H
      obtain ⟨t141, A540, H⟩ := H
      replace H : (if t141 = true then (if t130 = t136 then (if t131 = t137 then ((minuetlaw0_Num.f t132).bind fun t142 => (if t142 = t138 then ((minuetlaw0_KeptTokens.f k t126 l1).bind fun t143 => (minuetlaw10_Again.j1 k l1 t126 t129 (!t143))) else (minuetlaw10_Again.j1 k l1 t126 t129 true))) else (minuetlaw10_Again.j1 k l1 t126 t129 true)) else (minuetlaw10_Again.j1 k l1 t126 t129 true)) else (minuetlaw10_Again.j1 k l1 t126 t129 true)) = some r := H
      have A54 := Aside0.mk A540
      clear A540
      by_cases c55 : t141 = true
      · subst c55
        have H1 : (if t130 = t136 then (if t131 = t137 then ((minuetlaw0_Num.f t132).bind fun t142 => (if t142 = t138 then ((minuetlaw0_KeptTokens.f k t126 l1).bind fun t143 => (minuetlaw10_Again.j1 k l1 t126 t129 (!t143))) else (minuetlaw10_Again.j1 k l1 t126 t129 true))) else (minuetlaw10_Again.j1 k l1 t126 t129 true)) else (minuetlaw10_Again.j1 k l1 t126 t129 true)) = some r := by rw [if_pos rfl] at H; exact H
        clear H
        have H := H1
        clear H1
        by_cases c56 : t130 = t136
        · rw [if_pos c56] at H
          have c56b0 : (t130 == t136) = true := beq_iff_eq.mpr c56
          have c56b1 : (t130 != t136) = false := bne_eq_false_iff_eq.mpr c56
          clear c56
          (first | rw [c56b0] | (simp only [i64_w, i32_w]; rw [c56b0]) | skip)
          by_cases c57 : t131 = t137
          · rw [if_pos c57] at H
            have c57b0 : (t131 == t137) = true := beq_iff_eq.mpr c57
            have c57b1 : (t131 != t137) = false := bne_eq_false_iff_eq.mpr c57
            clear c57
            replace H := Option.bind_eq_some_iff.mp H
            obtain ⟨t142, A580, H⟩ := H
            replace H : (if t142 = t138 then ((minuetlaw0_KeptTokens.f k t126 l1).bind fun t143 => (minuetlaw10_Again.j1 k l1 t126 t129 (!t143))) else (minuetlaw10_Again.j1 k l1 t126 t129 true)) = some r := H
            have A58 := Aside0.mk A580
            clear A580
            by_cases c59 : t142 = t138
            · rw [if_pos c59] at H
              have c59b0 : (t142 == t138) = true := beq_iff_eq.mpr c59
              have c59b1 : (t142 != t138) = false := bne_eq_false_iff_eq.mpr c59
              clear c59
              replace H := Option.bind_eq_some_iff.mp H
              obtain ⟨t143, A600, H⟩ := H
              replace H : (minuetlaw10_Again.j1 k l1 t126 t129 (!t143)) = some r := H
              have A60 := Aside0.mk A600
              clear A600
              have H' := Aside0.mk H
              clear H
              obtain ⟨Ao61, co61, eo61⟩ := Kd.R_slice HO134.out
              subst eo61
              obtain ⟨Ao62, co62, eo62⟩ := Kd.R_slice HO140.out
              subst eo62
              go_wp2_with (first | ((with_reducible refine gate_callee (f := 14) rfl ?_); refine goesL_ (some 59) rfl rfl Try.func14 (by kernel_rfl) rfl #[.slice Ao61 t129.length co61, .slice Ao62 t135.length co62] rfl (by (try simp only [List.map_toArray, List.map_cons, List.map_nil]); first | done | rfl | (simp only [List.length_drop, List.length_take]; rfl)) ?_; (with_reducible refine (minuetlaw0_SameTokens.calls k _ _ t129 _ _ t135 true _ ?side1 ?side2 ?side3 ?side4 A54.out).mono ?_); (case side1 => repeat (first | exact (Kd.R_reads' HO134.out).2.2 | (with_reducible refine Kd.C_alloc ?_ _) | (with_reducible refine Kd.C_drewN ?_ _) | (with_reducible refine Kd.C_drew ?_))); (case side2 => exact (Kd.R_reads' HO134.out).2.1); (case side3 => repeat (first | exact (Kd.R_reads' HO140.out).2.2 | (with_reducible refine Kd.C_alloc ?_ _) | (with_reducible refine Kd.C_drewN ?_ _) | (with_reducible refine Kd.C_drew ?_))); (case side4 => exact (Kd.R_reads' HO140.out).2.1); rintro e w' ⟨rfl, ⟨nd, rfl⟩⟩; refine ⟨_, rfl, ?_⟩) | (go_at_call 15; (with_reducible refine (minuetlaw0_Num.calls t132 t142 _ A58.out).mono ?_); rintro e w' ⟨rfl, ⟨nd, rfl⟩⟩) | (go_at_call 21; (with_reducible refine (minuetlaw0_KeptTokens.calls k _ _ t126 _ _ l1 t143 _ ?side1 ?side2 ?side3 ?side4 A60.out ?sideM).mono ?_); (case sideM => refine ⟨(Kd.R_reads' HM128.out).2.1, ?_⟩; repeat (first | exact (Kd.R_reads' HM128.out).2.2 | (with_reducible refine Kd.C_alloc ?_ _) | (with_reducible refine Kd.C_drewN ?_ _) | (with_reducible refine Kd.C_drew ?_))); (case side1 => repeat (first | exact (Kd.R_reads' HO128.out).2.2 | (with_reducible refine Kd.C_alloc ?_ _) | (with_reducible refine Kd.C_drewN ?_ _) | (with_reducible refine Kd.C_drew ?_))); (case side2 => exact (Kd.R_reads' HO128.out).2.1); (case side3 => repeat (first | exact (Kd.C_below HR1.out (by repeat (first | (with_reducible first | exact HB.out | apply below_alloc | apply pw_below_drewN | apply below_drew1) | exact HB.out))) | (with_reducible refine Kd.C_alloc ?_ _) | (with_reducible refine Kd.C_drewN ?_ _) | (with_reducible refine Kd.C_drew ?_))); (case side4 => exact HC1.out); rintro e w' ⟨rfl, ⟨nd, rfl⟩⟩))
              go_meet
              case rel => exact ⟨_, (!t143), (by first | rfl | (simp; done) | (simp [*]; done)), H', ⟨by first | omega | exact Nat.le_refl _⟩, ⟨by (with_reducible repeat (first | apply Kd.R_alloc | apply Kd.R_drewN | apply Kd.R_drew)); exact Kd.R_mono HO128.out (fun _ hk => hk.1.2)⟩, ⟨by (with_reducible repeat (first | apply Kd.R_alloc | apply Kd.R_drewN | apply Kd.R_drew)); exact Kd.R_mono HM128.out (fun _ hk => hk.1.2)⟩, ⟨by (with_reducible repeat (first | apply Kd.R_alloc | apply Kd.R_drewN | apply Kd.R_drew)); exact Kd.R_mono HO134.out (fun _ hk => hk.1.2)⟩, ⟨by repeat (first | (with_reducible first | exact HB.out | apply below_alloc | apply pw_below_drewN | apply below_drew1) | exact HB.out)⟩⟩
            · rw [if_neg c59] at H
              have c59b0 : (t142 == t138) = false := beq_eq_false_iff_ne.mpr c59
              have c59b1 : (t142 != t138) = true := bne_iff_ne.mpr c59
              have H' := Aside0.mk H
              clear H
              obtain ⟨Ao63, co63, eo63⟩ := Kd.R_slice HO134.out
              subst eo63
              obtain ⟨Ao64, co64, eo64⟩ := Kd.R_slice HO140.out
              subst eo64
              go_wp2_with (first | ((with_reducible refine gate_callee (f := 14) rfl ?_); refine goesL_ (some 59) rfl rfl Try.func14 (by kernel_rfl) rfl #[.slice Ao63 t129.length co63, .slice Ao64 t135.length co64] rfl (by (try simp only [List.map_toArray, List.map_cons, List.map_nil]); first | done | rfl | (simp only [List.length_drop, List.length_take]; rfl)) ?_; (with_reducible refine (minuetlaw0_SameTokens.calls k _ _ t129 _ _ t135 true _ ?side1 ?side2 ?side3 ?side4 A54.out).mono ?_); (case side1 => repeat (first | exact (Kd.R_reads' HO134.out).2.2 | (with_reducible refine Kd.C_alloc ?_ _) | (with_reducible refine Kd.C_drewN ?_ _) | (with_reducible refine Kd.C_drew ?_))); (case side2 => exact (Kd.R_reads' HO134.out).2.1); (case side3 => repeat (first | exact (Kd.R_reads' HO140.out).2.2 | (with_reducible refine Kd.C_alloc ?_ _) | (with_reducible refine Kd.C_drewN ?_ _) | (with_reducible refine Kd.C_drew ?_))); (case side4 => exact (Kd.R_reads' HO140.out).2.1); rintro e w' ⟨rfl, ⟨nd, rfl⟩⟩; refine ⟨_, rfl, ?_⟩) | (go_at_call 15; (with_reducible refine (minuetlaw0_Num.calls t132 t142 _ A58.out).mono ?_); rintro e w' ⟨rfl, ⟨nd, rfl⟩⟩))
              go_meet
              case rel => exact ⟨_, (true), (by first | rfl | (simp; done) | (simp [*]; done)), H', ⟨by first | omega | exact Nat.le_refl _⟩, ⟨by (with_reducible repeat (first | apply Kd.R_alloc | apply Kd.R_drewN | apply Kd.R_drew)); exact Kd.R_mono HO128.out (fun _ hk => hk.1.2)⟩, ⟨by (with_reducible repeat (first | apply Kd.R_alloc | apply Kd.R_drewN | apply Kd.R_drew)); exact Kd.R_mono HM128.out (fun _ hk => hk.1.2)⟩, ⟨by (with_reducible repeat (first | apply Kd.R_alloc | apply Kd.R_drewN | apply Kd.R_drew)); exact Kd.R_mono HO134.out (fun _ hk => hk.1.2)⟩, ⟨by repeat (first | (with_reducible first | exact HB.out | apply below_alloc | apply pw_below_drewN | apply below_drew1) | exact HB.out)⟩⟩
          · rw [if_neg c57] at H
            have c57b0 : (t131 == t137) = false := beq_eq_false_iff_ne.mpr c57
            have c57b1 : (t131 != t137) = true := bne_iff_ne.mpr c57
            have H' := Aside0.mk H
            clear H
            obtain ⟨Ao65, co65, eo65⟩ := Kd.R_slice HO134.out
            subst eo65
            obtain ⟨Ao66, co66, eo66⟩ := Kd.R_slice HO140.out
            subst eo66
            go_wp2_with (first | ((with_reducible refine gate_callee (f := 14) rfl ?_); refine goesL_ (some 59) rfl rfl Try.func14 (by kernel_rfl) rfl #[.slice Ao65 t129.length co65, .slice Ao66 t135.length co66] rfl (by (try simp only [List.map_toArray, List.map_cons, List.map_nil]); first | done | rfl | (simp only [List.length_drop, List.length_take]; rfl)) ?_; (with_reducible refine (minuetlaw0_SameTokens.calls k _ _ t129 _ _ t135 true _ ?side1 ?side2 ?side3 ?side4 A54.out).mono ?_); (case side1 => repeat (first | exact (Kd.R_reads' HO134.out).2.2 | (with_reducible refine Kd.C_alloc ?_ _) | (with_reducible refine Kd.C_drewN ?_ _) | (with_reducible refine Kd.C_drew ?_))); (case side2 => exact (Kd.R_reads' HO134.out).2.1); (case side3 => repeat (first | exact (Kd.R_reads' HO140.out).2.2 | (with_reducible refine Kd.C_alloc ?_ _) | (with_reducible refine Kd.C_drewN ?_ _) | (with_reducible refine Kd.C_drew ?_))); (case side4 => exact (Kd.R_reads' HO140.out).2.1); rintro e w' ⟨rfl, ⟨nd, rfl⟩⟩; refine ⟨_, rfl, ?_⟩))
            go_meet
            case rel => exact ⟨_, (true), (by first | rfl | (simp; done) | (simp [*]; done)), H', ⟨by first | omega | exact Nat.le_refl _⟩, ⟨by (with_reducible repeat (first | apply Kd.R_alloc | apply Kd.R_drewN | apply Kd.R_drew)); exact Kd.R_mono HO128.out (fun _ hk => hk.1.2)⟩, ⟨by (with_reducible repeat (first | apply Kd.R_alloc | apply Kd.R_drewN | apply Kd.R_drew)); exact Kd.R_mono HM128.out (fun _ hk => hk.1.2)⟩, ⟨by (with_reducible repeat (first | apply Kd.R_alloc | apply Kd.R_drewN | apply Kd.R_drew)); exact Kd.R_mono HO134.out (fun _ hk => hk.1.2)⟩, ⟨by repeat (first | (with_reducible first | exact HB.out | apply below_alloc | apply pw_below_drewN | apply below_drew1) | exact HB.out)⟩⟩
        · rw [if_neg c56] at H
          have c56b0 : (t130 == t136) = false := beq_eq_false_iff_ne.mpr c56
          have c56b1 : (t130 != t136) = true := bne_iff_ne.mpr c56
          (first | rw [c56b0] | (simp only [i64_w, i32_w]; rw [c56b0]) | skip)
          have H' := Aside0.mk H
          clear H
          obtain ⟨Ao67, co67, eo67⟩ := Kd.R_slice HO134.out
          subst eo67
          obtain ⟨Ao68, co68, eo68⟩ := Kd.R_slice HO140.out
          subst eo68
          go_wp2_with (first | ((with_reducible refine gate_callee (f := 14) rfl ?_); refine goesL_ (some 59) rfl rfl Try.func14 (by kernel_rfl) rfl #[.slice Ao67 t129.length co67, .slice Ao68 t135.length co68] rfl (by (try simp only [List.map_toArray, List.map_cons, List.map_nil]); first | done | rfl | (simp only [List.length_drop, List.length_take]; rfl)) ?_; (with_reducible refine (minuetlaw0_SameTokens.calls k _ _ t129 _ _ t135 true _ ?side1 ?side2 ?side3 ?side4 A54.out).mono ?_); (case side1 => repeat (first | exact (Kd.R_reads' HO134.out).2.2 | (with_reducible refine Kd.C_alloc ?_ _) | (with_reducible refine Kd.C_drewN ?_ _) | (with_reducible refine Kd.C_drew ?_))); (case side2 => exact (Kd.R_reads' HO134.out).2.1); (case side3 => repeat (first | exact (Kd.R_reads' HO140.out).2.2 | (with_reducible refine Kd.C_alloc ?_ _) | (with_reducible refine Kd.C_drewN ?_ _) | (with_reducible refine Kd.C_drew ?_))); (case side4 => exact (Kd.R_reads' HO140.out).2.1); rintro e w' ⟨rfl, ⟨nd, rfl⟩⟩; refine ⟨_, rfl, ?_⟩))
          go_meet
          case rel => exact ⟨_, (true), (by first | rfl | (simp; done) | (simp [*]; done)), H', ⟨by first | omega | exact Nat.le_refl _⟩, ⟨by (with_reducible repeat (first | apply Kd.R_alloc | apply Kd.R_drewN | apply Kd.R_drew)); exact Kd.R_mono HO128.out (fun _ hk => hk.1.2)⟩, ⟨by (with_reducible repeat (first | apply Kd.R_alloc | apply Kd.R_drewN | apply Kd.R_drew)); exact Kd.R_mono HM128.out (fun _ hk => hk.1.2)⟩, ⟨by (with_reducible repeat (first | apply Kd.R_alloc | apply Kd.R_drewN | apply Kd.R_drew)); exact Kd.R_mono HO134.out (fun _ hk => hk.1.2)⟩, ⟨by repeat (first | (with_reducible first | exact HB.out | apply below_alloc | apply pw_below_drewN | apply below_drew1) | exact HB.out)⟩⟩
      · replace c55 := Bool.eq_false_iff.mpr c55
        subst c55
        have H1 : (minuetlaw10_Again.j1 k l1 t126 t129 true) = some r := by rw [if_neg (show ¬ (false = true) by decide)] at H; exact H
        clear H
        have H := H1
        clear H1
        have H' := Aside0.mk H
        clear H
        obtain ⟨Ao69, co69, eo69⟩ := Kd.R_slice HO134.out
        subst eo69
        obtain ⟨Ao70, co70, eo70⟩ := Kd.R_slice HO140.out
        subst eo70
        go_wp2_with (first | ((with_reducible refine gate_callee (f := 14) rfl ?_); refine goesL_ (some 59) rfl rfl Try.func14 (by kernel_rfl) rfl #[.slice Ao69 t129.length co69, .slice Ao70 t135.length co70] rfl (by (try simp only [List.map_toArray, List.map_cons, List.map_nil]); first | done | rfl | (simp only [List.length_drop, List.length_take]; rfl)) ?_; (with_reducible refine (minuetlaw0_SameTokens.calls k _ _ t129 _ _ t135 false _ ?side1 ?side2 ?side3 ?side4 A54.out).mono ?_); (case side1 => repeat (first | exact (Kd.R_reads' HO134.out).2.2 | (with_reducible refine Kd.C_alloc ?_ _) | (with_reducible refine Kd.C_drewN ?_ _) | (with_reducible refine Kd.C_drew ?_))); (case side2 => exact (Kd.R_reads' HO134.out).2.1); (case side3 => repeat (first | exact (Kd.R_reads' HO140.out).2.2 | (with_reducible refine Kd.C_alloc ?_ _) | (with_reducible refine Kd.C_drewN ?_ _) | (with_reducible refine Kd.C_drew ?_))); (case side4 => exact (Kd.R_reads' HO140.out).2.1); rintro e w' ⟨rfl, ⟨nd, rfl⟩⟩; refine ⟨_, rfl, ?_⟩))
        go_meet
        case rel => exact ⟨_, (true), (by first | rfl | (simp; done) | (simp [*]; done)), H', ⟨by first | omega | exact Nat.le_refl _⟩, ⟨by (with_reducible repeat (first | apply Kd.R_alloc | apply Kd.R_drewN | apply Kd.R_drew)); exact Kd.R_mono HO128.out (fun _ hk => hk.1.2)⟩, ⟨by (with_reducible repeat (first | apply Kd.R_alloc | apply Kd.R_drewN | apply Kd.R_drew)); exact Kd.R_mono HM128.out (fun _ hk => hk.1.2)⟩, ⟨by (with_reducible repeat (first | apply Kd.R_alloc | apply Kd.R_drewN | apply Kd.R_drew)); exact Kd.R_mono HO134.out (fun _ hk => hk.1.2)⟩, ⟨by repeat (first | (with_reducible first | exact HB.out | apply below_alloc | apply pw_below_drewN | apply below_drew1) | exact HB.out)⟩⟩
     case rest =>
      clear HC48
      try clear c1
      try clear c2
      try clear p2
      try clear c3
      try clear c4
      try clear c5
      try clear c7
      try clear c9
      try clear c9b0
      try clear c9b1
      try clear c13
      try clear c14
      try clear c16
      try clear c18
      try clear c19
      try clear c20
      try clear c21
      try clear c22
      try clear c22b0
      try clear c22b1
      try clear c23
      try clear c23b0
      try clear c23b1
      try clear c25
      try clear c25b0
      try clear c25b1
      try clear c37
      try clear c40
      try clear c55
      try clear c56
      try clear c56b0
      try clear c56b1
      try clear c57
      try clear c57b0
      try clear c57b1
      try clear c59
      try clear c59b0
      try clear c59b1
      try clear p2
      obtain ⟨kq, x82_47, rfl, HA, HJ47, HO_15, HM_15, HO_16, HB⟩ := hcut
      cases kq with
      | zero => exact absurd HA.out (by simp [minuetlaw10_Again.j1])
      | succ kj47 =>
       have H := HA.out
       clear HA
       simp only [minuetlaw10_Again.j1] at H
       by_cases c71 : x82_47 = true
       · subst c71
         have H1 : (none) = some r := by rw [if_pos rfl] at H; exact H
         clear H
         have H := H1
         clear H1
         exact absurd H (by simp)
       · replace c71 := Bool.eq_false_iff.mpr c71
         subst c71
         have H1 : ((minuetlaw0_SpoilTokens.f kj47 t129).bind fun t144 => ((minuetlaw0_KeptTokens.f kj47 t126 l1).bind fun t145 => (if t145 = true then ((minuetlaw10_awake.f kj47).bind fun t146 => (some t146)) else (none)))) = some r := by rw [if_neg (show ¬ (false = true) by decide)] at H; exact H
         clear H
         have H := H1
         clear H1
         replace H := Option.bind_eq_some_iff.mp H
         obtain ⟨t144, A720, H⟩ := H
         replace H : ((minuetlaw0_KeptTokens.f kj47 t126 l1).bind fun t145 => (if t145 = true then ((minuetlaw10_awake.f kj47).bind fun t146 => (some t146)) else (none))) = some r := H
         have A72 := Aside0.mk A720
         clear A720
         replace H := Option.bind_eq_some_iff.mp H
         obtain ⟨t145, A730, H⟩ := H
         replace H : (if t145 = true then ((minuetlaw10_awake.f kj47).bind fun t146 => (some t146)) else (none)) = some r := H
         have A73 := Aside0.mk A730
         clear A730
         by_cases c74 : t145 = true
         · subst c74
           have H1 : ((minuetlaw10_awake.f kj47).bind fun t146 => (some t146)) = some r := by rw [if_pos rfl] at H; exact H
           clear H
           have H := H1
           clear H1
           replace H := Option.bind_eq_some_iff.mp H
           obtain ⟨t146, A750, H⟩ := H
           replace H : (some t146) = some r := H
           have A75 := Aside0.mk A750
           clear A750
           obtain rfl := Option.some.inj H
           obtain ⟨Ao76, co76, eo76⟩ := Kd.R_slice HO_16.out
           subst eo76
           go_wp2_with (first | ((with_reducible refine gate_callee (f := 16) rfl ?_); refine goesL_ (some 84) rfl rfl Try.func16 (by kernel_rfl) rfl #[.slice Ao76 t129.length co76] rfl (by (try simp only [List.map_toArray, List.map_cons, List.map_nil]); first | done | rfl | (simp only [List.length_drop, List.length_take]; rfl)) ?_; (with_reducible refine (minuetlaw0_SpoilTokens.calls kj47 (fun k_ => some k_ = (.slice Ao76 t129.length co76 : Value).ownBlock) (.slice Ao76 t129.length co76) t129 t144 w _ ?side1 ?side2 A72.out).mono ?_); (case side1 => repeat (first | (with_reducible first | exact HB.out | apply below_alloc | apply pw_below_drewN | apply below_drew1) | exact HB.out)); (case side2 => exact Kd.R_tight rfl HO_16.out); rintro e w77 ⟨rfl, hy0, hb, hkp⟩; refine ⟨_, rfl, ?_⟩; have mA_15_ := Aside0.mk (Kd.R_mono (ok' := fun k_ => some k_ ≠ (.slice Ao76 t129.length co76 : Value).ownBlock) (Kd.R_keptB (HM_15.out) hkp (fun k_ hk_ hs_ => (hk_) hs_)) (fun k_ hk_ => hk_.1)); have n0_ := Aside0.mk (Kd.R_mono (ok' := fun k_ => some k_ ≠ (.slice Ao76 t129.length co76 : Value).ownBlock) (Kd.R_keptB (HO_15.out) hkp (fun k_ hk_ hs_ => (hk_) hs_)) (fun k_ hk_ => hk_.1)); have n1_ := Aside0.mk (Kd.R_reok rfl hy0 (fun k_ e_ => HO_16.out.1 k_ e_)); have n2_ := Aside0.mk (hb); clear HO_15; clear HM_15; clear HO_16; clear HB; have HO_15 := n0_; have HM_15 := mA_15_; clear mA_15_; have HO_16 := n1_; have HB := n2_; clear n0_ n1_ n2_; (try clear hb); (try clear hkp); (try clear hy0)) | ((with_reducible refine gate_callee (f := 21) rfl ?_); refine goesL_ (some 87) rfl rfl Try.func21 (by kernel_rfl) rfl #[.slice Ao51 t126.length co51, .slice A1 l1.length c1] rfl (by (try simp only [List.map_toArray, List.map_cons, List.map_nil]); first | done | rfl | (simp only [List.length_drop, List.length_take]; rfl)) ?_; (with_reducible refine (minuetlaw0_KeptTokens.calls kj47 _ _ t126 _ _ l1 true _ ?side1 ?side2 ?side3 ?side4 A73.out ?sideM).mono ?_); (case sideM => refine ⟨(Kd.R_reads' HM_15.out).2.1, ?_⟩; repeat (first | exact (Kd.R_reads' HM_15.out).2.2 | (with_reducible refine Kd.C_alloc ?_ _) | (with_reducible refine Kd.C_drewN ?_ _) | (with_reducible refine Kd.C_drew ?_))); (case side1 => repeat (first | exact (Kd.R_reads' HO_15.out).2.2 | (with_reducible refine Kd.C_alloc ?_ _) | (with_reducible refine Kd.C_drewN ?_ _) | (with_reducible refine Kd.C_drew ?_))); (case side2 => exact (Kd.R_reads' HO_15.out).2.1); (case side3 => repeat (first | exact (Kd.C_below HR1.out HB.out) | (with_reducible refine Kd.C_alloc ?_ _) | (with_reducible refine Kd.C_drewN ?_ _) | (with_reducible refine Kd.C_drew ?_))); (case side4 => exact HC1.out); rintro e w' ⟨rfl, ⟨nd, rfl⟩⟩; refine ⟨_, rfl, ?_⟩) | (go_at_call 22; (with_reducible refine (minuetlaw10_awake.calls kj47  t146 _ (MaxOk.of HM_.out (by repeat (first | (with_reducible first | exact HB.out | apply below_alloc | apply pw_below_drewN | apply below_drew1) | exact HB.out))) A75.out).mono ?_); rintro e w78 ⟨rfl, hb⟩; have mA_15_ := Aside0.mk (Kd.R_below (by (with_reducible repeat (first | apply Kd.R_alloc | apply Kd.R_drewN | apply Kd.R_drew)); exact HM_15.out) hb); have n0_ := Aside0.mk (Kd.R_below (by (with_reducible repeat (first | apply Kd.R_alloc | apply Kd.R_drewN | apply Kd.R_drew)); exact HO_15.out) hb); have n1_ := Aside0.mk (Kd.R_below (by (with_reducible repeat (first | apply Kd.R_alloc | apply Kd.R_drewN | apply Kd.R_drew)); exact HO_16.out) hb); have n2_ := Aside0.mk (below_step (by repeat (first | (with_reducible first | exact HB.out | apply below_alloc | apply pw_below_drewN | apply below_drew1) | exact HB.out)) hb); clear HO_15; clear HM_15; clear HO_16; clear HB; have HO_15 := n0_; have HM_15 := mA_15_; clear mA_15_; have HO_16 := n1_; have HB := n2_; clear n0_ n1_ n2_; (try clear hb); (try clear hb2); (try clear hk); (try clear hi)))
           go_ret
           exact ⟨by first | rfl | (simp [errW_none, errW_some] <;> rfl) | (simp [*, errW_none, errW_some] <;> rfl), by repeat (first | (with_reducible first | exact HB.out | apply below_alloc | apply pw_below_drewN | apply below_drew1) | exact HB.out)⟩
         · replace c74 := Bool.eq_false_iff.mpr c74
           subst c74
           have H1 : (none) = some r := by rw [if_neg (show ¬ (false = true) by decide)] at H; exact H
           clear H
           have H := H1
           clear H1
           exact absurd H (by simp)
 · replace c7 := Bool.eq_false_iff.mpr c7
   subst c7
   have H1 : ((minuetlaw0_LendTokens.f l1).bind fun t147 => ((relex_Again.f k a0 t147 a3 a4 a5).bind fun bt150 => ((minuetref9_Again.f k a0 l1 a3 a4 a5).bind fun bt156 => ((minuetlaw0_SameTokens.f k bt150.1 bt156.1).bind fun t162 => (if t162 = true then (if bt150.2.1 = bt156.2.1 then (if bt150.2.2.1 = bt156.2.2.1 then ((minuetlaw0_Num.f bt150.2.2.2).bind fun t163 => (if t163 = bt156.2.2.2 then ((minuetlaw0_KeptTokens.f k t147 l1).bind fun t164 => (minuetlaw10_Again.j2 k l1 t147 bt150.1 (!t164))) else (minuetlaw10_Again.j2 k l1 t147 bt150.1 true))) else (minuetlaw10_Again.j2 k l1 t147 bt150.1 true)) else (minuetlaw10_Again.j2 k l1 t147 bt150.1 true)) else (minuetlaw10_Again.j2 k l1 t147 bt150.1 true)))))) = some r := by rw [if_neg (show ¬ (false = true) by decide)] at H; exact H
   clear H
   have H := H1
   clear H1
   replace H := Option.bind_eq_some_iff.mp H
   obtain ⟨t147, A790, H⟩ := H
   replace H : ((relex_Again.f k a0 t147 a3 a4 a5).bind fun bt150 => ((minuetref9_Again.f k a0 l1 a3 a4 a5).bind fun bt156 => ((minuetlaw0_SameTokens.f k bt150.1 bt156.1).bind fun t162 => (if t162 = true then (if bt150.2.1 = bt156.2.1 then (if bt150.2.2.1 = bt156.2.2.1 then ((minuetlaw0_Num.f bt150.2.2.2).bind fun t163 => (if t163 = bt156.2.2.2 then ((minuetlaw0_KeptTokens.f k t147 l1).bind fun t164 => (minuetlaw10_Again.j2 k l1 t147 bt150.1 (!t164))) else (minuetlaw10_Again.j2 k l1 t147 bt150.1 true))) else (minuetlaw10_Again.j2 k l1 t147 bt150.1 true)) else (minuetlaw10_Again.j2 k l1 t147 bt150.1 true)) else (minuetlaw10_Again.j2 k l1 t147 bt150.1 true))))) = some r := H
   have A79 := Aside0.mk A790
   clear A790
   replace H := Option.bind_eq_some_iff.mp H
   obtain ⟨⟨t150, t151, t152, t153⟩, A800, H⟩ := H
   replace H : ((minuetref9_Again.f k a0 l1 a3 a4 a5).bind fun bt156 => ((minuetlaw0_SameTokens.f k t150 bt156.1).bind fun t162 => (if t162 = true then (if t151 = bt156.2.1 then (if t152 = bt156.2.2.1 then ((minuetlaw0_Num.f t153).bind fun t163 => (if t163 = bt156.2.2.2 then ((minuetlaw0_KeptTokens.f k t147 l1).bind fun t164 => (minuetlaw10_Again.j2 k l1 t147 t150 (!t164))) else (minuetlaw10_Again.j2 k l1 t147 t150 true))) else (minuetlaw10_Again.j2 k l1 t147 t150 true)) else (minuetlaw10_Again.j2 k l1 t147 t150 true)) else (minuetlaw10_Again.j2 k l1 t147 t150 true)))) = some r := H
   have A80 := Aside0.mk A800
   clear A800
   replace H := Option.bind_eq_some_iff.mp H
   obtain ⟨⟨t156, t157, t158, t159⟩, A810, H⟩ := H
   replace H : ((minuetlaw0_SameTokens.f k t150 t156).bind fun t162 => (if t162 = true then (if t151 = t157 then (if t152 = t158 then ((minuetlaw0_Num.f t153).bind fun t163 => (if t163 = t159 then ((minuetlaw0_KeptTokens.f k t147 l1).bind fun t164 => (minuetlaw10_Again.j2 k l1 t147 t150 (!t164))) else (minuetlaw10_Again.j2 k l1 t147 t150 true))) else (minuetlaw10_Again.j2 k l1 t147 t150 true)) else (minuetlaw10_Again.j2 k l1 t147 t150 true)) else (minuetlaw10_Again.j2 k l1 t147 t150 true))) = some r := H
   have A81 := Aside0.mk A810
   clear A810
   have HC82 := Aside0.mk H
   clear H
   go_enter Try.func5, Try.ntmps5
   go_upto_region 8 with (first | ((with_reducible refine gate_callee (f := 18) rfl ?_); refine goesL_ (some 34) rfl rfl Try.func18 (by kernel_rfl) rfl #[.slice A1 l1.length c1] rfl (by (try simp only [List.map_toArray, List.map_cons, List.map_nil]); first | done | rfl | (simp only [List.length_drop, List.length_take]; rfl)) ?_; (with_reducible refine (minuetlaw0_LendTokens.calls2 _ _ l1 t147 _ ?side1 ?side2 A79.out).mono ?_); (case side1 => repeat (first | exact HR1.out | (with_reducible refine Kd.C_alloc ?_ _) | (with_reducible refine Kd.C_drewN ?_ _) | (with_reducible refine Kd.C_drew ?_))); (case side2 => exact HC1.out); rintro e w83 ⟨v148, rfl, ho0, hlent_, hb⟩; refine ⟨_, rfl, ?_⟩; have mA149_ := Aside0.mk (minuetlaw0_KeptTokens.Lent_map hlent_ (fun _ _ hM_ => (Kd.R_lower hM_ (below_size (by repeat (first | (with_reducible first | exact HB.out | apply below_alloc | apply pw_below_drewN | apply below_drew1) | exact HB.out)))))); have n0_ := Aside0.mk (Kd.R_lower ho0 (below_size (by repeat (first | (with_reducible first | exact HB.out | apply below_alloc | apply pw_below_drewN | apply below_drew1) | exact HB.out)))); have n1_ := Aside0.mk (below_step (by repeat (first | (with_reducible first | exact HB.out | apply below_alloc | apply pw_below_drewN | apply below_drew1) | exact HB.out)) hb); clear HB; have HO149 := n0_; have HM149 := mA149_; clear mA149_; have HB := n1_; clear n0_ n1_; (try clear hb); (try clear hb2); (try clear hk); (try clear hi); (try clear ho0); (try clear hlent_); obtain ⟨Ao84, co84, eo84⟩ := Kd.R_slice HO149.out; subst eo84; have HN_ := Aside0.mk (minuetlaw0_KeptTokens.Lent_R HM149.out); clear HM149; have HM149 := HN_; clear HN_) | ((with_reducible refine gate_callee (f := 19) rfl ?_); refine goesL_ (some 41) rfl rfl Try.func19 (by kernel_rfl) rfl #[.string a0, .slice Ao84 t147.length co84, .int .i64 a3, .int .i64 a4, .string a5] rfl (by (try simp only [List.map_toArray, List.map_cons, List.map_nil]); first | done | rfl | (simp only [List.length_drop, List.length_take]; rfl)) ?_; (with_reducible refine (relex_Again.calls k a0 _ _ t147 a3 a4 a5 t150 t151 t152 t153 _ ?side1 ?side2 (MaxOk.of HM_.out (by repeat (first | (with_reducible first | exact HB.out | apply below_alloc | apply pw_below_drewN | apply below_drew1) | exact HB.out))) A80.out).mono ?_); (case side1 => repeat (first | exact (Kd.R_reads' HO149.out).2.2 | (with_reducible refine Kd.C_alloc ?_ _) | (with_reducible refine Kd.C_drewN ?_ _) | (with_reducible refine Kd.C_drew ?_))); (case side2 => exact (Kd.R_reads' HO149.out).2.1); rintro e w85 ⟨v154, rfl, ho0, hb⟩; refine ⟨_, rfl, ?_⟩; have mA149_ := Aside0.mk (Kd.R_elder' (by (with_reducible repeat (first | apply Kd.R_alloc | apply Kd.R_drewN | apply Kd.R_drew)); exact HM149.out) (Kd.R_base ho0) hb); have n0_ := Aside0.mk (Kd.R_elder' (by (with_reducible repeat (first | apply Kd.R_alloc | apply Kd.R_drewN | apply Kd.R_drew)); exact HO149.out) (Kd.R_base ho0) hb); have n1_ := Aside0.mk (Kd.R_lower (Kd.R_new' ho0 (Kd.R_lt (by (with_reducible repeat (first | apply Kd.R_alloc | apply Kd.R_drewN | apply Kd.R_drew)); exact HO149.out))) (below_size (by repeat (first | (with_reducible first | exact HB.out | apply below_alloc | apply pw_below_drewN | apply below_drew1) | exact HB.out)))); have n2_ := Aside0.mk (below_step (by repeat (first | (with_reducible first | exact HB.out | apply below_alloc | apply pw_below_drewN | apply below_drew1) | exact HB.out)) hb); clear HO149; clear HM149; clear HB; have HO149 := n0_; have HM149 := mA149_; clear mA149_; have HO155 := n1_; have HB := n2_; clear n0_ n1_ n2_; (try clear hb); (try clear hb2); (try clear hk); (try clear hi); (try clear ho0)) | ((with_reducible refine gate_callee (f := 20) rfl ?_); refine goesL_ (some 52) rfl rfl Try.func20 (by kernel_rfl) rfl #[.string a0, .slice A1 l1.length c1, .int .i64 a3, .int .i64 a4, .string a5] rfl (by (try simp only [List.map_toArray, List.map_cons, List.map_nil]); first | done | rfl | (simp only [List.length_drop, List.length_take]; rfl)) ?_; (with_reducible refine (minuetref9_Again.calls k a0 _ _ l1 a3 a4 a5 t156 t157 t158 t159 _ ?side1 ?side2 A81.out).mono ?_); (case side1 => repeat (first | exact (Kd.C_below HR1.out HB.out) | (with_reducible refine Kd.C_alloc ?_ _) | (with_reducible refine Kd.C_drewN ?_ _) | (with_reducible refine Kd.C_drew ?_))); (case side2 => exact HC1.out); rintro e w86 ⟨v160, rfl, ho0, hb⟩; refine ⟨_, rfl, ?_⟩; have mA149_ := Aside0.mk (Kd.R_elder' (by (with_reducible repeat (first | apply Kd.R_alloc | apply Kd.R_drewN | apply Kd.R_drew)); exact HM149.out) (Kd.R_base ho0) hb); have n0_ := Aside0.mk (Kd.R_elder' (by (with_reducible repeat (first | apply Kd.R_alloc | apply Kd.R_drewN | apply Kd.R_drew)); exact HO149.out) (Kd.R_base ho0) hb); have n1_ := Aside0.mk (Kd.R_elder' (by (with_reducible repeat (first | apply Kd.R_alloc | apply Kd.R_drewN | apply Kd.R_drew)); exact HO155.out) (Kd.R_base ho0) hb); have n2_ := Aside0.mk (Kd.R_lower (Kd.R_new' (Kd.R_new' ho0 (Kd.R_lt (by (with_reducible repeat (first | apply Kd.R_alloc | apply Kd.R_drewN | apply Kd.R_drew)); exact HO149.out))) (Kd.R_lt (by (with_reducible repeat (first | apply Kd.R_alloc | apply Kd.R_drewN | apply Kd.R_drew)); exact HO155.out))) (below_size (by repeat (first | (with_reducible first | exact HB.out | apply below_alloc | apply pw_below_drewN | apply below_drew1) | exact HB.out)))); have n3_ := Aside0.mk (below_step (by repeat (first | (with_reducible first | exact HB.out | apply below_alloc | apply pw_below_drewN | apply below_drew1) | exact HB.out)) hb); clear HO149; clear HM149; clear HO155; clear HB; have HO149 := n0_; have HM149 := mA149_; clear mA149_; have HO155 := n1_; have HO161 := n2_; have HB := n3_; clear n0_ n1_ n2_ n3_; (try clear hb); (try clear hb2); (try clear hk); (try clear hi); (try clear ho0)))
   (try simp only [Act.put, List.setIfInBounds_toArray, List.set_cons_zero, List.set_cons_succ])
   go_cut [82] (fun v82 wc => ∃ (kq : Nat) (x82_81 : Bool), v82 = .bool x82_81 ∧ Aside0 (minuetlaw10_Again.j2 kq l1 t147 t150 x82_81 = some r) ∧ Aside0 (kq ≤ k) ∧ Aside0 (Kd.R k34 34 wc w.heap.size (fun k_ => some k_ ≠ (v154 : Value).ownBlock) (.slice Ao84 t147.length co84) t147) ∧ Aside0 (Kd.R k34 34 wc w.heap.size (fun k_ => some k_ ≠ (v154 : Value).ownBlock) (.slice Ao84 (t147.length + 2) co84) (t147 ++ [minuetlaw0_KeptTokens.mark, minuetlaw0_KeptTokens.mark])) ∧ Aside0 (Kd.R k34 34 wc w.heap.size (fun k_ => some k_ ≠ ((.slice Ao84 t147.length co84) : Value).ownBlock) v154 t150) ∧ Aside0 (Below w.heap.size w wc))
   case first =>
    have H := HC82.out
    clear HC82
    replace H := Option.bind_eq_some_iff.mp H
    obtain ⟨t162, A870, H⟩ := H
    replace H : (if t162 = true then (if t151 = t157 then (if t152 = t158 then ((minuetlaw0_Num.f t153).bind fun t163 => (if t163 = t159 then ((minuetlaw0_KeptTokens.f k t147 l1).bind fun t164 => (minuetlaw10_Again.j2 k l1 t147 t150 (!t164))) else (minuetlaw10_Again.j2 k l1 t147 t150 true))) else (minuetlaw10_Again.j2 k l1 t147 t150 true)) else (minuetlaw10_Again.j2 k l1 t147 t150 true)) else (minuetlaw10_Again.j2 k l1 t147 t150 true)) = some r := H
    have A87 := Aside0.mk A870
    clear A870
    by_cases c88 : t162 = true
    · subst c88
      have H1 : (if t151 = t157 then (if t152 = t158 then ((minuetlaw0_Num.f t153).bind fun t163 => (if t163 = t159 then ((minuetlaw0_KeptTokens.f k t147 l1).bind fun t164 => (minuetlaw10_Again.j2 k l1 t147 t150 (!t164))) else (minuetlaw10_Again.j2 k l1 t147 t150 true))) else (minuetlaw10_Again.j2 k l1 t147 t150 true)) else (minuetlaw10_Again.j2 k l1 t147 t150 true)) = some r := by rw [if_pos rfl] at H; exact H
      clear H
      have H := H1
      clear H1
      by_cases c89 : t151 = t157
      · rw [if_pos c89] at H
        have c89b0 : (t151 == t157) = true := beq_iff_eq.mpr c89
        have c89b1 : (t151 != t157) = false := bne_eq_false_iff_eq.mpr c89
        clear c89
        (first | rw [c89b0] | (simp only [i64_w, i32_w]; rw [c89b0]) | skip)
        by_cases c90 : t152 = t158
        · rw [if_pos c90] at H
          have c90b0 : (t152 == t158) = true := beq_iff_eq.mpr c90
          have c90b1 : (t152 != t158) = false := bne_eq_false_iff_eq.mpr c90
          clear c90
          replace H := Option.bind_eq_some_iff.mp H
          obtain ⟨t163, A910, H⟩ := H
          replace H : (if t163 = t159 then ((minuetlaw0_KeptTokens.f k t147 l1).bind fun t164 => (minuetlaw10_Again.j2 k l1 t147 t150 (!t164))) else (minuetlaw10_Again.j2 k l1 t147 t150 true)) = some r := H
          have A91 := Aside0.mk A910
          clear A910
          by_cases c92 : t163 = t159
          · rw [if_pos c92] at H
            have c92b0 : (t163 == t159) = true := beq_iff_eq.mpr c92
            have c92b1 : (t163 != t159) = false := bne_eq_false_iff_eq.mpr c92
            clear c92
            replace H := Option.bind_eq_some_iff.mp H
            obtain ⟨t164, A930, H⟩ := H
            replace H : (minuetlaw10_Again.j2 k l1 t147 t150 (!t164)) = some r := H
            have A93 := Aside0.mk A930
            clear A930
            have H' := Aside0.mk H
            clear H
            obtain ⟨Ao94, co94, eo94⟩ := Kd.R_slice HO155.out
            subst eo94
            obtain ⟨Ao95, co95, eo95⟩ := Kd.R_slice HO161.out
            subst eo95
            go_wp2_with (first | ((with_reducible refine gate_callee (f := 14) rfl ?_); refine goesL_ (some 59) rfl rfl Try.func14 (by kernel_rfl) rfl #[.slice Ao94 t150.length co94, .slice Ao95 t156.length co95] rfl (by (try simp only [List.map_toArray, List.map_cons, List.map_nil]); first | done | rfl | (simp only [List.length_drop, List.length_take]; rfl)) ?_; (with_reducible refine (minuetlaw0_SameTokens.calls k _ _ t150 _ _ t156 true _ ?side1 ?side2 ?side3 ?side4 A87.out).mono ?_); (case side1 => repeat (first | exact (Kd.R_reads' HO155.out).2.2 | (with_reducible refine Kd.C_alloc ?_ _) | (with_reducible refine Kd.C_drewN ?_ _) | (with_reducible refine Kd.C_drew ?_))); (case side2 => exact (Kd.R_reads' HO155.out).2.1); (case side3 => repeat (first | exact (Kd.R_reads' HO161.out).2.2 | (with_reducible refine Kd.C_alloc ?_ _) | (with_reducible refine Kd.C_drewN ?_ _) | (with_reducible refine Kd.C_drew ?_))); (case side4 => exact (Kd.R_reads' HO161.out).2.1); rintro e w' ⟨rfl, ⟨nd, rfl⟩⟩; refine ⟨_, rfl, ?_⟩) | (go_at_call 15; (with_reducible refine (minuetlaw0_Num.calls t153 t163 _ A91.out).mono ?_); rintro e w' ⟨rfl, ⟨nd, rfl⟩⟩) | (go_at_call 21; (with_reducible refine (minuetlaw0_KeptTokens.calls k _ _ t147 _ _ l1 t164 _ ?side1 ?side2 ?side3 ?side4 A93.out ?sideM).mono ?_); (case sideM => refine ⟨(Kd.R_reads' HM149.out).2.1, ?_⟩; repeat (first | exact (Kd.R_reads' HM149.out).2.2 | (with_reducible refine Kd.C_alloc ?_ _) | (with_reducible refine Kd.C_drewN ?_ _) | (with_reducible refine Kd.C_drew ?_))); (case side1 => repeat (first | exact (Kd.R_reads' HO149.out).2.2 | (with_reducible refine Kd.C_alloc ?_ _) | (with_reducible refine Kd.C_drewN ?_ _) | (with_reducible refine Kd.C_drew ?_))); (case side2 => exact (Kd.R_reads' HO149.out).2.1); (case side3 => repeat (first | exact (Kd.C_below HR1.out (by repeat (first | (with_reducible first | exact HB.out | apply below_alloc | apply pw_below_drewN | apply below_drew1) | exact HB.out))) | (with_reducible refine Kd.C_alloc ?_ _) | (with_reducible refine Kd.C_drewN ?_ _) | (with_reducible refine Kd.C_drew ?_))); (case side4 => exact HC1.out); rintro e w' ⟨rfl, ⟨nd, rfl⟩⟩))
            go_meet
            case rel => exact ⟨_, (!t164), (by first | rfl | (simp; done) | (simp [*]; done)), H', ⟨by first | omega | exact Nat.le_refl _⟩, ⟨by (with_reducible repeat (first | apply Kd.R_alloc | apply Kd.R_drewN | apply Kd.R_drew)); exact Kd.R_mono HO149.out (fun _ hk => hk.1.2)⟩, ⟨by (with_reducible repeat (first | apply Kd.R_alloc | apply Kd.R_drewN | apply Kd.R_drew)); exact Kd.R_mono HM149.out (fun _ hk => hk.1.2)⟩, ⟨by (with_reducible repeat (first | apply Kd.R_alloc | apply Kd.R_drewN | apply Kd.R_drew)); exact Kd.R_mono HO155.out (fun _ hk => hk.1.2)⟩, ⟨by repeat (first | (with_reducible first | exact HB.out | apply below_alloc | apply pw_below_drewN | apply below_drew1) | exact HB.out)⟩⟩
          · rw [if_neg c92] at H
            have c92b0 : (t163 == t159) = false := beq_eq_false_iff_ne.mpr c92
            have c92b1 : (t163 != t159) = true := bne_iff_ne.mpr c92
            have H' := Aside0.mk H
            clear H
            obtain ⟨Ao96, co96, eo96⟩ := Kd.R_slice HO155.out
            subst eo96
            obtain ⟨Ao97, co97, eo97⟩ := Kd.R_slice HO161.out
            subst eo97
            go_wp2_with (first | ((with_reducible refine gate_callee (f := 14) rfl ?_); refine goesL_ (some 59) rfl rfl Try.func14 (by kernel_rfl) rfl #[.slice Ao96 t150.length co96, .slice Ao97 t156.length co97] rfl (by (try simp only [List.map_toArray, List.map_cons, List.map_nil]); first | done | rfl | (simp only [List.length_drop, List.length_take]; rfl)) ?_; (with_reducible refine (minuetlaw0_SameTokens.calls k _ _ t150 _ _ t156 true _ ?side1 ?side2 ?side3 ?side4 A87.out).mono ?_); (case side1 => repeat (first | exact (Kd.R_reads' HO155.out).2.2 | (with_reducible refine Kd.C_alloc ?_ _) | (with_reducible refine Kd.C_drewN ?_ _) | (with_reducible refine Kd.C_drew ?_))); (case side2 => exact (Kd.R_reads' HO155.out).2.1); (case side3 => repeat (first | exact (Kd.R_reads' HO161.out).2.2 | (with_reducible refine Kd.C_alloc ?_ _) | (with_reducible refine Kd.C_drewN ?_ _) | (with_reducible refine Kd.C_drew ?_))); (case side4 => exact (Kd.R_reads' HO161.out).2.1); rintro e w' ⟨rfl, ⟨nd, rfl⟩⟩; refine ⟨_, rfl, ?_⟩) | (go_at_call 15; (with_reducible refine (minuetlaw0_Num.calls t153 t163 _ A91.out).mono ?_); rintro e w' ⟨rfl, ⟨nd, rfl⟩⟩))
            go_meet
            case rel => exact ⟨_, (true), (by first | rfl | (simp; done) | (simp [*]; done)), H', ⟨by first | omega | exact Nat.le_refl _⟩, ⟨by (with_reducible repeat (first | apply Kd.R_alloc | apply Kd.R_drewN | apply Kd.R_drew)); exact Kd.R_mono HO149.out (fun _ hk => hk.1.2)⟩, ⟨by (with_reducible repeat (first | apply Kd.R_alloc | apply Kd.R_drewN | apply Kd.R_drew)); exact Kd.R_mono HM149.out (fun _ hk => hk.1.2)⟩, ⟨by (with_reducible repeat (first | apply Kd.R_alloc | apply Kd.R_drewN | apply Kd.R_drew)); exact Kd.R_mono HO155.out (fun _ hk => hk.1.2)⟩, ⟨by repeat (first | (with_reducible first | exact HB.out | apply below_alloc | apply pw_below_drewN | apply below_drew1) | exact HB.out)⟩⟩
        · rw [if_neg c90] at H
          have c90b0 : (t152 == t158) = false := beq_eq_false_iff_ne.mpr c90
          have c90b1 : (t152 != t158) = true := bne_iff_ne.mpr c90
          have H' := Aside0.mk H
          clear H
          obtain ⟨Ao98, co98, eo98⟩ := Kd.R_slice HO155.out
          subst eo98
          obtain ⟨Ao99, co99, eo99⟩ := Kd.R_slice HO161.out
          subst eo99
          go_wp2_with (first | ((with_reducible refine gate_callee (f := 14) rfl ?_); refine goesL_ (some 59) rfl rfl Try.func14 (by kernel_rfl) rfl #[.slice Ao98 t150.length co98, .slice Ao99 t156.length co99] rfl (by (try simp only [List.map_toArray, List.map_cons, List.map_nil]); first | done | rfl | (simp only [List.length_drop, List.length_take]; rfl)) ?_; (with_reducible refine (minuetlaw0_SameTokens.calls k _ _ t150 _ _ t156 true _ ?side1 ?side2 ?side3 ?side4 A87.out).mono ?_); (case side1 => repeat (first | exact (Kd.R_reads' HO155.out).2.2 | (with_reducible refine Kd.C_alloc ?_ _) | (with_reducible refine Kd.C_drewN ?_ _) | (with_reducible refine Kd.C_drew ?_))); (case side2 => exact (Kd.R_reads' HO155.out).2.1); (case side3 => repeat (first | exact (Kd.R_reads' HO161.out).2.2 | (with_reducible refine Kd.C_alloc ?_ _) | (with_reducible refine Kd.C_drewN ?_ _) | (with_reducible refine Kd.C_drew ?_))); (case side4 => exact (Kd.R_reads' HO161.out).2.1); rintro e w' ⟨rfl, ⟨nd, rfl⟩⟩; refine ⟨_, rfl, ?_⟩))
          go_meet
          case rel => exact ⟨_, (true), (by first | rfl | (simp; done) | (simp [*]; done)), H', ⟨by first | omega | exact Nat.le_refl _⟩, ⟨by (with_reducible repeat (first | apply Kd.R_alloc | apply Kd.R_drewN | apply Kd.R_drew)); exact Kd.R_mono HO149.out (fun _ hk => hk.1.2)⟩, ⟨by (with_reducible repeat (first | apply Kd.R_alloc | apply Kd.R_drewN | apply Kd.R_drew)); exact Kd.R_mono HM149.out (fun _ hk => hk.1.2)⟩, ⟨by (with_reducible repeat (first | apply Kd.R_alloc | apply Kd.R_drewN | apply Kd.R_drew)); exact Kd.R_mono HO155.out (fun _ hk => hk.1.2)⟩, ⟨by repeat (first | (with_reducible first | exact HB.out | apply below_alloc | apply pw_below_drewN | apply below_drew1) | exact HB.out)⟩⟩
      · rw [if_neg c89] at H
        have c89b0 : (t151 == t157) = false := beq_eq_false_iff_ne.mpr c89
        have c89b1 : (t151 != t157) = true := bne_iff_ne.mpr c89
        (first | rw [c89b0] | (simp only [i64_w, i32_w]; rw [c89b0]) | skip)
        have H' := Aside0.mk H
        clear H
        obtain ⟨Ao100, co100, eo100⟩ := Kd.R_slice HO155.out
        subst eo100
        obtain ⟨Ao101, co101, eo101⟩ := Kd.R_slice HO161.out
        subst eo101
        go_wp2_with (first | ((with_reducible refine gate_callee (f := 14) rfl ?_); refine goesL_ (some 59) rfl rfl Try.func14 (by kernel_rfl) rfl #[.slice Ao100 t150.length co100, .slice Ao101 t156.length co101] rfl (by (try simp only [List.map_toArray, List.map_cons, List.map_nil]); first | done | rfl | (simp only [List.length_drop, List.length_take]; rfl)) ?_; (with_reducible refine (minuetlaw0_SameTokens.calls k _ _ t150 _ _ t156 true _ ?side1 ?side2 ?side3 ?side4 A87.out).mono ?_); (case side1 => repeat (first | exact (Kd.R_reads' HO155.out).2.2 | (with_reducible refine Kd.C_alloc ?_ _) | (with_reducible refine Kd.C_drewN ?_ _) | (with_reducible refine Kd.C_drew ?_))); (case side2 => exact (Kd.R_reads' HO155.out).2.1); (case side3 => repeat (first | exact (Kd.R_reads' HO161.out).2.2 | (with_reducible refine Kd.C_alloc ?_ _) | (with_reducible refine Kd.C_drewN ?_ _) | (with_reducible refine Kd.C_drew ?_))); (case side4 => exact (Kd.R_reads' HO161.out).2.1); rintro e w' ⟨rfl, ⟨nd, rfl⟩⟩; refine ⟨_, rfl, ?_⟩))
        go_meet
        case rel => exact ⟨_, (true), (by first | rfl | (simp; done) | (simp [*]; done)), H', ⟨by first | omega | exact Nat.le_refl _⟩, ⟨by (with_reducible repeat (first | apply Kd.R_alloc | apply Kd.R_drewN | apply Kd.R_drew)); exact Kd.R_mono HO149.out (fun _ hk => hk.1.2)⟩, ⟨by (with_reducible repeat (first | apply Kd.R_alloc | apply Kd.R_drewN | apply Kd.R_drew)); exact Kd.R_mono HM149.out (fun _ hk => hk.1.2)⟩, ⟨by (with_reducible repeat (first | apply Kd.R_alloc | apply Kd.R_drewN | apply Kd.R_drew)); exact Kd.R_mono HO155.out (fun _ hk => hk.1.2)⟩, ⟨by repeat (first | (with_reducible first | exact HB.out | apply below_alloc | apply pw_below_drewN | apply below_drew1) | exact HB.out)⟩⟩
    · replace c88 := Bool.eq_false_iff.mpr c88
      subst c88
      have H1 : (minuetlaw10_Again.j2 k l1 t147 t150 true) = some r := by rw [if_neg (show ¬ (false = true) by decide)] at H; exact H
      clear H
      have H := H1
      clear H1
      have H' := Aside0.mk H
      clear H
      obtain ⟨Ao102, co102, eo102⟩ := Kd.R_slice HO155.out
      subst eo102
      obtain ⟨Ao103, co103, eo103⟩ := Kd.R_slice HO161.out
      subst eo103
      go_wp2_with (first | ((with_reducible refine gate_callee (f := 14) rfl ?_); refine goesL_ (some 59) rfl rfl Try.func14 (by kernel_rfl) rfl #[.slice Ao102 t150.length co102, .slice Ao103 t156.length co103] rfl (by (try simp only [List.map_toArray, List.map_cons, List.map_nil]); first | done | rfl | (simp only [List.length_drop, List.length_take]; rfl)) ?_; (with_reducible refine (minuetlaw0_SameTokens.calls k _ _ t150 _ _ t156 false _ ?side1 ?side2 ?side3 ?side4 A87.out).mono ?_); (case side1 => repeat (first | exact (Kd.R_reads' HO155.out).2.2 | (with_reducible refine Kd.C_alloc ?_ _) | (with_reducible refine Kd.C_drewN ?_ _) | (with_reducible refine Kd.C_drew ?_))); (case side2 => exact (Kd.R_reads' HO155.out).2.1); (case side3 => repeat (first | exact (Kd.R_reads' HO161.out).2.2 | (with_reducible refine Kd.C_alloc ?_ _) | (with_reducible refine Kd.C_drewN ?_ _) | (with_reducible refine Kd.C_drew ?_))); (case side4 => exact (Kd.R_reads' HO161.out).2.1); rintro e w' ⟨rfl, ⟨nd, rfl⟩⟩; refine ⟨_, rfl, ?_⟩))
      go_meet
      case rel => exact ⟨_, (true), (by first | rfl | (simp; done) | (simp [*]; done)), H', ⟨by first | omega | exact Nat.le_refl _⟩, ⟨by (with_reducible repeat (first | apply Kd.R_alloc | apply Kd.R_drewN | apply Kd.R_drew)); exact Kd.R_mono HO149.out (fun _ hk => hk.1.2)⟩, ⟨by (with_reducible repeat (first | apply Kd.R_alloc | apply Kd.R_drewN | apply Kd.R_drew)); exact Kd.R_mono HM149.out (fun _ hk => hk.1.2)⟩, ⟨by (with_reducible repeat (first | apply Kd.R_alloc | apply Kd.R_drewN | apply Kd.R_drew)); exact Kd.R_mono HO155.out (fun _ hk => hk.1.2)⟩, ⟨by repeat (first | (with_reducible first | exact HB.out | apply below_alloc | apply pw_below_drewN | apply below_drew1) | exact HB.out)⟩⟩
   case rest =>
    clear HC82
    try clear c1
    try clear c2
    try clear p2
    try clear c3
    try clear c4
    try clear c5
    try clear c7
    try clear c8
    try clear c9
    try clear c9b0
    try clear c9b1
    try clear c13
    try clear c14
    try clear c16
    try clear c18
    try clear c19
    try clear c20
    try clear c21
    try clear c22
    try clear c22b0
    try clear c22b1
    try clear c23
    try clear c23b0
    try clear c23b1
    try clear c25
    try clear c25b0
    try clear c25b1
    try clear c37
    try clear c40
    try clear c55
    try clear c56
    try clear c56b0
    try clear c56b1
    try clear c57
    try clear c57b0
    try clear c57b1
    try clear c59
    try clear c59b0
    try clear c59b1
    try clear c71
    try clear c74
    try clear c88
    try clear c89
    try clear c89b0
    try clear c89b1
    try clear c90
    try clear c90b0
    try clear c90b1
    try clear c92
    try clear c92b0
    try clear c92b1
    try clear p2
    obtain ⟨kq, x82_81, rfl, HA, HJ81, HO_15, HM_15, HO_16, HB⟩ := hcut
    cases kq with
    | zero => exact absurd HA.out (by simp [minuetlaw10_Again.j2])
    | succ kj81 =>
     have H := HA.out
     clear HA
     simp only [minuetlaw10_Again.j2] at H
     by_cases c104 : x82_81 = true
     · subst c104
       have H1 : (none) = some r := by rw [if_pos rfl] at H; exact H
       clear H
       have H := H1
       clear H1
       exact absurd H (by simp)
     · replace c104 := Bool.eq_false_iff.mpr c104
       subst c104
       have H1 : ((minuetlaw0_SpoilTokens.f kj81 t150).bind fun t165 => ((minuetlaw0_KeptTokens.f kj81 t147 l1).bind fun t166 => (if t166 = true then ((minuetlaw10_awake.f kj81).bind fun t167 => (some t167)) else (none)))) = some r := by rw [if_neg (show ¬ (false = true) by decide)] at H; exact H
       clear H
       have H := H1
       clear H1
       replace H := Option.bind_eq_some_iff.mp H
       obtain ⟨t165, A1050, H⟩ := H
       replace H : ((minuetlaw0_KeptTokens.f kj81 t147 l1).bind fun t166 => (if t166 = true then ((minuetlaw10_awake.f kj81).bind fun t167 => (some t167)) else (none))) = some r := H
       have A105 := Aside0.mk A1050
       clear A1050
       replace H := Option.bind_eq_some_iff.mp H
       obtain ⟨t166, A1060, H⟩ := H
       replace H : (if t166 = true then ((minuetlaw10_awake.f kj81).bind fun t167 => (some t167)) else (none)) = some r := H
       have A106 := Aside0.mk A1060
       clear A1060
       by_cases c107 : t166 = true
       · subst c107
         have H1 : ((minuetlaw10_awake.f kj81).bind fun t167 => (some t167)) = some r := by rw [if_pos rfl] at H; exact H
         clear H
         have H := H1
         clear H1
         replace H := Option.bind_eq_some_iff.mp H
         obtain ⟨t167, A1080, H⟩ := H
         replace H : (some t167) = some r := H
         have A108 := Aside0.mk A1080
         clear A1080
         obtain rfl := Option.some.inj H
         obtain ⟨Ao109, co109, eo109⟩ := Kd.R_slice HO_16.out
         subst eo109
         go_wp2_with (first | ((with_reducible refine gate_callee (f := 16) rfl ?_); refine goesL_ (some 84) rfl rfl Try.func16 (by kernel_rfl) rfl #[.slice Ao109 t150.length co109] rfl (by (try simp only [List.map_toArray, List.map_cons, List.map_nil]); first | done | rfl | (simp only [List.length_drop, List.length_take]; rfl)) ?_; (with_reducible refine (minuetlaw0_SpoilTokens.calls kj81 (fun k_ => some k_ = (.slice Ao109 t150.length co109 : Value).ownBlock) (.slice Ao109 t150.length co109) t150 t165 w _ ?side1 ?side2 A105.out).mono ?_); (case side1 => repeat (first | (with_reducible first | exact HB.out | apply below_alloc | apply pw_below_drewN | apply below_drew1) | exact HB.out)); (case side2 => exact Kd.R_tight rfl HO_16.out); rintro e w110 ⟨rfl, hy0, hb, hkp⟩; refine ⟨_, rfl, ?_⟩; have mA_15_ := Aside0.mk (Kd.R_mono (ok' := fun k_ => some k_ ≠ (.slice Ao109 t150.length co109 : Value).ownBlock) (Kd.R_keptB (HM_15.out) hkp (fun k_ hk_ hs_ => (hk_) hs_)) (fun k_ hk_ => hk_.1)); have n0_ := Aside0.mk (Kd.R_mono (ok' := fun k_ => some k_ ≠ (.slice Ao109 t150.length co109 : Value).ownBlock) (Kd.R_keptB (HO_15.out) hkp (fun k_ hk_ hs_ => (hk_) hs_)) (fun k_ hk_ => hk_.1)); have n1_ := Aside0.mk (Kd.R_reok rfl hy0 (fun k_ e_ => HO_16.out.1 k_ e_)); have n2_ := Aside0.mk (hb); clear HO_15; clear HM_15; clear HO_16; clear HB; have HO_15 := n0_; have HM_15 := mA_15_; clear mA_15_; have HO_16 := n1_; have HB := n2_; clear n0_ n1_ n2_; (try clear hb); (try clear hkp); (try clear hy0)) | ((with_reducible refine gate_callee (f := 21) rfl ?_); refine goesL_ (some 87) rfl rfl Try.func21 (by kernel_rfl) rfl #[.slice Ao84 t147.length co84, .slice A1 l1.length c1] rfl (by (try simp only [List.map_toArray, List.map_cons, List.map_nil]); first | done | rfl | (simp only [List.length_drop, List.length_take]; rfl)) ?_; (with_reducible refine (minuetlaw0_KeptTokens.calls kj81 _ _ t147 _ _ l1 true _ ?side1 ?side2 ?side3 ?side4 A106.out ?sideM).mono ?_); (case sideM => refine ⟨(Kd.R_reads' HM_15.out).2.1, ?_⟩; repeat (first | exact (Kd.R_reads' HM_15.out).2.2 | (with_reducible refine Kd.C_alloc ?_ _) | (with_reducible refine Kd.C_drewN ?_ _) | (with_reducible refine Kd.C_drew ?_))); (case side1 => repeat (first | exact (Kd.R_reads' HO_15.out).2.2 | (with_reducible refine Kd.C_alloc ?_ _) | (with_reducible refine Kd.C_drewN ?_ _) | (with_reducible refine Kd.C_drew ?_))); (case side2 => exact (Kd.R_reads' HO_15.out).2.1); (case side3 => repeat (first | exact (Kd.C_below HR1.out HB.out) | (with_reducible refine Kd.C_alloc ?_ _) | (with_reducible refine Kd.C_drewN ?_ _) | (with_reducible refine Kd.C_drew ?_))); (case side4 => exact HC1.out); rintro e w' ⟨rfl, ⟨nd, rfl⟩⟩; refine ⟨_, rfl, ?_⟩) | (go_at_call 22; (with_reducible refine (minuetlaw10_awake.calls kj81  t167 _ (MaxOk.of HM_.out (by repeat (first | (with_reducible first | exact HB.out | apply below_alloc | apply pw_below_drewN | apply below_drew1) | exact HB.out))) A108.out).mono ?_); rintro e w111 ⟨rfl, hb⟩; have mA_15_ := Aside0.mk (Kd.R_below (by (with_reducible repeat (first | apply Kd.R_alloc | apply Kd.R_drewN | apply Kd.R_drew)); exact HM_15.out) hb); have n0_ := Aside0.mk (Kd.R_below (by (with_reducible repeat (first | apply Kd.R_alloc | apply Kd.R_drewN | apply Kd.R_drew)); exact HO_15.out) hb); have n1_ := Aside0.mk (Kd.R_below (by (with_reducible repeat (first | apply Kd.R_alloc | apply Kd.R_drewN | apply Kd.R_drew)); exact HO_16.out) hb); have n2_ := Aside0.mk (below_step (by repeat (first | (with_reducible first | exact HB.out | apply below_alloc | apply pw_below_drewN | apply below_drew1) | exact HB.out)) hb); clear HO_15; clear HM_15; clear HO_16; clear HB; have HO_15 := n0_; have HM_15 := mA_15_; clear mA_15_; have HO_16 := n1_; have HB := n2_; clear n0_ n1_ n2_; (try clear hb); (try clear hb2); (try clear hk); (try clear hi)))
         go_ret
         exact ⟨by first | rfl | (simp [errW_none, errW_some] <;> rfl) | (simp [*, errW_none, errW_some] <;> rfl), by repeat (first | (with_reducible first | exact HB.out | apply below_alloc | apply pw_below_drewN | apply below_drew1) | exact HB.out)⟩
       · replace c107 := Bool.eq_false_iff.mpr c107
         subst c107
         have H1 : (none) = some r := by rw [if_neg (show ¬ (false = true) by decide)] at H; exact H
         clear H
         have H := H1
         clear H1
         exact absurd H (by simp)

end Go.Proofs.Ytnhkdpcncjkmlaa.G
