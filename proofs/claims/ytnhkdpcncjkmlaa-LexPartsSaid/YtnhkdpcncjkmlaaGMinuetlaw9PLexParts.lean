-- Laid by this session's own program gprint.py (wip/tools), out of the kit's print and of texts of this session. Lean checks it.
import Derived.Test.YtnhkdpcncjkmlaaGx0
import Derived.Test.YtnhkdpcncjkmlaaGx1
import Derived.Test.YtnhkdpcncjkmlaaGLexPTokens
import Derived.Test.YtnhkdpcncjkmlaaGMinuetlaw0PNum
import Derived.Test.YtnhkdpcncjkmlaaGMinuetlaw9qawake
namespace Go.Proofs.Ytnhkdpcncjkmlaa.G
open Go.RowKit Go.Proofs.YtnhkdpcncjkmlaaW.PrintWords Go.Proofs.YtnhkdpcncjkmlaaW.PrintLast Go.Proofs.YtnhkdpcncjkmlaaW.PrintMore
attribute [local go_sem] max2_int min2_int max_two min_two max_three min_three max_four min_four   -- for this text's walks alone
set_option linter.unusedVariables false
set_option linter.unusedSimpArgs false

attribute [local go_sem high] eqA34
/-! ### minuetlaw9_LexParts: function 4 -/
mutual
def minuetlaw9_LexParts.j0 : Nat → ByteArray → ByteArray → List (S34) → List (S34) → List (S34) → Bool → Option (Bool)
 | 0, _, _, _, _, _, _ => none
 | k + 1, x0, x1, x5, x7, x9, x47 => if x47 = true then (some (decide ((wrap64 ((wrap64 ((x0.size : Int) + (x1.size : Int))) + 1)) > 300))) else (if (x5.length : Int) > 0 then (if 0 ≤ (wrap64 ((x5.length : Int) - 1)) then (if (wrap64 ((x5.length : Int) - 1)) < (x5.length : Int) then (if ((rd_T34 x5 (wrap64 ((x5.length : Int) - 1))).f0) = 11 then (if (wrap64 (((rd_T34 x5 (wrap64 ((x5.length : Int) - 1))).f2) - ((rd_T34 x5 (wrap64 ((x5.length : Int) - 1))).f1))) > 1 then (minuetlaw9_LexParts.j1 k x0 x5 x7 x9 (x5.length : Int) true) else (if ((rd_T34 x5 (wrap64 ((x5.length : Int) - 1))).f0) = 10 then (minuetlaw9_LexParts.j1 k x0 x5 x7 x9 (x5.length : Int) true) else (if (x7.length : Int) > 0 then (if 0 < (x7.length : Int) then (minuetlaw9_LexParts.j1 k x0 x5 x7 x9 (x5.length : Int) (((rd_T34 x7 0).f0) == 10)) else (none)) else (minuetlaw9_LexParts.j1 k x0 x5 x7 x9 (x5.length : Int) false)))) else (if ((rd_T34 x5 (wrap64 ((x5.length : Int) - 1))).f0) = 10 then (minuetlaw9_LexParts.j1 k x0 x5 x7 x9 (x5.length : Int) true) else (if (x7.length : Int) > 0 then (if 0 < (x7.length : Int) then (minuetlaw9_LexParts.j1 k x0 x5 x7 x9 (x5.length : Int) (((rd_T34 x7 0).f0) == 10)) else (none)) else (minuetlaw9_LexParts.j1 k x0 x5 x7 x9 (x5.length : Int) false)))) else (none)) else (none)) else (if (x7.length : Int) > 0 then (if 0 < (x7.length : Int) then (minuetlaw9_LexParts.j1 k x0 x5 x7 x9 (x5.length : Int) (((rd_T34 x7 0).f0) == 10)) else (none)) else (minuetlaw9_LexParts.j1 k x0 x5 x7 x9 (x5.length : Int) false)))
def minuetlaw9_LexParts.j1 : Nat → ByteArray → List (S34) → List (S34) → List (S34) → Int → Bool → Option (Bool)
 | 0, _, _, _, _, _, _ => none
 | k + 1, x0, x5, x7, x9, x11, x104 => if x104 = true then (some true) else (if (x9.length : Int) = (wrap64 ((wrap64 (x11 + 1)) + (x7.length : Int))) then (minuetlaw9_LexParts.l0 k x0 x5 x7 x9 x11 0) else (none))
def minuetlaw9_LexParts.l0 : Nat → ByteArray → List (S34) → List (S34) → List (S34) → Int → Int → Option (Bool)
 | 0, _, _, _, _, _, _ => none
 | k + 1, x0, x5, x7, x9, x11, x12 => if x12 < x11 then (if 0 ≤ x12 then (if x12 < (x9.length : Int) then (if x12 < (x5.length : Int) then (if (!(((rd_T34 x9 x12).f0) == ((rd_T34 x5 x12).f0)) || (!(((rd_T34 x9 x12).f1) == ((rd_T34 x5 x12).f1)) || (!(((rd_T34 x9 x12).f2) == ((rd_T34 x5 x12).f2))))) = true then (none) else (minuetlaw9_LexParts.l0 k x0 x5 x7 x9 x11 (wrap64 (x12 + 1)))) else (none)) else (none)) else (none)) else (minuetlaw9_LexParts.l1 k x0 x7 x9 x11 0)
def minuetlaw9_LexParts.l1 : Nat → ByteArray → List (S34) → List (S34) → Int → Int → Option (Bool)
 | 0, _, _, _, _, _ => none
 | k + 1, x0, x7, x9, x11, x13 => if x13 < (x7.length : Int) then (if 0 ≤ x13 then (if 0 ≤ (wrap64 ((wrap64 (x11 + 1)) + x13)) then (if (wrap64 ((wrap64 (x11 + 1)) + x13)) < (x9.length : Int) then (if (!(((rd_T34 x9 (wrap64 ((wrap64 (x11 + 1)) + x13))).f0) == ((rd_T34 x7 x13).f0)) || (!(((rd_T34 x9 (wrap64 ((wrap64 (x11 + 1)) + x13))).f1) == (wrap64 ((wrap64 (((rd_T34 x7 x13).f1) + (x0.size : Int))) + 1))) || (!(((rd_T34 x9 (wrap64 ((wrap64 (x11 + 1)) + x13))).f2) == (wrap64 ((wrap64 (((rd_T34 x7 x13).f2) + (x0.size : Int))) + 1)))))) = true then (none) else (minuetlaw9_LexParts.l1 k x0 x7 x9 x11 (wrap64 (x13 + 1)))) else (none)) else (none)) else (none)) else (if 0 ≤ x11 then (if x11 < (x9.length : Int) then (some (((rd_T34 x9 x11).f0) == 10 && (((rd_T34 x9 x11).f1) == (x0.size : Int) && (((rd_T34 x9 x11).f2) == (wrap64 ((x0.size : Int) + 1)))))) else (none)) else (none))
end
def minuetlaw9_LexParts.f (k : Nat) (a0 : ByteArray) (a1 : ByteArray) : Option (Bool) := (minuetlaw9_awake.f k).bind fun t101 => (if t101 = true then ((lex_Tokens.f a0).bind fun bt102 => ((lex_Tokens.f a1).bind fun bt106 => (if a0.size + 1 ≤ 9223372036854775807 then (if (a0 ++ (⟨#[10]⟩ : ByteArray)).size + a1.size ≤ 9223372036854775807 then ((lex_Tokens.f ((a0 ++ (⟨#[10]⟩ : ByteArray)) ++ a1)).bind fun bt110 => ((minuetlaw0_Num.f bt102.2).bind fun t114 => (if t114 = 0 then ((minuetlaw0_Num.f bt106.2).bind fun t115 => (if t115 = 0 then ((minuetlaw0_Num.f bt110.2).bind fun t116 => (minuetlaw9_LexParts.j0 k a0 a1 bt102.1 bt106.1 bt110.1 (t116 != 0))) else (minuetlaw9_LexParts.j0 k a0 a1 bt102.1 bt106.1 bt110.1 true))) else (minuetlaw9_LexParts.j0 k a0 a1 bt102.1 bt106.1 bt110.1 true)))) else (none)) else (none)))) else (none))
theorem minuetlaw9_LexParts.mono_l : ∀ k, (∀ y0 y1 y2 y3 y4 y5, LeO (minuetlaw9_LexParts.j0 k y0 y1 y2 y3 y4 y5) (minuetlaw9_LexParts.j0 (k + 1) y0 y1 y2 y3 y4 y5)) ∧ (∀ y0 y1 y2 y3 y4 y5, LeO (minuetlaw9_LexParts.j1 k y0 y1 y2 y3 y4 y5) (minuetlaw9_LexParts.j1 (k + 1) y0 y1 y2 y3 y4 y5)) ∧ (∀ y0 y1 y2 y3 y4 y5, LeO (minuetlaw9_LexParts.l0 k y0 y1 y2 y3 y4 y5) (minuetlaw9_LexParts.l0 (k + 1) y0 y1 y2 y3 y4 y5)) ∧ (∀ y0 y1 y2 y3 y4, LeO (minuetlaw9_LexParts.l1 k y0 y1 y2 y3 y4) (minuetlaw9_LexParts.l1 (k + 1) y0 y1 y2 y3 y4))
 | 0 => ⟨fun _ _ _ _ _ _ r h => by simp [minuetlaw9_LexParts.j0] at h, fun _ _ _ _ _ _ r h => by simp [minuetlaw9_LexParts.j1] at h, fun _ _ _ _ _ _ r h => by simp [minuetlaw9_LexParts.l0] at h, fun _ _ _ _ _ r h => by simp [minuetlaw9_LexParts.l1] at h⟩
 | k + 1 => by
  obtain ⟨ih0, ih1, ih2, ih3⟩ := minuetlaw9_LexParts.mono_l k
  refine ⟨?_, ?_, ?_, ?_⟩
  · intro y0 y1 y2 y3 y4 y5
    unfold minuetlaw9_LexParts.j0
    repeat' first
    | (with_reducible exact ih0 _ _ _ _ _ _)
    | (with_reducible exact ih1 _ _ _ _ _ _)
    | (with_reducible exact ih2 _ _ _ _ _ _)
    | (with_reducible exact ih3 _ _ _ _ _)
    | (with_reducible exact minuetlaw9_awake.mono _)
    | (with_reducible exact LeO.refl _)
    | (with_reducible exact LeO.none _)
    | (with_reducible refine LeO.ite ?_ ?_)
    | (with_reducible refine LeO.bind ?_ (fun _ => ?_))
    | exact ih0 _ _ _ _ _ _
    | exact ih1 _ _ _ _ _ _
    | exact ih2 _ _ _ _ _ _
    | exact ih3 _ _ _ _ _
    | exact minuetlaw9_awake.mono _
    | exact LeO.none _
    | refine LeO.ite ?_ ?_
    | refine LeO.bind ?_ (fun _ => ?_)
  · intro y0 y1 y2 y3 y4 y5
    unfold minuetlaw9_LexParts.j1
    repeat' first
    | (with_reducible exact ih0 _ _ _ _ _ _)
    | (with_reducible exact ih1 _ _ _ _ _ _)
    | (with_reducible exact ih2 _ _ _ _ _ _)
    | (with_reducible exact ih3 _ _ _ _ _)
    | (with_reducible exact minuetlaw9_awake.mono _)
    | (with_reducible exact LeO.refl _)
    | (with_reducible exact LeO.none _)
    | (with_reducible refine LeO.ite ?_ ?_)
    | (with_reducible refine LeO.bind ?_ (fun _ => ?_))
    | exact ih0 _ _ _ _ _ _
    | exact ih1 _ _ _ _ _ _
    | exact ih2 _ _ _ _ _ _
    | exact ih3 _ _ _ _ _
    | exact minuetlaw9_awake.mono _
    | exact LeO.none _
    | refine LeO.ite ?_ ?_
    | refine LeO.bind ?_ (fun _ => ?_)
  · intro y0 y1 y2 y3 y4 y5
    unfold minuetlaw9_LexParts.l0
    repeat' first
    | (with_reducible exact ih0 _ _ _ _ _ _)
    | (with_reducible exact ih1 _ _ _ _ _ _)
    | (with_reducible exact ih2 _ _ _ _ _ _)
    | (with_reducible exact ih3 _ _ _ _ _)
    | (with_reducible exact minuetlaw9_awake.mono _)
    | (with_reducible exact LeO.refl _)
    | (with_reducible exact LeO.none _)
    | (with_reducible refine LeO.ite ?_ ?_)
    | (with_reducible refine LeO.bind ?_ (fun _ => ?_))
    | exact ih0 _ _ _ _ _ _
    | exact ih1 _ _ _ _ _ _
    | exact ih2 _ _ _ _ _ _
    | exact ih3 _ _ _ _ _
    | exact minuetlaw9_awake.mono _
    | exact LeO.none _
    | refine LeO.ite ?_ ?_
    | refine LeO.bind ?_ (fun _ => ?_)
  · intro y0 y1 y2 y3 y4
    unfold minuetlaw9_LexParts.l1
    repeat' first
    | (with_reducible exact ih0 _ _ _ _ _ _)
    | (with_reducible exact ih1 _ _ _ _ _ _)
    | (with_reducible exact ih2 _ _ _ _ _ _)
    | (with_reducible exact ih3 _ _ _ _ _)
    | (with_reducible exact minuetlaw9_awake.mono _)
    | (with_reducible exact LeO.refl _)
    | (with_reducible exact LeO.none _)
    | (with_reducible refine LeO.ite ?_ ?_)
    | (with_reducible refine LeO.bind ?_ (fun _ => ?_))
    | exact ih0 _ _ _ _ _ _
    | exact ih1 _ _ _ _ _ _
    | exact ih2 _ _ _ _ _ _
    | exact ih3 _ _ _ _ _
    | exact minuetlaw9_awake.mono _
    | exact LeO.none _
    | refine LeO.ite ?_ ?_
    | refine LeO.bind ?_ (fun _ => ?_)
theorem minuetlaw9_LexParts.mono : ∀ a0 a1 k, LeO (minuetlaw9_LexParts.f k a0 a1) (minuetlaw9_LexParts.f (k + 1) a0 a1) := by
 intro a0 a1 k
 obtain ⟨ih0, ih1, ih2, ih3⟩ := minuetlaw9_LexParts.mono_l k
 unfold minuetlaw9_LexParts.f
 repeat' first
  | (with_reducible exact ih0 _ _ _ _ _ _)
  | (with_reducible exact ih1 _ _ _ _ _ _)
  | (with_reducible exact ih2 _ _ _ _ _ _)
  | (with_reducible exact ih3 _ _ _ _ _)
  | (with_reducible exact minuetlaw9_awake.mono _)
  | (with_reducible exact LeO.refl _)
  | (with_reducible exact LeO.none _)
  | (with_reducible refine LeO.ite ?_ ?_)
  | (with_reducible refine LeO.bind ?_ (fun _ => ?_))
  | exact ih0 _ _ _ _ _ _
  | exact ih1 _ _ _ _ _ _
  | exact ih2 _ _ _ _ _ _
  | exact ih3 _ _ _ _ _
  | exact minuetlaw9_awake.mono _
  | exact LeO.none _
  | refine LeO.ite ?_ ?_
  | refine LeO.bind ?_ (fun _ => ?_)
set_option maxHeartbeats 8000000 in
set_option maxRecDepth 100000 in
theorem minuetlaw9_LexParts.calls (k : Nat) (a0 : ByteArray) (a1 : ByteArray) (r : Bool) (w : World) (hm_ : MaxOk w) (h : minuetlaw9_LexParts.f k a0 a1 = some r) :
 Calls Try.prog 4 #[.string a0, .string a1] w fun e w' => e = .returned (.bool r) ∧ Below w.heap.size w w' := by
 have HM_ := Aside0.mk hm_
 clear hm_
 have hu34 := Try.underlying34
 have HB := Aside0.mk (Below.refl w.heap.size w)
 have H : ((minuetlaw9_awake.f k).bind fun t101 => (if t101 = true then ((lex_Tokens.f a0).bind fun bt102 => ((lex_Tokens.f a1).bind fun bt106 => (if a0.size + 1 ≤ 9223372036854775807 then (if (a0 ++ (⟨#[10]⟩ : ByteArray)).size + a1.size ≤ 9223372036854775807 then ((lex_Tokens.f ((a0 ++ (⟨#[10]⟩ : ByteArray)) ++ a1)).bind fun bt110 => ((minuetlaw0_Num.f bt102.2).bind fun t114 => (if t114 = 0 then ((minuetlaw0_Num.f bt106.2).bind fun t115 => (if t115 = 0 then ((minuetlaw0_Num.f bt110.2).bind fun t116 => (minuetlaw9_LexParts.j0 k a0 a1 bt102.1 bt106.1 bt110.1 (t116 != 0))) else (minuetlaw9_LexParts.j0 k a0 a1 bt102.1 bt106.1 bt110.1 true))) else (minuetlaw9_LexParts.j0 k a0 a1 bt102.1 bt106.1 bt110.1 true)))) else (none)) else (none)))) else (none))) = some r := h
 clear h
 replace H := Option.bind_eq_some_iff.mp H
 obtain ⟨t101, A30, H⟩ := H
 replace H : (if t101 = true then ((lex_Tokens.f a0).bind fun bt102 => ((lex_Tokens.f a1).bind fun bt106 => (if a0.size + 1 ≤ 9223372036854775807 then (if (a0 ++ (⟨#[10]⟩ : ByteArray)).size + a1.size ≤ 9223372036854775807 then ((lex_Tokens.f ((a0 ++ (⟨#[10]⟩ : ByteArray)) ++ a1)).bind fun bt110 => ((minuetlaw0_Num.f bt102.2).bind fun t114 => (if t114 = 0 then ((minuetlaw0_Num.f bt106.2).bind fun t115 => (if t115 = 0 then ((minuetlaw0_Num.f bt110.2).bind fun t116 => (minuetlaw9_LexParts.j0 k a0 a1 bt102.1 bt106.1 bt110.1 (t116 != 0))) else (minuetlaw9_LexParts.j0 k a0 a1 bt102.1 bt106.1 bt110.1 true))) else (minuetlaw9_LexParts.j0 k a0 a1 bt102.1 bt106.1 bt110.1 true)))) else (none)) else (none)))) else (none)) = some r := H
 have A3 := Aside0.mk A30
 clear A30
 by_cases c4 : t101 = true
 · subst c4
   have H1 : ((lex_Tokens.f a0).bind fun bt102 => ((lex_Tokens.f a1).bind fun bt106 => (if a0.size + 1 ≤ 9223372036854775807 then (if (a0 ++ (⟨#[10]⟩ : ByteArray)).size + a1.size ≤ 9223372036854775807 then ((lex_Tokens.f ((a0 ++ (⟨#[10]⟩ : ByteArray)) ++ a1)).bind fun bt110 => ((minuetlaw0_Num.f bt102.2).bind fun t114 => (if t114 = 0 then ((minuetlaw0_Num.f bt106.2).bind fun t115 => (if t115 = 0 then ((minuetlaw0_Num.f bt110.2).bind fun t116 => (minuetlaw9_LexParts.j0 k a0 a1 bt102.1 bt106.1 bt110.1 (t116 != 0))) else (minuetlaw9_LexParts.j0 k a0 a1 bt102.1 bt106.1 bt110.1 true))) else (minuetlaw9_LexParts.j0 k a0 a1 bt102.1 bt106.1 bt110.1 true)))) else (none)) else (none)))) = some r := by rw [if_pos rfl] at H; exact H
   clear H
   have H := H1
   clear H1
   replace H := Option.bind_eq_some_iff.mp H
   obtain ⟨⟨t102, t103⟩, A50, H⟩ := H
   replace H : ((lex_Tokens.f a1).bind fun bt106 => (if a0.size + 1 ≤ 9223372036854775807 then (if (a0 ++ (⟨#[10]⟩ : ByteArray)).size + a1.size ≤ 9223372036854775807 then ((lex_Tokens.f ((a0 ++ (⟨#[10]⟩ : ByteArray)) ++ a1)).bind fun bt110 => ((minuetlaw0_Num.f t103).bind fun t114 => (if t114 = 0 then ((minuetlaw0_Num.f bt106.2).bind fun t115 => (if t115 = 0 then ((minuetlaw0_Num.f bt110.2).bind fun t116 => (minuetlaw9_LexParts.j0 k a0 a1 t102 bt106.1 bt110.1 (t116 != 0))) else (minuetlaw9_LexParts.j0 k a0 a1 t102 bt106.1 bt110.1 true))) else (minuetlaw9_LexParts.j0 k a0 a1 t102 bt106.1 bt110.1 true)))) else (none)) else (none))) = some r := H
   have A5 := Aside0.mk A50
   clear A50
   replace H := Option.bind_eq_some_iff.mp H
   obtain ⟨⟨t106, t107⟩, A60, H⟩ := H
   replace H : (if a0.size + 1 ≤ 9223372036854775807 then (if (a0 ++ (⟨#[10]⟩ : ByteArray)).size + a1.size ≤ 9223372036854775807 then ((lex_Tokens.f ((a0 ++ (⟨#[10]⟩ : ByteArray)) ++ a1)).bind fun bt110 => ((minuetlaw0_Num.f t103).bind fun t114 => (if t114 = 0 then ((minuetlaw0_Num.f t107).bind fun t115 => (if t115 = 0 then ((minuetlaw0_Num.f bt110.2).bind fun t116 => (minuetlaw9_LexParts.j0 k a0 a1 t102 t106 bt110.1 (t116 != 0))) else (minuetlaw9_LexParts.j0 k a0 a1 t102 t106 bt110.1 true))) else (minuetlaw9_LexParts.j0 k a0 a1 t102 t106 bt110.1 true)))) else (none)) else (none)) = some r := H
   have A6 := Aside0.mk A60
   clear A60
   by_cases c7 : a0.size + 1 ≤ 9223372036854775807
   · rw [if_pos c7] at H
     have c7b0 := eq_true c7
     have c7b1 : decide (a0.size + 1 ≤ 9223372036854775807) = true := decide_eq_true c7
     try have c7b2 : (9223372036854775807 < a0.size + 1) = False := eq_false (Nat.not_lt.2 c7)
     by_cases c8 : (a0 ++ (⟨#[10]⟩ : ByteArray)).size + a1.size ≤ 9223372036854775807
     · rw [if_pos c8] at H
       have c8b0 := eq_true c8
       have c8b1 : decide ((a0 ++ (⟨#[10]⟩ : ByteArray)).size + a1.size ≤ 9223372036854775807) = true := decide_eq_true c8
       try have c8b2 : (9223372036854775807 < (a0 ++ (⟨#[10]⟩ : ByteArray)).size + a1.size) = False := eq_false (Nat.not_lt.2 c8)
       replace H := Option.bind_eq_some_iff.mp H
       obtain ⟨⟨t110, t111⟩, A90, H⟩ := H
       replace H : ((minuetlaw0_Num.f t103).bind fun t114 => (if t114 = 0 then ((minuetlaw0_Num.f t107).bind fun t115 => (if t115 = 0 then ((minuetlaw0_Num.f t111).bind fun t116 => (minuetlaw9_LexParts.j0 k a0 a1 t102 t106 t110 (t116 != 0))) else (minuetlaw9_LexParts.j0 k a0 a1 t102 t106 t110 true))) else (minuetlaw9_LexParts.j0 k a0 a1 t102 t106 t110 true))) = some r := H
       have A9 := Aside0.mk A90
       clear A90
       have HC10 := Aside0.mk H
       clear H
       go_enter Try.func4, Try.ntmps4
       go_upto_region 6 with (first | (go_at_call 17; (with_reducible refine (minuetlaw9_awake.calls k  true _ (MaxOk.of HM_.out (by repeat (first | (with_reducible first | exact HB.out | apply below_alloc | apply pw_below_drewN | apply below_drew1) | exact HB.out))) A3.out).mono ?_); rintro e w11 ⟨rfl, hb⟩; have n0_ := Aside0.mk (below_step (by repeat (first | (with_reducible first | exact HB.out | apply below_alloc | apply pw_below_drewN | apply below_drew1) | exact HB.out)) hb); clear HB; have HB := n0_; clear n0_; (try clear hb); (try clear hb2); (try clear hk); (try clear hi)) | (go_at_call 12; (with_reducible refine (lex_Tokens.calls a0 t102 t103 _ (MaxOk.of HM_.out (by repeat (first | (with_reducible first | exact HB.out | apply below_alloc | apply pw_below_drewN | apply below_drew1) | exact HB.out))) A5.out).mono ?_); rintro e w12 ⟨v104, rfl, ho0, hb⟩; have n0_ := Aside0.mk (Kd.R_lower ho0 (below_size (by repeat (first | (with_reducible first | exact HB.out | apply below_alloc | apply pw_below_drewN | apply below_drew1) | exact HB.out)))); have n1_ := Aside0.mk (below_step (by repeat (first | (with_reducible first | exact HB.out | apply below_alloc | apply pw_below_drewN | apply below_drew1) | exact HB.out)) hb); clear HB; have HO105 := n0_; have HB := n1_; clear n0_ n1_; (try clear hb); (try clear hb2); (try clear hk); (try clear hi); (try clear ho0)) | (go_at_call 12; (with_reducible refine (lex_Tokens.calls a1 t106 t107 _ (MaxOk.of HM_.out (by repeat (first | (with_reducible first | exact HB.out | apply below_alloc | apply pw_below_drewN | apply below_drew1) | exact HB.out))) A6.out).mono ?_); rintro e w13 ⟨v108, rfl, ho0, hb⟩; have n0_ := Aside0.mk (Kd.R_elder' (by (with_reducible repeat (first | apply Kd.R_alloc | apply Kd.R_drewN | apply Kd.R_drew)); exact HO105.out) (Kd.R_base ho0) hb); have n1_ := Aside0.mk (Kd.R_lower (Kd.R_new' ho0 (Kd.R_lt (by (with_reducible repeat (first | apply Kd.R_alloc | apply Kd.R_drewN | apply Kd.R_drew)); exact HO105.out))) (below_size (by repeat (first | (with_reducible first | exact HB.out | apply below_alloc | apply pw_below_drewN | apply below_drew1) | exact HB.out)))); have n2_ := Aside0.mk (below_step (by repeat (first | (with_reducible first | exact HB.out | apply below_alloc | apply pw_below_drewN | apply below_drew1) | exact HB.out)) hb); clear HO105; clear HB; have HO105 := n0_; have HO109 := n1_; have HB := n2_; clear n0_ n1_ n2_; (try clear hb); (try clear hb2); (try clear hk); (try clear hi); (try clear ho0)) | (go_at_call 12; (with_reducible refine (lex_Tokens.calls ((a0 ++ (⟨#[10]⟩ : ByteArray)) ++ a1) t110 t111 _ (MaxOk.of HM_.out (by repeat (first | (with_reducible first | exact HB.out | apply below_alloc | apply pw_below_drewN | apply below_drew1) | exact HB.out))) A9.out).mono ?_); rintro e w14 ⟨v112, rfl, ho0, hb⟩; have n0_ := Aside0.mk (Kd.R_elder' (by (with_reducible repeat (first | apply Kd.R_alloc | apply Kd.R_drewN | apply Kd.R_drew)); exact HO105.out) (Kd.R_base ho0) hb); have n1_ := Aside0.mk (Kd.R_elder' (by (with_reducible repeat (first | apply Kd.R_alloc | apply Kd.R_drewN | apply Kd.R_drew)); exact HO109.out) (Kd.R_base ho0) hb); have n2_ := Aside0.mk (Kd.R_lower (Kd.R_new' (Kd.R_new' ho0 (Kd.R_lt (by (with_reducible repeat (first | apply Kd.R_alloc | apply Kd.R_drewN | apply Kd.R_drew)); exact HO105.out))) (Kd.R_lt (by (with_reducible repeat (first | apply Kd.R_alloc | apply Kd.R_drewN | apply Kd.R_drew)); exact HO109.out))) (below_size (by repeat (first | (with_reducible first | exact HB.out | apply below_alloc | apply pw_below_drewN | apply below_drew1) | exact HB.out)))); have n3_ := Aside0.mk (below_step (by repeat (first | (with_reducible first | exact HB.out | apply below_alloc | apply pw_below_drewN | apply below_drew1) | exact HB.out)) hb); clear HO105; clear HO109; clear HB; have HO105 := n0_; have HO109 := n1_; have HO113 := n2_; have HB := n3_; clear n0_ n1_ n2_ n3_; (try clear hb); (try clear hb2); (try clear hk); (try clear hi); (try clear ho0)))
       repeat (go_quiet (first | (go_at_call 17; (with_reducible refine (minuetlaw9_awake.calls k  true _ (MaxOk.of HM_.out (by repeat (first | (with_reducible first | exact HB.out | apply below_alloc | apply pw_below_drewN | apply below_drew1) | exact HB.out))) A3.out).mono ?_); rintro e w11 ⟨rfl, hb⟩; have n0_ := Aside0.mk (below_step (by repeat (first | (with_reducible first | exact HB.out | apply below_alloc | apply pw_below_drewN | apply below_drew1) | exact HB.out)) hb); clear HB; have HB := n0_; clear n0_; (try clear hb); (try clear hb2); (try clear hk); (try clear hi)) | (go_at_call 12; (with_reducible refine (lex_Tokens.calls a0 t102 t103 _ (MaxOk.of HM_.out (by repeat (first | (with_reducible first | exact HB.out | apply below_alloc | apply pw_below_drewN | apply below_drew1) | exact HB.out))) A5.out).mono ?_); rintro e w12 ⟨v104, rfl, ho0, hb⟩; have n0_ := Aside0.mk (Kd.R_lower ho0 (below_size (by repeat (first | (with_reducible first | exact HB.out | apply below_alloc | apply pw_below_drewN | apply below_drew1) | exact HB.out)))); have n1_ := Aside0.mk (below_step (by repeat (first | (with_reducible first | exact HB.out | apply below_alloc | apply pw_below_drewN | apply below_drew1) | exact HB.out)) hb); clear HB; have HO105 := n0_; have HB := n1_; clear n0_ n1_; (try clear hb); (try clear hb2); (try clear hk); (try clear hi); (try clear ho0)) | (go_at_call 12; (with_reducible refine (lex_Tokens.calls a1 t106 t107 _ (MaxOk.of HM_.out (by repeat (first | (with_reducible first | exact HB.out | apply below_alloc | apply pw_below_drewN | apply below_drew1) | exact HB.out))) A6.out).mono ?_); rintro e w13 ⟨v108, rfl, ho0, hb⟩; have n0_ := Aside0.mk (Kd.R_elder' (by (with_reducible repeat (first | apply Kd.R_alloc | apply Kd.R_drewN | apply Kd.R_drew)); exact HO105.out) (Kd.R_base ho0) hb); have n1_ := Aside0.mk (Kd.R_lower (Kd.R_new' ho0 (Kd.R_lt (by (with_reducible repeat (first | apply Kd.R_alloc | apply Kd.R_drewN | apply Kd.R_drew)); exact HO105.out))) (below_size (by repeat (first | (with_reducible first | exact HB.out | apply below_alloc | apply pw_below_drewN | apply below_drew1) | exact HB.out)))); have n2_ := Aside0.mk (below_step (by repeat (first | (with_reducible first | exact HB.out | apply below_alloc | apply pw_below_drewN | apply below_drew1) | exact HB.out)) hb); clear HO105; clear HB; have HO105 := n0_; have HO109 := n1_; have HB := n2_; clear n0_ n1_ n2_; (try clear hb); (try clear hb2); (try clear hk); (try clear hi); (try clear ho0)) | (go_at_call 12; (with_reducible refine (lex_Tokens.calls ((a0 ++ (⟨#[10]⟩ : ByteArray)) ++ a1) t110 t111 _ (MaxOk.of HM_.out (by repeat (first | (with_reducible first | exact HB.out | apply below_alloc | apply pw_below_drewN | apply below_drew1) | exact HB.out))) A9.out).mono ?_); rintro e w14 ⟨v112, rfl, ho0, hb⟩; have n0_ := Aside0.mk (Kd.R_elder' (by (with_reducible repeat (first | apply Kd.R_alloc | apply Kd.R_drewN | apply Kd.R_drew)); exact HO105.out) (Kd.R_base ho0) hb); have n1_ := Aside0.mk (Kd.R_elder' (by (with_reducible repeat (first | apply Kd.R_alloc | apply Kd.R_drewN | apply Kd.R_drew)); exact HO109.out) (Kd.R_base ho0) hb); have n2_ := Aside0.mk (Kd.R_lower (Kd.R_new' (Kd.R_new' ho0 (Kd.R_lt (by (with_reducible repeat (first | apply Kd.R_alloc | apply Kd.R_drewN | apply Kd.R_drew)); exact HO105.out))) (Kd.R_lt (by (with_reducible repeat (first | apply Kd.R_alloc | apply Kd.R_drewN | apply Kd.R_drew)); exact HO109.out))) (below_size (by repeat (first | (with_reducible first | exact HB.out | apply below_alloc | apply pw_below_drewN | apply below_drew1) | exact HB.out)))); have n3_ := Aside0.mk (below_step (by repeat (first | (with_reducible first | exact HB.out | apply below_alloc | apply pw_below_drewN | apply below_drew1) | exact HB.out)) hb); clear HO105; clear HO109; clear HB; have HO105 := n0_; have HO109 := n1_; have HO113 := n2_; have HB := n3_; clear n0_ n1_ n2_ n3_; (try clear hb); (try clear hb2); (try clear hk); (try clear hi); (try clear ho0))); go_upto_region 6 with (first | (go_at_call 17; (with_reducible refine (minuetlaw9_awake.calls k  true _ (MaxOk.of HM_.out (by repeat (first | (with_reducible first | exact HB.out | apply below_alloc | apply pw_below_drewN | apply below_drew1) | exact HB.out))) A3.out).mono ?_); rintro e w11 ⟨rfl, hb⟩; have n0_ := Aside0.mk (below_step (by repeat (first | (with_reducible first | exact HB.out | apply below_alloc | apply pw_below_drewN | apply below_drew1) | exact HB.out)) hb); clear HB; have HB := n0_; clear n0_; (try clear hb); (try clear hb2); (try clear hk); (try clear hi)) | (go_at_call 12; (with_reducible refine (lex_Tokens.calls a0 t102 t103 _ (MaxOk.of HM_.out (by repeat (first | (with_reducible first | exact HB.out | apply below_alloc | apply pw_below_drewN | apply below_drew1) | exact HB.out))) A5.out).mono ?_); rintro e w12 ⟨v104, rfl, ho0, hb⟩; have n0_ := Aside0.mk (Kd.R_lower ho0 (below_size (by repeat (first | (with_reducible first | exact HB.out | apply below_alloc | apply pw_below_drewN | apply below_drew1) | exact HB.out)))); have n1_ := Aside0.mk (below_step (by repeat (first | (with_reducible first | exact HB.out | apply below_alloc | apply pw_below_drewN | apply below_drew1) | exact HB.out)) hb); clear HB; have HO105 := n0_; have HB := n1_; clear n0_ n1_; (try clear hb); (try clear hb2); (try clear hk); (try clear hi); (try clear ho0)) | (go_at_call 12; (with_reducible refine (lex_Tokens.calls a1 t106 t107 _ (MaxOk.of HM_.out (by repeat (first | (with_reducible first | exact HB.out | apply below_alloc | apply pw_below_drewN | apply below_drew1) | exact HB.out))) A6.out).mono ?_); rintro e w13 ⟨v108, rfl, ho0, hb⟩; have n0_ := Aside0.mk (Kd.R_elder' (by (with_reducible repeat (first | apply Kd.R_alloc | apply Kd.R_drewN | apply Kd.R_drew)); exact HO105.out) (Kd.R_base ho0) hb); have n1_ := Aside0.mk (Kd.R_lower (Kd.R_new' ho0 (Kd.R_lt (by (with_reducible repeat (first | apply Kd.R_alloc | apply Kd.R_drewN | apply Kd.R_drew)); exact HO105.out))) (below_size (by repeat (first | (with_reducible first | exact HB.out | apply below_alloc | apply pw_below_drewN | apply below_drew1) | exact HB.out)))); have n2_ := Aside0.mk (below_step (by repeat (first | (with_reducible first | exact HB.out | apply below_alloc | apply pw_below_drewN | apply below_drew1) | exact HB.out)) hb); clear HO105; clear HB; have HO105 := n0_; have HO109 := n1_; have HB := n2_; clear n0_ n1_ n2_; (try clear hb); (try clear hb2); (try clear hk); (try clear hi); (try clear ho0)) | (go_at_call 12; (with_reducible refine (lex_Tokens.calls ((a0 ++ (⟨#[10]⟩ : ByteArray)) ++ a1) t110 t111 _ (MaxOk.of HM_.out (by repeat (first | (with_reducible first | exact HB.out | apply below_alloc | apply pw_below_drewN | apply below_drew1) | exact HB.out))) A9.out).mono ?_); rintro e w14 ⟨v112, rfl, ho0, hb⟩; have n0_ := Aside0.mk (Kd.R_elder' (by (with_reducible repeat (first | apply Kd.R_alloc | apply Kd.R_drewN | apply Kd.R_drew)); exact HO105.out) (Kd.R_base ho0) hb); have n1_ := Aside0.mk (Kd.R_elder' (by (with_reducible repeat (first | apply Kd.R_alloc | apply Kd.R_drewN | apply Kd.R_drew)); exact HO109.out) (Kd.R_base ho0) hb); have n2_ := Aside0.mk (Kd.R_lower (Kd.R_new' (Kd.R_new' ho0 (Kd.R_lt (by (with_reducible repeat (first | apply Kd.R_alloc | apply Kd.R_drewN | apply Kd.R_drew)); exact HO105.out))) (Kd.R_lt (by (with_reducible repeat (first | apply Kd.R_alloc | apply Kd.R_drewN | apply Kd.R_drew)); exact HO109.out))) (below_size (by repeat (first | (with_reducible first | exact HB.out | apply below_alloc | apply pw_below_drewN | apply below_drew1) | exact HB.out)))); have n3_ := Aside0.mk (below_step (by repeat (first | (with_reducible first | exact HB.out | apply below_alloc | apply pw_below_drewN | apply below_drew1) | exact HB.out)) hb); clear HO105; clear HO109; clear HB; have HO105 := n0_; have HO109 := n1_; have HO113 := n2_; have HB := n3_; clear n0_ n1_ n2_ n3_; (try clear hb); (try clear hb2); (try clear hk); (try clear hi); (try clear ho0))))
       (try simp only [Act.put, List.setIfInBounds_toArray, List.set_cons_zero, List.set_cons_succ])
       go_cut [47] (fun v47 wc => ∃ (kq : Nat) (x47_9 : Bool), v47 = .bool x47_9 ∧ Aside0 (minuetlaw9_LexParts.j0 kq a0 a1 t102 t106 t110 x47_9 = some r) ∧ Aside0 (kq ≤ k) ∧ Aside0 (Kd.R k34 34 wc w.heap.size (fun k_ => some k_ ≠ (v108 : Value).ownBlock ∧ some k_ ≠ (v112 : Value).ownBlock) v104 t102) ∧ Aside0 (Kd.R k34 34 wc w.heap.size (fun k_ => some k_ ≠ (v104 : Value).ownBlock ∧ some k_ ≠ (v112 : Value).ownBlock) v108 t106) ∧ Aside0 (Kd.R k34 34 wc w.heap.size (fun k_ => some k_ ≠ (v104 : Value).ownBlock ∧ some k_ ≠ (v108 : Value).ownBlock) v112 t110) ∧ Aside0 (Below w.heap.size w wc))
       case first =>
        have H := HC10.out
        clear HC10
        replace H := Option.bind_eq_some_iff.mp H
        obtain ⟨t114, A150, H⟩ := H
        replace H : (if t114 = 0 then ((minuetlaw0_Num.f t107).bind fun t115 => (if t115 = 0 then ((minuetlaw0_Num.f t111).bind fun t116 => (minuetlaw9_LexParts.j0 k a0 a1 t102 t106 t110 (t116 != 0))) else (minuetlaw9_LexParts.j0 k a0 a1 t102 t106 t110 true))) else (minuetlaw9_LexParts.j0 k a0 a1 t102 t106 t110 true)) = some r := H
        have A15 := Aside0.mk A150
        clear A150
        by_cases c16 : t114 = 0
        · rw [if_pos c16] at H
          have c16b0 : (t114 == 0) = true := beq_iff_eq.mpr c16
          have c16b1 : (t114 != 0) = false := bne_eq_false_iff_eq.mpr c16
          clear c16
          (first | rw [c16b0] | (simp only [i64_w, i32_w]; rw [c16b0]) | skip)
          replace H := Option.bind_eq_some_iff.mp H
          obtain ⟨t115, A170, H⟩ := H
          replace H : (if t115 = 0 then ((minuetlaw0_Num.f t111).bind fun t116 => (minuetlaw9_LexParts.j0 k a0 a1 t102 t106 t110 (t116 != 0))) else (minuetlaw9_LexParts.j0 k a0 a1 t102 t106 t110 true)) = some r := H
          have A17 := Aside0.mk A170
          clear A170
          by_cases c18 : t115 = 0
          · rw [if_pos c18] at H
            have c18b0 : (t115 == 0) = true := beq_iff_eq.mpr c18
            have c18b1 : (t115 != 0) = false := bne_eq_false_iff_eq.mpr c18
            clear c18
            replace H := Option.bind_eq_some_iff.mp H
            obtain ⟨t116, A190, H⟩ := H
            replace H : (minuetlaw9_LexParts.j0 k a0 a1 t102 t106 t110 (t116 != 0)) = some r := H
            have A19 := Aside0.mk A190
            clear A190
            have H' := Aside0.mk H
            clear H
            go_wp2_with (first | (go_at_call 15; (with_reducible refine (minuetlaw0_Num.calls t103 t114 _ A15.out).mono ?_); rintro e w' ⟨rfl, ⟨nd, rfl⟩⟩; (try first | exact ⟨rfl, _, World.drewN_drewN _ _ _⟩ | exact ⟨rfl, _, Eq.trans (World.drewN_drewN _ _ _) (congrArg (World.drewN _) (Nat.add_assoc _ _ _))⟩)) | (go_at_call 15; (with_reducible refine (minuetlaw0_Num.calls t107 t115 _ A17.out).mono ?_); rintro e w' ⟨rfl, ⟨nd, rfl⟩⟩; (try first | exact ⟨rfl, _, World.drewN_drewN _ _ _⟩ | exact ⟨rfl, _, Eq.trans (World.drewN_drewN _ _ _) (congrArg (World.drewN _) (Nat.add_assoc _ _ _))⟩)) | (go_at_call 15; (with_reducible refine (minuetlaw0_Num.calls t111 t116 _ A19.out).mono ?_); rintro e w' ⟨rfl, ⟨nd, rfl⟩⟩; (try first | exact ⟨rfl, _, World.drewN_drewN _ _ _⟩ | exact ⟨rfl, _, Eq.trans (World.drewN_drewN _ _ _) (congrArg (World.drewN _) (Nat.add_assoc _ _ _))⟩)))
            repeat (go_quiet (first | (go_at_call 15; (with_reducible refine (minuetlaw0_Num.calls t103 t114 _ A15.out).mono ?_); rintro e w' ⟨rfl, ⟨nd, rfl⟩⟩; (try first | exact ⟨rfl, _, World.drewN_drewN _ _ _⟩ | exact ⟨rfl, _, Eq.trans (World.drewN_drewN _ _ _) (congrArg (World.drewN _) (Nat.add_assoc _ _ _))⟩)) | (go_at_call 15; (with_reducible refine (minuetlaw0_Num.calls t107 t115 _ A17.out).mono ?_); rintro e w' ⟨rfl, ⟨nd, rfl⟩⟩; (try first | exact ⟨rfl, _, World.drewN_drewN _ _ _⟩ | exact ⟨rfl, _, Eq.trans (World.drewN_drewN _ _ _) (congrArg (World.drewN _) (Nat.add_assoc _ _ _))⟩)) | (go_at_call 15; (with_reducible refine (minuetlaw0_Num.calls t111 t116 _ A19.out).mono ?_); rintro e w' ⟨rfl, ⟨nd, rfl⟩⟩; (try first | exact ⟨rfl, _, World.drewN_drewN _ _ _⟩ | exact ⟨rfl, _, Eq.trans (World.drewN_drewN _ _ _) (congrArg (World.drewN _) (Nat.add_assoc _ _ _))⟩))); try go_wp2_with (first | (go_at_call 15; (with_reducible refine (minuetlaw0_Num.calls t103 t114 _ A15.out).mono ?_); rintro e w' ⟨rfl, ⟨nd, rfl⟩⟩; (try first | exact ⟨rfl, _, World.drewN_drewN _ _ _⟩ | exact ⟨rfl, _, Eq.trans (World.drewN_drewN _ _ _) (congrArg (World.drewN _) (Nat.add_assoc _ _ _))⟩)) | (go_at_call 15; (with_reducible refine (minuetlaw0_Num.calls t107 t115 _ A17.out).mono ?_); rintro e w' ⟨rfl, ⟨nd, rfl⟩⟩; (try first | exact ⟨rfl, _, World.drewN_drewN _ _ _⟩ | exact ⟨rfl, _, Eq.trans (World.drewN_drewN _ _ _) (congrArg (World.drewN _) (Nat.add_assoc _ _ _))⟩)) | (go_at_call 15; (with_reducible refine (minuetlaw0_Num.calls t111 t116 _ A19.out).mono ?_); rintro e w' ⟨rfl, ⟨nd, rfl⟩⟩; (try first | exact ⟨rfl, _, World.drewN_drewN _ _ _⟩ | exact ⟨rfl, _, Eq.trans (World.drewN_drewN _ _ _) (congrArg (World.drewN _) (Nat.add_assoc _ _ _))⟩))))
            go_meet
            case rel => exact ⟨_, ((t116 != 0)), (by first | rfl | (simp; done) | (simp [*]; done)), H', ⟨by first | omega | exact Nat.le_refl _⟩, ⟨by (with_reducible repeat (first | apply Kd.R_alloc | apply Kd.R_drewN | apply Kd.R_drew)); exact Kd.R_mono HO105.out (fun _ hk => ⟨hk.1.2, hk.2⟩)⟩, ⟨by (with_reducible repeat (first | apply Kd.R_alloc | apply Kd.R_drewN | apply Kd.R_drew)); exact Kd.R_mono HO109.out (fun _ hk => ⟨hk.1.2, hk.2⟩)⟩, ⟨by (with_reducible repeat (first | apply Kd.R_alloc | apply Kd.R_drewN | apply Kd.R_drew)); exact Kd.R_mono HO113.out (fun _ hk => ⟨hk.1.2, hk.2⟩)⟩, ⟨by repeat (first | (with_reducible first | exact HB.out | apply below_alloc | apply pw_below_drewN | apply below_drew1) | exact HB.out)⟩⟩
          · rw [if_neg c18] at H
            have c18b0 : (t115 == 0) = false := beq_eq_false_iff_ne.mpr c18
            have c18b1 : (t115 != 0) = true := bne_iff_ne.mpr c18
            have H' := Aside0.mk H
            clear H
            go_wp2_with (first | (go_at_call 15; (with_reducible refine (minuetlaw0_Num.calls t103 t114 _ A15.out).mono ?_); rintro e w' ⟨rfl, ⟨nd, rfl⟩⟩; (try first | exact ⟨rfl, _, World.drewN_drewN _ _ _⟩ | exact ⟨rfl, _, Eq.trans (World.drewN_drewN _ _ _) (congrArg (World.drewN _) (Nat.add_assoc _ _ _))⟩)) | (go_at_call 15; (with_reducible refine (minuetlaw0_Num.calls t107 t115 _ A17.out).mono ?_); rintro e w' ⟨rfl, ⟨nd, rfl⟩⟩; (try first | exact ⟨rfl, _, World.drewN_drewN _ _ _⟩ | exact ⟨rfl, _, Eq.trans (World.drewN_drewN _ _ _) (congrArg (World.drewN _) (Nat.add_assoc _ _ _))⟩)))
            repeat (go_quiet (first | (go_at_call 15; (with_reducible refine (minuetlaw0_Num.calls t103 t114 _ A15.out).mono ?_); rintro e w' ⟨rfl, ⟨nd, rfl⟩⟩; (try first | exact ⟨rfl, _, World.drewN_drewN _ _ _⟩ | exact ⟨rfl, _, Eq.trans (World.drewN_drewN _ _ _) (congrArg (World.drewN _) (Nat.add_assoc _ _ _))⟩)) | (go_at_call 15; (with_reducible refine (minuetlaw0_Num.calls t107 t115 _ A17.out).mono ?_); rintro e w' ⟨rfl, ⟨nd, rfl⟩⟩; (try first | exact ⟨rfl, _, World.drewN_drewN _ _ _⟩ | exact ⟨rfl, _, Eq.trans (World.drewN_drewN _ _ _) (congrArg (World.drewN _) (Nat.add_assoc _ _ _))⟩))); try go_wp2_with (first | (go_at_call 15; (with_reducible refine (minuetlaw0_Num.calls t103 t114 _ A15.out).mono ?_); rintro e w' ⟨rfl, ⟨nd, rfl⟩⟩; (try first | exact ⟨rfl, _, World.drewN_drewN _ _ _⟩ | exact ⟨rfl, _, Eq.trans (World.drewN_drewN _ _ _) (congrArg (World.drewN _) (Nat.add_assoc _ _ _))⟩)) | (go_at_call 15; (with_reducible refine (minuetlaw0_Num.calls t107 t115 _ A17.out).mono ?_); rintro e w' ⟨rfl, ⟨nd, rfl⟩⟩; (try first | exact ⟨rfl, _, World.drewN_drewN _ _ _⟩ | exact ⟨rfl, _, Eq.trans (World.drewN_drewN _ _ _) (congrArg (World.drewN _) (Nat.add_assoc _ _ _))⟩))))
            go_meet
            case rel => exact ⟨_, (true), (by first | rfl | (simp; done) | (simp [*]; done)), H', ⟨by first | omega | exact Nat.le_refl _⟩, ⟨by (with_reducible repeat (first | apply Kd.R_alloc | apply Kd.R_drewN | apply Kd.R_drew)); exact Kd.R_mono HO105.out (fun _ hk => ⟨hk.1.2, hk.2⟩)⟩, ⟨by (with_reducible repeat (first | apply Kd.R_alloc | apply Kd.R_drewN | apply Kd.R_drew)); exact Kd.R_mono HO109.out (fun _ hk => ⟨hk.1.2, hk.2⟩)⟩, ⟨by (with_reducible repeat (first | apply Kd.R_alloc | apply Kd.R_drewN | apply Kd.R_drew)); exact Kd.R_mono HO113.out (fun _ hk => ⟨hk.1.2, hk.2⟩)⟩, ⟨by repeat (first | (with_reducible first | exact HB.out | apply below_alloc | apply pw_below_drewN | apply below_drew1) | exact HB.out)⟩⟩
        · rw [if_neg c16] at H
          have c16b0 : (t114 == 0) = false := beq_eq_false_iff_ne.mpr c16
          have c16b1 : (t114 != 0) = true := bne_iff_ne.mpr c16
          (first | rw [c16b0] | (simp only [i64_w, i32_w]; rw [c16b0]) | skip)
          have H' := Aside0.mk H
          clear H
          go_wp2_with (first | (go_at_call 15; (with_reducible refine (minuetlaw0_Num.calls t103 t114 _ A15.out).mono ?_); rintro e w' ⟨rfl, ⟨nd, rfl⟩⟩; (try first | exact ⟨rfl, _, World.drewN_drewN _ _ _⟩ | exact ⟨rfl, _, Eq.trans (World.drewN_drewN _ _ _) (congrArg (World.drewN _) (Nat.add_assoc _ _ _))⟩)))
          repeat (go_quiet (first | (go_at_call 15; (with_reducible refine (minuetlaw0_Num.calls t103 t114 _ A15.out).mono ?_); rintro e w' ⟨rfl, ⟨nd, rfl⟩⟩; (try first | exact ⟨rfl, _, World.drewN_drewN _ _ _⟩ | exact ⟨rfl, _, Eq.trans (World.drewN_drewN _ _ _) (congrArg (World.drewN _) (Nat.add_assoc _ _ _))⟩))); try go_wp2_with (first | (go_at_call 15; (with_reducible refine (minuetlaw0_Num.calls t103 t114 _ A15.out).mono ?_); rintro e w' ⟨rfl, ⟨nd, rfl⟩⟩; (try first | exact ⟨rfl, _, World.drewN_drewN _ _ _⟩ | exact ⟨rfl, _, Eq.trans (World.drewN_drewN _ _ _) (congrArg (World.drewN _) (Nat.add_assoc _ _ _))⟩))))
          go_meet
          case rel => exact ⟨_, (true), (by first | rfl | (simp; done) | (simp [*]; done)), H', ⟨by first | omega | exact Nat.le_refl _⟩, ⟨by (with_reducible repeat (first | apply Kd.R_alloc | apply Kd.R_drewN | apply Kd.R_drew)); exact Kd.R_mono HO105.out (fun _ hk => ⟨hk.1.2, hk.2⟩)⟩, ⟨by (with_reducible repeat (first | apply Kd.R_alloc | apply Kd.R_drewN | apply Kd.R_drew)); exact Kd.R_mono HO109.out (fun _ hk => ⟨hk.1.2, hk.2⟩)⟩, ⟨by (with_reducible repeat (first | apply Kd.R_alloc | apply Kd.R_drewN | apply Kd.R_drew)); exact Kd.R_mono HO113.out (fun _ hk => ⟨hk.1.2, hk.2⟩)⟩, ⟨by repeat (first | (with_reducible first | exact HB.out | apply below_alloc | apply pw_below_drewN | apply below_drew1) | exact HB.out)⟩⟩
       case rest =>
        clear HC10
        try clear c1
        try clear p2
        try clear c4
        try clear c7
        try clear c7b0
        try clear c7b1
        try clear c7b2
        try clear c8
        try clear c8b0
        try clear c8b1
        try clear c8b2
        try clear c16
        try clear c16b0
        try clear c16b1
        try clear c18
        try clear c18b0
        try clear c18b1
        obtain ⟨kq, x47_9, rfl, HA, HJ9, HO_5, HO_7, HO_9, HB⟩ := hcut
        cases kq with
        | zero => exact absurd HA.out (by simp [minuetlaw9_LexParts.j0])
        | succ kj9 =>
         have H := HA.out
         clear HA
         simp only [minuetlaw9_LexParts.j0] at H
         by_cases c20 : x47_9 = true
         · subst c20
           have H1 : (some (decide ((wrap64 ((wrap64 ((a0.size : Int) + (a1.size : Int))) + 1)) > 300))) = some r := by rw [if_pos rfl] at H; exact H
           clear H
           have H := H1
           clear H1
           obtain rfl := Option.some.inj H
           go_wp2
           repeat (go_quiet (fail); try go_wp2)
           go_ret
           exact ⟨by first | rfl | (simp [errW_none, errW_some] <;> rfl) | (simp [*, errW_none, errW_some] <;> rfl), by repeat (first | (with_reducible first | exact HB.out | apply below_alloc | apply pw_below_drewN | apply below_drew1) | exact HB.out)⟩
         · replace c20 := Bool.eq_false_iff.mpr c20
           subst c20
           have H1 : (if (t102.length : Int) > 0 then (if 0 ≤ (wrap64 ((t102.length : Int) - 1)) then (if (wrap64 ((t102.length : Int) - 1)) < (t102.length : Int) then (if ((rd_T34 t102 (wrap64 ((t102.length : Int) - 1))).f0) = 11 then (if (wrap64 (((rd_T34 t102 (wrap64 ((t102.length : Int) - 1))).f2) - ((rd_T34 t102 (wrap64 ((t102.length : Int) - 1))).f1))) > 1 then (minuetlaw9_LexParts.j1 kj9 a0 t102 t106 t110 (t102.length : Int) true) else (if ((rd_T34 t102 (wrap64 ((t102.length : Int) - 1))).f0) = 10 then (minuetlaw9_LexParts.j1 kj9 a0 t102 t106 t110 (t102.length : Int) true) else (if (t106.length : Int) > 0 then (if 0 < (t106.length : Int) then (minuetlaw9_LexParts.j1 kj9 a0 t102 t106 t110 (t102.length : Int) (((rd_T34 t106 0).f0) == 10)) else (none)) else (minuetlaw9_LexParts.j1 kj9 a0 t102 t106 t110 (t102.length : Int) false)))) else (if ((rd_T34 t102 (wrap64 ((t102.length : Int) - 1))).f0) = 10 then (minuetlaw9_LexParts.j1 kj9 a0 t102 t106 t110 (t102.length : Int) true) else (if (t106.length : Int) > 0 then (if 0 < (t106.length : Int) then (minuetlaw9_LexParts.j1 kj9 a0 t102 t106 t110 (t102.length : Int) (((rd_T34 t106 0).f0) == 10)) else (none)) else (minuetlaw9_LexParts.j1 kj9 a0 t102 t106 t110 (t102.length : Int) false)))) else (none)) else (none)) else (if (t106.length : Int) > 0 then (if 0 < (t106.length : Int) then (minuetlaw9_LexParts.j1 kj9 a0 t102 t106 t110 (t102.length : Int) (((rd_T34 t106 0).f0) == 10)) else (none)) else (minuetlaw9_LexParts.j1 kj9 a0 t102 t106 t110 (t102.length : Int) false))) = some r := by rw [if_neg (show ¬ (false = true) by decide)] at H; exact H
           clear H
           have H := H1
           clear H1
           have HC21 := Aside0.mk H
           clear H
           obtain ⟨Ao22, co22, eo22⟩ := Kd.R_slice HO_5.out
           subst eo22
           go_upto_region 9 with (fail)
           repeat (go_quiet (fail); go_upto_region 9 with (fail))
           go_cut [104] (fun v104 wc => ∃ (kq : Nat) (x104_20 : Bool), v104 = .bool x104_20 ∧ Aside0 (minuetlaw9_LexParts.j1 kq a0 t102 t106 t110 (t102.length : Int) x104_20 = some r) ∧ Aside0 (kq ≤ kj9) ∧ Aside0 (Kd.R k34 34 wc w.heap.size (fun k_ => some k_ ≠ (v108 : Value).ownBlock ∧ some k_ ≠ (v112 : Value).ownBlock) (.slice Ao22 t102.length co22) t102) ∧ Aside0 (Kd.R k34 34 wc w.heap.size (fun k_ => some k_ ≠ ((.slice Ao22 t102.length co22) : Value).ownBlock ∧ some k_ ≠ (v112 : Value).ownBlock) v108 t106) ∧ Aside0 (Kd.R k34 34 wc w.heap.size (fun k_ => some k_ ≠ ((.slice Ao22 t102.length co22) : Value).ownBlock ∧ some k_ ≠ (v108 : Value).ownBlock) v112 t110) ∧ Aside0 (Below w.heap.size w wc))
           case first =>
            have H := HC21.out
            clear HC21
            by_cases c23 : (t102.length : Int) > 0
            · rw [if_pos c23] at H
              have c23b0 : decide (0 < (t102.length : Int)) = true := decide_eq_true c23
              have c23b1 : decide (0 < t102.length) = true := decide_eq_true (by omega)
              clear c23
              (first | rw [c23b0] | (simp only [i64_w, i32_w]; rw [c23b0]) | skip)
              obtain ⟨ji24, hji24⟩ : ∃ j_ : Int, (wrap64 ((t102.length : Int) - 1)) = j_ := ⟨_, rfl⟩
              replace H : (if 0 ≤ (ji24) then (if (ji24) < (t102.length : Int) then (if ((rd_T34 t102 (ji24)).f0) = 11 then (if (wrap64 (((rd_T34 t102 (ji24)).f2) - ((rd_T34 t102 (ji24)).f1))) > 1 then (minuetlaw9_LexParts.j1 kj9 a0 t102 t106 t110 (t102.length : Int) true) else (if ((rd_T34 t102 (ji24)).f0) = 10 then (minuetlaw9_LexParts.j1 kj9 a0 t102 t106 t110 (t102.length : Int) true) else (if (t106.length : Int) > 0 then (if 0 < (t106.length : Int) then (minuetlaw9_LexParts.j1 kj9 a0 t102 t106 t110 (t102.length : Int) (((rd_T34 t106 0).f0) == 10)) else (none)) else (minuetlaw9_LexParts.j1 kj9 a0 t102 t106 t110 (t102.length : Int) false)))) else (if ((rd_T34 t102 (ji24)).f0) = 10 then (minuetlaw9_LexParts.j1 kj9 a0 t102 t106 t110 (t102.length : Int) true) else (if (t106.length : Int) > 0 then (if 0 < (t106.length : Int) then (minuetlaw9_LexParts.j1 kj9 a0 t102 t106 t110 (t102.length : Int) (((rd_T34 t106 0).f0) == 10)) else (none)) else (minuetlaw9_LexParts.j1 kj9 a0 t102 t106 t110 (t102.length : Int) false)))) else (none)) else (none)) = some r := by first | (rw [hji24] at H; exact H) | (simp only [hji24] at H ⊢; exact H)
              have hji24w : (IntKind.i64.wrap ((t102.length : Int) - 1)) = ji24 := (i64_w _).trans hji24
              by_cases c25 : 0 ≤ (ji24)
              · rw [if_pos c25] at H
                have c25b0 : decide (0 ≤ (ji24)) = true := decide_eq_true c25
                clear c25
                by_cases c26 : (ji24) < (t102.length : Int)
                · rw [if_pos c26] at H
                  have c26b0 : decide ((ji24) < (t102.length : Int)) = true := decide_eq_true c26
                  clear c26
                  by_cases c27 : ((rd_T34 t102 (ji24)).f0) = 11
                  · rw [if_pos c27] at H
                    have c27b0 : (((rd_T34 t102 (ji24)).f0) == 11) = true := beq_iff_eq.mpr c27
                    have c27b1 : (((rd_T34 t102 (ji24)).f0) != 11) = false := bne_eq_false_iff_eq.mpr c27
                    clear c27
                    by_cases c28 : (wrap64 (((rd_T34 t102 (ji24)).f2) - ((rd_T34 t102 (ji24)).f1))) > 1
                    · rw [if_pos c28] at H
                      have c28b0 : decide (1 < (wrap64 (((rd_T34 t102 (ji24)).f2) - ((rd_T34 t102 (ji24)).f1)))) = true := decide_eq_true c28
                      clear c28
                      have H' := Aside0.mk H
                      clear H
                      have p117 : 0 ≤ ((ji24) : Int) := of_decide_eq_true (by first | (with_reducible assumption) | assumption)
                      have q117 : (ji24) < (t102.length : Int) := of_decide_eq_true (by first | (with_reducible assumption) | assumption)
                      obtain ⟨ad117, e117, hx117_0, hx117_1, hx117_2⟩ := at_T34 (Kd.R_reads' HO_5.out).2.2 (ji24) p117 q117
                      cases e117
                      replace p117 := eq_true p117
                      replace q117 := eq_true q117
                      have p118 : 0 ≤ ((ji24) : Int) := of_decide_eq_true (by first | (with_reducible assumption) | assumption)
                      have q118 : (ji24) < (t102.length : Int) := of_decide_eq_true (by first | (with_reducible assumption) | assumption)
                      obtain ⟨ad118, e118, hx118_0, hx118_1, hx118_2⟩ := at_T34 (Kd.R_reads' HO_5.out).2.2 (ji24) p118 q118
                      obtain rfl : ad117 = ad118 := (by injection e118)
                      replace p118 := eq_true p118
                      replace q118 := eq_true q118
                      have p119 : 0 ≤ ((ji24) : Int) := of_decide_eq_true (by first | (with_reducible assumption) | assumption)
                      have q119 : (ji24) < (t102.length : Int) := of_decide_eq_true (by first | (with_reducible assumption) | assumption)
                      obtain ⟨ad119, e119, hx119_0, hx119_1, hx119_2⟩ := at_T34 (Kd.R_reads' HO_5.out).2.2 (ji24) p119 q119
                      obtain rfl : ad117 = ad119 := (by injection e119)
                      replace p119 := eq_true p119
                      replace q119 := eq_true q119
                      go_wp2
                      repeat (go_quiet (fail); try go_wp2)
                      go_meet
                      case rel => exact ⟨_, (true), (by first | rfl | (simp; done) | (simp [*]; done)), H', ⟨by have := HJ9.out; first | omega | exact Nat.le_refl _⟩, ⟨by (with_reducible repeat (first | apply Kd.R_alloc | apply Kd.R_drewN | apply Kd.R_drew)); exact HO_5.out⟩, ⟨by (with_reducible repeat (first | apply Kd.R_alloc | apply Kd.R_drewN | apply Kd.R_drew)); exact HO_7.out⟩, ⟨by (with_reducible repeat (first | apply Kd.R_alloc | apply Kd.R_drewN | apply Kd.R_drew)); exact HO_9.out⟩, ⟨by repeat (first | (with_reducible first | exact HB.out | apply below_alloc | apply pw_below_drewN | apply below_drew1) | exact HB.out)⟩⟩
                    · rw [if_neg c28] at H
                      have c28b0 : decide (1 < (wrap64 (((rd_T34 t102 (ji24)).f2) - ((rd_T34 t102 (ji24)).f1)))) = false := decide_eq_false c28
                      clear c28
                      by_cases c29 : ((rd_T34 t102 (ji24)).f0) = 10
                      · rw [if_pos c29] at H
                        have c29b0 : (((rd_T34 t102 (ji24)).f0) == 10) = true := beq_iff_eq.mpr c29
                        have c29b1 : (((rd_T34 t102 (ji24)).f0) != 10) = false := bne_eq_false_iff_eq.mpr c29
                        clear c29
                        have H' := Aside0.mk H
                        clear H
                        have p117 : 0 ≤ ((ji24) : Int) := of_decide_eq_true (by first | (with_reducible assumption) | assumption)
                        have q117 : (ji24) < (t102.length : Int) := of_decide_eq_true (by first | (with_reducible assumption) | assumption)
                        obtain ⟨ad117, e117, hx117_0, hx117_1, hx117_2⟩ := at_T34 (Kd.R_reads' HO_5.out).2.2 (ji24) p117 q117
                        cases e117
                        replace p117 := eq_true p117
                        replace q117 := eq_true q117
                        have p118 : 0 ≤ ((ji24) : Int) := of_decide_eq_true (by first | (with_reducible assumption) | assumption)
                        have q118 : (ji24) < (t102.length : Int) := of_decide_eq_true (by first | (with_reducible assumption) | assumption)
                        obtain ⟨ad118, e118, hx118_0, hx118_1, hx118_2⟩ := at_T34 (Kd.R_reads' HO_5.out).2.2 (ji24) p118 q118
                        obtain rfl : ad117 = ad118 := (by injection e118)
                        replace p118 := eq_true p118
                        replace q118 := eq_true q118
                        have p119 : 0 ≤ ((ji24) : Int) := of_decide_eq_true (by first | (with_reducible assumption) | assumption)
                        have q119 : (ji24) < (t102.length : Int) := of_decide_eq_true (by first | (with_reducible assumption) | assumption)
                        obtain ⟨ad119, e119, hx119_0, hx119_1, hx119_2⟩ := at_T34 (Kd.R_reads' HO_5.out).2.2 (ji24) p119 q119
                        obtain rfl : ad117 = ad119 := (by injection e119)
                        replace p119 := eq_true p119
                        replace q119 := eq_true q119
                        have p120 : 0 ≤ ((ji24) : Int) := of_decide_eq_true (by first | (with_reducible assumption) | assumption)
                        have q120 : (ji24) < (t102.length : Int) := of_decide_eq_true (by first | (with_reducible assumption) | assumption)
                        obtain ⟨ad120, e120, hx120_0, hx120_1, hx120_2⟩ := at_T34 (Kd.R_reads' HO_5.out).2.2 (ji24) p120 q120
                        obtain rfl : ad117 = ad120 := (by injection e120)
                        replace p120 := eq_true p120
                        replace q120 := eq_true q120
                        go_wp2
                        repeat (go_quiet (fail); try go_wp2)
                        go_meet
                        case rel => exact ⟨_, (true), (by first | rfl | (simp; done) | (simp [*]; done)), H', ⟨by have := HJ9.out; first | omega | exact Nat.le_refl _⟩, ⟨by (with_reducible repeat (first | apply Kd.R_alloc | apply Kd.R_drewN | apply Kd.R_drew)); exact HO_5.out⟩, ⟨by (with_reducible repeat (first | apply Kd.R_alloc | apply Kd.R_drewN | apply Kd.R_drew)); exact HO_7.out⟩, ⟨by (with_reducible repeat (first | apply Kd.R_alloc | apply Kd.R_drewN | apply Kd.R_drew)); exact HO_9.out⟩, ⟨by repeat (first | (with_reducible first | exact HB.out | apply below_alloc | apply pw_below_drewN | apply below_drew1) | exact HB.out)⟩⟩
                      · rw [if_neg c29] at H
                        have c29b0 : (((rd_T34 t102 (ji24)).f0) == 10) = false := beq_eq_false_iff_ne.mpr c29
                        have c29b1 : (((rd_T34 t102 (ji24)).f0) != 10) = true := bne_iff_ne.mpr c29
                        by_cases c30 : (t106.length : Int) > 0
                        · rw [if_pos c30] at H
                          have c30b0 : decide (0 < (t106.length : Int)) = true := decide_eq_true c30
                          have c30b1 : decide (0 < t106.length) = true := decide_eq_true (by omega)
                          clear c30
                          by_cases c31 : 0 < (t106.length : Int)
                          · rw [if_pos c31] at H
                            have c31b0 : decide (0 < (t106.length : Int)) = true := decide_eq_true c31
                            have c31b1 : decide (0 < t106.length) = true := decide_eq_true (by omega)
                            clear c31
                            have H' := Aside0.mk H
                            clear H
                            have p117 : 0 ≤ ((ji24) : Int) := of_decide_eq_true (by first | (with_reducible assumption) | assumption)
                            have q117 : (ji24) < (t102.length : Int) := of_decide_eq_true (by first | (with_reducible assumption) | assumption)
                            obtain ⟨ad117, e117, hx117_0, hx117_1, hx117_2⟩ := at_T34 (Kd.R_reads' HO_5.out).2.2 (ji24) p117 q117
                            cases e117
                            replace p117 := eq_true p117
                            replace q117 := eq_true q117
                            have p118 : 0 ≤ ((ji24) : Int) := of_decide_eq_true (by first | (with_reducible assumption) | assumption)
                            have q118 : (ji24) < (t102.length : Int) := of_decide_eq_true (by first | (with_reducible assumption) | assumption)
                            obtain ⟨ad118, e118, hx118_0, hx118_1, hx118_2⟩ := at_T34 (Kd.R_reads' HO_5.out).2.2 (ji24) p118 q118
                            obtain rfl : ad117 = ad118 := (by injection e118)
                            replace p118 := eq_true p118
                            replace q118 := eq_true q118
                            have p119 : 0 ≤ ((ji24) : Int) := of_decide_eq_true (by first | (with_reducible assumption) | assumption)
                            have q119 : (ji24) < (t102.length : Int) := of_decide_eq_true (by first | (with_reducible assumption) | assumption)
                            obtain ⟨ad119, e119, hx119_0, hx119_1, hx119_2⟩ := at_T34 (Kd.R_reads' HO_5.out).2.2 (ji24) p119 q119
                            obtain rfl : ad117 = ad119 := (by injection e119)
                            replace p119 := eq_true p119
                            replace q119 := eq_true q119
                            have p120 : 0 ≤ ((ji24) : Int) := of_decide_eq_true (by first | (with_reducible assumption) | assumption)
                            have q120 : (ji24) < (t102.length : Int) := of_decide_eq_true (by first | (with_reducible assumption) | assumption)
                            obtain ⟨ad120, e120, hx120_0, hx120_1, hx120_2⟩ := at_T34 (Kd.R_reads' HO_5.out).2.2 (ji24) p120 q120
                            obtain rfl : ad117 = ad120 := (by injection e120)
                            replace p120 := eq_true p120
                            replace q120 := eq_true q120
                            obtain ⟨Ao32, co32, eo32⟩ := Kd.R_slice HO_7.out
                            subst eo32
                            have p121 : 0 ≤ (0 : Int) := (by omega)
                            have q121 : 0 < (t106.length : Int) := of_decide_eq_true (by first | (with_reducible assumption) | assumption)
                            obtain ⟨ad121, e121, hx121_0, hx121_1, hx121_2⟩ := at_T34 (Kd.R_reads' HO_7.out).2.2 0 p121 q121
                            cases e121
                            have qi121 : (0 < t106.length) = True := eq_true (by omega)
                            (try rw [show ((0 : Int)).toNat = 0 from rfl] at hx121_0)
                            (try rw [show 0 * 3 = 0 from rfl] at hx121_0)
                            (try rw [Addr.add_zero'] at hx121_0)
                            (try rw [show ((0 : Int)).toNat = 0 from rfl] at hx121_1)
                            (try rw [show 0 * 3 = 0 from rfl] at hx121_1)
                            (try rw [Addr.add_zero'] at hx121_1)
                            (try rw [show ((0 : Int)).toNat = 0 from rfl] at hx121_2)
                            (try rw [show 0 * 3 = 0 from rfl] at hx121_2)
                            (try rw [Addr.add_zero'] at hx121_2)
                            replace p121 := eq_true p121
                            replace q121 := eq_true q121
                            go_wp2
                            repeat (go_quiet (fail); try go_wp2)
                            go_meet
                            case rel => exact ⟨_, ((((rd_T34 t106 0).f0) == 10)), (by first | rfl | (simp; done) | (simp [*]; done)), H', ⟨by have := HJ9.out; first | omega | exact Nat.le_refl _⟩, ⟨by (with_reducible repeat (first | apply Kd.R_alloc | apply Kd.R_drewN | apply Kd.R_drew)); exact HO_5.out⟩, ⟨by (with_reducible repeat (first | apply Kd.R_alloc | apply Kd.R_drewN | apply Kd.R_drew)); exact HO_7.out⟩, ⟨by (with_reducible repeat (first | apply Kd.R_alloc | apply Kd.R_drewN | apply Kd.R_drew)); exact HO_9.out⟩, ⟨by repeat (first | (with_reducible first | exact HB.out | apply below_alloc | apply pw_below_drewN | apply below_drew1) | exact HB.out)⟩⟩
                          · rw [if_neg c31] at H
                            exact absurd H (by simp)
                        · rw [if_neg c30] at H
                          have c30b0 : decide (0 < (t106.length : Int)) = false := decide_eq_false c30
                          have c30b1 : decide (0 < t106.length) = false := decide_eq_false (by omega)
                          clear c30
                          have H' := Aside0.mk H
                          clear H
                          have p117 : 0 ≤ ((ji24) : Int) := of_decide_eq_true (by first | (with_reducible assumption) | assumption)
                          have q117 : (ji24) < (t102.length : Int) := of_decide_eq_true (by first | (with_reducible assumption) | assumption)
                          obtain ⟨ad117, e117, hx117_0, hx117_1, hx117_2⟩ := at_T34 (Kd.R_reads' HO_5.out).2.2 (ji24) p117 q117
                          cases e117
                          replace p117 := eq_true p117
                          replace q117 := eq_true q117
                          have p118 : 0 ≤ ((ji24) : Int) := of_decide_eq_true (by first | (with_reducible assumption) | assumption)
                          have q118 : (ji24) < (t102.length : Int) := of_decide_eq_true (by first | (with_reducible assumption) | assumption)
                          obtain ⟨ad118, e118, hx118_0, hx118_1, hx118_2⟩ := at_T34 (Kd.R_reads' HO_5.out).2.2 (ji24) p118 q118
                          obtain rfl : ad117 = ad118 := (by injection e118)
                          replace p118 := eq_true p118
                          replace q118 := eq_true q118
                          have p119 : 0 ≤ ((ji24) : Int) := of_decide_eq_true (by first | (with_reducible assumption) | assumption)
                          have q119 : (ji24) < (t102.length : Int) := of_decide_eq_true (by first | (with_reducible assumption) | assumption)
                          obtain ⟨ad119, e119, hx119_0, hx119_1, hx119_2⟩ := at_T34 (Kd.R_reads' HO_5.out).2.2 (ji24) p119 q119
                          obtain rfl : ad117 = ad119 := (by injection e119)
                          replace p119 := eq_true p119
                          replace q119 := eq_true q119
                          have p120 : 0 ≤ ((ji24) : Int) := of_decide_eq_true (by first | (with_reducible assumption) | assumption)
                          have q120 : (ji24) < (t102.length : Int) := of_decide_eq_true (by first | (with_reducible assumption) | assumption)
                          obtain ⟨ad120, e120, hx120_0, hx120_1, hx120_2⟩ := at_T34 (Kd.R_reads' HO_5.out).2.2 (ji24) p120 q120
                          obtain rfl : ad117 = ad120 := (by injection e120)
                          replace p120 := eq_true p120
                          replace q120 := eq_true q120
                          obtain ⟨Ao33, co33, eo33⟩ := Kd.R_slice HO_7.out
                          subst eo33
                          go_wp2
                          repeat (go_quiet (fail); try go_wp2)
                          go_meet
                          case rel => exact ⟨_, (false), (by first | rfl | (simp; done) | (simp [*]; done)), H', ⟨by have := HJ9.out; first | omega | exact Nat.le_refl _⟩, ⟨by (with_reducible repeat (first | apply Kd.R_alloc | apply Kd.R_drewN | apply Kd.R_drew)); exact HO_5.out⟩, ⟨by (with_reducible repeat (first | apply Kd.R_alloc | apply Kd.R_drewN | apply Kd.R_drew)); exact HO_7.out⟩, ⟨by (with_reducible repeat (first | apply Kd.R_alloc | apply Kd.R_drewN | apply Kd.R_drew)); exact HO_9.out⟩, ⟨by repeat (first | (with_reducible first | exact HB.out | apply below_alloc | apply pw_below_drewN | apply below_drew1) | exact HB.out)⟩⟩
                  · rw [if_neg c27] at H
                    have c27b0 : (((rd_T34 t102 (ji24)).f0) == 11) = false := beq_eq_false_iff_ne.mpr c27
                    have c27b1 : (((rd_T34 t102 (ji24)).f0) != 11) = true := bne_iff_ne.mpr c27
                    by_cases c34 : ((rd_T34 t102 (ji24)).f0) = 10
                    · rw [if_pos c34] at H
                      have c34b0 : (((rd_T34 t102 (ji24)).f0) == 10) = true := beq_iff_eq.mpr c34
                      have c34b1 : (((rd_T34 t102 (ji24)).f0) != 10) = false := bne_eq_false_iff_eq.mpr c34
                      clear c34
                      have H' := Aside0.mk H
                      clear H
                      have p117 : 0 ≤ ((ji24) : Int) := of_decide_eq_true (by first | (with_reducible assumption) | assumption)
                      have q117 : (ji24) < (t102.length : Int) := of_decide_eq_true (by first | (with_reducible assumption) | assumption)
                      obtain ⟨ad117, e117, hx117_0, hx117_1, hx117_2⟩ := at_T34 (Kd.R_reads' HO_5.out).2.2 (ji24) p117 q117
                      cases e117
                      replace p117 := eq_true p117
                      replace q117 := eq_true q117
                      have p122 : 0 ≤ ((ji24) : Int) := of_decide_eq_true (by first | (with_reducible assumption) | assumption)
                      have q122 : (ji24) < (t102.length : Int) := of_decide_eq_true (by first | (with_reducible assumption) | assumption)
                      obtain ⟨ad122, e122, hx122_0, hx122_1, hx122_2⟩ := at_T34 (Kd.R_reads' HO_5.out).2.2 (ji24) p122 q122
                      obtain rfl : ad117 = ad122 := (by injection e122)
                      replace p122 := eq_true p122
                      replace q122 := eq_true q122
                      go_wp2
                      repeat (go_quiet (fail); try go_wp2)
                      go_meet
                      case rel => exact ⟨_, (true), (by first | rfl | (simp; done) | (simp [*]; done)), H', ⟨by have := HJ9.out; first | omega | exact Nat.le_refl _⟩, ⟨by (with_reducible repeat (first | apply Kd.R_alloc | apply Kd.R_drewN | apply Kd.R_drew)); exact HO_5.out⟩, ⟨by (with_reducible repeat (first | apply Kd.R_alloc | apply Kd.R_drewN | apply Kd.R_drew)); exact HO_7.out⟩, ⟨by (with_reducible repeat (first | apply Kd.R_alloc | apply Kd.R_drewN | apply Kd.R_drew)); exact HO_9.out⟩, ⟨by repeat (first | (with_reducible first | exact HB.out | apply below_alloc | apply pw_below_drewN | apply below_drew1) | exact HB.out)⟩⟩
                    · rw [if_neg c34] at H
                      have c34b0 : (((rd_T34 t102 (ji24)).f0) == 10) = false := beq_eq_false_iff_ne.mpr c34
                      have c34b1 : (((rd_T34 t102 (ji24)).f0) != 10) = true := bne_iff_ne.mpr c34
                      by_cases c35 : (t106.length : Int) > 0
                      · rw [if_pos c35] at H
                        have c35b0 : decide (0 < (t106.length : Int)) = true := decide_eq_true c35
                        have c35b1 : decide (0 < t106.length) = true := decide_eq_true (by omega)
                        clear c35
                        by_cases c36 : 0 < (t106.length : Int)
                        · rw [if_pos c36] at H
                          have c36b0 : decide (0 < (t106.length : Int)) = true := decide_eq_true c36
                          have c36b1 : decide (0 < t106.length) = true := decide_eq_true (by omega)
                          clear c36
                          have H' := Aside0.mk H
                          clear H
                          have p117 : 0 ≤ ((ji24) : Int) := of_decide_eq_true (by first | (with_reducible assumption) | assumption)
                          have q117 : (ji24) < (t102.length : Int) := of_decide_eq_true (by first | (with_reducible assumption) | assumption)
                          obtain ⟨ad117, e117, hx117_0, hx117_1, hx117_2⟩ := at_T34 (Kd.R_reads' HO_5.out).2.2 (ji24) p117 q117
                          cases e117
                          replace p117 := eq_true p117
                          replace q117 := eq_true q117
                          have p122 : 0 ≤ ((ji24) : Int) := of_decide_eq_true (by first | (with_reducible assumption) | assumption)
                          have q122 : (ji24) < (t102.length : Int) := of_decide_eq_true (by first | (with_reducible assumption) | assumption)
                          obtain ⟨ad122, e122, hx122_0, hx122_1, hx122_2⟩ := at_T34 (Kd.R_reads' HO_5.out).2.2 (ji24) p122 q122
                          obtain rfl : ad117 = ad122 := (by injection e122)
                          replace p122 := eq_true p122
                          replace q122 := eq_true q122
                          obtain ⟨Ao37, co37, eo37⟩ := Kd.R_slice HO_7.out
                          subst eo37
                          have p123 : 0 ≤ (0 : Int) := (by omega)
                          have q123 : 0 < (t106.length : Int) := of_decide_eq_true (by first | (with_reducible assumption) | assumption)
                          obtain ⟨ad123, e123, hx123_0, hx123_1, hx123_2⟩ := at_T34 (Kd.R_reads' HO_7.out).2.2 0 p123 q123
                          cases e123
                          have qi123 : (0 < t106.length) = True := eq_true (by omega)
                          (try rw [show ((0 : Int)).toNat = 0 from rfl] at hx123_0)
                          (try rw [show 0 * 3 = 0 from rfl] at hx123_0)
                          (try rw [Addr.add_zero'] at hx123_0)
                          (try rw [show ((0 : Int)).toNat = 0 from rfl] at hx123_1)
                          (try rw [show 0 * 3 = 0 from rfl] at hx123_1)
                          (try rw [Addr.add_zero'] at hx123_1)
                          (try rw [show ((0 : Int)).toNat = 0 from rfl] at hx123_2)
                          (try rw [show 0 * 3 = 0 from rfl] at hx123_2)
                          (try rw [Addr.add_zero'] at hx123_2)
                          replace p123 := eq_true p123
                          replace q123 := eq_true q123
                          go_wp2
                          repeat (go_quiet (fail); try go_wp2)
                          go_meet
                          case rel => exact ⟨_, ((((rd_T34 t106 0).f0) == 10)), (by first | rfl | (simp; done) | (simp [*]; done)), H', ⟨by have := HJ9.out; first | omega | exact Nat.le_refl _⟩, ⟨by (with_reducible repeat (first | apply Kd.R_alloc | apply Kd.R_drewN | apply Kd.R_drew)); exact HO_5.out⟩, ⟨by (with_reducible repeat (first | apply Kd.R_alloc | apply Kd.R_drewN | apply Kd.R_drew)); exact HO_7.out⟩, ⟨by (with_reducible repeat (first | apply Kd.R_alloc | apply Kd.R_drewN | apply Kd.R_drew)); exact HO_9.out⟩, ⟨by repeat (first | (with_reducible first | exact HB.out | apply below_alloc | apply pw_below_drewN | apply below_drew1) | exact HB.out)⟩⟩
                        · rw [if_neg c36] at H
                          exact absurd H (by simp)
                      · rw [if_neg c35] at H
                        have c35b0 : decide (0 < (t106.length : Int)) = false := decide_eq_false c35
                        have c35b1 : decide (0 < t106.length) = false := decide_eq_false (by omega)
                        clear c35
                        have H' := Aside0.mk H
                        clear H
                        have p117 : 0 ≤ ((ji24) : Int) := of_decide_eq_true (by first | (with_reducible assumption) | assumption)
                        have q117 : (ji24) < (t102.length : Int) := of_decide_eq_true (by first | (with_reducible assumption) | assumption)
                        obtain ⟨ad117, e117, hx117_0, hx117_1, hx117_2⟩ := at_T34 (Kd.R_reads' HO_5.out).2.2 (ji24) p117 q117
                        cases e117
                        replace p117 := eq_true p117
                        replace q117 := eq_true q117
                        have p122 : 0 ≤ ((ji24) : Int) := of_decide_eq_true (by first | (with_reducible assumption) | assumption)
                        have q122 : (ji24) < (t102.length : Int) := of_decide_eq_true (by first | (with_reducible assumption) | assumption)
                        obtain ⟨ad122, e122, hx122_0, hx122_1, hx122_2⟩ := at_T34 (Kd.R_reads' HO_5.out).2.2 (ji24) p122 q122
                        obtain rfl : ad117 = ad122 := (by injection e122)
                        replace p122 := eq_true p122
                        replace q122 := eq_true q122
                        obtain ⟨Ao38, co38, eo38⟩ := Kd.R_slice HO_7.out
                        subst eo38
                        go_wp2
                        repeat (go_quiet (fail); try go_wp2)
                        go_meet
                        case rel => exact ⟨_, (false), (by first | rfl | (simp; done) | (simp [*]; done)), H', ⟨by have := HJ9.out; first | omega | exact Nat.le_refl _⟩, ⟨by (with_reducible repeat (first | apply Kd.R_alloc | apply Kd.R_drewN | apply Kd.R_drew)); exact HO_5.out⟩, ⟨by (with_reducible repeat (first | apply Kd.R_alloc | apply Kd.R_drewN | apply Kd.R_drew)); exact HO_7.out⟩, ⟨by (with_reducible repeat (first | apply Kd.R_alloc | apply Kd.R_drewN | apply Kd.R_drew)); exact HO_9.out⟩, ⟨by repeat (first | (with_reducible first | exact HB.out | apply below_alloc | apply pw_below_drewN | apply below_drew1) | exact HB.out)⟩⟩
                · rw [if_neg c26] at H
                  exact absurd H (by simp)
              · rw [if_neg c25] at H
                exact absurd H (by simp)
            · rw [if_neg c23] at H
              have c23b0 : decide (0 < (t102.length : Int)) = false := decide_eq_false c23
              have c23b1 : decide (0 < t102.length) = false := decide_eq_false (by omega)
              clear c23
              (first | rw [c23b0] | (simp only [i64_w, i32_w]; rw [c23b0]) | skip)
              by_cases c39 : (t106.length : Int) > 0
              · rw [if_pos c39] at H
                have c39b0 : decide (0 < (t106.length : Int)) = true := decide_eq_true c39
                have c39b1 : decide (0 < t106.length) = true := decide_eq_true (by omega)
                clear c39
                by_cases c40 : 0 < (t106.length : Int)
                · rw [if_pos c40] at H
                  have c40b0 : decide (0 < (t106.length : Int)) = true := decide_eq_true c40
                  have c40b1 : decide (0 < t106.length) = true := decide_eq_true (by omega)
                  clear c40
                  have H' := Aside0.mk H
                  clear H
                  obtain ⟨Ao41, co41, eo41⟩ := Kd.R_slice HO_7.out
                  subst eo41
                  have p124 : 0 ≤ (0 : Int) := (by omega)
                  have q124 : 0 < (t106.length : Int) := of_decide_eq_true (by first | (with_reducible assumption) | assumption)
                  obtain ⟨ad124, e124, hx124_0, hx124_1, hx124_2⟩ := at_T34 (Kd.R_reads' HO_7.out).2.2 0 p124 q124
                  cases e124
                  have qi124 : (0 < t106.length) = True := eq_true (by omega)
                  (try rw [show ((0 : Int)).toNat = 0 from rfl] at hx124_0)
                  (try rw [show 0 * 3 = 0 from rfl] at hx124_0)
                  (try rw [Addr.add_zero'] at hx124_0)
                  (try rw [show ((0 : Int)).toNat = 0 from rfl] at hx124_1)
                  (try rw [show 0 * 3 = 0 from rfl] at hx124_1)
                  (try rw [Addr.add_zero'] at hx124_1)
                  (try rw [show ((0 : Int)).toNat = 0 from rfl] at hx124_2)
                  (try rw [show 0 * 3 = 0 from rfl] at hx124_2)
                  (try rw [Addr.add_zero'] at hx124_2)
                  replace p124 := eq_true p124
                  replace q124 := eq_true q124
                  go_wp2
                  repeat (go_quiet (fail); try go_wp2)
                  go_meet
                  case rel => exact ⟨_, ((((rd_T34 t106 0).f0) == 10)), (by first | rfl | (simp; done) | (simp [*]; done)), H', ⟨by have := HJ9.out; first | omega | exact Nat.le_refl _⟩, ⟨by (with_reducible repeat (first | apply Kd.R_alloc | apply Kd.R_drewN | apply Kd.R_drew)); exact HO_5.out⟩, ⟨by (with_reducible repeat (first | apply Kd.R_alloc | apply Kd.R_drewN | apply Kd.R_drew)); exact HO_7.out⟩, ⟨by (with_reducible repeat (first | apply Kd.R_alloc | apply Kd.R_drewN | apply Kd.R_drew)); exact HO_9.out⟩, ⟨by repeat (first | (with_reducible first | exact HB.out | apply below_alloc | apply pw_below_drewN | apply below_drew1) | exact HB.out)⟩⟩
                · rw [if_neg c40] at H
                  exact absurd H (by simp)
              · rw [if_neg c39] at H
                have c39b0 : decide (0 < (t106.length : Int)) = false := decide_eq_false c39
                have c39b1 : decide (0 < t106.length) = false := decide_eq_false (by omega)
                clear c39
                have H' := Aside0.mk H
                clear H
                obtain ⟨Ao42, co42, eo42⟩ := Kd.R_slice HO_7.out
                subst eo42
                go_wp2
                repeat (go_quiet (fail); try go_wp2)
                go_meet
                case rel => exact ⟨_, (false), (by first | rfl | (simp; done) | (simp [*]; done)), H', ⟨by have := HJ9.out; first | omega | exact Nat.le_refl _⟩, ⟨by (with_reducible repeat (first | apply Kd.R_alloc | apply Kd.R_drewN | apply Kd.R_drew)); exact HO_5.out⟩, ⟨by (with_reducible repeat (first | apply Kd.R_alloc | apply Kd.R_drewN | apply Kd.R_drew)); exact HO_7.out⟩, ⟨by (with_reducible repeat (first | apply Kd.R_alloc | apply Kd.R_drewN | apply Kd.R_drew)); exact HO_9.out⟩, ⟨by repeat (first | (with_reducible first | exact HB.out | apply below_alloc | apply pw_below_drewN | apply below_drew1) | exact HB.out)⟩⟩
           case rest =>
            clear HC21
            try clear c1
            try clear p1
            try clear q1
            try clear hx1
            try clear qi1
            try clear c2
            try clear p2
            try clear c3
            try clear c4
            try clear p6
            try clear c7
            try clear c7b0
            try clear c7b1
            try clear c7b2
            try clear c8
            try clear c8b0
            try clear c8b1
            try clear c8b2
            try clear p11
            try clear q11
            try clear hx11
            try clear p12
            try clear q12
            try clear hx12
            try clear qi12
            try clear c16
            try clear c16b0
            try clear c16b1
            try clear c18
            try clear c18b0
            try clear c18b1
            try clear c20
            try clear c23
            try clear c23b0
            try clear c23b1
            try clear c25
            try clear c25b0
            try clear c26
            try clear c26b0
            try clear c27
            try clear c27b0
            try clear c27b1
            try clear c28
            try clear c28b0
            try clear c29
            try clear c29b0
            try clear c29b1
            try clear c30
            try clear c30b0
            try clear c30b1
            try clear c31
            try clear c31b0
            try clear c31b1
            try clear c34
            try clear c34b0
            try clear c34b1
            try clear c35
            try clear c35b0
            try clear c35b1
            try clear c36
            try clear c36b0
            try clear c36b1
            try clear c39
            try clear c39b0
            try clear c39b1
            try clear c40
            try clear c40b0
            try clear c40b1
            try clear hx117_0
            try clear hx117_1
            try clear hx117_2
            try clear hx118_0
            try clear hx118_1
            try clear hx118_2
            try clear hx119_0
            try clear hx119_1
            try clear hx119_2
            try clear hx120_0
            try clear hx120_1
            try clear hx120_2
            try clear hx121_0
            try clear hx121_1
            try clear hx121_2
            try clear hx122_0
            try clear hx122_1
            try clear hx122_2
            try clear hx123_0
            try clear hx123_1
            try clear hx123_2
            try clear hx124_0
            try clear hx124_1
            try clear hx124_2
            try clear p117
            try clear p118
            try clear p119
            try clear p120
            try clear p121
            try clear p122
            try clear p123
            try clear p124
            try clear p2
            try clear q117
            try clear q118
            try clear q119
            try clear q120
            try clear q121
            try clear q122
            try clear q123
            try clear q124
            obtain ⟨kq, x104_20, rfl, HA, HJ20, HO_5, HO_7, HO_9, HB⟩ := hcut
            cases kq with
            | zero => exact absurd HA.out (by simp [minuetlaw9_LexParts.j1])
            | succ kj20 =>
             have H := HA.out
             clear HA
             simp only [minuetlaw9_LexParts.j1] at H
             by_cases c43 : x104_20 = true
             · subst c43
               have H1 : (some true) = some r := by rw [if_pos rfl] at H; exact H
               clear H
               have H := H1
               clear H1
               obtain rfl := Option.some.inj H
               go_wp2
               repeat (go_quiet (fail); try go_wp2)
               go_ret
               exact ⟨by first | rfl | (simp [errW_none, errW_some] <;> rfl) | (simp [*, errW_none, errW_some] <;> rfl), by repeat (first | (with_reducible first | exact HB.out | apply below_alloc | apply pw_below_drewN | apply below_drew1) | exact HB.out)⟩
             · replace c43 := Bool.eq_false_iff.mpr c43
               subst c43
               have H1 : (if (t110.length : Int) = (wrap64 ((wrap64 ((t102.length : Int) + 1)) + (t106.length : Int))) then (minuetlaw9_LexParts.l0 kj20 a0 t102 t106 t110 (t102.length : Int) 0) else (none)) = some r := by rw [if_neg (show ¬ (false = true) by decide)] at H; exact H
               clear H
               have H := H1
               clear H1
               by_cases c44 : (t110.length : Int) = (wrap64 ((wrap64 ((t102.length : Int) + 1)) + (t106.length : Int)))
               · rw [if_pos c44] at H
                 have c44b0 : ((t110.length : Int) == (wrap64 ((wrap64 ((t102.length : Int) + 1)) + (t106.length : Int)))) = true := beq_iff_eq.mpr c44
                 have c44b1 : ((t110.length : Int) != (wrap64 ((wrap64 ((t102.length : Int) + 1)) + (t106.length : Int)))) = false := bne_eq_false_iff_eq.mpr c44
                 clear c44
                 have H' := Aside0.mk H
                 clear H
                 obtain ⟨Ao45, co45, eo45⟩ := Kd.R_slice HO_9.out
                 subst eo45
                 obtain ⟨Ao46, co46, eo46⟩ := Kd.R_slice HO_7.out
                 subst eo46
                 go_wp2
                 repeat (go_quiet (fail); try go_wp2)
                 go_loopg [12] kj20 (fun kq v12 w' => ∃ (x12_3 : Int), v12 = .int .i64 x12_3 ∧ Aside0 (minuetlaw9_LexParts.l0 kq a0 t102 t106 t110 (t102.length : Int) x12_3 = some r) ∧ Aside0 (kq ≤ kj20) ∧ Aside0 (Kd.R k34 34 w' w.heap.size (fun k_ => some k_ ≠ ((.slice Ao46 t106.length co46) : Value).ownBlock ∧ some k_ ≠ ((.slice Ao45 t110.length co45) : Value).ownBlock) (.slice Ao22 t102.length co22) t102) ∧ Aside0 (Kd.R k34 34 w' w.heap.size (fun k_ => some k_ ≠ ((.slice Ao22 t102.length co22) : Value).ownBlock ∧ some k_ ≠ ((.slice Ao45 t110.length co45) : Value).ownBlock) (.slice Ao46 t106.length co46) t106) ∧ Aside0 (Kd.R k34 34 w' w.heap.size (fun k_ => some k_ ≠ ((.slice Ao22 t102.length co22) : Value).ownBlock ∧ some k_ ≠ ((.slice Ao46 t106.length co46) : Value).ownBlock) (.slice Ao45 t110.length co45) t110) ∧ Aside0 (Below w.heap.size w w'))
                 case atStart => exact ⟨(0), (by first | rfl | (simp; done) | (simp [*]; done)), H', ⟨Nat.le_refl _⟩, ⟨by (with_reducible repeat (first | apply Kd.R_alloc | apply Kd.R_drewN | apply Kd.R_drew)); exact HO_5.out⟩, ⟨by (with_reducible repeat (first | apply Kd.R_alloc | apply Kd.R_drewN | apply Kd.R_drew)); exact HO_7.out⟩, ⟨by (with_reducible repeat (first | apply Kd.R_alloc | apply Kd.R_drewN | apply Kd.R_drew)); exact HO_9.out⟩, ⟨by repeat (first | (with_reducible first | exact HB.out | apply below_alloc | apply pw_below_drewN | apply below_drew1) | exact HB.out)⟩⟩
                 case round =>
                  clear H'
                  try clear c1
                  try clear p1
                  try clear q1
                  try clear hx1
                  try clear qi1
                  try clear c2
                  try clear p2
                  try clear c3
                  try clear c4
                  try clear p6
                  try clear c7
                  try clear c7b0
                  try clear c7b1
                  try clear c7b2
                  try clear c8
                  try clear c8b0
                  try clear c8b1
                  try clear c8b2
                  try clear p11
                  try clear q11
                  try clear hx11
                  try clear p12
                  try clear q12
                  try clear hx12
                  try clear qi12
                  try clear c16
                  try clear c16b0
                  try clear c16b1
                  try clear c18
                  try clear c18b0
                  try clear c18b1
                  try clear c20
                  try clear c23
                  try clear c23b0
                  try clear c23b1
                  try clear c25
                  try clear c25b0
                  try clear c26
                  try clear c26b0
                  try clear c27
                  try clear c27b0
                  try clear c27b1
                  try clear c28
                  try clear c28b0
                  try clear c29
                  try clear c29b0
                  try clear c29b1
                  try clear c30
                  try clear c30b0
                  try clear c30b1
                  try clear c31
                  try clear c31b0
                  try clear c31b1
                  try clear c34
                  try clear c34b0
                  try clear c34b1
                  try clear c35
                  try clear c35b0
                  try clear c35b1
                  try clear c36
                  try clear c36b0
                  try clear c36b1
                  try clear c39
                  try clear c39b0
                  try clear c39b1
                  try clear c40
                  try clear c40b0
                  try clear c40b1
                  try clear c43
                  try clear c44
                  try clear c44b0
                  try clear c44b1
                  try clear hx117_0
                  try clear hx117_1
                  try clear hx117_2
                  try clear hx118_0
                  try clear hx118_1
                  try clear hx118_2
                  try clear hx119_0
                  try clear hx119_1
                  try clear hx119_2
                  try clear hx120_0
                  try clear hx120_1
                  try clear hx120_2
                  try clear hx121_0
                  try clear hx121_1
                  try clear hx121_2
                  try clear hx122_0
                  try clear hx122_1
                  try clear hx122_2
                  try clear hx123_0
                  try clear hx123_1
                  try clear hx123_2
                  try clear hx124_0
                  try clear hx124_1
                  try clear hx124_2
                  try clear p1
                  try clear p11
                  try clear p117
                  try clear p118
                  try clear p119
                  try clear p12
                  try clear p120
                  try clear p121
                  try clear p122
                  try clear p123
                  try clear p124
                  try clear p2
                  try clear p6
                  try clear q1
                  try clear q11
                  try clear q117
                  try clear q118
                  try clear q119
                  try clear q12
                  try clear q120
                  try clear q121
                  try clear q122
                  try clear q123
                  try clear q124
                  obtain ⟨x12_3, rfl, HA, HK3, HO_5, HO_7, HO_9, HB⟩ := hrel
                  cases gk with
                  | zero => exact absurd HA.out (by simp [minuetlaw9_LexParts.l0])
                  | succ k3 =>
                   have H := HA.out
                   clear HA
                   simp only [minuetlaw9_LexParts.l0] at H
                   by_cases c47 : x12_3 < (t102.length : Int)
                   · rw [if_pos c47] at H
                     have c47b0 : decide (x12_3 < (t102.length : Int)) = true := decide_eq_true c47
                     clear c47
                     by_cases c48 : 0 ≤ x12_3
                     · rw [if_pos c48] at H
                       have c48b0 : decide (0 ≤ x12_3) = true := decide_eq_true c48
                       clear c48
                       by_cases c49 : x12_3 < (t110.length : Int)
                       · rw [if_pos c49] at H
                         have c49b0 : decide (x12_3 < (t110.length : Int)) = true := decide_eq_true c49
                         clear c49
                         by_cases c50 : x12_3 < (t102.length : Int)
                         · rw [if_pos c50] at H
                           have c50b0 : decide (x12_3 < (t102.length : Int)) = true := decide_eq_true c50
                           clear c50
                           by_cases c51 : (!(((rd_T34 t110 x12_3).f0) == ((rd_T34 t102 x12_3).f0)) || (!(((rd_T34 t110 x12_3).f1) == ((rd_T34 t102 x12_3).f1)) || (!(((rd_T34 t110 x12_3).f2) == ((rd_T34 t102 x12_3).f2))))) = true
                           · rw [if_pos c51] at H
                             exact absurd H (by simp)
                           · rw [if_neg c51] at H
                             have c51b0 : (!(((rd_T34 t110 x12_3).f0) == ((rd_T34 t102 x12_3).f0)) || (!(((rd_T34 t110 x12_3).f1) == ((rd_T34 t102 x12_3).f1)) || (!(((rd_T34 t110 x12_3).f2) == ((rd_T34 t102 x12_3).f2))))) = false := by simpa using c51
                             clear c51
                             have H' := Aside0.mk H
                             clear H
                             have p125 : 0 ≤ (x12_3 : Int) := of_decide_eq_true (by first | (with_reducible assumption) | assumption)
                             have q125 : x12_3 < (t110.length : Int) := of_decide_eq_true (by first | (with_reducible assumption) | assumption)
                             obtain ⟨ad125, e125, hx125_0, hx125_1, hx125_2⟩ := at_T34 (Kd.R_reads' HO_9.out).2.2 x12_3 p125 q125
                             cases e125
                             replace p125 := eq_true p125
                             replace q125 := eq_true q125
                             have p126 : 0 ≤ (x12_3 : Int) := of_decide_eq_true (by first | (with_reducible assumption) | assumption)
                             have q126 : x12_3 < (t102.length : Int) := of_decide_eq_true (by first | (with_reducible assumption) | assumption)
                             obtain ⟨ad126, e126, hx126_0, hx126_1, hx126_2⟩ := at_T34 (Kd.R_reads' HO_5.out).2.2 x12_3 p126 q126
                             cases e126
                             replace p126 := eq_true p126
                             replace q126 := eq_true q126
                             go_wp2
                             repeat (go_quiet (fail); try go_wp2)
                             go_roundg k3
                             case measure => have := HJ9.out; have := HJ20.out; have := HK3.out; omega
                             case rel => exact ⟨(wrap64 (x12_3 + 1)), (by first | rfl | (simp; done) | (simp [*]; done)), H', ⟨by have := HJ9.out; have := HJ20.out; have := HK3.out; omega⟩, ⟨by (with_reducible repeat (first | apply Kd.R_alloc | apply Kd.R_drewN | apply Kd.R_drew)); exact HO_5.out⟩, ⟨by (with_reducible repeat (first | apply Kd.R_alloc | apply Kd.R_drewN | apply Kd.R_drew)); exact HO_7.out⟩, ⟨by (with_reducible repeat (first | apply Kd.R_alloc | apply Kd.R_drewN | apply Kd.R_drew)); exact HO_9.out⟩, ⟨by repeat (first | (with_reducible first | exact HB.out | apply below_alloc | apply pw_below_drewN | apply below_drew1) | exact HB.out)⟩⟩
                         · rw [if_neg c50] at H
                           exact absurd H (by simp)
                       · rw [if_neg c49] at H
                         exact absurd H (by simp)
                     · rw [if_neg c48] at H
                       exact absurd H (by simp)
                   · rw [if_neg c47] at H
                     have c47b0 : decide (x12_3 < (t102.length : Int)) = false := decide_eq_false c47
                     clear c47
                     have H' := Aside0.mk H
                     clear H
                     go_wp2
                     repeat (go_quiet (fail); try go_wp2)
                     go_loopg [13] k3 (fun kq v13 w' => ∃ (x13_4 : Int), v13 = .int .i64 x13_4 ∧ Aside0 (minuetlaw9_LexParts.l1 kq a0 t106 t110 (t102.length : Int) x13_4 = some r) ∧ Aside0 (kq ≤ k3) ∧ Aside0 (Kd.R k34 34 w' w.heap.size (fun k_ => some k_ ≠ ((.slice Ao45 t110.length co45) : Value).ownBlock) (.slice Ao46 t106.length co46) t106) ∧ Aside0 (Kd.R k34 34 w' w.heap.size (fun k_ => some k_ ≠ ((.slice Ao46 t106.length co46) : Value).ownBlock) (.slice Ao45 t110.length co45) t110) ∧ Aside0 (Below w.heap.size w w'))
                     case atStart => exact ⟨(0), (by first | rfl | (simp; done) | (simp [*]; done)), H', ⟨Nat.le_refl _⟩, ⟨by (with_reducible repeat (first | apply Kd.R_alloc | apply Kd.R_drewN | apply Kd.R_drew)); exact Kd.R_mono HO_7.out (fun _ hk => hk.2)⟩, ⟨by (with_reducible repeat (first | apply Kd.R_alloc | apply Kd.R_drewN | apply Kd.R_drew)); exact Kd.R_mono HO_9.out (fun _ hk => hk.2)⟩, ⟨by repeat (first | (with_reducible first | exact HB.out | apply below_alloc | apply pw_below_drewN | apply below_drew1) | exact HB.out)⟩⟩
                     case round =>
                      clear H'
                      try clear c1
                      try clear p1
                      try clear q1
                      try clear hx1
                      try clear qi1
                      try clear c2
                      try clear p2
                      try clear c3
                      try clear c4
                      try clear c5
                      try clear p6
                      try clear c7
                      try clear c7b0
                      try clear c7b1
                      try clear c7b2
                      try clear c8
                      try clear c8b0
                      try clear c8b1
                      try clear c8b2
                      try clear p11
                      try clear q11
                      try clear hx11
                      try clear p12
                      try clear q12
                      try clear hx12
                      try clear qi12
                      try clear c16
                      try clear c16b0
                      try clear c16b1
                      try clear c18
                      try clear c18b0
                      try clear c18b1
                      try clear c20
                      try clear c23
                      try clear c23b0
                      try clear c23b1
                      try clear c25
                      try clear c25b0
                      try clear c26
                      try clear c26b0
                      try clear c27
                      try clear c27b0
                      try clear c27b1
                      try clear c28
                      try clear c28b0
                      try clear c29
                      try clear c29b0
                      try clear c29b1
                      try clear c30
                      try clear c30b0
                      try clear c30b1
                      try clear c31
                      try clear c31b0
                      try clear c31b1
                      try clear c34
                      try clear c34b0
                      try clear c34b1
                      try clear c35
                      try clear c35b0
                      try clear c35b1
                      try clear c36
                      try clear c36b0
                      try clear c36b1
                      try clear c39
                      try clear c39b0
                      try clear c39b1
                      try clear c40
                      try clear c40b0
                      try clear c40b1
                      try clear c43
                      try clear c44
                      try clear c44b0
                      try clear c44b1
                      try clear c47
                      try clear c47b0
                      try clear c48
                      try clear c48b0
                      try clear c49
                      try clear c49b0
                      try clear c50
                      try clear c50b0
                      try clear c51
                      try clear c51b0
                      try clear hx117_0
                      try clear hx117_1
                      try clear hx117_2
                      try clear hx118_0
                      try clear hx118_1
                      try clear hx118_2
                      try clear hx119_0
                      try clear hx119_1
                      try clear hx119_2
                      try clear hx120_0
                      try clear hx120_1
                      try clear hx120_2
                      try clear hx121_0
                      try clear hx121_1
                      try clear hx121_2
                      try clear hx122_0
                      try clear hx122_1
                      try clear hx122_2
                      try clear hx123_0
                      try clear hx123_1
                      try clear hx123_2
                      try clear hx124_0
                      try clear hx124_1
                      try clear hx124_2
                      try clear hx125_0
                      try clear hx125_1
                      try clear hx125_2
                      try clear hx126_0
                      try clear hx126_1
                      try clear hx126_2
                      try clear p1
                      try clear p11
                      try clear p117
                      try clear p118
                      try clear p119
                      try clear p12
                      try clear p120
                      try clear p121
                      try clear p122
                      try clear p123
                      try clear p124
                      try clear p125
                      try clear p126
                      try clear p2
                      try clear p6
                      try clear q1
                      try clear q11
                      try clear q117
                      try clear q118
                      try clear q119
                      try clear q12
                      try clear q120
                      try clear q121
                      try clear q122
                      try clear q123
                      try clear q124
                      try clear q125
                      try clear q126
                      obtain ⟨x13_4, rfl, HA, HK4, HO_7, HO_9, HB⟩ := hrel
                      cases gk with
                      | zero => exact absurd HA.out (by simp [minuetlaw9_LexParts.l1])
                      | succ k4 =>
                       have H := HA.out
                       clear HA
                       simp only [minuetlaw9_LexParts.l1] at H
                       by_cases c52 : x13_4 < (t106.length : Int)
                       · rw [if_pos c52] at H
                         have c52b0 : decide (x13_4 < (t106.length : Int)) = true := decide_eq_true c52
                         clear c52
                         by_cases c53 : 0 ≤ x13_4
                         · rw [if_pos c53] at H
                           have c53b0 : decide (0 ≤ x13_4) = true := decide_eq_true c53
                           clear c53
                           obtain ⟨ji54, hji54⟩ : ∃ j_ : Int, (wrap64 ((wrap64 ((t102.length : Int) + 1)) + x13_4)) = j_ := ⟨_, rfl⟩
                           replace H : (if 0 ≤ (ji54) then (if (ji54) < (t110.length : Int) then (if (!(((rd_T34 t110 (ji54)).f0) == ((rd_T34 t106 x13_4).f0)) || (!(((rd_T34 t110 (ji54)).f1) == (wrap64 ((wrap64 (((rd_T34 t106 x13_4).f1) + (a0.size : Int))) + 1))) || (!(((rd_T34 t110 (ji54)).f2) == (wrap64 ((wrap64 (((rd_T34 t106 x13_4).f2) + (a0.size : Int))) + 1)))))) = true then (none) else (minuetlaw9_LexParts.l1 k4 a0 t106 t110 (t102.length : Int) (wrap64 (x13_4 + 1)))) else (none)) else (none)) = some r := by first | (rw [hji54] at H; exact H) | (simp only [hji54] at H ⊢; exact H)
                           have hji54w : (IntKind.i64.wrap ((wrap64 ((t102.length : Int) + 1)) + x13_4)) = ji54 := (i64_w _).trans hji54
                           by_cases c55 : 0 ≤ (ji54)
                           · rw [if_pos c55] at H
                             have c55b0 : decide (0 ≤ (ji54)) = true := decide_eq_true c55
                             clear c55
                             by_cases c56 : (ji54) < (t110.length : Int)
                             · rw [if_pos c56] at H
                               have c56b0 : decide ((ji54) < (t110.length : Int)) = true := decide_eq_true c56
                               clear c56
                               by_cases c57 : (!(((rd_T34 t110 (ji54)).f0) == ((rd_T34 t106 x13_4).f0)) || (!(((rd_T34 t110 (ji54)).f1) == (wrap64 ((wrap64 (((rd_T34 t106 x13_4).f1) + (a0.size : Int))) + 1))) || (!(((rd_T34 t110 (ji54)).f2) == (wrap64 ((wrap64 (((rd_T34 t106 x13_4).f2) + (a0.size : Int))) + 1)))))) = true
                               · rw [if_pos c57] at H
                                 exact absurd H (by simp)
                               · rw [if_neg c57] at H
                                 have c57b0 : (!(((rd_T34 t110 (ji54)).f0) == ((rd_T34 t106 x13_4).f0)) || (!(((rd_T34 t110 (ji54)).f1) == (wrap64 ((wrap64 (((rd_T34 t106 x13_4).f1) + (a0.size : Int))) + 1))) || (!(((rd_T34 t110 (ji54)).f2) == (wrap64 ((wrap64 (((rd_T34 t106 x13_4).f2) + (a0.size : Int))) + 1)))))) = false := by simpa using c57
                                 clear c57
                                 have H' := Aside0.mk H
                                 clear H
                                 have p127 : 0 ≤ (x13_4 : Int) := of_decide_eq_true (by first | (with_reducible assumption) | assumption)
                                 have q127 : x13_4 < (t106.length : Int) := of_decide_eq_true (by first | (with_reducible assumption) | assumption)
                                 obtain ⟨ad127, e127, hx127_0, hx127_1, hx127_2⟩ := at_T34 (Kd.R_reads' HO_7.out).2.2 x13_4 p127 q127
                                 cases e127
                                 replace p127 := eq_true p127
                                 replace q127 := eq_true q127
                                 go_wp2
                                 have BX_ := Aside0.mk (blk_new wr (.cells #[.int .i64 (rd_T34 t106 x13_4).f0, .int .i64 (wrap64 (wrap64 ((rd_T34 t106 x13_4).f1 + (a0.size : Int)) + 1)), .int .i64 (wrap64 (wrap64 ((rd_T34 t106 x13_4).f2 + (a0.size : Int)) + 1))] 34))
                                 have n0_ := Aside0.mk (Kd.R_alloc HO_7.out (.cells #[.int .i64 (rd_T34 t106 x13_4).f0, .int .i64 (wrap64 (wrap64 ((rd_T34 t106 x13_4).f1 + (a0.size : Int)) + 1)), .int .i64 (wrap64 (wrap64 ((rd_T34 t106 x13_4).f2 + (a0.size : Int)) + 1))] 34))
                                 have n1_ := Aside0.mk (Kd.R_alloc HO_9.out (.cells #[.int .i64 (rd_T34 t106 x13_4).f0, .int .i64 (wrap64 (wrap64 ((rd_T34 t106 x13_4).f1 + (a0.size : Int)) + 1)), .int .i64 (wrap64 (wrap64 ((rd_T34 t106 x13_4).f2 + (a0.size : Int)) + 1))] 34))
                                 have n2_ := Aside0.mk (below_alloc HB.out (.cells #[.int .i64 (rd_T34 t106 x13_4).f0, .int .i64 (wrap64 (wrap64 ((rd_T34 t106 x13_4).f1 + (a0.size : Int)) + 1)), .int .i64 (wrap64 (wrap64 ((rd_T34 t106 x13_4).f2 + (a0.size : Int)) + 1))] 34))
                                 clear HO_7 HO_9 HB
                                 have HO_7 := n0_
                                 have HO_9 := n1_
                                 have HB := n2_
                                 clear n0_ n1_ n2_
                                 clear hx127_0 hx127_1 hx127_2
                                 obtain ⟨gx_, egx_⟩ : ∃ g_, wr.heap.size = g_ := ⟨_, rfl⟩
                                 rw [egx_] at BX_ ⊢
                                 generalize (wr.alloc (.cells #[.int .i64 (rd_T34 t106 x13_4).f0, .int .i64 (wrap64 (wrap64 ((rd_T34 t106 x13_4).f1 + (a0.size : Int)) + 1)), .int .i64 (wrap64 (wrap64 ((rd_T34 t106 x13_4).f2 + (a0.size : Int)) + 1))] 34)) = wx_ at BX_ HO_7 HO_9 HB ⊢
                                 clear egx_
                                 have hcx_0 : wx_.cell? ⟨gx_, 0, none⟩ = some (.int .i64 (rd_T34 t106 x13_4).f0) := (blk_cell BX_.out 0).trans rfl
                                 have hcx_1 : wx_.cell? ⟨gx_, 1, none⟩ = some (.int .i64 (wrap64 (wrap64 ((rd_T34 t106 x13_4).f1 + (a0.size : Int)) + 1))) := (blk_cell BX_.out 1).trans rfl
                                 have hcx_2 : wx_.cell? ⟨gx_, 2, none⟩ = some (.int .i64 (wrap64 (wrap64 ((rd_T34 t106 x13_4).f2 + (a0.size : Int)) + 1))) := (blk_cell BX_.out 2).trans rfl
                                 have p129 : 0 ≤ ((ji54) : Int) := of_decide_eq_true c55b0
                                 have q129 : (ji54) < (t110.length : Int) := of_decide_eq_true c56b0
                                 obtain ⟨ad129, e129, hx129_0, hx129_1, hx129_2⟩ := at_T34 (Kd.R_reads' HO_9.out).2.2 (ji54) p129 q129
                                 cases e129
                                 replace p129 := eq_true p129
                                 replace q129 := eq_true q129
                                 repeat (go_quiet (fail); try go_wp2)
                                 go_roundg k4
                                 case measure => have := HJ9.out; have := HJ20.out; have := HK3.out; have := HK4.out; omega
                                 case rel => exact ⟨(wrap64 (x13_4 + 1)), (by first | rfl | (simp; done) | (simp [*]; done)), H', ⟨by have := HJ9.out; have := HJ20.out; have := HK3.out; have := HK4.out; omega⟩, ⟨by (with_reducible repeat (first | apply Kd.R_alloc | apply Kd.R_drewN | apply Kd.R_drew)); exact HO_7.out⟩, ⟨by (with_reducible repeat (first | apply Kd.R_alloc | apply Kd.R_drewN | apply Kd.R_drew)); exact HO_9.out⟩, ⟨by repeat (first | (with_reducible first | exact HB.out | apply below_alloc | apply pw_below_drewN | apply below_drew1) | exact HB.out)⟩⟩
                             · rw [if_neg c56] at H
                               exact absurd H (by simp)
                           · rw [if_neg c55] at H
                             exact absurd H (by simp)
                         · rw [if_neg c53] at H
                           exact absurd H (by simp)
                       · rw [if_neg c52] at H
                         have c52b0 : decide (x13_4 < (t106.length : Int)) = false := decide_eq_false c52
                         clear c52
                         by_cases c60 : 0 ≤ (t102.length : Int)
                         · rw [if_pos c60] at H
                           have c60b0 : decide (0 ≤ (t102.length : Int)) = true := decide_eq_true c60
                           have c60b1 : decide (0 ≤ t102.length) = true := decide_eq_true (by omega)
                           clear c60
                           by_cases c61 : (t102.length : Int) < (t110.length : Int)
                           · rw [if_pos c61] at H
                             have c61b0 : decide ((t102.length : Int) < (t110.length : Int)) = true := decide_eq_true c61
                             have c61b1 : decide (t102.length < t110.length) = true := decide_eq_true (Int.ofNat_lt.mp c61)
                             clear c61
                             obtain rfl := Option.some.inj H
                             have p130 : 0 ≤ ((t102.length : Int) : Int) := of_decide_eq_true (by first | (with_reducible assumption) | assumption)
                             have q130 : (t102.length : Int) < (t110.length : Int) := of_decide_eq_true (by first | (with_reducible assumption) | assumption)
                             obtain ⟨ad130, e130, hx130_0, hx130_1, hx130_2⟩ := at_T34 (Kd.R_reads' HO_9.out).2.2 (t102.length : Int) p130 q130
                             cases e130
                             (try simp only [Go.IntWalk.toNatUp] at hx130_0)
                             (try simp only [Go.IntWalk.toNatUp] at hx130_1)
                             (try simp only [Go.IntWalk.toNatUp] at hx130_2)
                             replace p130 := eq_true p130
                             replace q130 := eq_true q130
                             go_wp2
                             repeat (go_quiet (fail); try go_wp2)
                             go_ret
                             exact ⟨by first | rfl | (simp [errW_none, errW_some] <;> rfl) | (simp [*, errW_none, errW_some] <;> rfl), by repeat (first | (with_reducible first | exact HB.out | apply below_alloc | apply pw_below_drewN | apply below_drew1) | exact HB.out)⟩
                           · rw [if_neg c61] at H
                             exact absurd H (by simp)
                         · rw [if_neg c60] at H
                           exact absurd H (by simp)
               · rw [if_neg c44] at H
                 exact absurd H (by simp)
     · rw [if_neg c8] at H
       exact absurd H (by simp)
   · rw [if_neg c7] at H
     exact absurd H (by simp)
 · replace c4 := Bool.eq_false_iff.mpr c4
   subst c4
   have H1 : (none) = some r := by rw [if_neg (show ¬ (false = true) by decide)] at H; exact H
   clear H
   have H := H1
   clear H1
   exact absurd H (by simp)

/-- THE ONE PURE STATEMENT of minuetlaw9_LexParts: yours. -/
def minuetlaw9_LexParts.Pure : Prop := ∀ (a0 : ByteArray) (a1 : ByteArray), a0.size ≤ 140737488351232 → a1.size ≤ 140737488351232 → ∃ k, minuetlaw9_LexParts.f k a0 a1 = some true
theorem minuetlaw9_LexParts.walk (P : minuetlaw9_LexParts.Pure) (a0 : ByteArray) (a1 : ByteArray) (w : World) (hm_ : MaxOk w) (w0 : a0.size ≤ 140737488351232) (w1 : a1.size ≤ 140737488351232) :
 Calls Try.prog 4 #[.string a0, .string a1] w fun e w' => e = .returned (.bool true) ∧ Below w.heap.size w w' := by
 obtain ⟨k, h⟩ := P a0 a1 w0 w1
 refine (minuetlaw9_LexParts.calls k a0 a1 true w hm_ h).mono ?_
 rintro e w' ⟨rfl, hd⟩
 exact ⟨rfl, hd⟩

end Go.Proofs.Ytnhkdpcncjkmlaa.G
