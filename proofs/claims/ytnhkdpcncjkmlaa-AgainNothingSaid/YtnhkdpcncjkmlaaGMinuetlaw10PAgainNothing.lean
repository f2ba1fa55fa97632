-- Laid by this session's own program gprint.py (wip/tools), out of the kit's print and of texts of this session. Lean checks it.
import Derived.Test.YtnhkdpcncjkmlaaGx0
import Derived.Test.YtnhkdpcncjkmlaaGLexPTokens
import Derived.Test.YtnhkdpcncjkmlaaGMinuetlaw0PSameTokens
import Derived.Test.YtnhkdpcncjkmlaaGMinuetlaw0PNum
import Derived.Test.YtnhkdpcncjkmlaaGRelexPAgain
import Derived.Test.YtnhkdpcncjkmlaaGMinuetlaw10qawake
namespace Go.Proofs.Ytnhkdpcncjkmlaa.G
open Go.RowKit Go.Proofs.YtnhkdpcncjkmlaaW.PrintWords Go.Proofs.YtnhkdpcncjkmlaaW.PrintLast Go.Proofs.YtnhkdpcncjkmlaaW.PrintMore
attribute [local go_sem] max2_int min2_int max_two min_two max_three min_three max_four min_four   -- for this text's walks alone
set_option linter.unusedVariables false
set_option linter.unusedSimpArgs false

/-! ### minuetlaw10_AgainNothing: function 7 -/
def minuetlaw10_AgainNothing.j0 : Nat → ByteArray → Int → ByteArray → Bool → Option (Bool)
 | 0, _, _, _, _ => none
 | k + 1, x0, x1, x2, x29 => if x29 = true then (some true) else ((lex_Tokens.f x0).bind fun bt102 => (if (IntKind.u64.wrap (wrap64 ((x0.size : Int) + 1))) = 0 then (none) else ((relex_Again.f k x0 bt102.1 (wrap64 (Int.tmod (IntKind.u64.wrap (x1)) (IntKind.u64.wrap (wrap64 ((x0.size : Int) + 1))))) 0 (⟨#[]⟩ : ByteArray)).bind fun bt106 => ((relex_Again.f k x0 bt102.1 0 (x0.size : Int) x2).bind fun bt112 => ((lex_Tokens.f x2).bind fun bt118 => ((minuetlaw0_Num.f bt102.2).bind fun t122 => (if t122 = 0 then ((minuetlaw0_Num.f bt106.2.2.2).bind fun t123 => (if t123 = 0 then ((minuetlaw0_SameTokens.f k bt106.1 bt102.1).bind fun t124 => (if t124 = true then (if bt106.2.1 = (bt102.1.length : Int) then (if bt106.2.2.1 = 0 then ((minuetlaw0_Num.f bt112.2.2.2).bind fun t125 => (if t125 = 0 then ((minuetlaw0_Num.f bt118.2).bind fun t126 => (if t126 = 0 then ((minuetlaw0_SameTokens.f k bt112.1 bt118.1).bind fun t127 => (some t127)) else (none))) else (none))) else (none)) else (none)) else (none))) else (none))) else (none))))))))
def minuetlaw10_AgainNothing.f (k : Nat) (a0 : ByteArray) (a1 : Int) (a2 : ByteArray) : Option (Bool) := (minuetlaw10_awake.f k).bind fun t101 => (if t101 = true then (if (a0.size : Int) > 300 then (minuetlaw10_AgainNothing.j0 k a0 a1 a2 true) else (minuetlaw10_AgainNothing.j0 k a0 a1 a2 (decide ((a2.size : Int) > 300)))) else (none))
theorem minuetlaw10_AgainNothing.mono_l : ∀ k, (∀ y0 y1 y2 y3, LeO (minuetlaw10_AgainNothing.j0 k y0 y1 y2 y3) (minuetlaw10_AgainNothing.j0 (k + 1) y0 y1 y2 y3))
 | 0 => fun _ _ _ _ r h => by simp [minuetlaw10_AgainNothing.j0] at h
 | k + 1 => by
  have ih0 := minuetlaw10_AgainNothing.mono_l k
  · intro y0 y1 y2 y3
    unfold minuetlaw10_AgainNothing.j0
    repeat' first
    | (with_reducible exact ih0 _ _ _ _)
    | (with_reducible exact minuetlaw0_SameTokens.mono _ _ _)
    | (with_reducible exact minuetlaw10_awake.mono _)
    | (with_reducible exact relex_Again.mono _ _ _ _ _ _)
    | (with_reducible exact LeO.refl _)
    | (with_reducible exact LeO.none _)
    | (with_reducible refine LeO.ite ?_ ?_)
    | (with_reducible refine LeO.bind ?_ (fun _ => ?_))
    | exact ih0 _ _ _ _
    | exact minuetlaw0_SameTokens.mono _ _ _
    | exact minuetlaw10_awake.mono _
    | exact relex_Again.mono _ _ _ _ _ _
    | exact LeO.none _
    | refine LeO.ite ?_ ?_
    | refine LeO.bind ?_ (fun _ => ?_)
theorem minuetlaw10_AgainNothing.mono : ∀ a0 a1 a2 k, LeO (minuetlaw10_AgainNothing.f k a0 a1 a2) (minuetlaw10_AgainNothing.f (k + 1) a0 a1 a2) := by
 intro a0 a1 a2 k
 have ih0 := minuetlaw10_AgainNothing.mono_l k
 unfold minuetlaw10_AgainNothing.f
 repeat' first
  | (with_reducible exact ih0 _ _ _ _)
  | (with_reducible exact minuetlaw0_SameTokens.mono _ _ _)
  | (with_reducible exact minuetlaw10_awake.mono _)
  | (with_reducible exact relex_Again.mono _ _ _ _ _ _)
  | (with_reducible exact LeO.refl _)
  | (with_reducible exact LeO.none _)
  | (with_reducible refine LeO.ite ?_ ?_)
  | (with_reducible refine LeO.bind ?_ (fun _ => ?_))
  | exact ih0 _ _ _ _
  | exact minuetlaw0_SameTokens.mono _ _ _
  | exact minuetlaw10_awake.mono _
  | exact relex_Again.mono _ _ _ _ _ _
  | exact LeO.none _
  | refine LeO.ite ?_ ?_
  | refine LeO.bind ?_ (fun _ => ?_)
set_option maxHeartbeats 8000000 in
set_option maxRecDepth 100000 in
theorem minuetlaw10_AgainNothing.calls (k : Nat) (a0 : ByteArray) (a1 : Int) (a2 : ByteArray) (r : Bool) (w : World) (hm_ : MaxOk w) (h : minuetlaw10_AgainNothing.f k a0 a1 a2 = some r) :
 Calls Try.prog 7 #[.string a0, .int .i64 a1, .string a2] w fun e w' => e = .returned (.bool r) ∧ Below w.heap.size w w' := by
 have HM_ := Aside0.mk hm_
 clear hm_
 have HB := Aside0.mk (Below.refl w.heap.size w)
 have H : ((minuetlaw10_awake.f k).bind fun t101 => (if t101 = true then (if (a0.size : Int) > 300 then (minuetlaw10_AgainNothing.j0 k a0 a1 a2 true) else (minuetlaw10_AgainNothing.j0 k a0 a1 a2 (decide ((a2.size : Int) > 300)))) else (none))) = some r := h
 clear h
 replace H := Option.bind_eq_some_iff.mp H
 obtain ⟨t101, A40, H⟩ := H
 replace H : (if t101 = true then (if (a0.size : Int) > 300 then (minuetlaw10_AgainNothing.j0 k a0 a1 a2 true) else (minuetlaw10_AgainNothing.j0 k a0 a1 a2 (decide ((a2.size : Int) > 300)))) else (none)) = some r := H
 have A4 := Aside0.mk A40
 clear A40
 by_cases c5 : t101 = true
 · subst c5
   have H1 : (if (a0.size : Int) > 300 then (minuetlaw10_AgainNothing.j0 k a0 a1 a2 true) else (minuetlaw10_AgainNothing.j0 k a0 a1 a2 (decide ((a2.size : Int) > 300)))) = some r := by rw [if_pos rfl] at H; exact H
   clear H
   have H := H1
   clear H1
   have HC6 := Aside0.mk H
   clear H
   go_enter Try.func7, Try.ntmps7
   go_upto_region 3 with (first | ((with_reducible refine gate_callee (f := 22) rfl ?_); refine goesL_ (some 20) rfl rfl Try.func22 (by kernel_rfl) rfl #[] rfl (by (try simp only [List.map_toArray, List.map_cons, List.map_nil]); first | done | rfl | (simp only [List.length_drop, List.length_take]; rfl)) ?_; (with_reducible refine (minuetlaw10_awake.calls k  true _ (MaxOk.of HM_.out (by repeat (first | (with_reducible first | exact HB.out | apply below_alloc | apply pw_below_drewN | apply below_drew1) | exact HB.out))) A4.out).mono ?_); rintro e w7 ⟨rfl, hb⟩; refine ⟨_, rfl, ?_⟩; have n0_ := Aside0.mk (below_step (by repeat (first | (with_reducible first | exact HB.out | apply below_alloc | apply pw_below_drewN | apply below_drew1) | exact HB.out)) hb); clear HB; have HB := n0_; clear n0_; (try clear hb); (try clear hb2); (try clear hk); (try clear hi)))
   (try simp only [Act.put, List.setIfInBounds_toArray, List.set_cons_zero, List.set_cons_succ])
   go_cut [29] (fun v29 wc => ∃ (kq : Nat) (x29_5 : Bool), v29 = .bool x29_5 ∧ Aside0 (minuetlaw10_AgainNothing.j0 kq a0 a1 a2 x29_5 = some r) ∧ Aside0 (kq ≤ k) ∧ Aside0 (Below w.heap.size w wc))
   case first =>
    have H := HC6.out
    clear HC6
    by_cases c8 : (a0.size : Int) > 300
    · rw [if_pos c8] at H
      have c8b0 : decide (300 < (a0.size : Int)) = true := decide_eq_true c8
      have c8b1 : decide (300 < a0.size) = true := decide_eq_true (by omega)
      clear c8
      (first | rw [c8b0] | (simp only [i64_w, i32_w]; rw [c8b0]) | skip)
      have H' := Aside0.mk H
      clear H
      go_wp2
      go_meet
      case rel => exact ⟨_, (true), (by first | rfl | (simp; done) | (simp [*]; done)), H', ⟨by first | omega | exact Nat.le_refl _⟩, ⟨by repeat (first | (with_reducible first | exact HB.out | apply below_alloc | apply pw_below_drewN | apply below_drew1) | exact HB.out)⟩⟩
    · rw [if_neg c8] at H
      have c8b0 : decide (300 < (a0.size : Int)) = false := decide_eq_false c8
      have c8b1 : decide (300 < a0.size) = false := decide_eq_false (by omega)
      clear c8
      (first | rw [c8b0] | (simp only [i64_w, i32_w]; rw [c8b0]) | skip)
      have H' := Aside0.mk H
      clear H
      go_wp2
      go_meet
      case rel => exact ⟨_, (decide ((a2.size : Int) > 300)), (by first | rfl | (simp; done) | (simp [*]; done)), H', ⟨by first | omega | exact Nat.le_refl _⟩, ⟨by repeat (first | (with_reducible first | exact HB.out | apply below_alloc | apply pw_below_drewN | apply below_drew1) | exact HB.out)⟩⟩
   case rest =>
    clear HC6
    try clear c2
    try clear p2
    try clear c5
    try clear c7
    try clear c8
    try clear c8b0
    try clear c8b1
    obtain ⟨kq, x29_5, rfl, HA, HJ5, HB⟩ := hcut
    cases kq with
    | zero => exact absurd HA.out (by simp [minuetlaw10_AgainNothing.j0])
    | succ kj5 =>
     have H := HA.out
     clear HA
     simp only [minuetlaw10_AgainNothing.j0] at H
     by_cases c9 : x29_5 = true
     · subst c9
       have H1 : (some true) = some r := by rw [if_pos rfl] at H; exact H
       clear H
       have H := H1
       clear H1
       obtain rfl := Option.some.inj H
       go_wp2
       go_ret
       exact ⟨by first | rfl | (simp [errW_none, errW_some] <;> rfl) | (simp [*, errW_none, errW_some] <;> rfl), by repeat (first | (with_reducible first | exact HB.out | apply below_alloc | apply pw_below_drewN | apply below_drew1) | exact HB.out)⟩
     · replace c9 := Bool.eq_false_iff.mpr c9
       subst c9
       have H1 : ((lex_Tokens.f a0).bind fun bt102 => (if (IntKind.u64.wrap (wrap64 ((a0.size : Int) + 1))) = 0 then (none) else ((relex_Again.f kj5 a0 bt102.1 (wrap64 (Int.tmod (IntKind.u64.wrap (a1)) (IntKind.u64.wrap (wrap64 ((a0.size : Int) + 1))))) 0 (⟨#[]⟩ : ByteArray)).bind fun bt106 => ((relex_Again.f kj5 a0 bt102.1 0 (a0.size : Int) a2).bind fun bt112 => ((lex_Tokens.f a2).bind fun bt118 => ((minuetlaw0_Num.f bt102.2).bind fun t122 => (if t122 = 0 then ((minuetlaw0_Num.f bt106.2.2.2).bind fun t123 => (if t123 = 0 then ((minuetlaw0_SameTokens.f kj5 bt106.1 bt102.1).bind fun t124 => (if t124 = true then (if bt106.2.1 = (bt102.1.length : Int) then (if bt106.2.2.1 = 0 then ((minuetlaw0_Num.f bt112.2.2.2).bind fun t125 => (if t125 = 0 then ((minuetlaw0_Num.f bt118.2).bind fun t126 => (if t126 = 0 then ((minuetlaw0_SameTokens.f kj5 bt112.1 bt118.1).bind fun t127 => (some t127)) else (none))) else (none))) else (none)) else (none)) else (none))) else (none))) else (none)))))))) = some r := by rw [if_neg (show ¬ (false = true) by decide)] at H; exact H
       clear H
       have H := H1
       clear H1
       replace H := Option.bind_eq_some_iff.mp H
       obtain ⟨⟨t102, t103⟩, A100, H⟩ := H
       replace H : (if (IntKind.u64.wrap (wrap64 ((a0.size : Int) + 1))) = 0 then (none) else ((relex_Again.f kj5 a0 t102 (wrap64 (Int.tmod (IntKind.u64.wrap (a1)) (IntKind.u64.wrap (wrap64 ((a0.size : Int) + 1))))) 0 (⟨#[]⟩ : ByteArray)).bind fun bt106 => ((relex_Again.f kj5 a0 t102 0 (a0.size : Int) a2).bind fun bt112 => ((lex_Tokens.f a2).bind fun bt118 => ((minuetlaw0_Num.f t103).bind fun t122 => (if t122 = 0 then ((minuetlaw0_Num.f bt106.2.2.2).bind fun t123 => (if t123 = 0 then ((minuetlaw0_SameTokens.f kj5 bt106.1 t102).bind fun t124 => (if t124 = true then (if bt106.2.1 = (t102.length : Int) then (if bt106.2.2.1 = 0 then ((minuetlaw0_Num.f bt112.2.2.2).bind fun t125 => (if t125 = 0 then ((minuetlaw0_Num.f bt118.2).bind fun t126 => (if t126 = 0 then ((minuetlaw0_SameTokens.f kj5 bt112.1 bt118.1).bind fun t127 => (some t127)) else (none))) else (none))) else (none)) else (none)) else (none))) else (none))) else (none))))))) = some r := H
       have A10 := Aside0.mk A100
       clear A100
       by_cases c11 : (IntKind.u64.wrap (wrap64 ((a0.size : Int) + 1))) = 0
       · rw [if_pos c11] at H
         exact absurd H (by simp)
       · rw [if_neg c11] at H
         have c11b0 : ((IntKind.u64.wrap (wrap64 ((a0.size : Int) + 1))) == 0) = false := beq_eq_false_iff_ne.mpr c11
         have c11b1 : ((IntKind.u64.wrap (wrap64 ((a0.size : Int) + 1))) != 0) = true := bne_iff_ne.mpr c11
         replace H := Option.bind_eq_some_iff.mp H
         obtain ⟨⟨t106, t107, t108, t109⟩, A120, H⟩ := H
         replace H : ((relex_Again.f kj5 a0 t102 0 (a0.size : Int) a2).bind fun bt112 => ((lex_Tokens.f a2).bind fun bt118 => ((minuetlaw0_Num.f t103).bind fun t122 => (if t122 = 0 then ((minuetlaw0_Num.f t109).bind fun t123 => (if t123 = 0 then ((minuetlaw0_SameTokens.f kj5 t106 t102).bind fun t124 => (if t124 = true then (if t107 = (t102.length : Int) then (if t108 = 0 then ((minuetlaw0_Num.f bt112.2.2.2).bind fun t125 => (if t125 = 0 then ((minuetlaw0_Num.f bt118.2).bind fun t126 => (if t126 = 0 then ((minuetlaw0_SameTokens.f kj5 bt112.1 bt118.1).bind fun t127 => (some t127)) else (none))) else (none))) else (none)) else (none)) else (none))) else (none))) else (none))))) = some r := H
         have A12 := Aside0.mk A120
         clear A120
         replace H := Option.bind_eq_some_iff.mp H
         obtain ⟨⟨t112, t113, t114, t115⟩, A130, H⟩ := H
         replace H : ((lex_Tokens.f a2).bind fun bt118 => ((minuetlaw0_Num.f t103).bind fun t122 => (if t122 = 0 then ((minuetlaw0_Num.f t109).bind fun t123 => (if t123 = 0 then ((minuetlaw0_SameTokens.f kj5 t106 t102).bind fun t124 => (if t124 = true then (if t107 = (t102.length : Int) then (if t108 = 0 then ((minuetlaw0_Num.f t115).bind fun t125 => (if t125 = 0 then ((minuetlaw0_Num.f bt118.2).bind fun t126 => (if t126 = 0 then ((minuetlaw0_SameTokens.f kj5 t112 bt118.1).bind fun t127 => (some t127)) else (none))) else (none))) else (none)) else (none)) else (none))) else (none))) else (none)))) = some r := H
         have A13 := Aside0.mk A130
         clear A130
         replace H := Option.bind_eq_some_iff.mp H
         obtain ⟨⟨t118, t119⟩, A140, H⟩ := H
         replace H : ((minuetlaw0_Num.f t103).bind fun t122 => (if t122 = 0 then ((minuetlaw0_Num.f t109).bind fun t123 => (if t123 = 0 then ((minuetlaw0_SameTokens.f kj5 t106 t102).bind fun t124 => (if t124 = true then (if t107 = (t102.length : Int) then (if t108 = 0 then ((minuetlaw0_Num.f t115).bind fun t125 => (if t125 = 0 then ((minuetlaw0_Num.f t119).bind fun t126 => (if t126 = 0 then ((minuetlaw0_SameTokens.f kj5 t112 t118).bind fun t127 => (some t127)) else (none))) else (none))) else (none)) else (none)) else (none))) else (none))) else (none))) = some r := H
         have A14 := Aside0.mk A140
         clear A140
         replace H := Option.bind_eq_some_iff.mp H
         obtain ⟨t122, A150, H⟩ := H
         replace H : (if t122 = 0 then ((minuetlaw0_Num.f t109).bind fun t123 => (if t123 = 0 then ((minuetlaw0_SameTokens.f kj5 t106 t102).bind fun t124 => (if t124 = true then (if t107 = (t102.length : Int) then (if t108 = 0 then ((minuetlaw0_Num.f t115).bind fun t125 => (if t125 = 0 then ((minuetlaw0_Num.f t119).bind fun t126 => (if t126 = 0 then ((minuetlaw0_SameTokens.f kj5 t112 t118).bind fun t127 => (some t127)) else (none))) else (none))) else (none)) else (none)) else (none))) else (none))) else (none)) = some r := H
         have A15 := Aside0.mk A150
         clear A150
         by_cases c16 : t122 = 0
         · rw [if_pos c16] at H
           have c16b0 : (t122 == 0) = true := beq_iff_eq.mpr c16
           have c16b1 : (t122 != 0) = false := bne_eq_false_iff_eq.mpr c16
           clear c16
           replace H := Option.bind_eq_some_iff.mp H
           obtain ⟨t123, A170, H⟩ := H
           replace H : (if t123 = 0 then ((minuetlaw0_SameTokens.f kj5 t106 t102).bind fun t124 => (if t124 = true then (if t107 = (t102.length : Int) then (if t108 = 0 then ((minuetlaw0_Num.f t115).bind fun t125 => (if t125 = 0 then ((minuetlaw0_Num.f t119).bind fun t126 => (if t126 = 0 then ((minuetlaw0_SameTokens.f kj5 t112 t118).bind fun t127 => (some t127)) else (none))) else (none))) else (none)) else (none)) else (none))) else (none)) = some r := H
           have A17 := Aside0.mk A170
           clear A170
           by_cases c18 : t123 = 0
           · rw [if_pos c18] at H
             have c18b0 : (t123 == 0) = true := beq_iff_eq.mpr c18
             have c18b1 : (t123 != 0) = false := bne_eq_false_iff_eq.mpr c18
             clear c18
             replace H := Option.bind_eq_some_iff.mp H
             obtain ⟨t124, A190, H⟩ := H
             replace H : (if t124 = true then (if t107 = (t102.length : Int) then (if t108 = 0 then ((minuetlaw0_Num.f t115).bind fun t125 => (if t125 = 0 then ((minuetlaw0_Num.f t119).bind fun t126 => (if t126 = 0 then ((minuetlaw0_SameTokens.f kj5 t112 t118).bind fun t127 => (some t127)) else (none))) else (none))) else (none)) else (none)) else (none)) = some r := H
             have A19 := Aside0.mk A190
             clear A190
             by_cases c20 : t124 = true
             · subst c20
               have H1 : (if t107 = (t102.length : Int) then (if t108 = 0 then ((minuetlaw0_Num.f t115).bind fun t125 => (if t125 = 0 then ((minuetlaw0_Num.f t119).bind fun t126 => (if t126 = 0 then ((minuetlaw0_SameTokens.f kj5 t112 t118).bind fun t127 => (some t127)) else (none))) else (none))) else (none)) else (none)) = some r := by rw [if_pos rfl] at H; exact H
               clear H
               have H := H1
               clear H1
               by_cases c21 : t107 = (t102.length : Int)
               · rw [if_pos c21] at H
                 have c21b0 : (t107 == (t102.length : Int)) = true := beq_iff_eq.mpr c21
                 have c21b1 : (t107 != (t102.length : Int)) = false := bne_eq_false_iff_eq.mpr c21
                 clear c21
                 by_cases c22 : t108 = 0
                 · rw [if_pos c22] at H
                   have c22b0 : (t108 == 0) = true := beq_iff_eq.mpr c22
                   have c22b1 : (t108 != 0) = false := bne_eq_false_iff_eq.mpr c22
                   clear c22
                   replace H := Option.bind_eq_some_iff.mp H
                   obtain ⟨t125, A230, H⟩ := H
                   replace H : (if t125 = 0 then ((minuetlaw0_Num.f t119).bind fun t126 => (if t126 = 0 then ((minuetlaw0_SameTokens.f kj5 t112 t118).bind fun t127 => (some t127)) else (none))) else (none)) = some r := H
                   have A23 := Aside0.mk A230
                   clear A230
                   by_cases c24 : t125 = 0
                   · rw [if_pos c24] at H
                     have c24b0 : (t125 == 0) = true := beq_iff_eq.mpr c24
                     have c24b1 : (t125 != 0) = false := bne_eq_false_iff_eq.mpr c24
                     clear c24
                     replace H := Option.bind_eq_some_iff.mp H
                     obtain ⟨t126, A250, H⟩ := H
                     replace H : (if t126 = 0 then ((minuetlaw0_SameTokens.f kj5 t112 t118).bind fun t127 => (some t127)) else (none)) = some r := H
                     have A25 := Aside0.mk A250
                     clear A250
                     by_cases c26 : t126 = 0
                     · rw [if_pos c26] at H
                       have c26b0 : (t126 == 0) = true := beq_iff_eq.mpr c26
                       have c26b1 : (t126 != 0) = false := bne_eq_false_iff_eq.mpr c26
                       clear c26
                       replace H := Option.bind_eq_some_iff.mp H
                       obtain ⟨t127, A270, H⟩ := H
                       replace H : (some t127) = some r := H
                       have A27 := Aside0.mk A270
                       clear A270
                       obtain rfl := Option.some.inj H
                       go_wp2_with (first | ((with_reducible refine gate_callee (f := 12) rfl ?_); refine goesL_ (some 32) rfl rfl Try.func12 (by kernel_rfl) rfl #[.string a0] rfl (by (try simp only [List.map_toArray, List.map_cons, List.map_nil]); first | done | rfl | (simp only [List.length_drop, List.length_take]; rfl)) ?_; (with_reducible refine (lex_Tokens.calls a0 t102 t103 _ (MaxOk.of HM_.out (by repeat (first | (with_reducible first | exact HB.out | apply below_alloc | apply pw_below_drewN | apply below_drew1) | exact HB.out))) A10.out).mono ?_); rintro e w28 ⟨v104, rfl, ho0, hb⟩; refine ⟨_, rfl, ?_⟩; have n0_ := Aside0.mk (Kd.R_lower ho0 (below_size (by repeat (first | (with_reducible first | exact HB.out | apply below_alloc | apply pw_below_drewN | apply below_drew1) | exact HB.out)))); have n1_ := Aside0.mk (below_step (by repeat (first | (with_reducible first | exact HB.out | apply below_alloc | apply pw_below_drewN | apply below_drew1) | exact HB.out)) hb); clear HB; have HO105 := n0_; have HB := n1_; clear n0_ n1_; (try clear hb); (try clear hb2); (try clear hk); (try clear hi); (try clear ho0); obtain ⟨Ao29, co29, eo29⟩ := Kd.R_slice HO105.out; subst eo29) | ((with_reducible refine gate_callee (f := 19) rfl ?_); refine goesL_ (some 47) rfl rfl Try.func19 (by kernel_rfl) rfl #[.string a0, .slice Ao29 t102.length co29, .int .i64 (wrap64 (Int.tmod (IntKind.u64.wrap (a1)) (IntKind.u64.wrap (wrap64 ((a0.size : Int) + 1))))), .int .i64 0, .string (⟨#[]⟩ : ByteArray)] rfl (by (try simp only [List.map_toArray, List.map_cons, List.map_nil]); first | done | rfl | (simp only [List.length_drop, List.length_take]; rfl)) ?_; (with_reducible refine (relex_Again.calls kj5 a0 _ _ t102 (wrap64 (Int.tmod (IntKind.u64.wrap (a1)) (IntKind.u64.wrap (wrap64 ((a0.size : Int) + 1))))) 0 (⟨#[]⟩ : ByteArray) t106 t107 t108 t109 _ ?side1 ?side2 (MaxOk.of HM_.out (by repeat (first | (with_reducible first | exact HB.out | apply below_alloc | apply pw_below_drewN | apply below_drew1) | exact HB.out))) A12.out).mono ?_); (case side1 => repeat (first | exact (Kd.R_reads' HO105.out).2.2 | (with_reducible refine Kd.C_alloc ?_ _) | (with_reducible refine Kd.C_drewN ?_ _) | (with_reducible refine Kd.C_drew ?_))); (case side2 => exact (Kd.R_reads' HO105.out).2.1); rintro e w30 ⟨v110, rfl, ho0, hb⟩; refine ⟨_, rfl, ?_⟩; have n0_ := Aside0.mk (Kd.R_elder' (by (with_reducible repeat (first | apply Kd.R_alloc | apply Kd.R_drewN | apply Kd.R_drew)); exact HO105.out) (Kd.R_base ho0) hb); have n1_ := Aside0.mk (Kd.R_lower (Kd.R_new' ho0 (Kd.R_lt (by (with_reducible repeat (first | apply Kd.R_alloc | apply Kd.R_drewN | apply Kd.R_drew)); exact HO105.out))) (below_size (by repeat (first | (with_reducible first | exact HB.out | apply below_alloc | apply pw_below_drewN | apply below_drew1) | exact HB.out)))); have n2_ := Aside0.mk (below_step (by repeat (first | (with_reducible first | exact HB.out | apply below_alloc | apply pw_below_drewN | apply below_drew1) | exact HB.out)) hb); clear HO105; clear HB; have HO105 := n0_; have HO111 := n1_; have HB := n2_; clear n0_ n1_ n2_; (try clear hb); (try clear hb2); (try clear hk); (try clear hi); (try clear ho0)) | ((with_reducible refine gate_callee (f := 19) rfl ?_); refine goesL_ (some 58) rfl rfl Try.func19 (by kernel_rfl) rfl #[.string a0, .slice Ao29 t102.length co29, .int .i64 0, .int .i64 (a0.size : Int), .string a2] rfl (by (try simp only [List.map_toArray, List.map_cons, List.map_nil]); first | done | rfl | (simp only [List.length_drop, List.length_take]; rfl)) ?_; (with_reducible refine (relex_Again.calls kj5 a0 _ _ t102 0 (a0.size : Int) a2 t112 t113 t114 t115 _ ?side1 ?side2 (MaxOk.of HM_.out (by repeat (first | (with_reducible first | exact HB.out | apply below_alloc | apply pw_below_drewN | apply below_drew1) | exact HB.out))) A13.out).mono ?_); (case side1 => repeat (first | exact (Kd.R_reads' HO105.out).2.2 | (with_reducible refine Kd.C_alloc ?_ _) | (with_reducible refine Kd.C_drewN ?_ _) | (with_reducible refine Kd.C_drew ?_))); (case side2 => exact (Kd.R_reads' HO105.out).2.1); rintro e w31 ⟨v116, rfl, ho0, hb⟩; refine ⟨_, rfl, ?_⟩; have n0_ := Aside0.mk (Kd.R_elder' (by (with_reducible repeat (first | apply Kd.R_alloc | apply Kd.R_drewN | apply Kd.R_drew)); exact HO105.out) (Kd.R_base ho0) hb); have n1_ := Aside0.mk (Kd.R_elder' (by (with_reducible repeat (first | apply Kd.R_alloc | apply Kd.R_drewN | apply Kd.R_drew)); exact HO111.out) (Kd.R_base ho0) hb); have n2_ := Aside0.mk (Kd.R_lower (Kd.R_new' (Kd.R_new' ho0 (Kd.R_lt (by (with_reducible repeat (first | apply Kd.R_alloc | apply Kd.R_drewN | apply Kd.R_drew)); exact HO105.out))) (Kd.R_lt (by (with_reducible repeat (first | apply Kd.R_alloc | apply Kd.R_drewN | apply Kd.R_drew)); exact HO111.out))) (below_size (by repeat (first | (with_reducible first | exact HB.out | apply below_alloc | apply pw_below_drewN | apply below_drew1) | exact HB.out)))); have n3_ := Aside0.mk (below_step (by repeat (first | (with_reducible first | exact HB.out | apply below_alloc | apply pw_below_drewN | apply below_drew1) | exact HB.out)) hb); clear HO105; clear HO111; clear HB; have HO105 := n0_; have HO111 := n1_; have HO117 := n2_; have HB := n3_; clear n0_ n1_ n2_ n3_; (try clear hb); (try clear hb2); (try clear hk); (try clear hi); (try clear ho0)) | ((with_reducible refine gate_callee (f := 12) rfl ?_); refine goesL_ (some 65) rfl rfl Try.func12 (by kernel_rfl) rfl #[.string a2] rfl (by (try simp only [List.map_toArray, List.map_cons, List.map_nil]); first | done | rfl | (simp only [List.length_drop, List.length_take]; rfl)) ?_; (with_reducible refine (lex_Tokens.calls a2 t118 t119 _ (MaxOk.of HM_.out (by repeat (first | (with_reducible first | exact HB.out | apply below_alloc | apply pw_below_drewN | apply below_drew1) | exact HB.out))) A14.out).mono ?_); rintro e w32 ⟨v120, rfl, ho0, hb⟩; refine ⟨_, rfl, ?_⟩; have n0_ := Aside0.mk (Kd.R_elder' (by (with_reducible repeat (first | apply Kd.R_alloc | apply Kd.R_drewN | apply Kd.R_drew)); exact HO105.out) (Kd.R_base ho0) hb); have n1_ := Aside0.mk (Kd.R_elder' (by (with_reducible repeat (first | apply Kd.R_alloc | apply Kd.R_drewN | apply Kd.R_drew)); exact HO111.out) (Kd.R_base ho0) hb); have n2_ := Aside0.mk (Kd.R_elder' (by (with_reducible repeat (first | apply Kd.R_alloc | apply Kd.R_drewN | apply Kd.R_drew)); exact HO117.out) (Kd.R_base ho0) hb); have n3_ := Aside0.mk (Kd.R_lower (Kd.R_new' (Kd.R_new' (Kd.R_new' ho0 (Kd.R_lt (by (with_reducible repeat (first | apply Kd.R_alloc | apply Kd.R_drewN | apply Kd.R_drew)); exact HO105.out))) (Kd.R_lt (by (with_reducible repeat (first | apply Kd.R_alloc | apply Kd.R_drewN | apply Kd.R_drew)); exact HO111.out))) (Kd.R_lt (by (with_reducible repeat (first | apply Kd.R_alloc | apply Kd.R_drewN | apply Kd.R_drew)); exact HO117.out))) (below_size (by repeat (first | (with_reducible first | exact HB.out | apply below_alloc | apply pw_below_drewN | apply below_drew1) | exact HB.out)))); have n4_ := Aside0.mk (below_step (by repeat (first | (with_reducible first | exact HB.out | apply below_alloc | apply pw_below_drewN | apply below_drew1) | exact HB.out)) hb); clear HO105; clear HO111; clear HO117; clear HB; have HO105 := n0_; have HO111 := n1_; have HO117 := n2_; have HO121 := n3_; have HB := n4_; clear n0_ n1_ n2_ n3_ n4_; (try clear hb); (try clear hb2); (try clear hk); (try clear hi); (try clear ho0)) | ((with_reducible refine gate_callee (f := 15) rfl ?_); refine goesL_ (some 69) rfl rfl Try.func15 (by kernel_rfl) rfl #[.int .i64 t103] rfl (by (try simp only [List.map_toArray, List.map_cons, List.map_nil]); first | done | rfl | (simp only [List.length_drop, List.length_take]; rfl)) ?_; (with_reducible refine (minuetlaw0_Num.calls t103 t122 _ A15.out).mono ?_); rintro e w' ⟨rfl, ⟨nd, rfl⟩⟩; refine ⟨_, rfl, ?_⟩) | (go_at_call 15; (with_reducible refine (minuetlaw0_Num.calls t109 t123 _ A17.out).mono ?_); rintro e w' ⟨rfl, ⟨nd, rfl⟩⟩; obtain ⟨Ao33, co33, eo33⟩ := Kd.R_slice HO111.out; subst eo33) | (go_at_call 14; (with_reducible refine (minuetlaw0_SameTokens.calls kj5 _ _ t106 _ _ t102 true _ ?side1 ?side2 ?side3 ?side4 A19.out).mono ?_); (case side1 => repeat (first | exact (Kd.R_reads' HO111.out).2.2 | (with_reducible refine Kd.C_alloc ?_ _) | (with_reducible refine Kd.C_drewN ?_ _) | (with_reducible refine Kd.C_drew ?_))); (case side2 => exact (Kd.R_reads' HO111.out).2.1); (case side3 => repeat (first | exact (Kd.R_reads' HO105.out).2.2 | (with_reducible refine Kd.C_alloc ?_ _) | (with_reducible refine Kd.C_drewN ?_ _) | (with_reducible refine Kd.C_drew ?_))); (case side4 => exact (Kd.R_reads' HO105.out).2.1); rintro e w' ⟨rfl, ⟨nd, rfl⟩⟩) | (go_at_call 15; (with_reducible refine (minuetlaw0_Num.calls t115 t125 _ A23.out).mono ?_); rintro e w' ⟨rfl, ⟨nd, rfl⟩⟩) | (go_at_call 15; (with_reducible refine (minuetlaw0_Num.calls t119 t126 _ A25.out).mono ?_); rintro e w' ⟨rfl, ⟨nd, rfl⟩⟩; obtain ⟨Ao34, co34, eo34⟩ := Kd.R_slice HO117.out; subst eo34; obtain ⟨Ao35, co35, eo35⟩ := Kd.R_slice HO121.out; subst eo35) | (go_at_call 14; (with_reducible refine (minuetlaw0_SameTokens.calls kj5 _ _ t112 _ _ t118 t127 _ ?side1 ?side2 ?side3 ?side4 A27.out).mono ?_); (case side1 => repeat (first | exact (Kd.R_reads' HO117.out).2.2 | (with_reducible refine Kd.C_alloc ?_ _) | (with_reducible refine Kd.C_drewN ?_ _) | (with_reducible refine Kd.C_drew ?_))); (case side2 => exact (Kd.R_reads' HO117.out).2.1); (case side3 => repeat (first | exact (Kd.R_reads' HO121.out).2.2 | (with_reducible refine Kd.C_alloc ?_ _) | (with_reducible refine Kd.C_drewN ?_ _) | (with_reducible refine Kd.C_drew ?_))); (case side4 => exact (Kd.R_reads' HO121.out).2.1); rintro e w' ⟨rfl, ⟨nd, rfl⟩⟩))
                       go_ret
                       exact ⟨by first | rfl | (simp [errW_none, errW_some] <;> rfl) | (simp [*, errW_none, errW_some] <;> rfl), by repeat (first | (with_reducible first | exact HB.out | apply below_alloc | apply pw_below_drewN | apply below_drew1) | exact HB.out)⟩
                     · rw [if_neg c26] at H
                       exact absurd H (by simp)
                   · rw [if_neg c24] at H
                     exact absurd H (by simp)
                 · rw [if_neg c22] at H
                   exact absurd H (by simp)
               · rw [if_neg c21] at H
                 exact absurd H (by simp)
             · replace c20 := Bool.eq_false_iff.mpr c20
               subst c20
               have H1 : (none) = some r := by rw [if_neg (show ¬ (false = true) by decide)] at H; exact H
               clear H
               have H := H1
               clear H1
               exact absurd H (by simp)
           · rw [if_neg c18] at H
             exact absurd H (by simp)
         · rw [if_neg c16] at H
           exact absurd H (by simp)
 · replace c5 := Bool.eq_false_iff.mpr c5
   subst c5
   have H1 : (none) = some r := by rw [if_neg (show ¬ (false = true) by decide)] at H; exact H
   clear H
   have H := H1
   clear H1
   exact absurd H (by simp)

/-- THE ONE PURE STATEMENT of minuetlaw10_AgainNothing: yours. -/
def minuetlaw10_AgainNothing.Pure : Prop := ∀ (a0 : ByteArray) (a1 : Int) (a2 : ByteArray), a0.size ≤ 140737488351232 → (Lit.int .i64 a1).wf = true → a2.size ≤ 140737488351232 → ∃ k, minuetlaw10_AgainNothing.f k a0 a1 a2 = some true
theorem minuetlaw10_AgainNothing.walk (P : minuetlaw10_AgainNothing.Pure) (a0 : ByteArray) (a1 : Int) (a2 : ByteArray) (w : World) (hm_ : MaxOk w) (w0 : a0.size ≤ 140737488351232) (w1 : (Lit.int .i64 a1).wf = true) (w2 : a2.size ≤ 140737488351232) :
 Calls Try.prog 7 #[.string a0, .int .i64 a1, .string a2] w fun e w' => e = .returned (.bool true) ∧ Below w.heap.size w w' := by
 obtain ⟨k, h⟩ := P a0 a1 a2 w0 w1 w2
 refine (minuetlaw10_AgainNothing.calls k a0 a1 a2 true w hm_ h).mono ?_
 rintro e w' ⟨rfl, hd⟩
 exact ⟨rfl, hd⟩

end Go.Proofs.Ytnhkdpcncjkmlaa.G
