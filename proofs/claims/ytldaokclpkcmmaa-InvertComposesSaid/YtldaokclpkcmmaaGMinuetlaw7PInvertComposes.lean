-- Laid by this session's own program gprint.py (wip/tools), out of the kit's print and of texts of this session. Lean checks it.
import Derived.Test.YtldaokclpkcmmaaGx0
import Derived.Test.YtldaokclpkcmmaaGZ3
import Derived.Test.YtldaokclpkcmmaaGZ2
import Derived.Test.YtldaokclpkcmmaaGApplyPApply
import Derived.Test.YtldaokclpkcmmaaGComposePCompose
import Derived.Test.YtldaokclpkcmmaaGInvertPInvert
import Derived.Test.YtldaokclpkcmmaaGMinuetlaw7qawake
namespace Go.Proofs.Ytldaokclpkcmmaa.G
open Go.RowKit Go.Proofs.YtldaokclpkcmmaaW.PrintWords Go.Proofs.YtldaokclpkcmmaaW.PrintLast Go.Proofs.YtldaokclpkcmmaaW.PrintMore
attribute [local go_sem] max2_int min2_int max_two min_two max_three min_three max_four min_four   -- for this text's walks alone
set_option linter.unusedVariables false
set_option linter.unusedSimpArgs false

/-! ### minuetlaw7_InvertComposes: function 10 -/
def minuetlaw7_InvertComposes.j0 : Nat → ByteArray → List (S31) → List (S31) → Int → Bool → Option (Bool)
 | 0, _, _, _, _, _ => none
 | k + 1, x0, x1, x5, x6, x32 => if x32 = true then (if (x5.length : Int) = 0 then (some true) else ((minuetlaw0_Num.f x6).bind fun t107 => (some (t107 == 0)))) else ((compose_Compose.f k x1 x5).bind fun bt108 => ((apply_Apply.f k x0 bt108.1).bind fun bt112 => ((minuetref1_Lengths.f k x1).bind fun bt114 => ((minuetref1_Lengths.f k x5).bind fun bt117 => ((minuetlaw0_Num.f bt108.2).bind fun t120 => (if t120 = 0 then ((minuetlaw0_Num.f bt112.2).bind fun t121 => (if t121 = 0 then (if bt112.1.toList = x0.toList then (if bt114.2.2 = 0 then (if bt117.2.2 = 0 then (if bt114.1 = bt117.2.1 then (some (bt114.2.1 == bt117.1)) else (none)) else (none)) else (none)) else (none)) else (none))) else (none)))))))
def minuetlaw7_InvertComposes.f (k : Nat) (a0 : ByteArray) (l1 : List (S31)) : Option (Bool) := (minuetlaw7_awake.f k).bind fun t101 => (if t101 = true then ((invert_Invert.f k a0 l1).bind fun bt102 => ((minuetlaw0_Num.f bt102.2).bind fun t106 => (if t106 = 0 then (minuetlaw7_InvertComposes.j0 k a0 l1 bt102.1 bt102.2 (decide ((l1.length : Int) > 1000))) else (minuetlaw7_InvertComposes.j0 k a0 l1 bt102.1 bt102.2 true)))) else (none))
theorem minuetlaw7_InvertComposes.mono_l : ∀ k, (∀ y0 y1 y2 y3 y4, LeO (minuetlaw7_InvertComposes.j0 k y0 y1 y2 y3 y4) (minuetlaw7_InvertComposes.j0 (k + 1) y0 y1 y2 y3 y4))
 | 0 => fun _ _ _ _ _ r h => by simp [minuetlaw7_InvertComposes.j0] at h
 | k + 1 => by
  have ih0 := minuetlaw7_InvertComposes.mono_l k
  · intro y0 y1 y2 y3 y4
    unfold minuetlaw7_InvertComposes.j0
    repeat' first
    | (with_reducible exact ih0 _ _ _ _ _)
    | (with_reducible exact apply_Apply.mono _ _ _)
    | (with_reducible exact compose_Compose.mono _ _ _)
    | (with_reducible exact invert_Invert.mono _ _ _)
    | (with_reducible exact minuetlaw7_awake.mono _)
    | (with_reducible exact minuetref1_Lengths.mono _ _)
    | (with_reducible exact LeO.refl _)
    | (with_reducible exact LeO.none _)
    | (with_reducible refine LeO.ite ?_ ?_)
    | (with_reducible refine LeO.bind ?_ (fun _ => ?_))
    | exact ih0 _ _ _ _ _
    | exact apply_Apply.mono _ _ _
    | exact compose_Compose.mono _ _ _
    | exact invert_Invert.mono _ _ _
    | exact minuetlaw7_awake.mono _
    | exact minuetref1_Lengths.mono _ _
    | exact LeO.none _
    | refine LeO.ite ?_ ?_
    | refine LeO.bind ?_ (fun _ => ?_)
theorem minuetlaw7_InvertComposes.mono : ∀ a0 a1 k, LeO (minuetlaw7_InvertComposes.f k a0 a1) (minuetlaw7_InvertComposes.f (k + 1) a0 a1) := by
 intro a0 a1 k
 have ih0 := minuetlaw7_InvertComposes.mono_l k
 unfold minuetlaw7_InvertComposes.f
 repeat' first
  | (with_reducible exact ih0 _ _ _ _ _)
  | (with_reducible exact apply_Apply.mono _ _ _)
  | (with_reducible exact compose_Compose.mono _ _ _)
  | (with_reducible exact invert_Invert.mono _ _ _)
  | (with_reducible exact minuetlaw7_awake.mono _)
  | (with_reducible exact minuetref1_Lengths.mono _ _)
  | (with_reducible exact LeO.refl _)
  | (with_reducible exact LeO.none _)
  | (with_reducible refine LeO.ite ?_ ?_)
  | (with_reducible refine LeO.bind ?_ (fun _ => ?_))
  | exact ih0 _ _ _ _ _
  | exact apply_Apply.mono _ _ _
  | exact compose_Compose.mono _ _ _
  | exact invert_Invert.mono _ _ _
  | exact minuetlaw7_awake.mono _
  | exact minuetref1_Lengths.mono _ _
  | exact LeO.none _
  | refine LeO.ite ?_ ?_
  | refine LeO.bind ?_ (fun _ => ?_)
set_option maxHeartbeats 8000000 in
set_option maxRecDepth 100000 in
theorem minuetlaw7_InvertComposes.calls (k : Nat) (a0 : ByteArray) (A1 : Option Addr) (c1 : Nat) (l1 : List (S31)) (r : Bool) (w : World) (hr1 : Kd.C k31 w A1 l1.length l1) (hc1 : l1.length ≤ c1) (h : minuetlaw7_InvertComposes.f k a0 l1 = some r) :
 Calls Try.prog 10 #[.string a0, .slice A1 l1.length c1] w fun e w' => e = .returned (.bool r) ∧ Below w.heap.size w w' := by
 have HR1 := Aside0.mk hr1
 have HC1 := Aside0.mk hc1
 clear hr1 hc1
 have HB := Aside0.mk (Below.refl w.heap.size w)
 have H : ((minuetlaw7_awake.f k).bind fun t101 => (if t101 = true then ((invert_Invert.f k a0 l1).bind fun bt102 => ((minuetlaw0_Num.f bt102.2).bind fun t106 => (if t106 = 0 then (minuetlaw7_InvertComposes.j0 k a0 l1 bt102.1 bt102.2 (decide ((l1.length : Int) > 1000))) else (minuetlaw7_InvertComposes.j0 k a0 l1 bt102.1 bt102.2 true)))) else (none))) = some r := h
 clear h
 replace H := Option.bind_eq_some_iff.mp H
 obtain ⟨t101, A30, H⟩ := H
 replace H : (if t101 = true then ((invert_Invert.f k a0 l1).bind fun bt102 => ((minuetlaw0_Num.f bt102.2).bind fun t106 => (if t106 = 0 then (minuetlaw7_InvertComposes.j0 k a0 l1 bt102.1 bt102.2 (decide ((l1.length : Int) > 1000))) else (minuetlaw7_InvertComposes.j0 k a0 l1 bt102.1 bt102.2 true)))) else (none)) = some r := H
 have A3 := Aside0.mk A30
 clear A30
 by_cases c4 : t101 = true
 · subst c4
   have H1 : ((invert_Invert.f k a0 l1).bind fun bt102 => ((minuetlaw0_Num.f bt102.2).bind fun t106 => (if t106 = 0 then (minuetlaw7_InvertComposes.j0 k a0 l1 bt102.1 bt102.2 (decide ((l1.length : Int) > 1000))) else (minuetlaw7_InvertComposes.j0 k a0 l1 bt102.1 bt102.2 true)))) = some r := by rw [if_pos rfl] at H; exact H
   clear H
   have H := H1
   clear H1
   replace H := Option.bind_eq_some_iff.mp H
   obtain ⟨⟨t102, t103⟩, A50, H⟩ := H
   replace H : ((minuetlaw0_Num.f t103).bind fun t106 => (if t106 = 0 then (minuetlaw7_InvertComposes.j0 k a0 l1 t102 t103 (decide ((l1.length : Int) > 1000))) else (minuetlaw7_InvertComposes.j0 k a0 l1 t102 t103 true))) = some r := H
   have A5 := Aside0.mk A50
   clear A50
   have HC6 := Aside0.mk H
   clear H
   go_enter Try.func10, Try.ntmps10
   go_upto_region 4 with (first | ((with_reducible refine gate_callee (f := 32) rfl ?_); refine goesL_ (some 17) rfl rfl Try.func32 (by kernel_rfl) rfl #[] rfl (by (try simp only [List.map_toArray, List.map_cons, List.map_nil]); first | done | rfl | (simp only [List.length_drop, List.length_take]; rfl)) ?_; (with_reducible refine (minuetlaw7_awake.calls k  true _ A3.out).mono ?_); rintro e w7 ⟨rfl, hb⟩; refine ⟨_, rfl, ?_⟩; have n0_ := Aside0.mk (below_step (by repeat (first | (with_reducible first | exact HB.out | apply below_alloc | apply pw_below_drewN | apply below_drew1) | exact HB.out)) hb); clear HB; have HB := n0_; clear n0_; (try clear hb); (try clear hb2); (try clear hk); (try clear hi)) | ((with_reducible refine gate_callee (f := 33) rfl ?_); refine goesL_ (some 22) rfl rfl Try.func33 (by kernel_rfl) rfl #[.string a0, .slice A1 l1.length c1] rfl (by (try simp only [List.map_toArray, List.map_cons, List.map_nil]); first | done | rfl | (simp only [List.length_drop, List.length_take]; rfl)) ?_; (with_reducible refine (invert_Invert.calls k a0 _ _ l1 t102 t103 _ ?side1 ?side2 A5.out).mono ?_); (case side1 => repeat (first | exact (Kd.C_below HR1.out HB.out) | (with_reducible refine Kd.C_alloc ?_ _) | (with_reducible refine Kd.C_drewN ?_ _) | (with_reducible refine Kd.C_drew ?_))); (case side2 => exact HC1.out); rintro e w8 ⟨v104, rfl, ho0, hb⟩; refine ⟨_, rfl, ?_⟩; have n0_ := Aside0.mk (Kd.R_lower ho0 (below_size (by repeat (first | (with_reducible first | exact HB.out | apply below_alloc | apply pw_below_drewN | apply below_drew1) | exact HB.out)))); have n1_ := Aside0.mk (below_step (by repeat (first | (with_reducible first | exact HB.out | apply below_alloc | apply pw_below_drewN | apply below_drew1) | exact HB.out)) hb); clear HB; have HO105 := n0_; have HB := n1_; clear n0_ n1_; (try clear hb); (try clear hb2); (try clear hk); (try clear hi); (try clear ho0)))
   (try simp only [Act.put, List.setIfInBounds_toArray, List.set_cons_zero, List.set_cons_succ])
   go_cut [32] (fun v32 wc => ∃ (kq : Nat) (x32_5 : Bool), v32 = .bool x32_5 ∧ Aside0 (minuetlaw7_InvertComposes.j0 kq a0 l1 t102 t103 x32_5 = some r) ∧ Aside0 (kq ≤ k) ∧ Aside0 (Kd.R k31 31 wc w.heap.size (fun _ => True) v104 t102) ∧ Aside0 (Below w.heap.size w wc))
   case first =>
    have H := HC6.out
    clear HC6
    replace H := Option.bind_eq_some_iff.mp H
    obtain ⟨t106, A90, H⟩ := H
    replace H : (if t106 = 0 then (minuetlaw7_InvertComposes.j0 k a0 l1 t102 t103 (decide ((l1.length : Int) > 1000))) else (minuetlaw7_InvertComposes.j0 k a0 l1 t102 t103 true)) = some r := H
    have A9 := Aside0.mk A90
    clear A90
    by_cases c10 : t106 = 0
    · rw [if_pos c10] at H
      have c10b0 : (t106 == 0) = true := beq_iff_eq.mpr c10
      have c10b1 : (t106 != 0) = false := bne_eq_false_iff_eq.mpr c10
      clear c10
      (first | rw [c10b0] | (simp only [i64_w, i32_w]; rw [c10b0]) | skip)
      have H' := Aside0.mk H
      clear H
      go_wp2_with (first | ((with_reducible refine gate_callee (f := 15) rfl ?_); refine goesL_ (some 26) rfl rfl Try.func15 (by kernel_rfl) rfl #[.int .i64 t103] rfl (by (try simp only [List.map_toArray, List.map_cons, List.map_nil]); first | done | rfl | (simp only [List.length_drop, List.length_take]; rfl)) ?_; (with_reducible refine (minuetlaw0_Num.calls t103 t106 _ A9.out).mono ?_); rintro e w' ⟨rfl, ⟨nd, rfl⟩⟩; refine ⟨_, rfl, ?_⟩))
      go_meet
      case rel => exact ⟨_, (decide ((l1.length : Int) > 1000)), (by first | rfl | (simp; done) | (simp [*]; done)), H', ⟨by first | omega | exact Nat.le_refl _⟩, ⟨by (with_reducible repeat (first | apply Kd.R_alloc | apply Kd.R_drewN | apply Kd.R_drew)); exact HO105.out⟩, ⟨by repeat (first | (with_reducible first | exact HB.out | apply below_alloc | apply pw_below_drewN | apply below_drew1) | exact HB.out)⟩⟩
    · rw [if_neg c10] at H
      have c10b0 : (t106 == 0) = false := beq_eq_false_iff_ne.mpr c10
      have c10b1 : (t106 != 0) = true := bne_iff_ne.mpr c10
      (first | rw [c10b0] | (simp only [i64_w, i32_w]; rw [c10b0]) | skip)
      have H' := Aside0.mk H
      clear H
      go_wp2_with (first | ((with_reducible refine gate_callee (f := 15) rfl ?_); refine goesL_ (some 26) rfl rfl Try.func15 (by kernel_rfl) rfl #[.int .i64 t103] rfl (by (try simp only [List.map_toArray, List.map_cons, List.map_nil]); first | done | rfl | (simp only [List.length_drop, List.length_take]; rfl)) ?_; (with_reducible refine (minuetlaw0_Num.calls t103 t106 _ A9.out).mono ?_); rintro e w' ⟨rfl, ⟨nd, rfl⟩⟩; refine ⟨_, rfl, ?_⟩))
      go_meet
      case rel => exact ⟨_, (true), (by first | rfl | (simp; done) | (simp [*]; done)), H', ⟨by first | omega | exact Nat.le_refl _⟩, ⟨by (with_reducible repeat (first | apply Kd.R_alloc | apply Kd.R_drewN | apply Kd.R_drew)); exact HO105.out⟩, ⟨by repeat (first | (with_reducible first | exact HB.out | apply below_alloc | apply pw_below_drewN | apply below_drew1) | exact HB.out)⟩⟩
   case rest =>
    clear HC6
    try clear c1
    try clear p2
    try clear c3
    try clear c4
    try clear c10
    try clear c10b0
    try clear c10b1
    obtain ⟨kq, x32_5, rfl, HA, HJ5, HO_5, HB⟩ := hcut
    cases kq with
    | zero => exact absurd HA.out (by simp [minuetlaw7_InvertComposes.j0])
    | succ kj5 =>
     have H := HA.out
     clear HA
     simp only [minuetlaw7_InvertComposes.j0] at H
     by_cases c11 : x32_5 = true
     · subst c11
       have H1 : (if (t102.length : Int) = 0 then (some true) else ((minuetlaw0_Num.f t103).bind fun t107 => (some (t107 == 0)))) = some r := by rw [if_pos rfl] at H; exact H
       clear H
       have H := H1
       clear H1
       by_cases c12 : (t102.length : Int) = 0
       · rw [if_pos c12] at H
         have c12b0 : ((t102.length : Int) == 0) = true := beq_iff_eq.mpr c12
         have c12b1 : ((t102.length : Int) != 0) = false := bne_eq_false_iff_eq.mpr c12
         clear c12
         obtain rfl := Option.some.inj H
         obtain ⟨Ao13, co13, eo13⟩ := Kd.R_slice HO_5.out
         subst eo13
         go_wp2
         go_ret
         exact ⟨by first | rfl | (simp [errW_none, errW_some] <;> rfl) | (simp [*, errW_none, errW_some] <;> rfl), by repeat (first | (with_reducible first | exact HB.out | apply below_alloc | apply pw_below_drewN | apply below_drew1) | exact HB.out)⟩
       · rw [if_neg c12] at H
         have c12b0 : ((t102.length : Int) == 0) = false := beq_eq_false_iff_ne.mpr c12
         have c12b1 : ((t102.length : Int) != 0) = true := bne_iff_ne.mpr c12
         have c12b2 : ¬ (t102 = []) := fun h_ => c12 (by rw [h_]; rfl)
         replace H := Option.bind_eq_some_iff.mp H
         obtain ⟨t107, A140, H⟩ := H
         replace H : (some (t107 == 0)) = some r := H
         have A14 := Aside0.mk A140
         clear A140
         obtain rfl := Option.some.inj H
         obtain ⟨Ao15, co15, eo15⟩ := Kd.R_slice HO_5.out
         subst eo15
         go_wp2_with (first | (go_at_call 15; (with_reducible refine (minuetlaw0_Num.calls t103 t107 _ A14.out).mono ?_); rintro e w' ⟨rfl, ⟨nd, rfl⟩⟩))
         go_ret
         exact ⟨by first | rfl | (simp [errW_none, errW_some] <;> rfl) | (simp [*, errW_none, errW_some] <;> rfl), by repeat (first | (with_reducible first | exact HB.out | apply below_alloc | apply pw_below_drewN | apply below_drew1) | exact HB.out)⟩
     · replace c11 := Bool.eq_false_iff.mpr c11
       subst c11
       have H1 : ((compose_Compose.f kj5 l1 t102).bind fun bt108 => ((apply_Apply.f kj5 a0 bt108.1).bind fun bt112 => ((minuetref1_Lengths.f kj5 l1).bind fun bt114 => ((minuetref1_Lengths.f kj5 t102).bind fun bt117 => ((minuetlaw0_Num.f bt108.2).bind fun t120 => (if t120 = 0 then ((minuetlaw0_Num.f bt112.2).bind fun t121 => (if t121 = 0 then (if bt112.1.toList = a0.toList then (if bt114.2.2 = 0 then (if bt117.2.2 = 0 then (if bt114.1 = bt117.2.1 then (some (bt114.2.1 == bt117.1)) else (none)) else (none)) else (none)) else (none)) else (none))) else (none))))))) = some r := by rw [if_neg (show ¬ (false = true) by decide)] at H; exact H
       clear H
       have H := H1
       clear H1
       replace H := Option.bind_eq_some_iff.mp H
       obtain ⟨⟨t108, t109⟩, A160, H⟩ := H
       replace H : ((apply_Apply.f kj5 a0 t108).bind fun bt112 => ((minuetref1_Lengths.f kj5 l1).bind fun bt114 => ((minuetref1_Lengths.f kj5 t102).bind fun bt117 => ((minuetlaw0_Num.f t109).bind fun t120 => (if t120 = 0 then ((minuetlaw0_Num.f bt112.2).bind fun t121 => (if t121 = 0 then (if bt112.1.toList = a0.toList then (if bt114.2.2 = 0 then (if bt117.2.2 = 0 then (if bt114.1 = bt117.2.1 then (some (bt114.2.1 == bt117.1)) else (none)) else (none)) else (none)) else (none)) else (none))) else (none)))))) = some r := H
       have A16 := Aside0.mk A160
       clear A160
       replace H := Option.bind_eq_some_iff.mp H
       obtain ⟨⟨t112, t113⟩, A170, H⟩ := H
       replace H : ((minuetref1_Lengths.f kj5 l1).bind fun bt114 => ((minuetref1_Lengths.f kj5 t102).bind fun bt117 => ((minuetlaw0_Num.f t109).bind fun t120 => (if t120 = 0 then ((minuetlaw0_Num.f t113).bind fun t121 => (if t121 = 0 then (if t112.toList = a0.toList then (if bt114.2.2 = 0 then (if bt117.2.2 = 0 then (if bt114.1 = bt117.2.1 then (some (bt114.2.1 == bt117.1)) else (none)) else (none)) else (none)) else (none)) else (none))) else (none))))) = some r := H
       have A17 := Aside0.mk A170
       clear A170
       replace H := Option.bind_eq_some_iff.mp H
       obtain ⟨⟨t114, t115, t116⟩, A180, H⟩ := H
       replace H : ((minuetref1_Lengths.f kj5 t102).bind fun bt117 => ((minuetlaw0_Num.f t109).bind fun t120 => (if t120 = 0 then ((minuetlaw0_Num.f t113).bind fun t121 => (if t121 = 0 then (if t112.toList = a0.toList then (if t116 = 0 then (if bt117.2.2 = 0 then (if t114 = bt117.2.1 then (some (t115 == bt117.1)) else (none)) else (none)) else (none)) else (none)) else (none))) else (none)))) = some r := H
       have A18 := Aside0.mk A180
       clear A180
       replace H := Option.bind_eq_some_iff.mp H
       obtain ⟨⟨t117, t118, t119⟩, A190, H⟩ := H
       replace H : ((minuetlaw0_Num.f t109).bind fun t120 => (if t120 = 0 then ((minuetlaw0_Num.f t113).bind fun t121 => (if t121 = 0 then (if t112.toList = a0.toList then (if t116 = 0 then (if t119 = 0 then (if t114 = t118 then (some (t115 == t117)) else (none)) else (none)) else (none)) else (none)) else (none))) else (none))) = some r := H
       have A19 := Aside0.mk A190
       clear A190
       replace H := Option.bind_eq_some_iff.mp H
       obtain ⟨t120, A200, H⟩ := H
       replace H : (if t120 = 0 then ((minuetlaw0_Num.f t113).bind fun t121 => (if t121 = 0 then (if t112.toList = a0.toList then (if t116 = 0 then (if t119 = 0 then (if t114 = t118 then (some (t115 == t117)) else (none)) else (none)) else (none)) else (none)) else (none))) else (none)) = some r := H
       have A20 := Aside0.mk A200
       clear A200
       by_cases c21 : t120 = 0
       · rw [if_pos c21] at H
         have c21b0 : (t120 == 0) = true := beq_iff_eq.mpr c21
         have c21b1 : (t120 != 0) = false := bne_eq_false_iff_eq.mpr c21
         clear c21
         replace H := Option.bind_eq_some_iff.mp H
         obtain ⟨t121, A220, H⟩ := H
         replace H : (if t121 = 0 then (if t112.toList = a0.toList then (if t116 = 0 then (if t119 = 0 then (if t114 = t118 then (some (t115 == t117)) else (none)) else (none)) else (none)) else (none)) else (none)) = some r := H
         have A22 := Aside0.mk A220
         clear A220
         by_cases c23 : t121 = 0
         · rw [if_pos c23] at H
           have c23b0 : (t121 == 0) = true := beq_iff_eq.mpr c23
           have c23b1 : (t121 != 0) = false := bne_eq_false_iff_eq.mpr c23
           clear c23
           by_cases c24 : t112.toList = a0.toList
           · rw [if_pos c24] at H
             have c24b0 : (t112.toList == a0.toList) = true := beq_iff_eq.mpr c24
             have c24b1 : (t112.toList != a0.toList) = false := bne_eq_false_iff_eq.mpr c24
             clear c24
             by_cases c25 : t116 = 0
             · rw [if_pos c25] at H
               have c25b0 : (t116 == 0) = true := beq_iff_eq.mpr c25
               have c25b1 : (t116 != 0) = false := bne_eq_false_iff_eq.mpr c25
               clear c25
               by_cases c26 : t119 = 0
               · rw [if_pos c26] at H
                 have c26b0 : (t119 == 0) = true := beq_iff_eq.mpr c26
                 have c26b1 : (t119 != 0) = false := bne_eq_false_iff_eq.mpr c26
                 clear c26
                 by_cases c27 : t114 = t118
                 · rw [if_pos c27] at H
                   have c27b0 : (t114 == t118) = true := beq_iff_eq.mpr c27
                   have c27b1 : (t114 != t118) = false := bne_eq_false_iff_eq.mpr c27
                   clear c27
                   obtain rfl := Option.some.inj H
                   obtain ⟨Ao28, co28, eo28⟩ := Kd.R_slice HO_5.out
                   subst eo28
                   go_wp2_with (first | ((with_reducible refine gate_callee (f := 24) rfl ?_); refine goesL_ (some 44) rfl rfl Try.func24 (by kernel_rfl) rfl #[.slice A1 l1.length c1, .slice Ao28 t102.length co28] rfl (by (try simp only [List.map_toArray, List.map_cons, List.map_nil]); first | done | rfl | (simp only [List.length_drop, List.length_take]; rfl)) ?_; (with_reducible refine (compose_Compose.calls kj5 _ _ l1 _ _ t102 t108 t109 _ ?side1 ?side2 ?side3 ?side4 A16.out).mono ?_); (case side1 => repeat (first | exact (Kd.C_below HR1.out HB.out) | (with_reducible refine Kd.C_alloc ?_ _) | (with_reducible refine Kd.C_drewN ?_ _) | (with_reducible refine Kd.C_drew ?_))); (case side2 => exact HC1.out); (case side3 => repeat (first | exact (Kd.R_reads' HO_5.out).2.2 | (with_reducible refine Kd.C_alloc ?_ _) | (with_reducible refine Kd.C_drewN ?_ _) | (with_reducible refine Kd.C_drew ?_))); (case side4 => exact (Kd.R_reads' HO_5.out).2.1); rintro e w29 ⟨v110, rfl, ho0, hb⟩; refine ⟨_, rfl, ?_⟩; have n0_ := Aside0.mk (Kd.R_elder' (by (with_reducible repeat (first | apply Kd.R_alloc | apply Kd.R_drewN | apply Kd.R_drew)); exact HO_5.out) (Kd.R_base ho0) hb); have n1_ := Aside0.mk (Kd.R_lower (Kd.R_new' ho0 (Kd.R_lt (by (with_reducible repeat (first | apply Kd.R_alloc | apply Kd.R_drewN | apply Kd.R_drew)); exact HO_5.out))) (below_size (by repeat (first | (with_reducible first | exact HB.out | apply below_alloc | apply pw_below_drewN | apply below_drew1) | exact HB.out)))); have n2_ := Aside0.mk (below_step (by repeat (first | (with_reducible first | exact HB.out | apply below_alloc | apply pw_below_drewN | apply below_drew1) | exact HB.out)) hb); clear HO_5; clear HB; have HO_5 := n0_; have HO111 := n1_; have HB := n2_; clear n0_ n1_ n2_; (try clear hb); (try clear hb2); (try clear hk); (try clear hi); (try clear ho0); obtain ⟨Ao30, co30, eo30⟩ := Kd.R_slice HO111.out; subst eo30) | ((with_reducible refine gate_callee (f := 22) rfl ?_); refine goesL_ (some 50) rfl rfl Try.func22 (by kernel_rfl) rfl #[.string a0, .slice Ao30 t108.length co30] rfl (by (try simp only [List.map_toArray, List.map_cons, List.map_nil]); first | done | rfl | (simp only [List.length_drop, List.length_take]; rfl)) ?_; (with_reducible refine (apply_Apply.calls kj5 a0 _ _ t108 t112 t113 _ ?side1 ?side2 A17.out).mono ?_); (case side1 => repeat (first | exact (Kd.R_reads' HO111.out).2.2 | (with_reducible refine Kd.C_alloc ?_ _) | (with_reducible refine Kd.C_drewN ?_ _) | (with_reducible refine Kd.C_drew ?_))); (case side2 => exact (Kd.R_reads' HO111.out).2.1); rintro e w31 ⟨rfl, hb⟩; refine ⟨_, rfl, ?_⟩; have n0_ := Aside0.mk (Kd.R_below (by (with_reducible repeat (first | apply Kd.R_alloc | apply Kd.R_drewN | apply Kd.R_drew)); exact HO_5.out) hb); have n1_ := Aside0.mk (Kd.R_below (by (with_reducible repeat (first | apply Kd.R_alloc | apply Kd.R_drewN | apply Kd.R_drew)); exact HO111.out) hb); have n2_ := Aside0.mk (below_step (by repeat (first | (with_reducible first | exact HB.out | apply below_alloc | apply pw_below_drewN | apply below_drew1) | exact HB.out)) hb); clear HO_5; clear HO111; clear HB; have HO_5 := n0_; have HO111 := n1_; have HB := n2_; clear n0_ n1_ n2_; (try clear hb); (try clear hb2); (try clear hk); (try clear hi)) | ((with_reducible refine gate_callee (f := 30) rfl ?_); refine goesL_ (some 55) rfl rfl Try.func30 (by kernel_rfl) rfl #[.slice A1 l1.length c1] rfl (by (try simp only [List.map_toArray, List.map_cons, List.map_nil]); first | done | rfl | (simp only [List.length_drop, List.length_take]; rfl)) ?_; (with_reducible refine (minuetref1_Lengths.calls kj5 _ _ l1 t114 t115 t116 _ ?side1 ?side2 A18.out).mono ?_); (case side1 => repeat (first | exact (Kd.C_below HR1.out HB.out) | (with_reducible refine Kd.C_alloc ?_ _) | (with_reducible refine Kd.C_drewN ?_ _) | (with_reducible refine Kd.C_drew ?_))); (case side2 => exact HC1.out); rintro e w32 ⟨rfl, hb⟩; refine ⟨_, rfl, ?_⟩; have n0_ := Aside0.mk (Kd.R_below (by (with_reducible repeat (first | apply Kd.R_alloc | apply Kd.R_drewN | apply Kd.R_drew)); exact HO_5.out) hb); have n1_ := Aside0.mk (Kd.R_below (by (with_reducible repeat (first | apply Kd.R_alloc | apply Kd.R_drewN | apply Kd.R_drew)); exact HO111.out) hb); have n2_ := Aside0.mk (below_step (by repeat (first | (with_reducible first | exact HB.out | apply below_alloc | apply pw_below_drewN | apply below_drew1) | exact HB.out)) hb); clear HO_5; clear HO111; clear HB; have HO_5 := n0_; have HO111 := n1_; have HB := n2_; clear n0_ n1_ n2_; (try clear hb); (try clear hb2); (try clear hk); (try clear hi)) | ((with_reducible refine gate_callee (f := 30) rfl ?_); refine goesL_ (some 61) rfl rfl Try.func30 (by kernel_rfl) rfl #[.slice Ao28 t102.length co28] rfl (by (try simp only [List.map_toArray, List.map_cons, List.map_nil]); first | done | rfl | (simp only [List.length_drop, List.length_take]; rfl)) ?_; (with_reducible refine (minuetref1_Lengths.calls kj5 _ _ t102 t117 t118 t119 _ ?side1 ?side2 A19.out).mono ?_); (case side1 => repeat (first | exact (Kd.R_reads' HO_5.out).2.2 | (with_reducible refine Kd.C_alloc ?_ _) | (with_reducible refine Kd.C_drewN ?_ _) | (with_reducible refine Kd.C_drew ?_))); (case side2 => exact (Kd.R_reads' HO_5.out).2.1); rintro e w33 ⟨rfl, hb⟩; refine ⟨_, rfl, ?_⟩; have n0_ := Aside0.mk (Kd.R_below (by (with_reducible repeat (first | apply Kd.R_alloc | apply Kd.R_drewN | apply Kd.R_drew)); exact HO_5.out) hb); have n1_ := Aside0.mk (Kd.R_below (by (with_reducible repeat (first | apply Kd.R_alloc | apply Kd.R_drewN | apply Kd.R_drew)); exact HO111.out) hb); have n2_ := Aside0.mk (below_step (by repeat (first | (with_reducible first | exact HB.out | apply below_alloc | apply pw_below_drewN | apply below_drew1) | exact HB.out)) hb); clear HO_5; clear HO111; clear HB; have HO_5 := n0_; have HO111 := n1_; have HB := n2_; clear n0_ n1_ n2_; (try clear hb); (try clear hb2); (try clear hk); (try clear hi)) | ((with_reducible refine gate_callee (f := 15) rfl ?_); refine goesL_ (some 66) rfl rfl Try.func15 (by kernel_rfl) rfl #[.int .i64 t109] rfl (by (try simp only [List.map_toArray, List.map_cons, List.map_nil]); first | done | rfl | (simp only [List.length_drop, List.length_take]; rfl)) ?_; (with_reducible refine (minuetlaw0_Num.calls t109 t120 _ A20.out).mono ?_); rintro e w' ⟨rfl, ⟨nd, rfl⟩⟩; refine ⟨_, rfl, ?_⟩) | (go_at_call 15; (with_reducible refine (minuetlaw0_Num.calls t113 t121 _ A22.out).mono ?_); rintro e w' ⟨rfl, ⟨nd, rfl⟩⟩))
                   go_ret
                   exact ⟨by first | rfl | (simp [errW_none, errW_some] <;> rfl) | (simp [*, errW_none, errW_some] <;> rfl), by repeat (first | (with_reducible first | exact HB.out | apply below_alloc | apply pw_below_drewN | apply below_drew1) | exact HB.out)⟩
                 · rw [if_neg c27] at H
                   exact absurd H (by simp)
               · rw [if_neg c26] at H
                 exact absurd H (by simp)
             · rw [if_neg c25] at H
               exact absurd H (by simp)
           · rw [if_neg c24] at H
             exact absurd H (by simp)
         · rw [if_neg c23] at H
           exact absurd H (by simp)
       · rw [if_neg c21] at H
         exact absurd H (by simp)
 · replace c4 := Bool.eq_false_iff.mpr c4
   subst c4
   have H1 : (none) = some r := by rw [if_neg (show ¬ (false = true) by decide)] at H; exact H
   clear H
   have H := H1
   clear H1
   exact absurd H (by simp)

end Go.Proofs.Ytldaokclpkcmmaa.G
