-- Laid by this session's own program gprint.py (wip/tools), out of the kit's print and of texts of this session. Lean checks it.
import Derived.Test.YtldaokclpkcmmaaGx0
import Derived.Test.YtldaokclpkcmmaaGZ3
import Derived.Test.YtldaokclpkcmmaaGMinuetref1PApply
import Derived.Test.YtldaokclpkcmmaaGComposePCompose
import Derived.Test.YtldaokclpkcmmaaGMinuetlaw4qawake
import Derived.Test.YtldaokclpkcmmaaGMinuetref1PBetween
namespace Go.Proofs.Ytldaokclpkcmmaa.G
open Go.RowKit Go.Proofs.YtldaokclpkcmmaaW.PrintWords Go.Proofs.YtldaokclpkcmmaaW.PrintLast Go.Proofs.YtldaokclpkcmmaaW.PrintMore
attribute [local go_sem] max2_int min2_int max_two min_two max_three min_three max_four min_four   -- for this text's walks alone
set_option linter.unusedVariables false
set_option linter.unusedSimpArgs false

/-! ### minuetlaw4_ComposeThree: function 7 -/
mutual
def minuetlaw4_ComposeThree.j0 : Nat → ByteArray → List (S31) → List (S31) → ByteArray → List (S31) → Bool → Option (Bool)
 | 0, _, _, _, _, _, _ => none
 | k + 1, x0, x1, x2, x3, x13, x70 => if x70 = true then (some true) else ((compose_Compose.f k x1 x2).bind fun bt110 => ((compose_Compose.f k bt110.1 x13).bind fun bt114 => ((compose_Compose.f k x2 x13).bind fun bt118 => ((compose_Compose.f k x1 bt118.1).bind fun bt122 => ((minuetlaw0_Num.f bt110.2).bind fun t126 => (if t126 = 0 then ((minuetlaw0_Num.f bt114.2).bind fun t127 => (if t127 = 0 then ((minuetlaw0_Num.f bt118.2).bind fun t128 => (if t128 = 0 then ((minuetlaw0_Num.f bt122.2).bind fun t129 => (minuetlaw4_ComposeThree.j1 k x0 x3 bt114.1 bt122.1 (t129 != 0))) else (minuetlaw4_ComposeThree.j1 k x0 x3 bt114.1 bt122.1 true))) else (minuetlaw4_ComposeThree.j1 k x0 x3 bt114.1 bt122.1 true))) else (minuetlaw4_ComposeThree.j1 k x0 x3 bt114.1 bt122.1 true)))))))
def minuetlaw4_ComposeThree.j1 : Nat → ByteArray → ByteArray → List (S31) → List (S31) → Bool → Option (Bool)
 | 0, _, _, _, _, _ => none
 | k + 1, x0, x3, x17, x21, x112 => if x112 = true then (none) else ((minuetref1_Apply.f k x0 x17).bind fun bt130 => ((minuetref1_Apply.f k x0 x21).bind fun bt132 => (if bt130.2 = 0 then (if bt132.2 = 0 then (if bt130.1.toList = bt132.1.toList then (some (bt130.1.toList == x3.toList)) else (none)) else (none)) else (none))))
end
def minuetlaw4_ComposeThree.f (k : Nat) (a0 : ByteArray) (l1 : List (S31)) (l2 : List (S31)) (a3 : ByteArray) : Option (Bool) := (minuetlaw4_awake.f k).bind fun t101 => (if t101 = true then ((minuetref1_Apply.f k a0 l1).bind fun bt102 => ((minuetref1_Apply.f k bt102.1 l2).bind fun bt104 => ((minuetref1_Between.f k bt104.1 a3).bind fun bt106 => (if bt102.2 = 0 then (if bt104.2 = 0 then (if bt106.2 = 0 then (minuetlaw4_ComposeThree.j0 k a0 l1 l2 a3 bt106.1 (decide ((wrap64 ((wrap64 ((wrap64 ((l1.length : Int) + (l2.length : Int))) + (a0.size : Int))) + (a3.size : Int))) > 1000))) else (minuetlaw4_ComposeThree.j0 k a0 l1 l2 a3 bt106.1 true)) else (minuetlaw4_ComposeThree.j0 k a0 l1 l2 a3 bt106.1 true)) else (minuetlaw4_ComposeThree.j0 k a0 l1 l2 a3 bt106.1 true))))) else (none))
theorem minuetlaw4_ComposeThree.mono_l : ∀ k, (∀ y0 y1 y2 y3 y4 y5, LeO (minuetlaw4_ComposeThree.j0 k y0 y1 y2 y3 y4 y5) (minuetlaw4_ComposeThree.j0 (k + 1) y0 y1 y2 y3 y4 y5)) ∧ (∀ y0 y1 y2 y3 y4, LeO (minuetlaw4_ComposeThree.j1 k y0 y1 y2 y3 y4) (minuetlaw4_ComposeThree.j1 (k + 1) y0 y1 y2 y3 y4))
 | 0 => ⟨fun _ _ _ _ _ _ r h => by simp [minuetlaw4_ComposeThree.j0] at h, fun _ _ _ _ _ r h => by simp [minuetlaw4_ComposeThree.j1] at h⟩
 | k + 1 => by
  obtain ⟨ih0, ih1⟩ := minuetlaw4_ComposeThree.mono_l k
  refine ⟨?_, ?_⟩
  · intro y0 y1 y2 y3 y4 y5
    unfold minuetlaw4_ComposeThree.j0
    repeat' first
    | (with_reducible exact ih0 _ _ _ _ _ _)
    | (with_reducible exact ih1 _ _ _ _ _)
    | (with_reducible exact compose_Compose.mono _ _ _)
    | (with_reducible exact minuetlaw4_awake.mono _)
    | (with_reducible exact minuetref1_Apply.mono _ _ _)
    | (with_reducible exact minuetref1_Between.mono _ _ _)
    | (with_reducible exact LeO.refl _)
    | (with_reducible exact LeO.none _)
    | (with_reducible refine LeO.ite ?_ ?_)
    | (with_reducible refine LeO.bind ?_ (fun _ => ?_))
    | exact ih0 _ _ _ _ _ _
    | exact ih1 _ _ _ _ _
    | exact compose_Compose.mono _ _ _
    | exact minuetlaw4_awake.mono _
    | exact minuetref1_Apply.mono _ _ _
    | exact minuetref1_Between.mono _ _ _
    | exact LeO.none _
    | refine LeO.ite ?_ ?_
    | refine LeO.bind ?_ (fun _ => ?_)
  · intro y0 y1 y2 y3 y4
    unfold minuetlaw4_ComposeThree.j1
    repeat' first
    | (with_reducible exact ih0 _ _ _ _ _ _)
    | (with_reducible exact ih1 _ _ _ _ _)
    | (with_reducible exact compose_Compose.mono _ _ _)
    | (with_reducible exact minuetlaw4_awake.mono _)
    | (with_reducible exact minuetref1_Apply.mono _ _ _)
    | (with_reducible exact minuetref1_Between.mono _ _ _)
    | (with_reducible exact LeO.refl _)
    | (with_reducible exact LeO.none _)
    | (with_reducible refine LeO.ite ?_ ?_)
    | (with_reducible refine LeO.bind ?_ (fun _ => ?_))
    | exact ih0 _ _ _ _ _ _
    | exact ih1 _ _ _ _ _
    | exact compose_Compose.mono _ _ _
    | exact minuetlaw4_awake.mono _
    | exact minuetref1_Apply.mono _ _ _
    | exact minuetref1_Between.mono _ _ _
    | exact LeO.none _
    | refine LeO.ite ?_ ?_
    | refine LeO.bind ?_ (fun _ => ?_)
theorem minuetlaw4_ComposeThree.mono : ∀ a0 a1 a2 a3 k, LeO (minuetlaw4_ComposeThree.f k a0 a1 a2 a3) (minuetlaw4_ComposeThree.f (k + 1) a0 a1 a2 a3) := by
 intro a0 a1 a2 a3 k
 obtain ⟨ih0, ih1⟩ := minuetlaw4_ComposeThree.mono_l k
 unfold minuetlaw4_ComposeThree.f
 repeat' first
  | (with_reducible exact ih0 _ _ _ _ _ _)
  | (with_reducible exact ih1 _ _ _ _ _)
  | (with_reducible exact compose_Compose.mono _ _ _)
  | (with_reducible exact minuetlaw4_awake.mono _)
  | (with_reducible exact minuetref1_Apply.mono _ _ _)
  | (with_reducible exact minuetref1_Between.mono _ _ _)
  | (with_reducible exact LeO.refl _)
  | (with_reducible exact LeO.none _)
  | (with_reducible refine LeO.ite ?_ ?_)
  | (with_reducible refine LeO.bind ?_ (fun _ => ?_))
  | exact ih0 _ _ _ _ _ _
  | exact ih1 _ _ _ _ _
  | exact compose_Compose.mono _ _ _
  | exact minuetlaw4_awake.mono _
  | exact minuetref1_Apply.mono _ _ _
  | exact minuetref1_Between.mono _ _ _
  | exact LeO.none _
  | refine LeO.ite ?_ ?_
  | refine LeO.bind ?_ (fun _ => ?_)
set_option maxHeartbeats 8000000 in
set_option maxRecDepth 100000 in
theorem minuetlaw4_ComposeThree.calls (k : Nat) (a0 : ByteArray) (A1 : Option Addr) (c1 : Nat) (l1 : List (S31)) (A2 : Option Addr) (c2 : Nat) (l2 : List (S31)) (a3 : ByteArray) (r : Bool) (w : World) (hr1 : Kd.C k31 w A1 l1.length l1) (hc1 : l1.length ≤ c1) (hr2 : Kd.C k31 w A2 l2.length l2) (hc2 : l2.length ≤ c2) (h : minuetlaw4_ComposeThree.f k a0 l1 l2 a3 = some r) :
 Calls Try.prog 7 #[.string a0, .slice A1 l1.length c1, .slice A2 l2.length c2, .string a3] w fun e w' => e = .returned (.bool r) ∧ Below w.heap.size w w' := by
 have HR1 := Aside0.mk hr1
 have HC1 := Aside0.mk hc1
 clear hr1 hc1
 have HR2 := Aside0.mk hr2
 have HC2 := Aside0.mk hc2
 clear hr2 hc2
 have HB := Aside0.mk (Below.refl w.heap.size w)
 have H : ((minuetlaw4_awake.f k).bind fun t101 => (if t101 = true then ((minuetref1_Apply.f k a0 l1).bind fun bt102 => ((minuetref1_Apply.f k bt102.1 l2).bind fun bt104 => ((minuetref1_Between.f k bt104.1 a3).bind fun bt106 => (if bt102.2 = 0 then (if bt104.2 = 0 then (if bt106.2 = 0 then (minuetlaw4_ComposeThree.j0 k a0 l1 l2 a3 bt106.1 (decide ((wrap64 ((wrap64 ((wrap64 ((l1.length : Int) + (l2.length : Int))) + (a0.size : Int))) + (a3.size : Int))) > 1000))) else (minuetlaw4_ComposeThree.j0 k a0 l1 l2 a3 bt106.1 true)) else (minuetlaw4_ComposeThree.j0 k a0 l1 l2 a3 bt106.1 true)) else (minuetlaw4_ComposeThree.j0 k a0 l1 l2 a3 bt106.1 true))))) else (none))) = some r := h
 clear h
 replace H := Option.bind_eq_some_iff.mp H
 obtain ⟨t101, A50, H⟩ := H
 replace H : (if t101 = true then ((minuetref1_Apply.f k a0 l1).bind fun bt102 => ((minuetref1_Apply.f k bt102.1 l2).bind fun bt104 => ((minuetref1_Between.f k bt104.1 a3).bind fun bt106 => (if bt102.2 = 0 then (if bt104.2 = 0 then (if bt106.2 = 0 then (minuetlaw4_ComposeThree.j0 k a0 l1 l2 a3 bt106.1 (decide ((wrap64 ((wrap64 ((wrap64 ((l1.length : Int) + (l2.length : Int))) + (a0.size : Int))) + (a3.size : Int))) > 1000))) else (minuetlaw4_ComposeThree.j0 k a0 l1 l2 a3 bt106.1 true)) else (minuetlaw4_ComposeThree.j0 k a0 l1 l2 a3 bt106.1 true)) else (minuetlaw4_ComposeThree.j0 k a0 l1 l2 a3 bt106.1 true))))) else (none)) = some r := H
 have A5 := Aside0.mk A50
 clear A50
 by_cases c6 : t101 = true
 · subst c6
   have H1 : ((minuetref1_Apply.f k a0 l1).bind fun bt102 => ((minuetref1_Apply.f k bt102.1 l2).bind fun bt104 => ((minuetref1_Between.f k bt104.1 a3).bind fun bt106 => (if bt102.2 = 0 then (if bt104.2 = 0 then (if bt106.2 = 0 then (minuetlaw4_ComposeThree.j0 k a0 l1 l2 a3 bt106.1 (decide ((wrap64 ((wrap64 ((wrap64 ((l1.length : Int) + (l2.length : Int))) + (a0.size : Int))) + (a3.size : Int))) > 1000))) else (minuetlaw4_ComposeThree.j0 k a0 l1 l2 a3 bt106.1 true)) else (minuetlaw4_ComposeThree.j0 k a0 l1 l2 a3 bt106.1 true)) else (minuetlaw4_ComposeThree.j0 k a0 l1 l2 a3 bt106.1 true))))) = some r := by rw [if_pos rfl] at H; exact H
   clear H
   have H := H1
   clear H1
   replace H := Option.bind_eq_some_iff.mp H
   obtain ⟨⟨t102, t103⟩, A70, H⟩ := H
   replace H : ((minuetref1_Apply.f k t102 l2).bind fun bt104 => ((minuetref1_Between.f k bt104.1 a3).bind fun bt106 => (if t103 = 0 then (if bt104.2 = 0 then (if bt106.2 = 0 then (minuetlaw4_ComposeThree.j0 k a0 l1 l2 a3 bt106.1 (decide ((wrap64 ((wrap64 ((wrap64 ((l1.length : Int) + (l2.length : Int))) + (a0.size : Int))) + (a3.size : Int))) > 1000))) else (minuetlaw4_ComposeThree.j0 k a0 l1 l2 a3 bt106.1 true)) else (minuetlaw4_ComposeThree.j0 k a0 l1 l2 a3 bt106.1 true)) else (minuetlaw4_ComposeThree.j0 k a0 l1 l2 a3 bt106.1 true)))) = some r := H
   have A7 := Aside0.mk A70
   clear A70
   replace H := Option.bind_eq_some_iff.mp H
   obtain ⟨⟨t104, t105⟩, A80, H⟩ := H
   replace H : ((minuetref1_Between.f k t104 a3).bind fun bt106 => (if t103 = 0 then (if t105 = 0 then (if bt106.2 = 0 then (minuetlaw4_ComposeThree.j0 k a0 l1 l2 a3 bt106.1 (decide ((wrap64 ((wrap64 ((wrap64 ((l1.length : Int) + (l2.length : Int))) + (a0.size : Int))) + (a3.size : Int))) > 1000))) else (minuetlaw4_ComposeThree.j0 k a0 l1 l2 a3 bt106.1 true)) else (minuetlaw4_ComposeThree.j0 k a0 l1 l2 a3 bt106.1 true)) else (minuetlaw4_ComposeThree.j0 k a0 l1 l2 a3 bt106.1 true))) = some r := H
   have A8 := Aside0.mk A80
   clear A80
   replace H := Option.bind_eq_some_iff.mp H
   obtain ⟨⟨t106, t107⟩, A90, H⟩ := H
   replace H : (if t103 = 0 then (if t105 = 0 then (if t107 = 0 then (minuetlaw4_ComposeThree.j0 k a0 l1 l2 a3 t106 (decide ((wrap64 ((wrap64 ((wrap64 ((l1.length : Int) + (l2.length : Int))) + (a0.size : Int))) + (a3.size : Int))) > 1000))) else (minuetlaw4_ComposeThree.j0 k a0 l1 l2 a3 t106 true)) else (minuetlaw4_ComposeThree.j0 k a0 l1 l2 a3 t106 true)) else (minuetlaw4_ComposeThree.j0 k a0 l1 l2 a3 t106 true)) = some r := H
   have A9 := Aside0.mk A90
   clear A90
   have HC10 := Aside0.mk H
   clear H
   go_enter Try.func7, Try.ntmps7
   go_upto_region 6 with (first | ((with_reducible refine gate_callee (f := 28) rfl ?_); refine goesL_ (some 27) rfl rfl Try.func28 (by kernel_rfl) rfl #[] rfl (by (try simp only [List.map_toArray, List.map_cons, List.map_nil]); first | done | rfl | (simp only [List.length_drop, List.length_take]; rfl)) ?_; (with_reducible refine (minuetlaw4_awake.calls k  true _ A5.out).mono ?_); rintro e w11 ⟨rfl, hb⟩; refine ⟨_, rfl, ?_⟩; have n0_ := Aside0.mk (below_step (by repeat (first | (with_reducible first | exact HB.out | apply below_alloc | apply pw_below_drewN | apply below_drew1) | exact HB.out)) hb); clear HB; have HB := n0_; clear n0_; (try clear hb); (try clear hb2); (try clear hk); (try clear hi)) | ((with_reducible refine gate_callee (f := 19) rfl ?_); refine goesL_ (some 32) rfl rfl Try.func19 (by kernel_rfl) rfl #[.string a0, .slice A1 l1.length c1] rfl (by (try simp only [List.map_toArray, List.map_cons, List.map_nil]); first | done | rfl | (simp only [List.length_drop, List.length_take]; rfl)) ?_; (with_reducible refine (minuetref1_Apply.calls k a0 _ _ l1 t102 t103 _ ?side1 ?side2 A7.out).mono ?_); (case side1 => repeat (first | exact (Kd.C_below HR1.out HB.out) | (with_reducible refine Kd.C_alloc ?_ _) | (with_reducible refine Kd.C_drewN ?_ _) | (with_reducible refine Kd.C_drew ?_))); (case side2 => exact HC1.out); rintro e w12 ⟨rfl, hb⟩; refine ⟨_, rfl, ?_⟩; have n0_ := Aside0.mk (below_step (by repeat (first | (with_reducible first | exact HB.out | apply below_alloc | apply pw_below_drewN | apply below_drew1) | exact HB.out)) hb); clear HB; have HB := n0_; clear n0_; (try clear hb); (try clear hb2); (try clear hk); (try clear hi)) | ((with_reducible refine gate_callee (f := 19) rfl ?_); refine goesL_ (some 38) rfl rfl Try.func19 (by kernel_rfl) rfl #[.string t102, .slice A2 l2.length c2] rfl (by (try simp only [List.map_toArray, List.map_cons, List.map_nil]); first | done | rfl | (simp only [List.length_drop, List.length_take]; rfl)) ?_; (with_reducible refine (minuetref1_Apply.calls k t102 _ _ l2 t104 t105 _ ?side1 ?side2 A8.out).mono ?_); (case side1 => repeat (first | exact (Kd.C_below HR2.out HB.out) | (with_reducible refine Kd.C_alloc ?_ _) | (with_reducible refine Kd.C_drewN ?_ _) | (with_reducible refine Kd.C_drew ?_))); (case side2 => exact HC2.out); rintro e w13 ⟨rfl, hb⟩; refine ⟨_, rfl, ?_⟩; have n0_ := Aside0.mk (below_step (by repeat (first | (with_reducible first | exact HB.out | apply below_alloc | apply pw_below_drewN | apply below_drew1) | exact HB.out)) hb); clear HB; have HB := n0_; clear n0_; (try clear hb); (try clear hb2); (try clear hk); (try clear hi)) | ((with_reducible refine gate_callee (f := 29) rfl ?_); refine goesL_ (some 44) rfl rfl Try.func29 (by kernel_rfl) rfl #[.string t104, .string a3] rfl (by (try simp only [List.map_toArray, List.map_cons, List.map_nil]); first | done | rfl | (simp only [List.length_drop, List.length_take]; rfl)) ?_; (with_reducible refine (minuetref1_Between.calls k t104 a3 t106 t107 _ A9.out).mono ?_); rintro e w14 ⟨v108, rfl, ho0, hb⟩; refine ⟨_, rfl, ?_⟩; have n0_ := Aside0.mk (Kd.R_lower ho0 (below_size (by repeat (first | (with_reducible first | exact HB.out | apply below_alloc | apply pw_below_drewN | apply below_drew1) | exact HB.out)))); have n1_ := Aside0.mk (below_step (by repeat (first | (with_reducible first | exact HB.out | apply below_alloc | apply pw_below_drewN | apply below_drew1) | exact HB.out)) hb); clear HB; have HO109 := n0_; have HB := n1_; clear n0_ n1_; (try clear hb); (try clear hb2); (try clear hk); (try clear hi); (try clear ho0)))
   (try simp only [Act.put, List.setIfInBounds_toArray, List.set_cons_zero, List.set_cons_succ])
   go_cut [70] (fun v70 wc => ∃ (kq : Nat) (x70_9 : Bool), v70 = .bool x70_9 ∧ Aside0 (minuetlaw4_ComposeThree.j0 kq a0 l1 l2 a3 t106 x70_9 = some r) ∧ Aside0 (kq ≤ k) ∧ Aside0 (Kd.R k31 31 wc w.heap.size (fun _ => True) v108 t106) ∧ Aside0 (Below w.heap.size w wc))
   case first =>
    have H := HC10.out
    clear HC10
    by_cases c15 : t103 = 0
    · rw [if_pos c15] at H
      have c15b0 : (t103 == 0) = true := beq_iff_eq.mpr c15
      have c15b1 : (t103 != 0) = false := bne_eq_false_iff_eq.mpr c15
      clear c15
      (first | rw [c15b0] | (simp only [i64_w, i32_w]; rw [c15b0]) | skip)
      by_cases c16 : t105 = 0
      · rw [if_pos c16] at H
        have c16b0 : (t105 == 0) = true := beq_iff_eq.mpr c16
        have c16b1 : (t105 != 0) = false := bne_eq_false_iff_eq.mpr c16
        clear c16
        by_cases c17 : t107 = 0
        · rw [if_pos c17] at H
          have c17b0 : (t107 == 0) = true := beq_iff_eq.mpr c17
          have c17b1 : (t107 != 0) = false := bne_eq_false_iff_eq.mpr c17
          clear c17
          have H' := Aside0.mk H
          clear H
          go_wp2
          go_meet
          case rel => exact ⟨_, (decide ((wrap64 ((wrap64 ((wrap64 ((l1.length : Int) + (l2.length : Int))) + (a0.size : Int))) + (a3.size : Int))) > 1000)), (by first | rfl | (simp; done) | (simp [*]; done)), H', ⟨by first | omega | exact Nat.le_refl _⟩, ⟨by (with_reducible repeat (first | apply Kd.R_alloc | apply Kd.R_drewN | apply Kd.R_drew)); exact HO109.out⟩, ⟨by repeat (first | (with_reducible first | exact HB.out | apply below_alloc | apply pw_below_drewN | apply below_drew1) | exact HB.out)⟩⟩
        · rw [if_neg c17] at H
          have c17b0 : (t107 == 0) = false := beq_eq_false_iff_ne.mpr c17
          have c17b1 : (t107 != 0) = true := bne_iff_ne.mpr c17
          have H' := Aside0.mk H
          clear H
          go_wp2
          go_meet
          case rel => exact ⟨_, (true), (by first | rfl | (simp; done) | (simp [*]; done)), H', ⟨by first | omega | exact Nat.le_refl _⟩, ⟨by (with_reducible repeat (first | apply Kd.R_alloc | apply Kd.R_drewN | apply Kd.R_drew)); exact HO109.out⟩, ⟨by repeat (first | (with_reducible first | exact HB.out | apply below_alloc | apply pw_below_drewN | apply below_drew1) | exact HB.out)⟩⟩
      · rw [if_neg c16] at H
        have c16b0 : (t105 == 0) = false := beq_eq_false_iff_ne.mpr c16
        have c16b1 : (t105 != 0) = true := bne_iff_ne.mpr c16
        have H' := Aside0.mk H
        clear H
        go_wp2
        go_meet
        case rel => exact ⟨_, (true), (by first | rfl | (simp; done) | (simp [*]; done)), H', ⟨by first | omega | exact Nat.le_refl _⟩, ⟨by (with_reducible repeat (first | apply Kd.R_alloc | apply Kd.R_drewN | apply Kd.R_drew)); exact HO109.out⟩, ⟨by repeat (first | (with_reducible first | exact HB.out | apply below_alloc | apply pw_below_drewN | apply below_drew1) | exact HB.out)⟩⟩
    · rw [if_neg c15] at H
      have c15b0 : (t103 == 0) = false := beq_eq_false_iff_ne.mpr c15
      have c15b1 : (t103 != 0) = true := bne_iff_ne.mpr c15
      (first | rw [c15b0] | (simp only [i64_w, i32_w]; rw [c15b0]) | skip)
      have H' := Aside0.mk H
      clear H
      go_wp2
      go_meet
      case rel => exact ⟨_, (true), (by first | rfl | (simp; done) | (simp [*]; done)), H', ⟨by first | omega | exact Nat.le_refl _⟩, ⟨by (with_reducible repeat (first | apply Kd.R_alloc | apply Kd.R_drewN | apply Kd.R_drew)); exact HO109.out⟩, ⟨by repeat (first | (with_reducible first | exact HB.out | apply below_alloc | apply pw_below_drewN | apply below_drew1) | exact HB.out)⟩⟩
   case rest =>
    clear HC10
    try clear c1
    try clear c2
    try clear p2
    try clear c6
    try clear p6
    try clear c7
    try clear c15
    try clear c15b0
    try clear c15b1
    try clear c16
    try clear c16b0
    try clear c16b1
    try clear c17
    try clear c17b0
    try clear c17b1
    obtain ⟨kq, x70_9, rfl, HA, HJ9, HO_13, HB⟩ := hcut
    cases kq with
    | zero => exact absurd HA.out (by simp [minuetlaw4_ComposeThree.j0])
    | succ kj9 =>
     have H := HA.out
     clear HA
     simp only [minuetlaw4_ComposeThree.j0] at H
     by_cases c18 : x70_9 = true
     · subst c18
       have H1 : (some true) = some r := by rw [if_pos rfl] at H; exact H
       clear H
       have H := H1
       clear H1
       obtain rfl := Option.some.inj H
       go_wp2
       go_ret
       exact ⟨by first | rfl | (simp [errW_none, errW_some] <;> rfl) | (simp [*, errW_none, errW_some] <;> rfl), by repeat (first | (with_reducible first | exact HB.out | apply below_alloc | apply pw_below_drewN | apply below_drew1) | exact HB.out)⟩
     · replace c18 := Bool.eq_false_iff.mpr c18
       subst c18
       have H1 : ((compose_Compose.f kj9 l1 l2).bind fun bt110 => ((compose_Compose.f kj9 bt110.1 t106).bind fun bt114 => ((compose_Compose.f kj9 l2 t106).bind fun bt118 => ((compose_Compose.f kj9 l1 bt118.1).bind fun bt122 => ((minuetlaw0_Num.f bt110.2).bind fun t126 => (if t126 = 0 then ((minuetlaw0_Num.f bt114.2).bind fun t127 => (if t127 = 0 then ((minuetlaw0_Num.f bt118.2).bind fun t128 => (if t128 = 0 then ((minuetlaw0_Num.f bt122.2).bind fun t129 => (minuetlaw4_ComposeThree.j1 kj9 a0 a3 bt114.1 bt122.1 (t129 != 0))) else (minuetlaw4_ComposeThree.j1 kj9 a0 a3 bt114.1 bt122.1 true))) else (minuetlaw4_ComposeThree.j1 kj9 a0 a3 bt114.1 bt122.1 true))) else (minuetlaw4_ComposeThree.j1 kj9 a0 a3 bt114.1 bt122.1 true))))))) = some r := by rw [if_neg (show ¬ (false = true) by decide)] at H; exact H
       clear H
       have H := H1
       clear H1
       replace H := Option.bind_eq_some_iff.mp H
       obtain ⟨⟨t110, t111⟩, A190, H⟩ := H
       replace H : ((compose_Compose.f kj9 t110 t106).bind fun bt114 => ((compose_Compose.f kj9 l2 t106).bind fun bt118 => ((compose_Compose.f kj9 l1 bt118.1).bind fun bt122 => ((minuetlaw0_Num.f t111).bind fun t126 => (if t126 = 0 then ((minuetlaw0_Num.f bt114.2).bind fun t127 => (if t127 = 0 then ((minuetlaw0_Num.f bt118.2).bind fun t128 => (if t128 = 0 then ((minuetlaw0_Num.f bt122.2).bind fun t129 => (minuetlaw4_ComposeThree.j1 kj9 a0 a3 bt114.1 bt122.1 (t129 != 0))) else (minuetlaw4_ComposeThree.j1 kj9 a0 a3 bt114.1 bt122.1 true))) else (minuetlaw4_ComposeThree.j1 kj9 a0 a3 bt114.1 bt122.1 true))) else (minuetlaw4_ComposeThree.j1 kj9 a0 a3 bt114.1 bt122.1 true)))))) = some r := H
       have A19 := Aside0.mk A190
       clear A190
       replace H := Option.bind_eq_some_iff.mp H
       obtain ⟨⟨t114, t115⟩, A200, H⟩ := H
       replace H : ((compose_Compose.f kj9 l2 t106).bind fun bt118 => ((compose_Compose.f kj9 l1 bt118.1).bind fun bt122 => ((minuetlaw0_Num.f t111).bind fun t126 => (if t126 = 0 then ((minuetlaw0_Num.f t115).bind fun t127 => (if t127 = 0 then ((minuetlaw0_Num.f bt118.2).bind fun t128 => (if t128 = 0 then ((minuetlaw0_Num.f bt122.2).bind fun t129 => (minuetlaw4_ComposeThree.j1 kj9 a0 a3 t114 bt122.1 (t129 != 0))) else (minuetlaw4_ComposeThree.j1 kj9 a0 a3 t114 bt122.1 true))) else (minuetlaw4_ComposeThree.j1 kj9 a0 a3 t114 bt122.1 true))) else (minuetlaw4_ComposeThree.j1 kj9 a0 a3 t114 bt122.1 true))))) = some r := H
       have A20 := Aside0.mk A200
       clear A200
       replace H := Option.bind_eq_some_iff.mp H
       obtain ⟨⟨t118, t119⟩, A210, H⟩ := H
       replace H : ((compose_Compose.f kj9 l1 t118).bind fun bt122 => ((minuetlaw0_Num.f t111).bind fun t126 => (if t126 = 0 then ((minuetlaw0_Num.f t115).bind fun t127 => (if t127 = 0 then ((minuetlaw0_Num.f t119).bind fun t128 => (if t128 = 0 then ((minuetlaw0_Num.f bt122.2).bind fun t129 => (minuetlaw4_ComposeThree.j1 kj9 a0 a3 t114 bt122.1 (t129 != 0))) else (minuetlaw4_ComposeThree.j1 kj9 a0 a3 t114 bt122.1 true))) else (minuetlaw4_ComposeThree.j1 kj9 a0 a3 t114 bt122.1 true))) else (minuetlaw4_ComposeThree.j1 kj9 a0 a3 t114 bt122.1 true)))) = some r := H
       have A21 := Aside0.mk A210
       clear A210
       replace H := Option.bind_eq_some_iff.mp H
       obtain ⟨⟨t122, t123⟩, A220, H⟩ := H
       replace H : ((minuetlaw0_Num.f t111).bind fun t126 => (if t126 = 0 then ((minuetlaw0_Num.f t115).bind fun t127 => (if t127 = 0 then ((minuetlaw0_Num.f t119).bind fun t128 => (if t128 = 0 then ((minuetlaw0_Num.f t123).bind fun t129 => (minuetlaw4_ComposeThree.j1 kj9 a0 a3 t114 t122 (t129 != 0))) else (minuetlaw4_ComposeThree.j1 kj9 a0 a3 t114 t122 true))) else (minuetlaw4_ComposeThree.j1 kj9 a0 a3 t114 t122 true))) else (minuetlaw4_ComposeThree.j1 kj9 a0 a3 t114 t122 true))) = some r := H
       have A22 := Aside0.mk A220
       clear A220
       have HC23 := Aside0.mk H
       clear H
       go_upto_region 12 with (first | ((with_reducible refine gate_callee (f := 24) rfl ?_); refine goesL_ (some 74) rfl rfl Try.func24 (by kernel_rfl) rfl #[.slice A1 l1.length c1, .slice A2 l2.length c2] rfl (by (try simp only [List.map_toArray, List.map_cons, List.map_nil]); first | done | rfl | (simp only [List.length_drop, List.length_take]; rfl)) ?_; (with_reducible refine (compose_Compose.calls kj9 _ _ l1 _ _ l2 t110 t111 _ ?side1 ?side2 ?side3 ?side4 A19.out).mono ?_); (case side1 => repeat (first | exact (Kd.C_below HR1.out HB.out) | (with_reducible refine Kd.C_alloc ?_ _) | (with_reducible refine Kd.C_drewN ?_ _) | (with_reducible refine Kd.C_drew ?_))); (case side2 => exact HC1.out); (case side3 => repeat (first | exact (Kd.C_below HR2.out HB.out) | (with_reducible refine Kd.C_alloc ?_ _) | (with_reducible refine Kd.C_drewN ?_ _) | (with_reducible refine Kd.C_drew ?_))); (case side4 => exact HC2.out); rintro e w24 ⟨v112, rfl, ho0, hb⟩; refine ⟨_, rfl, ?_⟩; have n0_ := Aside0.mk (Kd.R_elder' (by (with_reducible repeat (first | apply Kd.R_alloc | apply Kd.R_drewN | apply Kd.R_drew)); exact HO_13.out) (Kd.R_base ho0) hb); have n1_ := Aside0.mk (Kd.R_lower (Kd.R_new' ho0 (Kd.R_lt (by (with_reducible repeat (first | apply Kd.R_alloc | apply Kd.R_drewN | apply Kd.R_drew)); exact HO_13.out))) (below_size (by repeat (first | (with_reducible first | exact HB.out | apply below_alloc | apply pw_below_drewN | apply below_drew1) | exact HB.out)))); have n2_ := Aside0.mk (below_step (by repeat (first | (with_reducible first | exact HB.out | apply below_alloc | apply pw_below_drewN | apply below_drew1) | exact HB.out)) hb); clear HO_13; clear HB; have HO_13 := n0_; have HO113 := n1_; have HB := n2_; clear n0_ n1_ n2_; (try clear hb); (try clear hb2); (try clear hk); (try clear hi); (try clear ho0); obtain ⟨Ao25, co25, eo25⟩ := Kd.R_slice HO113.out; subst eo25; obtain ⟨Ao26, co26, eo26⟩ := Kd.R_slice HO_13.out; subst eo26) | ((with_reducible refine gate_callee (f := 24) rfl ?_); refine goesL_ (some 80) rfl rfl Try.func24 (by kernel_rfl) rfl #[.slice Ao25 t110.length co25, .slice Ao26 t106.length co26] rfl (by (try simp only [List.map_toArray, List.map_cons, List.map_nil]); first | done | rfl | (simp only [List.length_drop, List.length_take]; rfl)) ?_; (with_reducible refine (compose_Compose.calls kj9 _ _ t110 _ _ t106 t114 t115 _ ?side1 ?side2 ?side3 ?side4 A20.out).mono ?_); (case side1 => repeat (first | exact (Kd.R_reads' HO113.out).2.2 | (with_reducible refine Kd.C_alloc ?_ _) | (with_reducible refine Kd.C_drewN ?_ _) | (with_reducible refine Kd.C_drew ?_))); (case side2 => exact (Kd.R_reads' HO113.out).2.1); (case side3 => repeat (first | exact (Kd.R_reads' HO_13.out).2.2 | (with_reducible refine Kd.C_alloc ?_ _) | (with_reducible refine Kd.C_drewN ?_ _) | (with_reducible refine Kd.C_drew ?_))); (case side4 => exact (Kd.R_reads' HO_13.out).2.1); rintro e w27 ⟨v116, rfl, ho0, hb⟩; refine ⟨_, rfl, ?_⟩; have n0_ := Aside0.mk (Kd.R_elder' (by (with_reducible repeat (first | apply Kd.R_alloc | apply Kd.R_drewN | apply Kd.R_drew)); exact HO_13.out) (Kd.R_base ho0) hb); have n1_ := Aside0.mk (Kd.R_elder' (by (with_reducible repeat (first | apply Kd.R_alloc | apply Kd.R_drewN | apply Kd.R_drew)); exact HO113.out) (Kd.R_base ho0) hb); have n2_ := Aside0.mk (Kd.R_lower (Kd.R_new' (Kd.R_new' ho0 (Kd.R_lt (by (with_reducible repeat (first | apply Kd.R_alloc | apply Kd.R_drewN | apply Kd.R_drew)); exact HO_13.out))) (Kd.R_lt (by (with_reducible repeat (first | apply Kd.R_alloc | apply Kd.R_drewN | apply Kd.R_drew)); exact HO113.out))) (below_size (by repeat (first | (with_reducible first | exact HB.out | apply below_alloc | apply pw_below_drewN | apply below_drew1) | exact HB.out)))); have n3_ := Aside0.mk (below_step (by repeat (first | (with_reducible first | exact HB.out | apply below_alloc | apply pw_below_drewN | apply below_drew1) | exact HB.out)) hb); clear HO_13; clear HO113; clear HB; have HO_13 := n0_; have HO113 := n1_; have HO117 := n2_; have HB := n3_; clear n0_ n1_ n2_ n3_; (try clear hb); (try clear hb2); (try clear hk); (try clear hi); (try clear ho0)) | ((with_reducible refine gate_callee (f := 24) rfl ?_); refine goesL_ (some 86) rfl rfl Try.func24 (by kernel_rfl) rfl #[.slice A2 l2.length c2, .slice Ao26 t106.length co26] rfl (by (try simp only [List.map_toArray, List.map_cons, List.map_nil]); first | done | rfl | (simp only [List.length_drop, List.length_take]; rfl)) ?_; (with_reducible refine (compose_Compose.calls kj9 _ _ l2 _ _ t106 t118 t119 _ ?side1 ?side2 ?side3 ?side4 A21.out).mono ?_); (case side1 => repeat (first | exact (Kd.C_below HR2.out HB.out) | (with_reducible refine Kd.C_alloc ?_ _) | (with_reducible refine Kd.C_drewN ?_ _) | (with_reducible refine Kd.C_drew ?_))); (case side2 => exact HC2.out); (case side3 => repeat (first | exact (Kd.R_reads' HO_13.out).2.2 | (with_reducible refine Kd.C_alloc ?_ _) | (with_reducible refine Kd.C_drewN ?_ _) | (with_reducible refine Kd.C_drew ?_))); (case side4 => exact (Kd.R_reads' HO_13.out).2.1); rintro e w28 ⟨v120, rfl, ho0, hb⟩; refine ⟨_, rfl, ?_⟩; have n0_ := Aside0.mk (Kd.R_elder' (by (with_reducible repeat (first | apply Kd.R_alloc | apply Kd.R_drewN | apply Kd.R_drew)); exact HO_13.out) (Kd.R_base ho0) hb); have n1_ := Aside0.mk (Kd.R_elder' (by (with_reducible repeat (first | apply Kd.R_alloc | apply Kd.R_drewN | apply Kd.R_drew)); exact HO113.out) (Kd.R_base ho0) hb); have n2_ := Aside0.mk (Kd.R_elder' (by (with_reducible repeat (first | apply Kd.R_alloc | apply Kd.R_drewN | apply Kd.R_drew)); exact HO117.out) (Kd.R_base ho0) hb); have n3_ := Aside0.mk (Kd.R_lower (Kd.R_new' (Kd.R_new' (Kd.R_new' ho0 (Kd.R_lt (by (with_reducible repeat (first | apply Kd.R_alloc | apply Kd.R_drewN | apply Kd.R_drew)); exact HO_13.out))) (Kd.R_lt (by (with_reducible repeat (first | apply Kd.R_alloc | apply Kd.R_drewN | apply Kd.R_drew)); exact HO113.out))) (Kd.R_lt (by (with_reducible repeat (first | apply Kd.R_alloc | apply Kd.R_drewN | apply Kd.R_drew)); exact HO117.out))) (below_size (by repeat (first | (with_reducible first | exact HB.out | apply below_alloc | apply pw_below_drewN | apply below_drew1) | exact HB.out)))); have n4_ := Aside0.mk (below_step (by repeat (first | (with_reducible first | exact HB.out | apply below_alloc | apply pw_below_drewN | apply below_drew1) | exact HB.out)) hb); clear HO_13; clear HO113; clear HO117; clear HB; have HO_13 := n0_; have HO113 := n1_; have HO117 := n2_; have HO121 := n3_; have HB := n4_; clear n0_ n1_ n2_ n3_ n4_; (try clear hb); (try clear hb2); (try clear hk); (try clear hi); (try clear ho0); obtain ⟨Ao29, co29, eo29⟩ := Kd.R_slice HO121.out; subst eo29) | ((with_reducible refine gate_callee (f := 24) rfl ?_); refine goesL_ (some 92) rfl rfl Try.func24 (by kernel_rfl) rfl #[.slice A1 l1.length c1, .slice Ao29 t118.length co29] rfl (by (try simp only [List.map_toArray, List.map_cons, List.map_nil]); first | done | rfl | (simp only [List.length_drop, List.length_take]; rfl)) ?_; (with_reducible refine (compose_Compose.calls kj9 _ _ l1 _ _ t118 t122 t123 _ ?side1 ?side2 ?side3 ?side4 A22.out).mono ?_); (case side1 => repeat (first | exact (Kd.C_below HR1.out HB.out) | (with_reducible refine Kd.C_alloc ?_ _) | (with_reducible refine Kd.C_drewN ?_ _) | (with_reducible refine Kd.C_drew ?_))); (case side2 => exact HC1.out); (case side3 => repeat (first | exact (Kd.R_reads' HO121.out).2.2 | (with_reducible refine Kd.C_alloc ?_ _) | (with_reducible refine Kd.C_drewN ?_ _) | (with_reducible refine Kd.C_drew ?_))); (case side4 => exact (Kd.R_reads' HO121.out).2.1); rintro e w30 ⟨v124, rfl, ho0, hb⟩; refine ⟨_, rfl, ?_⟩; have n0_ := Aside0.mk (Kd.R_elder' (by (with_reducible repeat (first | apply Kd.R_alloc | apply Kd.R_drewN | apply Kd.R_drew)); exact HO_13.out) (Kd.R_base ho0) hb); have n1_ := Aside0.mk (Kd.R_elder' (by (with_reducible repeat (first | apply Kd.R_alloc | apply Kd.R_drewN | apply Kd.R_drew)); exact HO113.out) (Kd.R_base ho0) hb); have n2_ := Aside0.mk (Kd.R_elder' (by (with_reducible repeat (first | apply Kd.R_alloc | apply Kd.R_drewN | apply Kd.R_drew)); exact HO117.out) (Kd.R_base ho0) hb); have n3_ := Aside0.mk (Kd.R_elder' (by (with_reducible repeat (first | apply Kd.R_alloc | apply Kd.R_drewN | apply Kd.R_drew)); exact HO121.out) (Kd.R_base ho0) hb); have n4_ := Aside0.mk (Kd.R_lower (Kd.R_new' (Kd.R_new' (Kd.R_new' (Kd.R_new' ho0 (Kd.R_lt (by (with_reducible repeat (first | apply Kd.R_alloc | apply Kd.R_drewN | apply Kd.R_drew)); exact HO_13.out))) (Kd.R_lt (by (with_reducible repeat (first | apply Kd.R_alloc | apply Kd.R_drewN | apply Kd.R_drew)); exact HO113.out))) (Kd.R_lt (by (with_reducible repeat (first | apply Kd.R_alloc | apply Kd.R_drewN | apply Kd.R_drew)); exact HO117.out))) (Kd.R_lt (by (with_reducible repeat (first | apply Kd.R_alloc | apply Kd.R_drewN | apply Kd.R_drew)); exact HO121.out))) (below_size (by repeat (first | (with_reducible first | exact HB.out | apply below_alloc | apply pw_below_drewN | apply below_drew1) | exact HB.out)))); have n5_ := Aside0.mk (below_step (by repeat (first | (with_reducible first | exact HB.out | apply below_alloc | apply pw_below_drewN | apply below_drew1) | exact HB.out)) hb); clear HO_13; clear HO113; clear HO117; clear HO121; clear HB; have HO_13 := n0_; have HO113 := n1_; have HO117 := n2_; have HO121 := n3_; have HO125 := n4_; have HB := n5_; clear n0_ n1_ n2_ n3_ n4_ n5_; (try clear hb); (try clear hb2); (try clear hk); (try clear hi); (try clear ho0)))
       (try simp only [Act.put, List.setIfInBounds_toArray, List.set_cons_zero, List.set_cons_succ])
       go_cut [112] (fun v112 wc => ∃ (kq : Nat) (x112_22 : Bool), v112 = .bool x112_22 ∧ Aside0 (minuetlaw4_ComposeThree.j1 kq a0 a3 t114 t122 x112_22 = some r) ∧ Aside0 (kq ≤ kj9) ∧ Aside0 (Kd.R k31 31 wc w.heap.size (fun k_ => some k_ ≠ (v124 : Value).ownBlock) v116 t114) ∧ Aside0 (Kd.R k31 31 wc w.heap.size (fun k_ => some k_ ≠ (v116 : Value).ownBlock) v124 t122) ∧ Aside0 (Below w.heap.size w wc))
       case first =>
        have H := HC23.out
        clear HC23
        replace H := Option.bind_eq_some_iff.mp H
        obtain ⟨t126, A310, H⟩ := H
        replace H : (if t126 = 0 then ((minuetlaw0_Num.f t115).bind fun t127 => (if t127 = 0 then ((minuetlaw0_Num.f t119).bind fun t128 => (if t128 = 0 then ((minuetlaw0_Num.f t123).bind fun t129 => (minuetlaw4_ComposeThree.j1 kj9 a0 a3 t114 t122 (t129 != 0))) else (minuetlaw4_ComposeThree.j1 kj9 a0 a3 t114 t122 true))) else (minuetlaw4_ComposeThree.j1 kj9 a0 a3 t114 t122 true))) else (minuetlaw4_ComposeThree.j1 kj9 a0 a3 t114 t122 true)) = some r := H
        have A31 := Aside0.mk A310
        clear A310
        by_cases c32 : t126 = 0
        · rw [if_pos c32] at H
          have c32b0 : (t126 == 0) = true := beq_iff_eq.mpr c32
          have c32b1 : (t126 != 0) = false := bne_eq_false_iff_eq.mpr c32
          clear c32
          (first | rw [c32b0] | (simp only [i64_w, i32_w]; rw [c32b0]) | skip)
          replace H := Option.bind_eq_some_iff.mp H
          obtain ⟨t127, A330, H⟩ := H
          replace H : (if t127 = 0 then ((minuetlaw0_Num.f t119).bind fun t128 => (if t128 = 0 then ((minuetlaw0_Num.f t123).bind fun t129 => (minuetlaw4_ComposeThree.j1 kj9 a0 a3 t114 t122 (t129 != 0))) else (minuetlaw4_ComposeThree.j1 kj9 a0 a3 t114 t122 true))) else (minuetlaw4_ComposeThree.j1 kj9 a0 a3 t114 t122 true)) = some r := H
          have A33 := Aside0.mk A330
          clear A330
          by_cases c34 : t127 = 0
          · rw [if_pos c34] at H
            have c34b0 : (t127 == 0) = true := beq_iff_eq.mpr c34
            have c34b1 : (t127 != 0) = false := bne_eq_false_iff_eq.mpr c34
            clear c34
            replace H := Option.bind_eq_some_iff.mp H
            obtain ⟨t128, A350, H⟩ := H
            replace H : (if t128 = 0 then ((minuetlaw0_Num.f t123).bind fun t129 => (minuetlaw4_ComposeThree.j1 kj9 a0 a3 t114 t122 (t129 != 0))) else (minuetlaw4_ComposeThree.j1 kj9 a0 a3 t114 t122 true)) = some r := H
            have A35 := Aside0.mk A350
            clear A350
            by_cases c36 : t128 = 0
            · rw [if_pos c36] at H
              have c36b0 : (t128 == 0) = true := beq_iff_eq.mpr c36
              have c36b1 : (t128 != 0) = false := bne_eq_false_iff_eq.mpr c36
              clear c36
              replace H := Option.bind_eq_some_iff.mp H
              obtain ⟨t129, A370, H⟩ := H
              replace H : (minuetlaw4_ComposeThree.j1 kj9 a0 a3 t114 t122 (t129 != 0)) = some r := H
              have A37 := Aside0.mk A370
              clear A370
              have H' := Aside0.mk H
              clear H
              go_wp2_with (first | ((with_reducible refine gate_callee (f := 15) rfl ?_); refine goesL_ (some 96) rfl rfl Try.func15 (by kernel_rfl) rfl #[.int .i64 t111] rfl (by (try simp only [List.map_toArray, List.map_cons, List.map_nil]); first | done | rfl | (simp only [List.length_drop, List.length_take]; rfl)) ?_; (with_reducible refine (minuetlaw0_Num.calls t111 t126 _ A31.out).mono ?_); rintro e w' ⟨rfl, ⟨nd, rfl⟩⟩; refine ⟨_, rfl, ?_⟩) | (go_at_call 15; (with_reducible refine (minuetlaw0_Num.calls t115 t127 _ A33.out).mono ?_); rintro e w' ⟨rfl, ⟨nd, rfl⟩⟩) | (go_at_call 15; (with_reducible refine (minuetlaw0_Num.calls t119 t128 _ A35.out).mono ?_); rintro e w' ⟨rfl, ⟨nd, rfl⟩⟩) | (go_at_call 15; (with_reducible refine (minuetlaw0_Num.calls t123 t129 _ A37.out).mono ?_); rintro e w' ⟨rfl, ⟨nd, rfl⟩⟩))
              go_meet
              case rel => exact ⟨_, ((t129 != 0)), (by first | rfl | (simp; done) | (simp [*]; done)), H', ⟨by have := HJ9.out; first | omega | exact Nat.le_refl _⟩, ⟨by (with_reducible repeat (first | apply Kd.R_alloc | apply Kd.R_drewN | apply Kd.R_drew)); exact Kd.R_mono HO117.out (fun _ hk => hk.2)⟩, ⟨by (with_reducible repeat (first | apply Kd.R_alloc | apply Kd.R_drewN | apply Kd.R_drew)); exact Kd.R_mono HO125.out (fun _ hk => hk.1.2)⟩, ⟨by repeat (first | (with_reducible first | exact HB.out | apply below_alloc | apply pw_below_drewN | apply below_drew1) | exact HB.out)⟩⟩
            · rw [if_neg c36] at H
              have c36b0 : (t128 == 0) = false := beq_eq_false_iff_ne.mpr c36
              have c36b1 : (t128 != 0) = true := bne_iff_ne.mpr c36
              have H' := Aside0.mk H
              clear H
              go_wp2_with (first | ((with_reducible refine gate_callee (f := 15) rfl ?_); refine goesL_ (some 96) rfl rfl Try.func15 (by kernel_rfl) rfl #[.int .i64 t111] rfl (by (try simp only [List.map_toArray, List.map_cons, List.map_nil]); first | done | rfl | (simp only [List.length_drop, List.length_take]; rfl)) ?_; (with_reducible refine (minuetlaw0_Num.calls t111 t126 _ A31.out).mono ?_); rintro e w' ⟨rfl, ⟨nd, rfl⟩⟩; refine ⟨_, rfl, ?_⟩) | (go_at_call 15; (with_reducible refine (minuetlaw0_Num.calls t115 t127 _ A33.out).mono ?_); rintro e w' ⟨rfl, ⟨nd, rfl⟩⟩) | (go_at_call 15; (with_reducible refine (minuetlaw0_Num.calls t119 t128 _ A35.out).mono ?_); rintro e w' ⟨rfl, ⟨nd, rfl⟩⟩))
              go_meet
              case rel => exact ⟨_, (true), (by first | rfl | (simp; done) | (simp [*]; done)), H', ⟨by have := HJ9.out; first | omega | exact Nat.le_refl _⟩, ⟨by (with_reducible repeat (first | apply Kd.R_alloc | apply Kd.R_drewN | apply Kd.R_drew)); exact Kd.R_mono HO117.out (fun _ hk => hk.2)⟩, ⟨by (with_reducible repeat (first | apply Kd.R_alloc | apply Kd.R_drewN | apply Kd.R_drew)); exact Kd.R_mono HO125.out (fun _ hk => hk.1.2)⟩, ⟨by repeat (first | (with_reducible first | exact HB.out | apply below_alloc | apply pw_below_drewN | apply below_drew1) | exact HB.out)⟩⟩
          · rw [if_neg c34] at H
            have c34b0 : (t127 == 0) = false := beq_eq_false_iff_ne.mpr c34
            have c34b1 : (t127 != 0) = true := bne_iff_ne.mpr c34
            have H' := Aside0.mk H
            clear H
            go_wp2_with (first | ((with_reducible refine gate_callee (f := 15) rfl ?_); refine goesL_ (some 96) rfl rfl Try.func15 (by kernel_rfl) rfl #[.int .i64 t111] rfl (by (try simp only [List.map_toArray, List.map_cons, List.map_nil]); first | done | rfl | (simp only [List.length_drop, List.length_take]; rfl)) ?_; (with_reducible refine (minuetlaw0_Num.calls t111 t126 _ A31.out).mono ?_); rintro e w' ⟨rfl, ⟨nd, rfl⟩⟩; refine ⟨_, rfl, ?_⟩) | (go_at_call 15; (with_reducible refine (minuetlaw0_Num.calls t115 t127 _ A33.out).mono ?_); rintro e w' ⟨rfl, ⟨nd, rfl⟩⟩))
            go_meet
            case rel => exact ⟨_, (true), (by first | rfl | (simp; done) | (simp [*]; done)), H', ⟨by have := HJ9.out; first | omega | exact Nat.le_refl _⟩, ⟨by (with_reducible repeat (first | apply Kd.R_alloc | apply Kd.R_drewN | apply Kd.R_drew)); exact Kd.R_mono HO117.out (fun _ hk => hk.2)⟩, ⟨by (with_reducible repeat (first | apply Kd.R_alloc | apply Kd.R_drewN | apply Kd.R_drew)); exact Kd.R_mono HO125.out (fun _ hk => hk.1.2)⟩, ⟨by repeat (first | (with_reducible first | exact HB.out | apply below_alloc | apply pw_below_drewN | apply below_drew1) | exact HB.out)⟩⟩
        · rw [if_neg c32] at H
          have c32b0 : (t126 == 0) = false := beq_eq_false_iff_ne.mpr c32
          have c32b1 : (t126 != 0) = true := bne_iff_ne.mpr c32
          (first | rw [c32b0] | (simp only [i64_w, i32_w]; rw [c32b0]) | skip)
          have H' := Aside0.mk H
          clear H
          go_wp2_with (first | ((with_reducible refine gate_callee (f := 15) rfl ?_); refine goesL_ (some 96) rfl rfl Try.func15 (by kernel_rfl) rfl #[.int .i64 t111] rfl (by (try simp only [List.map_toArray, List.map_cons, List.map_nil]); first | done | rfl | (simp only [List.length_drop, List.length_take]; rfl)) ?_; (with_reducible refine (minuetlaw0_Num.calls t111 t126 _ A31.out).mono ?_); rintro e w' ⟨rfl, ⟨nd, rfl⟩⟩; refine ⟨_, rfl, ?_⟩))
          go_meet
          case rel => exact ⟨_, (true), (by first | rfl | (simp; done) | (simp [*]; done)), H', ⟨by have := HJ9.out; first | omega | exact Nat.le_refl _⟩, ⟨by (with_reducible repeat (first | apply Kd.R_alloc | apply Kd.R_drewN | apply Kd.R_drew)); exact Kd.R_mono HO117.out (fun _ hk => hk.2)⟩, ⟨by (with_reducible repeat (first | apply Kd.R_alloc | apply Kd.R_drewN | apply Kd.R_drew)); exact Kd.R_mono HO125.out (fun _ hk => hk.1.2)⟩, ⟨by repeat (first | (with_reducible first | exact HB.out | apply below_alloc | apply pw_below_drewN | apply below_drew1) | exact HB.out)⟩⟩
       case rest =>
        clear HC23
        try clear c1
        try clear c2
        try clear p2
        try clear c3
        try clear c6
        try clear p6
        try clear c7
        try clear c15
        try clear c15b0
        try clear c15b1
        try clear c16
        try clear c16b0
        try clear c16b1
        try clear c17
        try clear c17b0
        try clear c17b1
        try clear c18
        try clear c19
        try clear c24
        try clear c28
        try clear c29
        try clear c32
        try clear c32b0
        try clear c32b1
        try clear c34
        try clear c34b0
        try clear c34b1
        try clear c36
        try clear c36b0
        try clear c36b1
        try clear p2
        try clear p6
        obtain ⟨kq, x112_22, rfl, HA, HJ22, HO_17, HO_21, HB⟩ := hcut
        cases kq with
        | zero => exact absurd HA.out (by simp [minuetlaw4_ComposeThree.j1])
        | succ kj22 =>
         have H := HA.out
         clear HA
         simp only [minuetlaw4_ComposeThree.j1] at H
         by_cases c38 : x112_22 = true
         · subst c38
           have H1 : (none) = some r := by rw [if_pos rfl] at H; exact H
           clear H
           have H := H1
           clear H1
           exact absurd H (by simp)
         · replace c38 := Bool.eq_false_iff.mpr c38
           subst c38
           have H1 : ((minuetref1_Apply.f kj22 a0 t114).bind fun bt130 => ((minuetref1_Apply.f kj22 a0 t122).bind fun bt132 => (if bt130.2 = 0 then (if bt132.2 = 0 then (if bt130.1.toList = bt132.1.toList then (some (bt130.1.toList == a3.toList)) else (none)) else (none)) else (none)))) = some r := by rw [if_neg (show ¬ (false = true) by decide)] at H; exact H
           clear H
           have H := H1
           clear H1
           replace H := Option.bind_eq_some_iff.mp H
           obtain ⟨⟨t130, t131⟩, A390, H⟩ := H
           replace H : ((minuetref1_Apply.f kj22 a0 t122).bind fun bt132 => (if t131 = 0 then (if bt132.2 = 0 then (if t130.toList = bt132.1.toList then (some (t130.toList == a3.toList)) else (none)) else (none)) else (none))) = some r := H
           have A39 := Aside0.mk A390
           clear A390
           replace H := Option.bind_eq_some_iff.mp H
           obtain ⟨⟨t132, t133⟩, A400, H⟩ := H
           replace H : (if t131 = 0 then (if t133 = 0 then (if t130.toList = t132.toList then (some (t130.toList == a3.toList)) else (none)) else (none)) else (none)) = some r := H
           have A40 := Aside0.mk A400
           clear A400
           by_cases c41 : t131 = 0
           · rw [if_pos c41] at H
             have c41b0 : (t131 == 0) = true := beq_iff_eq.mpr c41
             have c41b1 : (t131 != 0) = false := bne_eq_false_iff_eq.mpr c41
             clear c41
             by_cases c42 : t133 = 0
             · rw [if_pos c42] at H
               have c42b0 : (t133 == 0) = true := beq_iff_eq.mpr c42
               have c42b1 : (t133 != 0) = false := bne_eq_false_iff_eq.mpr c42
               clear c42
               by_cases c43 : t130.toList = t132.toList
               · rw [if_pos c43] at H
                 have c43b0 : (t130.toList == t132.toList) = true := beq_iff_eq.mpr c43
                 have c43b1 : (t130.toList != t132.toList) = false := bne_eq_false_iff_eq.mpr c43
                 clear c43
                 obtain rfl := Option.some.inj H
                 obtain ⟨Ao44, co44, eo44⟩ := Kd.R_slice HO_17.out
                 subst eo44
                 go_wp2_with (first | ((with_reducible refine gate_callee (f := 19) rfl ?_); refine goesL_ (some 116) rfl rfl Try.func19 (by kernel_rfl) rfl #[.string a0, .slice Ao44 t114.length co44] rfl (by (try simp only [List.map_toArray, List.map_cons, List.map_nil]); first | done | rfl | (simp only [List.length_drop, List.length_take]; rfl)) ?_; (with_reducible refine (minuetref1_Apply.calls kj22 a0 _ _ t114 t130 t131 _ ?side1 ?side2 A39.out).mono ?_); (case side1 => repeat (first | exact (Kd.R_reads' HO_17.out).2.2 | (with_reducible refine Kd.C_alloc ?_ _) | (with_reducible refine Kd.C_drewN ?_ _) | (with_reducible refine Kd.C_drew ?_))); (case side2 => exact (Kd.R_reads' HO_17.out).2.1); rintro e w45 ⟨rfl, hb⟩; refine ⟨_, rfl, ?_⟩; have n0_ := Aside0.mk (Kd.R_below (by (with_reducible repeat (first | apply Kd.R_alloc | apply Kd.R_drewN | apply Kd.R_drew)); exact HO_17.out) hb); have n1_ := Aside0.mk (Kd.R_below (by (with_reducible repeat (first | apply Kd.R_alloc | apply Kd.R_drewN | apply Kd.R_drew)); exact HO_21.out) hb); have n2_ := Aside0.mk (below_step (by repeat (first | (with_reducible first | exact HB.out | apply below_alloc | apply pw_below_drewN | apply below_drew1) | exact HB.out)) hb); clear HO_17; clear HO_21; clear HB; have HO_17 := n0_; have HO_21 := n1_; have HB := n2_; clear n0_ n1_ n2_; (try clear hb); (try clear hb2); (try clear hk); (try clear hi); obtain ⟨Ao46, co46, eo46⟩ := Kd.R_slice HO_21.out; subst eo46) | ((with_reducible refine gate_callee (f := 19) rfl ?_); refine goesL_ (some 122) rfl rfl Try.func19 (by kernel_rfl) rfl #[.string a0, .slice Ao46 t122.length co46] rfl (by (try simp only [List.map_toArray, List.map_cons, List.map_nil]); first | done | rfl | (simp only [List.length_drop, List.length_take]; rfl)) ?_; (with_reducible refine (minuetref1_Apply.calls kj22 a0 _ _ t122 t132 t133 _ ?side1 ?side2 A40.out).mono ?_); (case side1 => repeat (first | exact (Kd.R_reads' HO_21.out).2.2 | (with_reducible refine Kd.C_alloc ?_ _) | (with_reducible refine Kd.C_drewN ?_ _) | (with_reducible refine Kd.C_drew ?_))); (case side2 => exact (Kd.R_reads' HO_21.out).2.1); rintro e w47 ⟨rfl, hb⟩; refine ⟨_, rfl, ?_⟩; have n0_ := Aside0.mk (Kd.R_below (by (with_reducible repeat (first | apply Kd.R_alloc | apply Kd.R_drewN | apply Kd.R_drew)); exact HO_17.out) hb); have n1_ := Aside0.mk (Kd.R_below (by (with_reducible repeat (first | apply Kd.R_alloc | apply Kd.R_drewN | apply Kd.R_drew)); exact HO_21.out) hb); have n2_ := Aside0.mk (below_step (by repeat (first | (with_reducible first | exact HB.out | apply below_alloc | apply pw_below_drewN | apply below_drew1) | exact HB.out)) hb); clear HO_17; clear HO_21; clear HB; have HO_17 := n0_; have HO_21 := n1_; have HB := n2_; clear n0_ n1_ n2_; (try clear hb); (try clear hb2); (try clear hk); (try clear hi)))
                 go_ret
                 exact ⟨by first | rfl | (simp [errW_none, errW_some] <;> rfl) | (simp [*, errW_none, errW_some] <;> rfl), by repeat (first | (with_reducible first | exact HB.out | apply below_alloc | apply pw_below_drewN | apply below_drew1) | exact HB.out)⟩
               · rw [if_neg c43] at H
                 exact absurd H (by simp)
             · rw [if_neg c42] at H
               exact absurd H (by simp)
           · rw [if_neg c41] at H
             exact absurd H (by simp)
 · replace c6 := Bool.eq_false_iff.mpr c6
   subst c6
   have H1 : (none) = some r := by rw [if_neg (show ¬ (false = true) by decide)] at H; exact H
   clear H
   have H := H1
   clear H1
   exact absurd H (by simp)

end Go.Proofs.Ytldaokclpkcmmaa.G
