-- Laid by this session's own program gprint.py (wip/tools), out of the kit's print and of texts of this session. Lean checks it.
import Derived.Test.YtldaokclpkcmmabGx0
import Derived.Test.YtldaokclpkcmmabGTransformPTransform
import Derived.Test.YtldaokclpkcmmabGZ3
import Derived.Test.YtldaokclpkcmmabGMinuetlaw5qawake
import Derived.Test.YtldaokclpkcmmabGMinuetlaw5qputs
import Derived.Test.YtldaokclpkcmmabGApplyPApply
namespace Go.Proofs.Ytldaokclpkcmmab.G
open Go.RowKit Go.Proofs.YtldaokclpkcmmabW.PrintWords Go.Proofs.YtldaokclpkcmmabW.PrintLast Go.Proofs.YtldaokclpkcmmabW.PrintMore
attribute [local go_sem] max2_int min2_int max_two min_two max_three min_three max_four min_four   -- for this text's walks alone
set_option linter.unusedVariables false
set_option linter.unusedSimpArgs false

/-! ### minuetlaw5_TransformMeets: function 9 -/
def minuetlaw5_TransformMeets.j0 : Nat → ByteArray → List (S37) → List (S37) → ByteArray → ByteArray → List (S37) → List (S37) → Int → Bool → Option (Bool)
 | 0, _, _, _, _, _, _, _, _, _ => none
 | k + 1, x0, x1, x2, x9, x11, x13, x14, x15, x49 => if x49 = true then (some true) else ((minuetlaw0_Num.f x15).bind fun t115 => (if t115 = 0 then ((apply_Apply.f k x9 x14).bind fun bt119 => ((apply_Apply.f k x11 x13).bind fun bt121 => ((minuetlaw0_Num.f bt119.2).bind fun t123 => (if t123 = 0 then ((minuetlaw0_Num.f bt121.2).bind fun t124 => (if t124 = 0 then (some (bt119.1.toList == bt121.1.toList)) else (none))) else (none))))) else ((minuetlaw0_Num.f x15).bind fun t116 => (if t116 = 500 then (if (wrap64 ((wrap64 ((x1.length : Int) + (x2.length : Int))) + (x0.size : Int))) > 1000 then (some true) else ((minuetlaw5_puts.f k x2).bind fun t117 => (if (wrap64 ((x9.size : Int) + t117)) > 4096 then (some true) else ((minuetlaw5_puts.f k x1).bind fun t118 => (some (decide ((wrap64 ((x11.size : Int) + t118)) > 4096))))))) else (none)))))
def minuetlaw5_TransformMeets.f (k : Nat) (a0 : ByteArray) (l1 : List (S37)) (l2 : List (S37)) (a3 : Bool) : Option (Bool) := (minuetlaw5_awake.f k).bind fun t101 => (if t101 = true then ((apply_Apply.f k a0 l1).bind fun bt102 => ((apply_Apply.f k a0 l2).bind fun bt104 => ((transform_Transform.f k l1 l2 a3).bind fun bt106 => ((minuetlaw0_Num.f bt102.2).bind fun t113 => (if t113 = 0 then ((minuetlaw0_Num.f bt104.2).bind fun t114 => (minuetlaw5_TransformMeets.j0 k a0 l1 l2 bt102.1 bt104.1 bt106.1 bt106.2.1 bt106.2.2 (t114 != 0))) else (minuetlaw5_TransformMeets.j0 k a0 l1 l2 bt102.1 bt104.1 bt106.1 bt106.2.1 bt106.2.2 true)))))) else (none))
theorem minuetlaw5_TransformMeets.mono_l : ∀ k, (∀ y0 y1 y2 y3 y4 y5 y6 y7 y8, LeO (minuetlaw5_TransformMeets.j0 k y0 y1 y2 y3 y4 y5 y6 y7 y8) (minuetlaw5_TransformMeets.j0 (k + 1) y0 y1 y2 y3 y4 y5 y6 y7 y8))
 | 0 => fun _ _ _ _ _ _ _ _ _ r h => by simp [minuetlaw5_TransformMeets.j0] at h
 | k + 1 => by
  have ih0 := minuetlaw5_TransformMeets.mono_l k
  · intro y0 y1 y2 y3 y4 y5 y6 y7 y8
    unfold minuetlaw5_TransformMeets.j0
    repeat' first
    | (with_reducible exact ih0 _ _ _ _ _ _ _ _ _)
    | (with_reducible exact apply_Apply.mono _ _ _)
    | (with_reducible exact minuetlaw5_awake.mono _)
    | (with_reducible exact minuetlaw5_puts.mono _ _)
    | (with_reducible exact transform_Transform.mono _ _ _ _)
    | (with_reducible exact LeO.refl _)
    | (with_reducible exact LeO.none _)
    | (with_reducible refine LeO.ite ?_ ?_)
    | (with_reducible refine LeO.bind ?_ (fun _ => ?_))
    | exact ih0 _ _ _ _ _ _ _ _ _
    | exact apply_Apply.mono _ _ _
    | exact minuetlaw5_awake.mono _
    | exact minuetlaw5_puts.mono _ _
    | exact transform_Transform.mono _ _ _ _
    | exact LeO.none _
    | refine LeO.ite ?_ ?_
    | refine LeO.bind ?_ (fun _ => ?_)
theorem minuetlaw5_TransformMeets.mono : ∀ a0 a1 a2 a3 k, LeO (minuetlaw5_TransformMeets.f k a0 a1 a2 a3) (minuetlaw5_TransformMeets.f (k + 1) a0 a1 a2 a3) := by
 intro a0 a1 a2 a3 k
 have ih0 := minuetlaw5_TransformMeets.mono_l k
 unfold minuetlaw5_TransformMeets.f
 repeat' first
  | (with_reducible exact ih0 _ _ _ _ _ _ _ _ _)
  | (with_reducible exact apply_Apply.mono _ _ _)
  | (with_reducible exact minuetlaw5_awake.mono _)
  | (with_reducible exact minuetlaw5_puts.mono _ _)
  | (with_reducible exact transform_Transform.mono _ _ _ _)
  | (with_reducible exact LeO.refl _)
  | (with_reducible exact LeO.none _)
  | (with_reducible refine LeO.ite ?_ ?_)
  | (with_reducible refine LeO.bind ?_ (fun _ => ?_))
  | exact ih0 _ _ _ _ _ _ _ _ _
  | exact apply_Apply.mono _ _ _
  | exact minuetlaw5_awake.mono _
  | exact minuetlaw5_puts.mono _ _
  | exact transform_Transform.mono _ _ _ _
  | exact LeO.none _
  | refine LeO.ite ?_ ?_
  | refine LeO.bind ?_ (fun _ => ?_)
set_option maxHeartbeats 8000000 in
set_option maxRecDepth 100000 in
theorem minuetlaw5_TransformMeets.calls (k : Nat) (a0 : ByteArray) (A1 : Option Addr) (c1 : Nat) (l1 : List (S37)) (A2 : Option Addr) (c2 : Nat) (l2 : List (S37)) (a3 : Bool) (r : Bool) (w : World) (hr1 : Kd.C k37 w A1 l1.length l1) (hc1 : l1.length ≤ c1) (hr2 : Kd.C k37 w A2 l2.length l2) (hc2 : l2.length ≤ c2) (h : minuetlaw5_TransformMeets.f k a0 l1 l2 a3 = some r) :
 Calls Try.prog 9 #[.string a0, .slice A1 l1.length c1, .slice A2 l2.length c2, .bool a3] w fun e w' => e = .returned (.bool r) ∧ Below w.heap.size w w' := by
 have HR1 := Aside0.mk hr1
 have HC1 := Aside0.mk hc1
 clear hr1 hc1
 have HR2 := Aside0.mk hr2
 have HC2 := Aside0.mk hc2
 clear hr2 hc2
 have HB := Aside0.mk (Below.refl w.heap.size w)
 have H : ((minuetlaw5_awake.f k).bind fun t101 => (if t101 = true then ((apply_Apply.f k a0 l1).bind fun bt102 => ((apply_Apply.f k a0 l2).bind fun bt104 => ((transform_Transform.f k l1 l2 a3).bind fun bt106 => ((minuetlaw0_Num.f bt102.2).bind fun t113 => (if t113 = 0 then ((minuetlaw0_Num.f bt104.2).bind fun t114 => (minuetlaw5_TransformMeets.j0 k a0 l1 l2 bt102.1 bt104.1 bt106.1 bt106.2.1 bt106.2.2 (t114 != 0))) else (minuetlaw5_TransformMeets.j0 k a0 l1 l2 bt102.1 bt104.1 bt106.1 bt106.2.1 bt106.2.2 true)))))) else (none))) = some r := h
 clear h
 replace H := Option.bind_eq_some_iff.mp H
 obtain ⟨t101, A50, H⟩ := H
 replace H : (if t101 = true then ((apply_Apply.f k a0 l1).bind fun bt102 => ((apply_Apply.f k a0 l2).bind fun bt104 => ((transform_Transform.f k l1 l2 a3).bind fun bt106 => ((minuetlaw0_Num.f bt102.2).bind fun t113 => (if t113 = 0 then ((minuetlaw0_Num.f bt104.2).bind fun t114 => (minuetlaw5_TransformMeets.j0 k a0 l1 l2 bt102.1 bt104.1 bt106.1 bt106.2.1 bt106.2.2 (t114 != 0))) else (minuetlaw5_TransformMeets.j0 k a0 l1 l2 bt102.1 bt104.1 bt106.1 bt106.2.1 bt106.2.2 true)))))) else (none)) = some r := H
 have A5 := Aside0.mk A50
 clear A50
 by_cases c6 : t101 = true
 · subst c6
   have H1 : ((apply_Apply.f k a0 l1).bind fun bt102 => ((apply_Apply.f k a0 l2).bind fun bt104 => ((transform_Transform.f k l1 l2 a3).bind fun bt106 => ((minuetlaw0_Num.f bt102.2).bind fun t113 => (if t113 = 0 then ((minuetlaw0_Num.f bt104.2).bind fun t114 => (minuetlaw5_TransformMeets.j0 k a0 l1 l2 bt102.1 bt104.1 bt106.1 bt106.2.1 bt106.2.2 (t114 != 0))) else (minuetlaw5_TransformMeets.j0 k a0 l1 l2 bt102.1 bt104.1 bt106.1 bt106.2.1 bt106.2.2 true)))))) = some r := by rw [if_pos rfl] at H; exact H
   clear H
   have H := H1
   clear H1
   replace H := Option.bind_eq_some_iff.mp H
   obtain ⟨⟨t102, t103⟩, A70, H⟩ := H
   replace H : ((apply_Apply.f k a0 l2).bind fun bt104 => ((transform_Transform.f k l1 l2 a3).bind fun bt106 => ((minuetlaw0_Num.f t103).bind fun t113 => (if t113 = 0 then ((minuetlaw0_Num.f bt104.2).bind fun t114 => (minuetlaw5_TransformMeets.j0 k a0 l1 l2 t102 bt104.1 bt106.1 bt106.2.1 bt106.2.2 (t114 != 0))) else (minuetlaw5_TransformMeets.j0 k a0 l1 l2 t102 bt104.1 bt106.1 bt106.2.1 bt106.2.2 true))))) = some r := H
   have A7 := Aside0.mk A70
   clear A70
   replace H := Option.bind_eq_some_iff.mp H
   obtain ⟨⟨t104, t105⟩, A80, H⟩ := H
   replace H : ((transform_Transform.f k l1 l2 a3).bind fun bt106 => ((minuetlaw0_Num.f t103).bind fun t113 => (if t113 = 0 then ((minuetlaw0_Num.f t105).bind fun t114 => (minuetlaw5_TransformMeets.j0 k a0 l1 l2 t102 t104 bt106.1 bt106.2.1 bt106.2.2 (t114 != 0))) else (minuetlaw5_TransformMeets.j0 k a0 l1 l2 t102 t104 bt106.1 bt106.2.1 bt106.2.2 true)))) = some r := H
   have A8 := Aside0.mk A80
   clear A80
   replace H := Option.bind_eq_some_iff.mp H
   obtain ⟨⟨t106, t107, t108⟩, A90, H⟩ := H
   replace H : ((minuetlaw0_Num.f t103).bind fun t113 => (if t113 = 0 then ((minuetlaw0_Num.f t105).bind fun t114 => (minuetlaw5_TransformMeets.j0 k a0 l1 l2 t102 t104 t106 t107 t108 (t114 != 0))) else (minuetlaw5_TransformMeets.j0 k a0 l1 l2 t102 t104 t106 t107 t108 true))) = some r := H
   have A9 := Aside0.mk A90
   clear A90
   have HC10 := Aside0.mk H
   clear H
   go_enter Try.func9, Try.ntmps9
   go_upto_region 6 with (first | ((with_reducible refine gate_callee (f := 20) rfl ?_); refine goesL_ (some 20) rfl rfl Try.func20 (by kernel_rfl) rfl #[] rfl (by (try simp only [List.map_toArray, List.map_cons, List.map_nil]); first | done | rfl | (simp only [List.length_drop, List.length_take]; rfl)) ?_; (with_reducible refine (minuetlaw5_awake.calls k  true _ A5.out).mono ?_); rintro e w11 ⟨rfl, hb⟩; refine ⟨_, rfl, ?_⟩; have n0_ := Aside0.mk (below_step (by repeat (first | (with_reducible first | exact HB.out | apply below_alloc | apply pw_below_drewN | apply below_drew1) | exact HB.out)) hb); clear HB; have HB := n0_; clear n0_; (try clear hb); (try clear hb2); (try clear hk); (try clear hi)) | ((with_reducible refine gate_callee (f := 27) rfl ?_); refine goesL_ (some 25) rfl rfl Try.func27 (by kernel_rfl) rfl #[.string a0, .slice A1 l1.length c1] rfl (by (try simp only [List.map_toArray, List.map_cons, List.map_nil]); first | done | rfl | (simp only [List.length_drop, List.length_take]; rfl)) ?_; (with_reducible refine (apply_Apply.calls k a0 _ _ l1 t102 t103 _ ?side1 ?side2 A7.out).mono ?_); (case side1 => repeat (first | exact (Kd.C_below HR1.out HB.out) | (with_reducible refine Kd.C_alloc ?_ _) | (with_reducible refine Kd.C_drewN ?_ _) | (with_reducible refine Kd.C_drew ?_))); (case side2 => exact HC1.out); rintro e w12 ⟨rfl, hb⟩; refine ⟨_, rfl, ?_⟩; have n0_ := Aside0.mk (below_step (by repeat (first | (with_reducible first | exact HB.out | apply below_alloc | apply pw_below_drewN | apply below_drew1) | exact HB.out)) hb); clear HB; have HB := n0_; clear n0_; (try clear hb); (try clear hb2); (try clear hk); (try clear hi)) | ((with_reducible refine gate_callee (f := 27) rfl ?_); refine goesL_ (some 31) rfl rfl Try.func27 (by kernel_rfl) rfl #[.string a0, .slice A2 l2.length c2] rfl (by (try simp only [List.map_toArray, List.map_cons, List.map_nil]); first | done | rfl | (simp only [List.length_drop, List.length_take]; rfl)) ?_; (with_reducible refine (apply_Apply.calls k a0 _ _ l2 t104 t105 _ ?side1 ?side2 A8.out).mono ?_); (case side1 => repeat (first | exact (Kd.C_below HR2.out HB.out) | (with_reducible refine Kd.C_alloc ?_ _) | (with_reducible refine Kd.C_drewN ?_ _) | (with_reducible refine Kd.C_drew ?_))); (case side2 => exact HC2.out); rintro e w13 ⟨rfl, hb⟩; refine ⟨_, rfl, ?_⟩; have n0_ := Aside0.mk (below_step (by repeat (first | (with_reducible first | exact HB.out | apply below_alloc | apply pw_below_drewN | apply below_drew1) | exact HB.out)) hb); clear HB; have HB := n0_; clear n0_; (try clear hb); (try clear hb2); (try clear hk); (try clear hi)) | ((with_reducible refine gate_callee (f := 14) rfl ?_); refine goesL_ (some 38) rfl rfl Try.func14 (by kernel_rfl) rfl #[.slice A1 l1.length c1, .slice A2 l2.length c2, .bool a3] rfl (by (try simp only [List.map_toArray, List.map_cons, List.map_nil]); first | done | rfl | (simp only [List.length_drop, List.length_take]; rfl)) ?_; (with_reducible refine (transform_Transform.calls k _ _ l1 _ _ l2 a3 t106 t107 t108 _ ?side1 ?side2 ?side3 ?side4 A9.out).mono ?_); (case side1 => repeat (first | exact (Kd.C_below HR1.out HB.out) | (with_reducible refine Kd.C_alloc ?_ _) | (with_reducible refine Kd.C_drewN ?_ _) | (with_reducible refine Kd.C_drew ?_))); (case side2 => exact HC1.out); (case side3 => repeat (first | exact (Kd.C_below HR2.out HB.out) | (with_reducible refine Kd.C_alloc ?_ _) | (with_reducible refine Kd.C_drewN ?_ _) | (with_reducible refine Kd.C_drew ?_))); (case side4 => exact HC2.out); rintro e w14 ⟨v109, v111, rfl, ho0, ho1, hb⟩; refine ⟨_, rfl, ?_⟩; have n0_ := Aside0.mk (Kd.R_lower ho0 (below_size (by repeat (first | (with_reducible first | exact HB.out | apply below_alloc | apply pw_below_drewN | apply below_drew1) | exact HB.out)))); have n1_ := Aside0.mk (Kd.R_lower ho1 (below_size (by repeat (first | (with_reducible first | exact HB.out | apply below_alloc | apply pw_below_drewN | apply below_drew1) | exact HB.out)))); have n2_ := Aside0.mk (below_step (by repeat (first | (with_reducible first | exact HB.out | apply below_alloc | apply pw_below_drewN | apply below_drew1) | exact HB.out)) hb); clear HB; have HO110 := n0_; have HO112 := n1_; have HB := n2_; clear n0_ n1_ n2_; (try clear hb); (try clear hb2); (try clear hk); (try clear hi); (try clear ho0); (try clear ho1)))
   (try simp only [Act.put, List.setIfInBounds_toArray, List.set_cons_zero, List.set_cons_succ])
   go_cut [49] (fun v49 wc => ∃ (kq : Nat) (x49_9 : Bool), v49 = .bool x49_9 ∧ Aside0 (minuetlaw5_TransformMeets.j0 kq a0 l1 l2 t102 t104 t106 t107 t108 x49_9 = some r) ∧ Aside0 (kq ≤ k) ∧ Aside0 (Kd.R k37 37 wc w.heap.size (fun k_ => some k_ ≠ (v111 : Value).ownBlock) v109 t106) ∧ Aside0 (Kd.R k37 37 wc w.heap.size (fun k_ => some k_ ≠ (v109 : Value).ownBlock) v111 t107) ∧ Aside0 (Below w.heap.size w wc))
   case first =>
    have H := HC10.out
    clear HC10
    replace H := Option.bind_eq_some_iff.mp H
    obtain ⟨t113, A150, H⟩ := H
    replace H : (if t113 = 0 then ((minuetlaw0_Num.f t105).bind fun t114 => (minuetlaw5_TransformMeets.j0 k a0 l1 l2 t102 t104 t106 t107 t108 (t114 != 0))) else (minuetlaw5_TransformMeets.j0 k a0 l1 l2 t102 t104 t106 t107 t108 true)) = some r := H
    have A15 := Aside0.mk A150
    clear A150
    by_cases c16 : t113 = 0
    · rw [if_pos c16] at H
      have c16b0 : (t113 == 0) = true := beq_iff_eq.mpr c16
      have c16b1 : (t113 != 0) = false := bne_eq_false_iff_eq.mpr c16
      clear c16
      (first | rw [c16b0] | (simp only [i64_w, i32_w]; rw [c16b0]) | skip)
      replace H := Option.bind_eq_some_iff.mp H
      obtain ⟨t114, A170, H⟩ := H
      replace H : (minuetlaw5_TransformMeets.j0 k a0 l1 l2 t102 t104 t106 t107 t108 (t114 != 0)) = some r := H
      have A17 := Aside0.mk A170
      clear A170
      have H' := Aside0.mk H
      clear H
      go_wp2_with (first | ((with_reducible refine gate_callee (f := 17) rfl ?_); refine goesL_ (some 43) rfl rfl Try.func17 (by kernel_rfl) rfl #[.int .i64 t103] rfl (by (try simp only [List.map_toArray, List.map_cons, List.map_nil]); first | done | rfl | (simp only [List.length_drop, List.length_take]; rfl)) ?_; (with_reducible refine (minuetlaw0_Num.calls t103 t113 _ A15.out).mono ?_); rintro e w' ⟨rfl, ⟨nd, rfl⟩⟩; refine ⟨_, rfl, ?_⟩) | (go_at_call 17; (with_reducible refine (minuetlaw0_Num.calls t105 t114 _ A17.out).mono ?_); rintro e w' ⟨rfl, ⟨nd, rfl⟩⟩))
      go_meet
      case rel => exact ⟨_, ((t114 != 0)), (by first | rfl | (simp; done) | (simp [*]; done)), H', ⟨by first | omega | exact Nat.le_refl _⟩, ⟨by (with_reducible repeat (first | apply Kd.R_alloc | apply Kd.R_drewN | apply Kd.R_drew)); exact HO110.out⟩, ⟨by (with_reducible repeat (first | apply Kd.R_alloc | apply Kd.R_drewN | apply Kd.R_drew)); exact HO112.out⟩, ⟨by repeat (first | (with_reducible first | exact HB.out | apply below_alloc | apply pw_below_drewN | apply below_drew1) | exact HB.out)⟩⟩
    · rw [if_neg c16] at H
      have c16b0 : (t113 == 0) = false := beq_eq_false_iff_ne.mpr c16
      have c16b1 : (t113 != 0) = true := bne_iff_ne.mpr c16
      (first | rw [c16b0] | (simp only [i64_w, i32_w]; rw [c16b0]) | skip)
      have H' := Aside0.mk H
      clear H
      go_wp2_with (first | ((with_reducible refine gate_callee (f := 17) rfl ?_); refine goesL_ (some 43) rfl rfl Try.func17 (by kernel_rfl) rfl #[.int .i64 t103] rfl (by (try simp only [List.map_toArray, List.map_cons, List.map_nil]); first | done | rfl | (simp only [List.length_drop, List.length_take]; rfl)) ?_; (with_reducible refine (minuetlaw0_Num.calls t103 t113 _ A15.out).mono ?_); rintro e w' ⟨rfl, ⟨nd, rfl⟩⟩; refine ⟨_, rfl, ?_⟩))
      go_meet
      case rel => exact ⟨_, (true), (by first | rfl | (simp; done) | (simp [*]; done)), H', ⟨by first | omega | exact Nat.le_refl _⟩, ⟨by (with_reducible repeat (first | apply Kd.R_alloc | apply Kd.R_drewN | apply Kd.R_drew)); exact HO110.out⟩, ⟨by (with_reducible repeat (first | apply Kd.R_alloc | apply Kd.R_drewN | apply Kd.R_drew)); exact HO112.out⟩, ⟨by repeat (first | (with_reducible first | exact HB.out | apply below_alloc | apply pw_below_drewN | apply below_drew1) | exact HB.out)⟩⟩
   case rest =>
    clear HC10
    try clear c1
    try clear c2
    try clear p2
    try clear c6
    try clear c9
    try clear c14
    try clear c16
    try clear c16b0
    try clear c16b1
    try clear c17
    obtain ⟨kq, x49_9, rfl, HA, HJ9, HO_13, HO_14, HB⟩ := hcut
    cases kq with
    | zero => exact absurd HA.out (by simp [minuetlaw5_TransformMeets.j0])
    | succ kj9 =>
     have H := HA.out
     clear HA
     simp only [minuetlaw5_TransformMeets.j0] at H
     by_cases c18 : x49_9 = true
     · subst c18
       have H1 : (some true) = some r := by rw [if_pos rfl] at H; exact H
       clear H
       have H := H1
       clear H1
       obtain rfl := Option.some.inj H
       go_wp2
       go_ret
       exact ⟨by first | rfl | (simp [errW_none, errW_some] <;> rfl) | (simp [*, errW_none, errW_some] <;> rfl), by repeat (first | (with_reducible first | exact HB.out | apply below_alloc | apply pw_below_drewN | apply below_drew1) | exact HB.out)⟩
     · replace c18 := Bool.eq_false_iff.mpr c18
       subst c18
       have H1 : ((minuetlaw0_Num.f t108).bind fun t115 => (if t115 = 0 then ((apply_Apply.f kj9 t102 t107).bind fun bt119 => ((apply_Apply.f kj9 t104 t106).bind fun bt121 => ((minuetlaw0_Num.f bt119.2).bind fun t123 => (if t123 = 0 then ((minuetlaw0_Num.f bt121.2).bind fun t124 => (if t124 = 0 then (some (bt119.1.toList == bt121.1.toList)) else (none))) else (none))))) else ((minuetlaw0_Num.f t108).bind fun t116 => (if t116 = 500 then (if (wrap64 ((wrap64 ((l1.length : Int) + (l2.length : Int))) + (a0.size : Int))) > 1000 then (some true) else ((minuetlaw5_puts.f kj9 l2).bind fun t117 => (if (wrap64 ((t102.size : Int) + t117)) > 4096 then (some true) else ((minuetlaw5_puts.f kj9 l1).bind fun t118 => (some (decide ((wrap64 ((t104.size : Int) + t118)) > 4096))))))) else (none))))) = some r := by rw [if_neg (show ¬ (false = true) by decide)] at H; exact H
       clear H
       have H := H1
       clear H1
       replace H := Option.bind_eq_some_iff.mp H
       obtain ⟨t115, A190, H⟩ := H
       replace H : (if t115 = 0 then ((apply_Apply.f kj9 t102 t107).bind fun bt119 => ((apply_Apply.f kj9 t104 t106).bind fun bt121 => ((minuetlaw0_Num.f bt119.2).bind fun t123 => (if t123 = 0 then ((minuetlaw0_Num.f bt121.2).bind fun t124 => (if t124 = 0 then (some (bt119.1.toList == bt121.1.toList)) else (none))) else (none))))) else ((minuetlaw0_Num.f t108).bind fun t116 => (if t116 = 500 then (if (wrap64 ((wrap64 ((l1.length : Int) + (l2.length : Int))) + (a0.size : Int))) > 1000 then (some true) else ((minuetlaw5_puts.f kj9 l2).bind fun t117 => (if (wrap64 ((t102.size : Int) + t117)) > 4096 then (some true) else ((minuetlaw5_puts.f kj9 l1).bind fun t118 => (some (decide ((wrap64 ((t104.size : Int) + t118)) > 4096))))))) else (none)))) = some r := H
       have A19 := Aside0.mk A190
       clear A190
       by_cases c20 : t115 = 0
       · rw [if_pos c20] at H
         have c20b0 : (t115 == 0) = true := beq_iff_eq.mpr c20
         have c20b1 : (t115 != 0) = false := bne_eq_false_iff_eq.mpr c20
         clear c20
         replace H := Option.bind_eq_some_iff.mp H
         obtain ⟨⟨t119, t120⟩, A210, H⟩ := H
         replace H : ((apply_Apply.f kj9 t104 t106).bind fun bt121 => ((minuetlaw0_Num.f t120).bind fun t123 => (if t123 = 0 then ((minuetlaw0_Num.f bt121.2).bind fun t124 => (if t124 = 0 then (some (t119.toList == bt121.1.toList)) else (none))) else (none)))) = some r := H
         have A21 := Aside0.mk A210
         clear A210
         replace H := Option.bind_eq_some_iff.mp H
         obtain ⟨⟨t121, t122⟩, A220, H⟩ := H
         replace H : ((minuetlaw0_Num.f t120).bind fun t123 => (if t123 = 0 then ((minuetlaw0_Num.f t122).bind fun t124 => (if t124 = 0 then (some (t119.toList == t121.toList)) else (none))) else (none))) = some r := H
         have A22 := Aside0.mk A220
         clear A220
         replace H := Option.bind_eq_some_iff.mp H
         obtain ⟨t123, A230, H⟩ := H
         replace H : (if t123 = 0 then ((minuetlaw0_Num.f t122).bind fun t124 => (if t124 = 0 then (some (t119.toList == t121.toList)) else (none))) else (none)) = some r := H
         have A23 := Aside0.mk A230
         clear A230
         by_cases c24 : t123 = 0
         · rw [if_pos c24] at H
           have c24b0 : (t123 == 0) = true := beq_iff_eq.mpr c24
           have c24b1 : (t123 != 0) = false := bne_eq_false_iff_eq.mpr c24
           clear c24
           replace H := Option.bind_eq_some_iff.mp H
           obtain ⟨t124, A250, H⟩ := H
           replace H : (if t124 = 0 then (some (t119.toList == t121.toList)) else (none)) = some r := H
           have A25 := Aside0.mk A250
           clear A250
           by_cases c26 : t124 = 0
           · rw [if_pos c26] at H
             have c26b0 : (t124 == 0) = true := beq_iff_eq.mpr c26
             have c26b1 : (t124 != 0) = false := bne_eq_false_iff_eq.mpr c26
             clear c26
             obtain rfl := Option.some.inj H
             go_wp2_with (first | ((with_reducible refine gate_callee (f := 17) rfl ?_); refine goesL_ (some 51) rfl rfl Try.func17 (by kernel_rfl) rfl #[.int .i64 t108] rfl (by (try simp only [List.map_toArray, List.map_cons, List.map_nil]); first | done | rfl | (simp only [List.length_drop, List.length_take]; rfl)) ?_; (with_reducible refine (minuetlaw0_Num.calls t108 t115 _ A19.out).mono ?_); rintro e w' ⟨rfl, ⟨nd, rfl⟩⟩; refine ⟨_, rfl, ?_⟩; obtain ⟨Ao27, co27, eo27⟩ := Kd.R_slice HO_14.out; subst eo27) | ((with_reducible refine gate_callee (f := 27) rfl ?_); refine goesL_ (some 86) rfl rfl Try.func27 (by kernel_rfl) rfl #[.string t102, .slice Ao27 t107.length co27] rfl (by (try simp only [List.map_toArray, List.map_cons, List.map_nil]); first | done | rfl | (simp only [List.length_drop, List.length_take]; rfl)) ?_; (with_reducible refine (apply_Apply.calls kj9 t102 _ _ t107 t119 t120 _ ?side1 ?side2 A21.out).mono ?_); (case side1 => repeat (first | exact (Kd.R_reads' HO_14.out).2.2 | (with_reducible refine Kd.C_alloc ?_ _) | (with_reducible refine Kd.C_drewN ?_ _) | (with_reducible refine Kd.C_drew ?_))); (case side2 => exact (Kd.R_reads' HO_14.out).2.1); rintro e w28 ⟨rfl, hb⟩; refine ⟨_, rfl, ?_⟩; have n0_ := Aside0.mk (Kd.R_below (by (with_reducible repeat (first | apply Kd.R_alloc | apply Kd.R_drewN | apply Kd.R_drew)); exact HO_13.out) hb); have n1_ := Aside0.mk (Kd.R_below (by (with_reducible repeat (first | apply Kd.R_alloc | apply Kd.R_drewN | apply Kd.R_drew)); exact HO_14.out) hb); have n2_ := Aside0.mk (below_step (by repeat (first | (with_reducible first | exact HB.out | apply below_alloc | apply pw_below_drewN | apply below_drew1) | exact HB.out)) hb); clear HO_13; clear HO_14; clear HB; have HO_13 := n0_; have HO_14 := n1_; have HB := n2_; clear n0_ n1_ n2_; (try clear hb); (try clear hb2); (try clear hk); (try clear hi); obtain ⟨Ao29, co29, eo29⟩ := Kd.R_slice HO_13.out; subst eo29) | ((with_reducible refine gate_callee (f := 27) rfl ?_); refine goesL_ (some 92) rfl rfl Try.func27 (by kernel_rfl) rfl #[.string t104, .slice Ao29 t106.length co29] rfl (by (try simp only [List.map_toArray, List.map_cons, List.map_nil]); first | done | rfl | (simp only [List.length_drop, List.length_take]; rfl)) ?_; (with_reducible refine (apply_Apply.calls kj9 t104 _ _ t106 t121 t122 _ ?side1 ?side2 A22.out).mono ?_); (case side1 => repeat (first | exact (Kd.R_reads' HO_13.out).2.2 | (with_reducible refine Kd.C_alloc ?_ _) | (with_reducible refine Kd.C_drewN ?_ _) | (with_reducible refine Kd.C_drew ?_))); (case side2 => exact (Kd.R_reads' HO_13.out).2.1); rintro e w30 ⟨rfl, hb⟩; refine ⟨_, rfl, ?_⟩; have n0_ := Aside0.mk (Kd.R_below (by (with_reducible repeat (first | apply Kd.R_alloc | apply Kd.R_drewN | apply Kd.R_drew)); exact HO_13.out) hb); have n1_ := Aside0.mk (Kd.R_below (by (with_reducible repeat (first | apply Kd.R_alloc | apply Kd.R_drewN | apply Kd.R_drew)); exact HO_14.out) hb); have n2_ := Aside0.mk (below_step (by repeat (first | (with_reducible first | exact HB.out | apply below_alloc | apply pw_below_drewN | apply below_drew1) | exact HB.out)) hb); clear HO_13; clear HO_14; clear HB; have HO_13 := n0_; have HO_14 := n1_; have HB := n2_; clear n0_ n1_ n2_; (try clear hb); (try clear hb2); (try clear hk); (try clear hi)) | ((with_reducible refine gate_callee (f := 17) rfl ?_); refine goesL_ (some 96) rfl rfl Try.func17 (by kernel_rfl) rfl #[.int .i64 t120] rfl (by (try simp only [List.map_toArray, List.map_cons, List.map_nil]); first | done | rfl | (simp only [List.length_drop, List.length_take]; rfl)) ?_; (with_reducible refine (minuetlaw0_Num.calls t120 t123 _ A23.out).mono ?_); rintro e w' ⟨rfl, ⟨nd, rfl⟩⟩; refine ⟨_, rfl, ?_⟩) | (go_at_call 17; (with_reducible refine (minuetlaw0_Num.calls t122 t124 _ A25.out).mono ?_); rintro e w' ⟨rfl, ⟨nd, rfl⟩⟩))
             go_ret
             exact ⟨by first | rfl | (simp [errW_none, errW_some] <;> rfl) | (simp [*, errW_none, errW_some] <;> rfl), by repeat (first | (with_reducible first | exact HB.out | apply below_alloc | apply pw_below_drewN | apply below_drew1) | exact HB.out)⟩
           · rw [if_neg c26] at H
             exact absurd H (by simp)
         · rw [if_neg c24] at H
           exact absurd H (by simp)
       · rw [if_neg c20] at H
         have c20b0 : (t115 == 0) = false := beq_eq_false_iff_ne.mpr c20
         have c20b1 : (t115 != 0) = true := bne_iff_ne.mpr c20
         replace H := Option.bind_eq_some_iff.mp H
         obtain ⟨t116, A310, H⟩ := H
         replace H : (if t116 = 500 then (if (wrap64 ((wrap64 ((l1.length : Int) + (l2.length : Int))) + (a0.size : Int))) > 1000 then (some true) else ((minuetlaw5_puts.f kj9 l2).bind fun t117 => (if (wrap64 ((t102.size : Int) + t117)) > 4096 then (some true) else ((minuetlaw5_puts.f kj9 l1).bind fun t118 => (some (decide ((wrap64 ((t104.size : Int) + t118)) > 4096))))))) else (none)) = some r := H
         have A31 := Aside0.mk A310
         clear A310
         by_cases c32 : t116 = 500
         · rw [if_pos c32] at H
           have c32b0 : (t116 == 500) = true := beq_iff_eq.mpr c32
           have c32b1 : (t116 != 500) = false := bne_eq_false_iff_eq.mpr c32
           clear c32
           by_cases c33 : (wrap64 ((wrap64 ((l1.length : Int) + (l2.length : Int))) + (a0.size : Int))) > 1000
           · rw [if_pos c33] at H
             have c33b0 : decide (1000 < (wrap64 ((wrap64 ((l1.length : Int) + (l2.length : Int))) + (a0.size : Int)))) = true := decide_eq_true c33
             clear c33
             obtain rfl := Option.some.inj H
             go_wp2_with (first | ((with_reducible refine gate_callee (f := 17) rfl ?_); refine goesL_ (some 51) rfl rfl Try.func17 (by kernel_rfl) rfl #[.int .i64 t108] rfl (by (try simp only [List.map_toArray, List.map_cons, List.map_nil]); first | done | rfl | (simp only [List.length_drop, List.length_take]; rfl)) ?_; (with_reducible refine (minuetlaw0_Num.calls t108 t115 _ A19.out).mono ?_); rintro e w' ⟨rfl, ⟨nd, rfl⟩⟩; refine ⟨_, rfl, ?_⟩) | ((with_reducible refine gate_callee (f := 17) rfl ?_); refine goesL_ (some 54) rfl rfl Try.func17 (by kernel_rfl) rfl #[.int .i64 t108] rfl (by (try simp only [List.map_toArray, List.map_cons, List.map_nil]); first | done | rfl | (simp only [List.length_drop, List.length_take]; rfl)) ?_; (with_reducible refine (minuetlaw0_Num.calls t108 t116 _ A31.out).mono ?_); rintro e w' ⟨rfl, ⟨nd, rfl⟩⟩; refine ⟨_, rfl, ?_⟩))
             go_ret
             exact ⟨by first | rfl | (simp [errW_none, errW_some] <;> rfl) | (simp [*, errW_none, errW_some] <;> rfl), by repeat (first | (with_reducible first | exact HB.out | apply below_alloc | apply pw_below_drewN | apply below_drew1) | exact HB.out)⟩
           · rw [if_neg c33] at H
             have c33b0 : decide (1000 < (wrap64 ((wrap64 ((l1.length : Int) + (l2.length : Int))) + (a0.size : Int)))) = false := decide_eq_false c33
             clear c33
             replace H := Option.bind_eq_some_iff.mp H
             obtain ⟨t117, A340, H⟩ := H
             replace H : (if (wrap64 ((t102.size : Int) + t117)) > 4096 then (some true) else ((minuetlaw5_puts.f kj9 l1).bind fun t118 => (some (decide ((wrap64 ((t104.size : Int) + t118)) > 4096))))) = some r := H
             have A34 := Aside0.mk A340
             clear A340
             by_cases c35 : (wrap64 ((t102.size : Int) + t117)) > 4096
             · rw [if_pos c35] at H
               have c35b0 : decide (4096 < (wrap64 ((t102.size : Int) + t117))) = true := decide_eq_true c35
               clear c35
               obtain rfl := Option.some.inj H
               go_wp2_with (first | ((with_reducible refine gate_callee (f := 17) rfl ?_); refine goesL_ (some 51) rfl rfl Try.func17 (by kernel_rfl) rfl #[.int .i64 t108] rfl (by (try simp only [List.map_toArray, List.map_cons, List.map_nil]); first | done | rfl | (simp only [List.length_drop, List.length_take]; rfl)) ?_; (with_reducible refine (minuetlaw0_Num.calls t108 t115 _ A19.out).mono ?_); rintro e w' ⟨rfl, ⟨nd, rfl⟩⟩; refine ⟨_, rfl, ?_⟩) | ((with_reducible refine gate_callee (f := 17) rfl ?_); refine goesL_ (some 54) rfl rfl Try.func17 (by kernel_rfl) rfl #[.int .i64 t108] rfl (by (try simp only [List.map_toArray, List.map_cons, List.map_nil]); first | done | rfl | (simp only [List.length_drop, List.length_take]; rfl)) ?_; (with_reducible refine (minuetlaw0_Num.calls t108 t116 _ A31.out).mono ?_); rintro e w' ⟨rfl, ⟨nd, rfl⟩⟩; refine ⟨_, rfl, ?_⟩) | (go_at_call 26; (with_reducible refine (minuetlaw5_puts.calls kj9 _ _ l2 t117 _ ?side1 ?side2 A34.out).mono ?_); (case side1 => repeat (first | exact (Kd.C_below HR2.out (by repeat (first | (with_reducible first | exact HB.out | apply below_alloc | apply pw_below_drewN | apply below_drew1) | exact HB.out))) | (with_reducible refine Kd.C_alloc ?_ _) | (with_reducible refine Kd.C_drewN ?_ _) | (with_reducible refine Kd.C_drew ?_))); (case side2 => exact HC2.out); rintro e w' ⟨rfl, ⟨nd, rfl⟩⟩))
               go_ret
               exact ⟨by first | rfl | (simp [errW_none, errW_some] <;> rfl) | (simp [*, errW_none, errW_some] <;> rfl), by repeat (first | (with_reducible first | exact HB.out | apply below_alloc | apply pw_below_drewN | apply below_drew1) | exact HB.out)⟩
             · rw [if_neg c35] at H
               have c35b0 : decide (4096 < (wrap64 ((t102.size : Int) + t117))) = false := decide_eq_false c35
               clear c35
               replace H := Option.bind_eq_some_iff.mp H
               obtain ⟨t118, A360, H⟩ := H
               replace H : (some (decide ((wrap64 ((t104.size : Int) + t118)) > 4096))) = some r := H
               have A36 := Aside0.mk A360
               clear A360
               obtain rfl := Option.some.inj H
               go_wp2_with (first | ((with_reducible refine gate_callee (f := 17) rfl ?_); refine goesL_ (some 51) rfl rfl Try.func17 (by kernel_rfl) rfl #[.int .i64 t108] rfl (by (try simp only [List.map_toArray, List.map_cons, List.map_nil]); first | done | rfl | (simp only [List.length_drop, List.length_take]; rfl)) ?_; (with_reducible refine (minuetlaw0_Num.calls t108 t115 _ A19.out).mono ?_); rintro e w' ⟨rfl, ⟨nd, rfl⟩⟩; refine ⟨_, rfl, ?_⟩) | ((with_reducible refine gate_callee (f := 17) rfl ?_); refine goesL_ (some 54) rfl rfl Try.func17 (by kernel_rfl) rfl #[.int .i64 t108] rfl (by (try simp only [List.map_toArray, List.map_cons, List.map_nil]); first | done | rfl | (simp only [List.length_drop, List.length_take]; rfl)) ?_; (with_reducible refine (minuetlaw0_Num.calls t108 t116 _ A31.out).mono ?_); rintro e w' ⟨rfl, ⟨nd, rfl⟩⟩; refine ⟨_, rfl, ?_⟩) | (go_at_call 26; (with_reducible refine (minuetlaw5_puts.calls kj9 _ _ l2 t117 _ ?side1 ?side2 A34.out).mono ?_); (case side1 => repeat (first | exact (Kd.C_below HR2.out (by repeat (first | (with_reducible first | exact HB.out | apply below_alloc | apply pw_below_drewN | apply below_drew1) | exact HB.out))) | (with_reducible refine Kd.C_alloc ?_ _) | (with_reducible refine Kd.C_drewN ?_ _) | (with_reducible refine Kd.C_drew ?_))); (case side2 => exact HC2.out); rintro e w' ⟨rfl, ⟨nd, rfl⟩⟩) | (go_at_call 26; (with_reducible refine (minuetlaw5_puts.calls kj9 _ _ l1 t118 _ ?side1 ?side2 A36.out).mono ?_); (case side1 => repeat (first | exact (Kd.C_below HR1.out (by repeat (first | (with_reducible first | exact HB.out | apply below_alloc | apply pw_below_drewN | apply below_drew1) | exact HB.out))) | (with_reducible refine Kd.C_alloc ?_ _) | (with_reducible refine Kd.C_drewN ?_ _) | (with_reducible refine Kd.C_drew ?_))); (case side2 => exact HC1.out); rintro e w' ⟨rfl, ⟨nd, rfl⟩⟩))
               go_ret
               exact ⟨by first | rfl | (simp [errW_none, errW_some] <;> rfl) | (simp [*, errW_none, errW_some] <;> rfl), by repeat (first | (with_reducible first | exact HB.out | apply below_alloc | apply pw_below_drewN | apply below_drew1) | exact HB.out)⟩
         · rw [if_neg c32] at H
           exact absurd H (by simp)
 · replace c6 := Bool.eq_false_iff.mpr c6
   subst c6
   have H1 : (none) = some r := by rw [if_neg (show ¬ (false = true) by decide)] at H; exact H
   clear H
   have H := H1
   clear H1
   exact absurd H (by simp)

end Go.Proofs.Ytldaokclpkcmmab.G
