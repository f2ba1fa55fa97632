-- Laid by this session's own program gprint.py (wip/tools), out of the kit's print and of texts of this session. Lean checks it.
import Derived.Test.YtldaokclpkcmmaaGx0
import Derived.Test.YtldaokclpkcmmaaGZ3
import Derived.Test.YtldaokclpkcmmaaGZ2
import Derived.Test.YtldaokclpkcmmaaGApplyPApply
import Derived.Test.YtldaokclpkcmmaaGComposePCompose
import Derived.Test.YtldaokclpkcmmaaGMinuetlaw4qawake
namespace Go.Proofs.Ytldaokclpkcmmaa.G
open Go.RowKit Go.Proofs.YtldaokclpkcmmaaW.PrintWords Go.Proofs.YtldaokclpkcmmaaW.PrintLast Go.Proofs.YtldaokclpkcmmaaW.PrintMore
attribute [local go_sem] max2_int min2_int max_two min_two max_three min_three max_four min_four   -- for this text's walks alone
set_option linter.unusedVariables false
set_option linter.unusedSimpArgs false

/-! ### minuetlaw4_ComposeDoes: function 9 -/
mutual
def minuetlaw4_ComposeDoes.j0 : Nat → ByteArray → List (S31) → List (S31) → ByteArray → List (S31) → Int → Bool → Option (Bool)
 | 0, _, _, _, _, _, _, _ => none
 | k + 1, x0, x1, x2, x9, x11, x12, x42 => if x42 = true then (some true) else ((apply_Apply.f k x0 x11).bind fun bt112 => (if (wrap64 ((wrap64 ((x1.length : Int) + (x2.length : Int))) + (x0.size : Int))) > 1000 then ((minuetlaw0_Num.f x12).bind fun t114 => (minuetlaw4_ComposeDoes.j1 k x9 x11 x12 bt112.1 bt112.2 (t114 == 400))) else (minuetlaw4_ComposeDoes.j1 k x9 x11 x12 bt112.1 bt112.2 false)))
def minuetlaw4_ComposeDoes.j1 : Nat → ByteArray → List (S31) → Int → ByteArray → Int → Bool → Option (Bool)
 | 0, _, _, _, _, _, _ => none
 | k + 1, x9, x11, x12, x13, x14, x62 => if x62 = true then (some true) else ((minuetlaw0_Num.f x12).bind fun t115 => (if t115 = 0 then ((minuetlaw0_Num.f x14).bind fun t116 => (if t116 = 0 then (if x9.toList = x13.toList then ((minuetref1_CompsMay.f k x11).bind fun t117 => (some t117)) else (none)) else (none))) else (none)))
end
def minuetlaw4_ComposeDoes.f (k : Nat) (a0 : ByteArray) (l1 : List (S31)) (l2 : List (S31)) : Option (Bool) := (minuetlaw4_awake.f k).bind fun t101 => (if t101 = true then ((apply_Apply.f k a0 l1).bind fun bt102 => ((apply_Apply.f k bt102.1 l2).bind fun bt104 => ((compose_Compose.f k l1 l2).bind fun bt106 => ((minuetlaw0_Num.f bt102.2).bind fun t110 => (if t110 = 0 then ((minuetlaw0_Num.f bt104.2).bind fun t111 => (minuetlaw4_ComposeDoes.j0 k a0 l1 l2 bt104.1 bt106.1 bt106.2 (t111 != 0))) else (minuetlaw4_ComposeDoes.j0 k a0 l1 l2 bt104.1 bt106.1 bt106.2 true)))))) else (none))
theorem minuetlaw4_ComposeDoes.mono_l : ∀ k, (∀ y0 y1 y2 y3 y4 y5 y6, LeO (minuetlaw4_ComposeDoes.j0 k y0 y1 y2 y3 y4 y5 y6) (minuetlaw4_ComposeDoes.j0 (k + 1) y0 y1 y2 y3 y4 y5 y6)) ∧ (∀ y0 y1 y2 y3 y4 y5, LeO (minuetlaw4_ComposeDoes.j1 k y0 y1 y2 y3 y4 y5) (minuetlaw4_ComposeDoes.j1 (k + 1) y0 y1 y2 y3 y4 y5))
 | 0 => ⟨fun _ _ _ _ _ _ _ r h => by simp [minuetlaw4_ComposeDoes.j0] at h, fun _ _ _ _ _ _ r h => by simp [minuetlaw4_ComposeDoes.j1] at h⟩
 | k + 1 => by
  obtain ⟨ih0, ih1⟩ := minuetlaw4_ComposeDoes.mono_l k
  refine ⟨?_, ?_⟩
  · intro y0 y1 y2 y3 y4 y5 y6
    unfold minuetlaw4_ComposeDoes.j0
    repeat' first
    | (with_reducible exact ih0 _ _ _ _ _ _ _)
    | (with_reducible exact ih1 _ _ _ _ _ _)
    | (with_reducible exact apply_Apply.mono _ _ _)
    | (with_reducible exact compose_Compose.mono _ _ _)
    | (with_reducible exact minuetlaw4_awake.mono _)
    | (with_reducible exact minuetref1_CompsMay.mono _ _)
    | (with_reducible exact LeO.refl _)
    | (with_reducible exact LeO.none _)
    | (with_reducible refine LeO.ite ?_ ?_)
    | (with_reducible refine LeO.bind ?_ (fun _ => ?_))
    | exact ih0 _ _ _ _ _ _ _
    | exact ih1 _ _ _ _ _ _
    | exact apply_Apply.mono _ _ _
    | exact compose_Compose.mono _ _ _
    | exact minuetlaw4_awake.mono _
    | exact minuetref1_CompsMay.mono _ _
    | exact LeO.none _
    | refine LeO.ite ?_ ?_
    | refine LeO.bind ?_ (fun _ => ?_)
  · intro y0 y1 y2 y3 y4 y5
    unfold minuetlaw4_ComposeDoes.j1
    repeat' first
    | (with_reducible exact ih0 _ _ _ _ _ _ _)
    | (with_reducible exact ih1 _ _ _ _ _ _)
    | (with_reducible exact apply_Apply.mono _ _ _)
    | (with_reducible exact compose_Compose.mono _ _ _)
    | (with_reducible exact minuetlaw4_awake.mono _)
    | (with_reducible exact minuetref1_CompsMay.mono _ _)
    | (with_reducible exact LeO.refl _)
    | (with_reducible exact LeO.none _)
    | (with_reducible refine LeO.ite ?_ ?_)
    | (with_reducible refine LeO.bind ?_ (fun _ => ?_))
    | exact ih0 _ _ _ _ _ _ _
    | exact ih1 _ _ _ _ _ _
    | exact apply_Apply.mono _ _ _
    | exact compose_Compose.mono _ _ _
    | exact minuetlaw4_awake.mono _
    | exact minuetref1_CompsMay.mono _ _
    | exact LeO.none _
    | refine LeO.ite ?_ ?_
    | refine LeO.bind ?_ (fun _ => ?_)
theorem minuetlaw4_ComposeDoes.mono : ∀ a0 a1 a2 k, LeO (minuetlaw4_ComposeDoes.f k a0 a1 a2) (minuetlaw4_ComposeDoes.f (k + 1) a0 a1 a2) := by
 intro a0 a1 a2 k
 obtain ⟨ih0, ih1⟩ := minuetlaw4_ComposeDoes.mono_l k
 unfold minuetlaw4_ComposeDoes.f
 repeat' first
  | (with_reducible exact ih0 _ _ _ _ _ _ _)
  | (with_reducible exact ih1 _ _ _ _ _ _)
  | (with_reducible exact apply_Apply.mono _ _ _)
  | (with_reducible exact compose_Compose.mono _ _ _)
  | (with_reducible exact minuetlaw4_awake.mono _)
  | (with_reducible exact minuetref1_CompsMay.mono _ _)
  | (with_reducible exact LeO.refl _)
  | (with_reducible exact LeO.none _)
  | (with_reducible refine LeO.ite ?_ ?_)
  | (with_reducible refine LeO.bind ?_ (fun _ => ?_))
  | exact ih0 _ _ _ _ _ _ _
  | exact ih1 _ _ _ _ _ _
  | exact apply_Apply.mono _ _ _
  | exact compose_Compose.mono _ _ _
  | exact minuetlaw4_awake.mono _
  | exact minuetref1_CompsMay.mono _ _
  | exact LeO.none _
  | refine LeO.ite ?_ ?_
  | refine LeO.bind ?_ (fun _ => ?_)
set_option maxHeartbeats 8000000 in
set_option maxRecDepth 100000 in
theorem minuetlaw4_ComposeDoes.calls (k : Nat) (a0 : ByteArray) (A1 : Option Addr) (c1 : Nat) (l1 : List (S31)) (A2 : Option Addr) (c2 : Nat) (l2 : List (S31)) (r : Bool) (w : World) (hr1 : Kd.C k31 w A1 l1.length l1) (hc1 : l1.length ≤ c1) (hr2 : Kd.C k31 w A2 l2.length l2) (hc2 : l2.length ≤ c2) (h : minuetlaw4_ComposeDoes.f k a0 l1 l2 = some r) :
 Calls Try.prog 9 #[.string a0, .slice A1 l1.length c1, .slice A2 l2.length c2] w fun e w' => e = .returned (.bool r) ∧ Below w.heap.size w w' := by
 have HR1 := Aside0.mk hr1
 have HC1 := Aside0.mk hc1
 clear hr1 hc1
 have HR2 := Aside0.mk hr2
 have HC2 := Aside0.mk hc2
 clear hr2 hc2
 have HB := Aside0.mk (Below.refl w.heap.size w)
 have H : ((minuetlaw4_awake.f k).bind fun t101 => (if t101 = true then ((apply_Apply.f k a0 l1).bind fun bt102 => ((apply_Apply.f k bt102.1 l2).bind fun bt104 => ((compose_Compose.f k l1 l2).bind fun bt106 => ((minuetlaw0_Num.f bt102.2).bind fun t110 => (if t110 = 0 then ((minuetlaw0_Num.f bt104.2).bind fun t111 => (minuetlaw4_ComposeDoes.j0 k a0 l1 l2 bt104.1 bt106.1 bt106.2 (t111 != 0))) else (minuetlaw4_ComposeDoes.j0 k a0 l1 l2 bt104.1 bt106.1 bt106.2 true)))))) else (none))) = some r := h
 clear h
 replace H := Option.bind_eq_some_iff.mp H
 obtain ⟨t101, A40, H⟩ := H
 replace H : (if t101 = true then ((apply_Apply.f k a0 l1).bind fun bt102 => ((apply_Apply.f k bt102.1 l2).bind fun bt104 => ((compose_Compose.f k l1 l2).bind fun bt106 => ((minuetlaw0_Num.f bt102.2).bind fun t110 => (if t110 = 0 then ((minuetlaw0_Num.f bt104.2).bind fun t111 => (minuetlaw4_ComposeDoes.j0 k a0 l1 l2 bt104.1 bt106.1 bt106.2 (t111 != 0))) else (minuetlaw4_ComposeDoes.j0 k a0 l1 l2 bt104.1 bt106.1 bt106.2 true)))))) else (none)) = some r := H
 have A4 := Aside0.mk A40
 clear A40
 by_cases c5 : t101 = true
 · subst c5
   have H1 : ((apply_Apply.f k a0 l1).bind fun bt102 => ((apply_Apply.f k bt102.1 l2).bind fun bt104 => ((compose_Compose.f k l1 l2).bind fun bt106 => ((minuetlaw0_Num.f bt102.2).bind fun t110 => (if t110 = 0 then ((minuetlaw0_Num.f bt104.2).bind fun t111 => (minuetlaw4_ComposeDoes.j0 k a0 l1 l2 bt104.1 bt106.1 bt106.2 (t111 != 0))) else (minuetlaw4_ComposeDoes.j0 k a0 l1 l2 bt104.1 bt106.1 bt106.2 true)))))) = some r := by rw [if_pos rfl] at H; exact H
   clear H
   have H := H1
   clear H1
   replace H := Option.bind_eq_some_iff.mp H
   obtain ⟨⟨t102, t103⟩, A60, H⟩ := H
   replace H : ((apply_Apply.f k t102 l2).bind fun bt104 => ((compose_Compose.f k l1 l2).bind fun bt106 => ((minuetlaw0_Num.f t103).bind fun t110 => (if t110 = 0 then ((minuetlaw0_Num.f bt104.2).bind fun t111 => (minuetlaw4_ComposeDoes.j0 k a0 l1 l2 bt104.1 bt106.1 bt106.2 (t111 != 0))) else (minuetlaw4_ComposeDoes.j0 k a0 l1 l2 bt104.1 bt106.1 bt106.2 true))))) = some r := H
   have A6 := Aside0.mk A60
   clear A60
   replace H := Option.bind_eq_some_iff.mp H
   obtain ⟨⟨t104, t105⟩, A70, H⟩ := H
   replace H : ((compose_Compose.f k l1 l2).bind fun bt106 => ((minuetlaw0_Num.f t103).bind fun t110 => (if t110 = 0 then ((minuetlaw0_Num.f t105).bind fun t111 => (minuetlaw4_ComposeDoes.j0 k a0 l1 l2 t104 bt106.1 bt106.2 (t111 != 0))) else (minuetlaw4_ComposeDoes.j0 k a0 l1 l2 t104 bt106.1 bt106.2 true)))) = some r := H
   have A7 := Aside0.mk A70
   clear A70
   replace H := Option.bind_eq_some_iff.mp H
   obtain ⟨⟨t106, t107⟩, A80, H⟩ := H
   replace H : ((minuetlaw0_Num.f t103).bind fun t110 => (if t110 = 0 then ((minuetlaw0_Num.f t105).bind fun t111 => (minuetlaw4_ComposeDoes.j0 k a0 l1 l2 t104 t106 t107 (t111 != 0))) else (minuetlaw4_ComposeDoes.j0 k a0 l1 l2 t104 t106 t107 true))) = some r := H
   have A8 := Aside0.mk A80
   clear A80
   have HC9 := Aside0.mk H
   clear H
   go_enter Try.func9, Try.ntmps9
   go_upto_region 6 with (first | ((with_reducible refine gate_callee (f := 28) rfl ?_); refine goesL_ (some 15) rfl rfl Try.func28 (by kernel_rfl) rfl #[] rfl (by (try simp only [List.map_toArray, List.map_cons, List.map_nil]); first | done | rfl | (simp only [List.length_drop, List.length_take]; rfl)) ?_; (with_reducible refine (minuetlaw4_awake.calls k  true _ A4.out).mono ?_); rintro e w10 ⟨rfl, hb⟩; refine ⟨_, rfl, ?_⟩; have n0_ := Aside0.mk (below_step (by repeat (first | (with_reducible first | exact HB.out | apply below_alloc | apply pw_below_drewN | apply below_drew1) | exact HB.out)) hb); clear HB; have HB := n0_; clear n0_; (try clear hb); (try clear hb2); (try clear hk); (try clear hi)) | ((with_reducible refine gate_callee (f := 22) rfl ?_); refine goesL_ (some 20) rfl rfl Try.func22 (by kernel_rfl) rfl #[.string a0, .slice A1 l1.length c1] rfl (by (try simp only [List.map_toArray, List.map_cons, List.map_nil]); first | done | rfl | (simp only [List.length_drop, List.length_take]; rfl)) ?_; (with_reducible refine (apply_Apply.calls k a0 _ _ l1 t102 t103 _ ?side1 ?side2 A6.out).mono ?_); (case side1 => repeat (first | exact (Kd.C_below HR1.out HB.out) | (with_reducible refine Kd.C_alloc ?_ _) | (with_reducible refine Kd.C_drewN ?_ _) | (with_reducible refine Kd.C_drew ?_))); (case side2 => exact HC1.out); rintro e w11 ⟨rfl, hb⟩; refine ⟨_, rfl, ?_⟩; have n0_ := Aside0.mk (below_step (by repeat (first | (with_reducible first | exact HB.out | apply below_alloc | apply pw_below_drewN | apply below_drew1) | exact HB.out)) hb); clear HB; have HB := n0_; clear n0_; (try clear hb); (try clear hb2); (try clear hk); (try clear hi)) | ((with_reducible refine gate_callee (f := 22) rfl ?_); refine goesL_ (some 26) rfl rfl Try.func22 (by kernel_rfl) rfl #[.string t102, .slice A2 l2.length c2] rfl (by (try simp only [List.map_toArray, List.map_cons, List.map_nil]); first | done | rfl | (simp only [List.length_drop, List.length_take]; rfl)) ?_; (with_reducible refine (apply_Apply.calls k t102 _ _ l2 t104 t105 _ ?side1 ?side2 A7.out).mono ?_); (case side1 => repeat (first | exact (Kd.C_below HR2.out HB.out) | (with_reducible refine Kd.C_alloc ?_ _) | (with_reducible refine Kd.C_drewN ?_ _) | (with_reducible refine Kd.C_drew ?_))); (case side2 => exact HC2.out); rintro e w12 ⟨rfl, hb⟩; refine ⟨_, rfl, ?_⟩; have n0_ := Aside0.mk (below_step (by repeat (first | (with_reducible first | exact HB.out | apply below_alloc | apply pw_below_drewN | apply below_drew1) | exact HB.out)) hb); clear HB; have HB := n0_; clear n0_; (try clear hb); (try clear hb2); (try clear hk); (try clear hi)) | ((with_reducible refine gate_callee (f := 24) rfl ?_); refine goesL_ (some 32) rfl rfl Try.func24 (by kernel_rfl) rfl #[.slice A1 l1.length c1, .slice A2 l2.length c2] rfl (by (try simp only [List.map_toArray, List.map_cons, List.map_nil]); first | done | rfl | (simp only [List.length_drop, List.length_take]; rfl)) ?_; (with_reducible refine (compose_Compose.calls k _ _ l1 _ _ l2 t106 t107 _ ?side1 ?side2 ?side3 ?side4 A8.out).mono ?_); (case side1 => repeat (first | exact (Kd.C_below HR1.out HB.out) | (with_reducible refine Kd.C_alloc ?_ _) | (with_reducible refine Kd.C_drewN ?_ _) | (with_reducible refine Kd.C_drew ?_))); (case side2 => exact HC1.out); (case side3 => repeat (first | exact (Kd.C_below HR2.out HB.out) | (with_reducible refine Kd.C_alloc ?_ _) | (with_reducible refine Kd.C_drewN ?_ _) | (with_reducible refine Kd.C_drew ?_))); (case side4 => exact HC2.out); rintro e w13 ⟨v108, rfl, ho0, hb⟩; refine ⟨_, rfl, ?_⟩; have n0_ := Aside0.mk (Kd.R_lower ho0 (below_size (by repeat (first | (with_reducible first | exact HB.out | apply below_alloc | apply pw_below_drewN | apply below_drew1) | exact HB.out)))); have n1_ := Aside0.mk (below_step (by repeat (first | (with_reducible first | exact HB.out | apply below_alloc | apply pw_below_drewN | apply below_drew1) | exact HB.out)) hb); clear HB; have HO109 := n0_; have HB := n1_; clear n0_ n1_; (try clear hb); (try clear hb2); (try clear hk); (try clear hi); (try clear ho0)))
   (try simp only [Act.put, List.setIfInBounds_toArray, List.set_cons_zero, List.set_cons_succ])
   go_cut [42] (fun v42 wc => ∃ (kq : Nat) (x42_8 : Bool), v42 = .bool x42_8 ∧ Aside0 (minuetlaw4_ComposeDoes.j0 kq a0 l1 l2 t104 t106 t107 x42_8 = some r) ∧ Aside0 (kq ≤ k) ∧ Aside0 (Kd.R k31 31 wc w.heap.size (fun _ => True) v108 t106) ∧ Aside0 (Below w.heap.size w wc))
   case first =>
    have H := HC9.out
    clear HC9
    replace H := Option.bind_eq_some_iff.mp H
    obtain ⟨t110, A140, H⟩ := H
    replace H : (if t110 = 0 then ((minuetlaw0_Num.f t105).bind fun t111 => (minuetlaw4_ComposeDoes.j0 k a0 l1 l2 t104 t106 t107 (t111 != 0))) else (minuetlaw4_ComposeDoes.j0 k a0 l1 l2 t104 t106 t107 true)) = some r := H
    have A14 := Aside0.mk A140
    clear A140
    by_cases c15 : t110 = 0
    · rw [if_pos c15] at H
      have c15b0 : (t110 == 0) = true := beq_iff_eq.mpr c15
      have c15b1 : (t110 != 0) = false := bne_eq_false_iff_eq.mpr c15
      clear c15
      (first | rw [c15b0] | (simp only [i64_w, i32_w]; rw [c15b0]) | skip)
      replace H := Option.bind_eq_some_iff.mp H
      obtain ⟨t111, A160, H⟩ := H
      replace H : (minuetlaw4_ComposeDoes.j0 k a0 l1 l2 t104 t106 t107 (t111 != 0)) = some r := H
      have A16 := Aside0.mk A160
      clear A160
      have H' := Aside0.mk H
      clear H
      go_wp2_with (first | ((with_reducible refine gate_callee (f := 15) rfl ?_); refine goesL_ (some 36) rfl rfl Try.func15 (by kernel_rfl) rfl #[.int .i64 t103] rfl (by (try simp only [List.map_toArray, List.map_cons, List.map_nil]); first | done | rfl | (simp only [List.length_drop, List.length_take]; rfl)) ?_; (with_reducible refine (minuetlaw0_Num.calls t103 t110 _ A14.out).mono ?_); rintro e w' ⟨rfl, ⟨nd, rfl⟩⟩; refine ⟨_, rfl, ?_⟩) | (go_at_call 15; (with_reducible refine (minuetlaw0_Num.calls t105 t111 _ A16.out).mono ?_); rintro e w' ⟨rfl, ⟨nd, rfl⟩⟩))
      go_meet
      case rel => exact ⟨_, ((t111 != 0)), (by first | rfl | (simp; done) | (simp [*]; done)), H', ⟨by first | omega | exact Nat.le_refl _⟩, ⟨by (with_reducible repeat (first | apply Kd.R_alloc | apply Kd.R_drewN | apply Kd.R_drew)); exact HO109.out⟩, ⟨by repeat (first | (with_reducible first | exact HB.out | apply below_alloc | apply pw_below_drewN | apply below_drew1) | exact HB.out)⟩⟩
    · rw [if_neg c15] at H
      have c15b0 : (t110 == 0) = false := beq_eq_false_iff_ne.mpr c15
      have c15b1 : (t110 != 0) = true := bne_iff_ne.mpr c15
      (first | rw [c15b0] | (simp only [i64_w, i32_w]; rw [c15b0]) | skip)
      have H' := Aside0.mk H
      clear H
      go_wp2_with (first | ((with_reducible refine gate_callee (f := 15) rfl ?_); refine goesL_ (some 36) rfl rfl Try.func15 (by kernel_rfl) rfl #[.int .i64 t103] rfl (by (try simp only [List.map_toArray, List.map_cons, List.map_nil]); first | done | rfl | (simp only [List.length_drop, List.length_take]; rfl)) ?_; (with_reducible refine (minuetlaw0_Num.calls t103 t110 _ A14.out).mono ?_); rintro e w' ⟨rfl, ⟨nd, rfl⟩⟩; refine ⟨_, rfl, ?_⟩))
      go_meet
      case rel => exact ⟨_, (true), (by first | rfl | (simp; done) | (simp [*]; done)), H', ⟨by first | omega | exact Nat.le_refl _⟩, ⟨by (with_reducible repeat (first | apply Kd.R_alloc | apply Kd.R_drewN | apply Kd.R_drew)); exact HO109.out⟩, ⟨by repeat (first | (with_reducible first | exact HB.out | apply below_alloc | apply pw_below_drewN | apply below_drew1) | exact HB.out)⟩⟩
   case rest =>
    clear HC9
    try clear c1
    try clear c2
    try clear p2
    try clear c5
    try clear c9
    try clear c15
    try clear c15b0
    try clear c15b1
    obtain ⟨kq, x42_8, rfl, HA, HJ8, HO_11, HB⟩ := hcut
    cases kq with
    | zero => exact absurd HA.out (by simp [minuetlaw4_ComposeDoes.j0])
    | succ kj8 =>
     have H := HA.out
     clear HA
     simp only [minuetlaw4_ComposeDoes.j0] at H
     by_cases c17 : x42_8 = true
     · subst c17
       have H1 : (some true) = some r := by rw [if_pos rfl] at H; exact H
       clear H
       have H := H1
       clear H1
       obtain rfl := Option.some.inj H
       go_wp2
       go_ret
       exact ⟨by first | rfl | (simp [errW_none, errW_some] <;> rfl) | (simp [*, errW_none, errW_some] <;> rfl), by repeat (first | (with_reducible first | exact HB.out | apply below_alloc | apply pw_below_drewN | apply below_drew1) | exact HB.out)⟩
     · replace c17 := Bool.eq_false_iff.mpr c17
       subst c17
       have H1 : ((apply_Apply.f kj8 a0 t106).bind fun bt112 => (if (wrap64 ((wrap64 ((l1.length : Int) + (l2.length : Int))) + (a0.size : Int))) > 1000 then ((minuetlaw0_Num.f t107).bind fun t114 => (minuetlaw4_ComposeDoes.j1 kj8 t104 t106 t107 bt112.1 bt112.2 (t114 == 400))) else (minuetlaw4_ComposeDoes.j1 kj8 t104 t106 t107 bt112.1 bt112.2 false))) = some r := by rw [if_neg (show ¬ (false = true) by decide)] at H; exact H
       clear H
       have H := H1
       clear H1
       replace H := Option.bind_eq_some_iff.mp H
       obtain ⟨⟨t112, t113⟩, A180, H⟩ := H
       replace H : (if (wrap64 ((wrap64 ((l1.length : Int) + (l2.length : Int))) + (a0.size : Int))) > 1000 then ((minuetlaw0_Num.f t107).bind fun t114 => (minuetlaw4_ComposeDoes.j1 kj8 t104 t106 t107 t112 t113 (t114 == 400))) else (minuetlaw4_ComposeDoes.j1 kj8 t104 t106 t107 t112 t113 false)) = some r := H
       have A18 := Aside0.mk A180
       clear A180
       have HC19 := Aside0.mk H
       clear H
       obtain ⟨Ao20, co20, eo20⟩ := Kd.R_slice HO_11.out
       subst eo20
       go_upto_region 9 with (first | ((with_reducible refine gate_callee (f := 22) rfl ?_); refine goesL_ (some 46) rfl rfl Try.func22 (by kernel_rfl) rfl #[.string a0, .slice Ao20 t106.length co20] rfl (by (try simp only [List.map_toArray, List.map_cons, List.map_nil]); first | done | rfl | (simp only [List.length_drop, List.length_take]; rfl)) ?_; (with_reducible refine (apply_Apply.calls kj8 a0 _ _ t106 t112 t113 _ ?side1 ?side2 A18.out).mono ?_); (case side1 => repeat (first | exact (Kd.R_reads' HO_11.out).2.2 | (with_reducible refine Kd.C_alloc ?_ _) | (with_reducible refine Kd.C_drewN ?_ _) | (with_reducible refine Kd.C_drew ?_))); (case side2 => exact (Kd.R_reads' HO_11.out).2.1); rintro e w21 ⟨rfl, hb⟩; refine ⟨_, rfl, ?_⟩; have n0_ := Aside0.mk (Kd.R_below (by (with_reducible repeat (first | apply Kd.R_alloc | apply Kd.R_drewN | apply Kd.R_drew)); exact HO_11.out) hb); have n1_ := Aside0.mk (below_step (by repeat (first | (with_reducible first | exact HB.out | apply below_alloc | apply pw_below_drewN | apply below_drew1) | exact HB.out)) hb); clear HO_11; clear HB; have HO_11 := n0_; have HB := n1_; clear n0_ n1_; (try clear hb); (try clear hb2); (try clear hk); (try clear hi)))
       (try simp only [Act.put, List.setIfInBounds_toArray, List.set_cons_zero, List.set_cons_succ])
       go_cut [62] (fun v62 wc => ∃ (kq : Nat) (x62_18 : Bool), v62 = .bool x62_18 ∧ Aside0 (minuetlaw4_ComposeDoes.j1 kq t104 t106 t107 t112 t113 x62_18 = some r) ∧ Aside0 (kq ≤ kj8) ∧ Aside0 (Kd.R k31 31 wc w.heap.size (fun _ => True) (.slice Ao20 t106.length co20) t106) ∧ Aside0 (Below w.heap.size w wc))
       case first =>
        have H := HC19.out
        clear HC19
        by_cases c22 : (wrap64 ((wrap64 ((l1.length : Int) + (l2.length : Int))) + (a0.size : Int))) > 1000
        · rw [if_pos c22] at H
          have c22b0 : decide (1000 < (wrap64 ((wrap64 ((l1.length : Int) + (l2.length : Int))) + (a0.size : Int)))) = true := decide_eq_true c22
          clear c22
          (first | rw [c22b0] | (simp only [i64_w, i32_w]; rw [c22b0]) | skip)
          replace H := Option.bind_eq_some_iff.mp H
          obtain ⟨t114, A230, H⟩ := H
          replace H : (minuetlaw4_ComposeDoes.j1 kj8 t104 t106 t107 t112 t113 (t114 == 400)) = some r := H
          have A23 := Aside0.mk A230
          clear A230
          have H' := Aside0.mk H
          clear H
          go_wp2_with (first | (go_at_call 15; (with_reducible refine (minuetlaw0_Num.calls t107 t114 _ A23.out).mono ?_); rintro e w' ⟨rfl, ⟨nd, rfl⟩⟩))
          go_meet
          case rel => exact ⟨_, ((t114 == 400)), (by first | rfl | (simp; done) | (simp [*]; done)), H', ⟨by have := HJ8.out; first | omega | exact Nat.le_refl _⟩, ⟨by (with_reducible repeat (first | apply Kd.R_alloc | apply Kd.R_drewN | apply Kd.R_drew)); exact HO_11.out⟩, ⟨by repeat (first | (with_reducible first | exact HB.out | apply below_alloc | apply pw_below_drewN | apply below_drew1) | exact HB.out)⟩⟩
        · rw [if_neg c22] at H
          have c22b0 : decide (1000 < (wrap64 ((wrap64 ((l1.length : Int) + (l2.length : Int))) + (a0.size : Int)))) = false := decide_eq_false c22
          clear c22
          (first | rw [c22b0] | (simp only [i64_w, i32_w]; rw [c22b0]) | skip)
          have H' := Aside0.mk H
          clear H
          go_wp2
          go_meet
          case rel => exact ⟨_, (false), (by first | rfl | (simp; done) | (simp [*]; done)), H', ⟨by have := HJ8.out; first | omega | exact Nat.le_refl _⟩, ⟨by (with_reducible repeat (first | apply Kd.R_alloc | apply Kd.R_drewN | apply Kd.R_drew)); exact HO_11.out⟩, ⟨by repeat (first | (with_reducible first | exact HB.out | apply below_alloc | apply pw_below_drewN | apply below_drew1) | exact HB.out)⟩⟩
       case rest =>
        clear HC19
        try clear c1
        try clear c2
        try clear p2
        try clear c5
        try clear p6
        try clear c9
        try clear c15
        try clear c15b0
        try clear c15b1
        try clear c17
        try clear c22
        try clear c22b0
        try clear p2
        obtain ⟨kq, x62_18, rfl, HA, HJ18, HO_11, HB⟩ := hcut
        cases kq with
        | zero => exact absurd HA.out (by simp [minuetlaw4_ComposeDoes.j1])
        | succ kj18 =>
         have H := HA.out
         clear HA
         simp only [minuetlaw4_ComposeDoes.j1] at H
         by_cases c24 : x62_18 = true
         · subst c24
           have H1 : (some true) = some r := by rw [if_pos rfl] at H; exact H
           clear H
           have H := H1
           clear H1
           obtain rfl := Option.some.inj H
           go_wp2
           go_ret
           exact ⟨by first | rfl | (simp [errW_none, errW_some] <;> rfl) | (simp [*, errW_none, errW_some] <;> rfl), by repeat (first | (with_reducible first | exact HB.out | apply below_alloc | apply pw_below_drewN | apply below_drew1) | exact HB.out)⟩
         · replace c24 := Bool.eq_false_iff.mpr c24
           subst c24
           have H1 : ((minuetlaw0_Num.f t107).bind fun t115 => (if t115 = 0 then ((minuetlaw0_Num.f t113).bind fun t116 => (if t116 = 0 then (if t104.toList = t112.toList then ((minuetref1_CompsMay.f kj18 t106).bind fun t117 => (some t117)) else (none)) else (none))) else (none))) = some r := by rw [if_neg (show ¬ (false = true) by decide)] at H; exact H
           clear H
           have H := H1
           clear H1
           replace H := Option.bind_eq_some_iff.mp H
           obtain ⟨t115, A250, H⟩ := H
           replace H : (if t115 = 0 then ((minuetlaw0_Num.f t113).bind fun t116 => (if t116 = 0 then (if t104.toList = t112.toList then ((minuetref1_CompsMay.f kj18 t106).bind fun t117 => (some t117)) else (none)) else (none))) else (none)) = some r := H
           have A25 := Aside0.mk A250
           clear A250
           by_cases c26 : t115 = 0
           · rw [if_pos c26] at H
             have c26b0 : (t115 == 0) = true := beq_iff_eq.mpr c26
             have c26b1 : (t115 != 0) = false := bne_eq_false_iff_eq.mpr c26
             clear c26
             replace H := Option.bind_eq_some_iff.mp H
             obtain ⟨t116, A270, H⟩ := H
             replace H : (if t116 = 0 then (if t104.toList = t112.toList then ((minuetref1_CompsMay.f kj18 t106).bind fun t117 => (some t117)) else (none)) else (none)) = some r := H
             have A27 := Aside0.mk A270
             clear A270
             by_cases c28 : t116 = 0
             · rw [if_pos c28] at H
               have c28b0 : (t116 == 0) = true := beq_iff_eq.mpr c28
               have c28b1 : (t116 != 0) = false := bne_eq_false_iff_eq.mpr c28
               clear c28
               by_cases c29 : t104.toList = t112.toList
               · rw [if_pos c29] at H
                 have c29b0 : (t104.toList == t112.toList) = true := beq_iff_eq.mpr c29
                 have c29b1 : (t104.toList != t112.toList) = false := bne_eq_false_iff_eq.mpr c29
                 clear c29
                 replace H := Option.bind_eq_some_iff.mp H
                 obtain ⟨t117, A300, H⟩ := H
                 replace H : (some t117) = some r := H
                 have A30 := Aside0.mk A300
                 clear A300
                 obtain rfl := Option.some.inj H
                 go_wp2_with (first | ((with_reducible refine gate_callee (f := 15) rfl ?_); refine goesL_ (some 64) rfl rfl Try.func15 (by kernel_rfl) rfl #[.int .i64 t107] rfl (by (try simp only [List.map_toArray, List.map_cons, List.map_nil]); first | done | rfl | (simp only [List.length_drop, List.length_take]; rfl)) ?_; (with_reducible refine (minuetlaw0_Num.calls t107 t115 _ A25.out).mono ?_); rintro e w' ⟨rfl, ⟨nd, rfl⟩⟩; refine ⟨_, rfl, ?_⟩) | (go_at_call 15; (with_reducible refine (minuetlaw0_Num.calls t113 t116 _ A27.out).mono ?_); rintro e w' ⟨rfl, ⟨nd, rfl⟩⟩) | (go_at_call 31; (with_reducible refine (minuetref1_CompsMay.calls kj18 _ _ t106 t117 _ ?side1 ?side2 A30.out).mono ?_); (case side1 => repeat (first | exact (Kd.R_reads' HO_11.out).2.2 | (with_reducible refine Kd.C_alloc ?_ _) | (with_reducible refine Kd.C_drewN ?_ _) | (with_reducible refine Kd.C_drew ?_))); (case side2 => exact (Kd.R_reads' HO_11.out).2.1); rintro e w31 ⟨rfl, hb⟩; have n0_ := Aside0.mk (Kd.R_below (by (with_reducible repeat (first | apply Kd.R_alloc | apply Kd.R_drewN | apply Kd.R_drew)); exact HO_11.out) hb); have n1_ := Aside0.mk (below_step (by repeat (first | (with_reducible first | exact HB.out | apply below_alloc | apply pw_below_drewN | apply below_drew1) | exact HB.out)) hb); clear HO_11; clear HB; have HO_11 := n0_; have HB := n1_; clear n0_ n1_; (try clear hb); (try clear hb2); (try clear hk); (try clear hi)))
                 go_ret
                 exact ⟨by first | rfl | (simp [errW_none, errW_some] <;> rfl) | (simp [*, errW_none, errW_some] <;> rfl), by repeat (first | (with_reducible first | exact HB.out | apply below_alloc | apply pw_below_drewN | apply below_drew1) | exact HB.out)⟩
               · rw [if_neg c29] at H
                 exact absurd H (by simp)
             · rw [if_neg c28] at H
               exact absurd H (by simp)
           · rw [if_neg c26] at H
             exact absurd H (by simp)
 · replace c5 := Bool.eq_false_iff.mpr c5
   subst c5
   have H1 : (none) = some r := by rw [if_neg (show ¬ (false = true) by decide)] at H; exact H
   clear H
   have H := H1
   clear H1
   exact absurd H (by simp)

end Go.Proofs.Ytldaokclpkcmmaa.G
