-- Laid by this session's own program gprint.py (wip/tools), out of the kit's print and of texts of this session. Lean checks it.
import Derived.Test.YtldaokclpkcmmaaGx0
import Derived.Test.YtldaokclpkcmmaaGZ3
import Derived.Test.YtldaokclpkcmmaaGZ5
import Derived.Test.YtldaokclpkcmmaaGComposePCompose
import Derived.Test.YtldaokclpkcmmaaGMinuetref1PCompose
import Derived.Test.YtldaokclpkcmmaaGMinuetlaw0PSpoilComps
import Derived.Test.YtldaokclpkcmmaaGMinuetlaw4qawake
namespace Go.Proofs.Ytldaokclpkcmmaa.G
open Go.RowKit Go.Proofs.YtldaokclpkcmmaaW.PrintWords Go.Proofs.YtldaokclpkcmmaaW.PrintLast Go.Proofs.YtldaokclpkcmmaaW.PrintMore
attribute [local go_sem] max2_int min2_int max_two min_two max_three min_three max_four min_four   -- for this text's walks alone
set_option linter.unusedVariables false
set_option linter.unusedSimpArgs false

/-! ### minuetlaw4_Composes: function 6 -/
def minuetlaw4_Composes.j0 : Nat → List (S31) → List (S31) → List (S31) → List (S31) → List (S31) → Bool → Option (Bool)
 | 0, _, _, _, _, _, _ => none
 | k + 1, x0, x1, x5, x6, x7, x36 => if x36 = true then (none) else ((minuetlaw0_SpoilComps.f k x7).bind fun t117 => ((minuetlaw0_KeptComps.f k x5 x0).bind fun t118 => (if t118 = true then ((minuetlaw0_KeptComps.f k x6 x1).bind fun t119 => (if t119 = true then ((minuetlaw4_awake.f k).bind fun t120 => (some t120)) else (none))) else (none))))
def minuetlaw4_Composes.f (k : Nat) (l0 : List (S31)) (l1 : List (S31)) : Option (Bool) := (minuetlaw0_LendComps.f l0).bind fun t101 => ((minuetlaw0_LendComps.f l1).bind fun t104 => ((compose_Compose.f k t101 t104).bind fun bt107 => ((minuetref1_Compose.f k l0 l1).bind fun bt111 => ((minuetlaw0_SameComps.f k bt107.1 bt111.1).bind fun t115 => (if t115 = true then ((minuetlaw0_Num.f bt107.2).bind fun t116 => (minuetlaw4_Composes.j0 k l0 l1 t101 t104 bt107.1 (t116 != bt111.2))) else (minuetlaw4_Composes.j0 k l0 l1 t101 t104 bt107.1 true))))))
theorem minuetlaw4_Composes.mono_l : ∀ k, (∀ y0 y1 y2 y3 y4 y5, LeO (minuetlaw4_Composes.j0 k y0 y1 y2 y3 y4 y5) (minuetlaw4_Composes.j0 (k + 1) y0 y1 y2 y3 y4 y5))
 | 0 => fun _ _ _ _ _ _ r h => by simp [minuetlaw4_Composes.j0] at h
 | k + 1 => by
  have ih0 := minuetlaw4_Composes.mono_l k
  · intro y0 y1 y2 y3 y4 y5
    unfold minuetlaw4_Composes.j0
    repeat' first
    | (with_reducible exact ih0 _ _ _ _ _ _)
    | (with_reducible exact compose_Compose.mono _ _ _)
    | (with_reducible exact minuetlaw0_KeptComps.mono _ _ _)
    | (with_reducible exact minuetlaw0_SameComps.mono _ _ _)
    | (with_reducible exact minuetlaw0_SpoilComps.mono _ _)
    | (with_reducible exact minuetlaw4_awake.mono _)
    | (with_reducible exact minuetref1_Compose.mono _ _ _)
    | (with_reducible exact LeO.refl _)
    | (with_reducible exact LeO.none _)
    | (with_reducible refine LeO.ite ?_ ?_)
    | (with_reducible refine LeO.bind ?_ (fun _ => ?_))
    | exact ih0 _ _ _ _ _ _
    | exact compose_Compose.mono _ _ _
    | exact minuetlaw0_KeptComps.mono _ _ _
    | exact minuetlaw0_SameComps.mono _ _ _
    | exact minuetlaw0_SpoilComps.mono _ _
    | exact minuetlaw4_awake.mono _
    | exact minuetref1_Compose.mono _ _ _
    | exact LeO.none _
    | refine LeO.ite ?_ ?_
    | refine LeO.bind ?_ (fun _ => ?_)
theorem minuetlaw4_Composes.mono : ∀ a0 a1 k, LeO (minuetlaw4_Composes.f k a0 a1) (minuetlaw4_Composes.f (k + 1) a0 a1) := by
 intro a0 a1 k
 have ih0 := minuetlaw4_Composes.mono_l k
 unfold minuetlaw4_Composes.f
 repeat' first
  | (with_reducible exact ih0 _ _ _ _ _ _)
  | (with_reducible exact compose_Compose.mono _ _ _)
  | (with_reducible exact minuetlaw0_KeptComps.mono _ _ _)
  | (with_reducible exact minuetlaw0_SameComps.mono _ _ _)
  | (with_reducible exact minuetlaw0_SpoilComps.mono _ _)
  | (with_reducible exact minuetlaw4_awake.mono _)
  | (with_reducible exact minuetref1_Compose.mono _ _ _)
  | (with_reducible exact LeO.refl _)
  | (with_reducible exact LeO.none _)
  | (with_reducible refine LeO.ite ?_ ?_)
  | (with_reducible refine LeO.bind ?_ (fun _ => ?_))
  | exact ih0 _ _ _ _ _ _
  | exact compose_Compose.mono _ _ _
  | exact minuetlaw0_KeptComps.mono _ _ _
  | exact minuetlaw0_SameComps.mono _ _ _
  | exact minuetlaw0_SpoilComps.mono _ _
  | exact minuetlaw4_awake.mono _
  | exact minuetref1_Compose.mono _ _ _
  | exact LeO.none _
  | refine LeO.ite ?_ ?_
  | refine LeO.bind ?_ (fun _ => ?_)
set_option maxHeartbeats 8000000 in
set_option maxRecDepth 100000 in
theorem minuetlaw4_Composes.calls (k : Nat) (A0 : Option Addr) (c0 : Nat) (l0 : List (S31)) (A1 : Option Addr) (c1 : Nat) (l1 : List (S31)) (r : Bool) (w : World) (hr0 : Kd.C k31 w A0 l0.length l0) (hc0 : l0.length ≤ c0) (hr1 : Kd.C k31 w A1 l1.length l1) (hc1 : l1.length ≤ c1) (h : minuetlaw4_Composes.f k l0 l1 = some r) :
 Calls Try.prog 6 #[.slice A0 l0.length c0, .slice A1 l1.length c1] w fun e w' => e = .returned (.bool r) ∧ Below w.heap.size w w' := by
 have HR0 := Aside0.mk hr0
 have HC0 := Aside0.mk hc0
 clear hr0 hc0
 have HR1 := Aside0.mk hr1
 have HC1 := Aside0.mk hc1
 clear hr1 hc1
 have HB := Aside0.mk (Below.refl w.heap.size w)
 have H : ((minuetlaw0_LendComps.f l0).bind fun t101 => ((minuetlaw0_LendComps.f l1).bind fun t104 => ((compose_Compose.f k t101 t104).bind fun bt107 => ((minuetref1_Compose.f k l0 l1).bind fun bt111 => ((minuetlaw0_SameComps.f k bt107.1 bt111.1).bind fun t115 => (if t115 = true then ((minuetlaw0_Num.f bt107.2).bind fun t116 => (minuetlaw4_Composes.j0 k l0 l1 t101 t104 bt107.1 (t116 != bt111.2))) else (minuetlaw4_Composes.j0 k l0 l1 t101 t104 bt107.1 true))))))) = some r := h
 clear h
 replace H := Option.bind_eq_some_iff.mp H
 obtain ⟨t101, A30, H⟩ := H
 replace H : ((minuetlaw0_LendComps.f l1).bind fun t104 => ((compose_Compose.f k t101 t104).bind fun bt107 => ((minuetref1_Compose.f k l0 l1).bind fun bt111 => ((minuetlaw0_SameComps.f k bt107.1 bt111.1).bind fun t115 => (if t115 = true then ((minuetlaw0_Num.f bt107.2).bind fun t116 => (minuetlaw4_Composes.j0 k l0 l1 t101 t104 bt107.1 (t116 != bt111.2))) else (minuetlaw4_Composes.j0 k l0 l1 t101 t104 bt107.1 true)))))) = some r := H
 have A3 := Aside0.mk A30
 clear A30
 replace H := Option.bind_eq_some_iff.mp H
 obtain ⟨t104, A40, H⟩ := H
 replace H : ((compose_Compose.f k t101 t104).bind fun bt107 => ((minuetref1_Compose.f k l0 l1).bind fun bt111 => ((minuetlaw0_SameComps.f k bt107.1 bt111.1).bind fun t115 => (if t115 = true then ((minuetlaw0_Num.f bt107.2).bind fun t116 => (minuetlaw4_Composes.j0 k l0 l1 t101 t104 bt107.1 (t116 != bt111.2))) else (minuetlaw4_Composes.j0 k l0 l1 t101 t104 bt107.1 true))))) = some r := H
 have A4 := Aside0.mk A40
 clear A40
 replace H := Option.bind_eq_some_iff.mp H
 obtain ⟨⟨t107, t108⟩, A50, H⟩ := H
 replace H : ((minuetref1_Compose.f k l0 l1).bind fun bt111 => ((minuetlaw0_SameComps.f k t107 bt111.1).bind fun t115 => (if t115 = true then ((minuetlaw0_Num.f t108).bind fun t116 => (minuetlaw4_Composes.j0 k l0 l1 t101 t104 t107 (t116 != bt111.2))) else (minuetlaw4_Composes.j0 k l0 l1 t101 t104 t107 true)))) = some r := H
 have A5 := Aside0.mk A50
 clear A50
 replace H := Option.bind_eq_some_iff.mp H
 obtain ⟨⟨t111, t112⟩, A60, H⟩ := H
 replace H : ((minuetlaw0_SameComps.f k t107 t111).bind fun t115 => (if t115 = true then ((minuetlaw0_Num.f t108).bind fun t116 => (minuetlaw4_Composes.j0 k l0 l1 t101 t104 t107 (t116 != t112))) else (minuetlaw4_Composes.j0 k l0 l1 t101 t104 t107 true))) = some r := H
 have A6 := Aside0.mk A60
 clear A60
 have HC7 := Aside0.mk H
 clear H
 go_enter Try.func6, Try.ntmps6
 go_upto_region 4 with (first | ((with_reducible refine gate_callee (f := 23) rfl ?_); refine goesL_ (some 12) rfl rfl Try.func23 (by kernel_rfl) rfl #[.slice A0 l0.length c0] rfl (by (try simp only [List.map_toArray, List.map_cons, List.map_nil]); first | done | rfl | (simp only [List.length_drop, List.length_take]; rfl)) ?_; (with_reducible refine (minuetlaw0_LendComps.calls2 _ _ l0 t101 _ ?side1 ?side2 A3.out).mono ?_); (case side1 => repeat (first | exact HR0.out | (with_reducible refine Kd.C_alloc ?_ _) | (with_reducible refine Kd.C_drewN ?_ _) | (with_reducible refine Kd.C_drew ?_))); (case side2 => exact HC0.out); rintro e w8 ⟨v102, rfl, ho0, hlent_, hb⟩; refine ⟨_, rfl, ?_⟩; have mA103_ := Aside0.mk (minuetlaw0_KeptComps.Lent_map hlent_ (fun _ _ hM_ => (Kd.R_lower hM_ (below_size (by repeat (first | (with_reducible first | exact HB.out | apply below_alloc | apply pw_below_drewN | apply below_drew1) | exact HB.out)))))); have n0_ := Aside0.mk (Kd.R_lower ho0 (below_size (by repeat (first | (with_reducible first | exact HB.out | apply below_alloc | apply pw_below_drewN | apply below_drew1) | exact HB.out)))); have n1_ := Aside0.mk (below_step (by repeat (first | (with_reducible first | exact HB.out | apply below_alloc | apply pw_below_drewN | apply below_drew1) | exact HB.out)) hb); clear HB; have HO103 := n0_; have HM103 := mA103_; clear mA103_; have HB := n1_; clear n0_ n1_; (try clear hb); (try clear hb2); (try clear hk); (try clear hi); (try clear ho0); (try clear hlent_)) | ((with_reducible refine gate_callee (f := 23) rfl ?_); refine goesL_ (some 14) rfl rfl Try.func23 (by kernel_rfl) rfl #[.slice A1 l1.length c1] rfl (by (try simp only [List.map_toArray, List.map_cons, List.map_nil]); first | done | rfl | (simp only [List.length_drop, List.length_take]; rfl)) ?_; (with_reducible refine (minuetlaw0_LendComps.calls2 _ _ l1 t104 _ ?side1 ?side2 A4.out).mono ?_); (case side1 => repeat (first | exact (Kd.C_below HR1.out HB.out) | (with_reducible refine Kd.C_alloc ?_ _) | (with_reducible refine Kd.C_drewN ?_ _) | (with_reducible refine Kd.C_drew ?_))); (case side2 => exact HC1.out); rintro e w9 ⟨v105, rfl, ho0, hlent_, hb⟩; refine ⟨_, rfl, ?_⟩; have mA103_ := Aside0.mk (minuetlaw0_KeptComps.Lent_map HM103.out (fun _ _ hM_ => (Kd.R_elder' (by (with_reducible repeat (first | apply Kd.R_alloc | apply Kd.R_drewN | apply Kd.R_drew)); exact hM_) (Kd.R_base ho0) hb))); have n0_ := Aside0.mk (Kd.R_elder' (by (with_reducible repeat (first | apply Kd.R_alloc | apply Kd.R_drewN | apply Kd.R_drew)); exact HO103.out) (Kd.R_base ho0) hb); have mA106_ := Aside0.mk (minuetlaw0_KeptComps.Lent_map hlent_ (fun _ _ hM_ => (Kd.R_lower (Kd.R_new' hM_ (Kd.R_lt (by (with_reducible repeat (first | apply Kd.R_alloc | apply Kd.R_drewN | apply Kd.R_drew)); exact HO103.out))) (below_size (by repeat (first | (with_reducible first | exact HB.out | apply below_alloc | apply pw_below_drewN | apply below_drew1) | exact HB.out)))))); have n1_ := Aside0.mk (Kd.R_lower (Kd.R_new' ho0 (Kd.R_lt (by (with_reducible repeat (first | apply Kd.R_alloc | apply Kd.R_drewN | apply Kd.R_drew)); exact HO103.out))) (below_size (by repeat (first | (with_reducible first | exact HB.out | apply below_alloc | apply pw_below_drewN | apply below_drew1) | exact HB.out)))); have n2_ := Aside0.mk (below_step (by repeat (first | (with_reducible first | exact HB.out | apply below_alloc | apply pw_below_drewN | apply below_drew1) | exact HB.out)) hb); clear HO103; clear HM103; clear HB; have HO103 := n0_; have HM103 := mA103_; clear mA103_; have HO106 := n1_; have HM106 := mA106_; clear mA106_; have HB := n2_; clear n0_ n1_ n2_; (try clear hb); (try clear hb2); (try clear hk); (try clear hi); (try clear ho0); (try clear hlent_); obtain ⟨Ao10, co10, eo10⟩ := Kd.R_slice HO103.out; subst eo10; have HN_ := Aside0.mk (minuetlaw0_KeptComps.Lent_R HM103.out); clear HM103; have HM103 := HN_; clear HN_; obtain ⟨Ao11, co11, eo11⟩ := Kd.R_slice HO106.out; subst eo11; have HN_ := Aside0.mk (minuetlaw0_KeptComps.Lent_R HM106.out); clear HM106; have HM106 := HN_; clear HN_) | ((with_reducible refine gate_callee (f := 24) rfl ?_); refine goesL_ (some 18) rfl rfl Try.func24 (by kernel_rfl) rfl #[.slice Ao10 t101.length co10, .slice Ao11 t104.length co11] rfl (by (try simp only [List.map_toArray, List.map_cons, List.map_nil]); first | done | rfl | (simp only [List.length_drop, List.length_take]; rfl)) ?_; (with_reducible refine (compose_Compose.calls k _ _ t101 _ _ t104 t107 t108 _ ?side1 ?side2 ?side3 ?side4 A5.out).mono ?_); (case side1 => repeat (first | exact (Kd.R_reads' HO103.out).2.2 | (with_reducible refine Kd.C_alloc ?_ _) | (with_reducible refine Kd.C_drewN ?_ _) | (with_reducible refine Kd.C_drew ?_))); (case side2 => exact (Kd.R_reads' HO103.out).2.1); (case side3 => repeat (first | exact (Kd.R_reads' HO106.out).2.2 | (with_reducible refine Kd.C_alloc ?_ _) | (with_reducible refine Kd.C_drewN ?_ _) | (with_reducible refine Kd.C_drew ?_))); (case side4 => exact (Kd.R_reads' HO106.out).2.1); rintro e w12 ⟨v109, rfl, ho0, hb⟩; refine ⟨_, rfl, ?_⟩; have mA103_ := Aside0.mk (Kd.R_elder' (by (with_reducible repeat (first | apply Kd.R_alloc | apply Kd.R_drewN | apply Kd.R_drew)); exact HM103.out) (Kd.R_base ho0) hb); have n0_ := Aside0.mk (Kd.R_elder' (by (with_reducible repeat (first | apply Kd.R_alloc | apply Kd.R_drewN | apply Kd.R_drew)); exact HO103.out) (Kd.R_base ho0) hb); have mA106_ := Aside0.mk (Kd.R_elder' (by (with_reducible repeat (first | apply Kd.R_alloc | apply Kd.R_drewN | apply Kd.R_drew)); exact HM106.out) (Kd.R_base ho0) hb); have n1_ := Aside0.mk (Kd.R_elder' (by (with_reducible repeat (first | apply Kd.R_alloc | apply Kd.R_drewN | apply Kd.R_drew)); exact HO106.out) (Kd.R_base ho0) hb); have n2_ := Aside0.mk (Kd.R_lower (Kd.R_new' (Kd.R_new' ho0 (Kd.R_lt (by (with_reducible repeat (first | apply Kd.R_alloc | apply Kd.R_drewN | apply Kd.R_drew)); exact HO103.out))) (Kd.R_lt (by (with_reducible repeat (first | apply Kd.R_alloc | apply Kd.R_drewN | apply Kd.R_drew)); exact HO106.out))) (below_size (by repeat (first | (with_reducible first | exact HB.out | apply below_alloc | apply pw_below_drewN | apply below_drew1) | exact HB.out)))); have n3_ := Aside0.mk (below_step (by repeat (first | (with_reducible first | exact HB.out | apply below_alloc | apply pw_below_drewN | apply below_drew1) | exact HB.out)) hb); clear HO103; clear HM103; clear HO106; clear HM106; clear HB; have HO103 := n0_; have HM103 := mA103_; clear mA103_; have HO106 := n1_; have HM106 := mA106_; clear mA106_; have HO110 := n2_; have HB := n3_; clear n0_ n1_ n2_ n3_; (try clear hb); (try clear hb2); (try clear hk); (try clear hi); (try clear ho0)) | ((with_reducible refine gate_callee (f := 25) rfl ?_); refine goesL_ (some 24) rfl rfl Try.func25 (by kernel_rfl) rfl #[.slice A0 l0.length c0, .slice A1 l1.length c1] rfl (by (try simp only [List.map_toArray, List.map_cons, List.map_nil]); first | done | rfl | (simp only [List.length_drop, List.length_take]; rfl)) ?_; (with_reducible refine (minuetref1_Compose.calls k _ _ l0 _ _ l1 t111 t112 _ ?side1 ?side2 ?side3 ?side4 A6.out).mono ?_); (case side1 => repeat (first | exact (Kd.C_below HR0.out HB.out) | (with_reducible refine Kd.C_alloc ?_ _) | (with_reducible refine Kd.C_drewN ?_ _) | (with_reducible refine Kd.C_drew ?_))); (case side2 => exact HC0.out); (case side3 => repeat (first | exact (Kd.C_below HR1.out HB.out) | (with_reducible refine Kd.C_alloc ?_ _) | (with_reducible refine Kd.C_drewN ?_ _) | (with_reducible refine Kd.C_drew ?_))); (case side4 => exact HC1.out); rintro e w13 ⟨v113, rfl, ho0, hb⟩; refine ⟨_, rfl, ?_⟩; have mA103_ := Aside0.mk (Kd.R_elder' (by (with_reducible repeat (first | apply Kd.R_alloc | apply Kd.R_drewN | apply Kd.R_drew)); exact HM103.out) (Kd.R_base ho0) hb); have n0_ := Aside0.mk (Kd.R_elder' (by (with_reducible repeat (first | apply Kd.R_alloc | apply Kd.R_drewN | apply Kd.R_drew)); exact HO103.out) (Kd.R_base ho0) hb); have mA106_ := Aside0.mk (Kd.R_elder' (by (with_reducible repeat (first | apply Kd.R_alloc | apply Kd.R_drewN | apply Kd.R_drew)); exact HM106.out) (Kd.R_base ho0) hb); have n1_ := Aside0.mk (Kd.R_elder' (by (with_reducible repeat (first | apply Kd.R_alloc | apply Kd.R_drewN | apply Kd.R_drew)); exact HO106.out) (Kd.R_base ho0) hb); have n2_ := Aside0.mk (Kd.R_elder' (by (with_reducible repeat (first | apply Kd.R_alloc | apply Kd.R_drewN | apply Kd.R_drew)); exact HO110.out) (Kd.R_base ho0) hb); have n3_ := Aside0.mk (Kd.R_lower (Kd.R_new' (Kd.R_new' (Kd.R_new' ho0 (Kd.R_lt (by (with_reducible repeat (first | apply Kd.R_alloc | apply Kd.R_drewN | apply Kd.R_drew)); exact HO103.out))) (Kd.R_lt (by (with_reducible repeat (first | apply Kd.R_alloc | apply Kd.R_drewN | apply Kd.R_drew)); exact HO106.out))) (Kd.R_lt (by (with_reducible repeat (first | apply Kd.R_alloc | apply Kd.R_drewN | apply Kd.R_drew)); exact HO110.out))) (below_size (by repeat (first | (with_reducible first | exact HB.out | apply below_alloc | apply pw_below_drewN | apply below_drew1) | exact HB.out)))); have n4_ := Aside0.mk (below_step (by repeat (first | (with_reducible first | exact HB.out | apply below_alloc | apply pw_below_drewN | apply below_drew1) | exact HB.out)) hb); clear HO103; clear HM103; clear HO106; clear HM106; clear HO110; clear HB; have HO103 := n0_; have HM103 := mA103_; clear mA103_; have HO106 := n1_; have HM106 := mA106_; clear mA106_; have HO110 := n2_; have HO114 := n3_; have HB := n4_; clear n0_ n1_ n2_ n3_ n4_; (try clear hb); (try clear hb2); (try clear hk); (try clear hi); (try clear ho0)))
 (try simp only [Act.put, List.setIfInBounds_toArray, List.set_cons_zero, List.set_cons_succ])
 go_cut [36] (fun v36 wc => ∃ (kq : Nat) (x36_6 : Bool), v36 = .bool x36_6 ∧ Aside0 (minuetlaw4_Composes.j0 kq l0 l1 t101 t104 t107 x36_6 = some r) ∧ Aside0 (kq ≤ k) ∧ Aside0 (Kd.R k31 31 wc w.heap.size (fun k_ => some k_ ≠ ((.slice Ao11 t104.length co11) : Value).ownBlock ∧ some k_ ≠ (v109 : Value).ownBlock) (.slice Ao10 t101.length co10) t101) ∧ Aside0 (Kd.R k31 31 wc w.heap.size (fun k_ => some k_ ≠ ((.slice Ao11 t104.length co11) : Value).ownBlock ∧ some k_ ≠ (v109 : Value).ownBlock) (.slice Ao10 (t101.length + 2) co10) (t101 ++ [minuetlaw0_KeptComps.mark, minuetlaw0_KeptComps.mark])) ∧ Aside0 (Kd.R k31 31 wc w.heap.size (fun k_ => some k_ ≠ ((.slice Ao10 t101.length co10) : Value).ownBlock ∧ some k_ ≠ (v109 : Value).ownBlock) (.slice Ao11 t104.length co11) t104) ∧ Aside0 (Kd.R k31 31 wc w.heap.size (fun k_ => some k_ ≠ ((.slice Ao10 t101.length co10) : Value).ownBlock ∧ some k_ ≠ (v109 : Value).ownBlock) (.slice Ao11 (t104.length + 2) co11) (t104 ++ [minuetlaw0_KeptComps.mark, minuetlaw0_KeptComps.mark])) ∧ Aside0 (Kd.R k31 31 wc w.heap.size (fun k_ => some k_ ≠ ((.slice Ao10 t101.length co10) : Value).ownBlock ∧ some k_ ≠ ((.slice Ao11 t104.length co11) : Value).ownBlock) v109 t107) ∧ Aside0 (Below w.heap.size w wc))
 case first =>
  have H := HC7.out
  clear HC7
  replace H := Option.bind_eq_some_iff.mp H
  obtain ⟨t115, A140, H⟩ := H
  replace H : (if t115 = true then ((minuetlaw0_Num.f t108).bind fun t116 => (minuetlaw4_Composes.j0 k l0 l1 t101 t104 t107 (t116 != t112))) else (minuetlaw4_Composes.j0 k l0 l1 t101 t104 t107 true)) = some r := H
  have A14 := Aside0.mk A140
  clear A140
  by_cases c15 : t115 = true
  · subst c15
    have H1 : ((minuetlaw0_Num.f t108).bind fun t116 => (minuetlaw4_Composes.j0 k l0 l1 t101 t104 t107 (t116 != t112))) = some r := by rw [if_pos rfl] at H; exact H
    clear H
    have H := H1
    clear H1
    replace H := Option.bind_eq_some_iff.mp H
    obtain ⟨t116, A160, H⟩ := H
    replace H : (minuetlaw4_Composes.j0 k l0 l1 t101 t104 t107 (t116 != t112)) = some r := H
    have A16 := Aside0.mk A160
    clear A160
    have H' := Aside0.mk H
    clear H
    obtain ⟨Ao17, co17, eo17⟩ := Kd.R_slice HO110.out
    subst eo17
    obtain ⟨Ao18, co18, eo18⟩ := Kd.R_slice HO114.out
    subst eo18
    go_wp2_with (first | ((with_reducible refine gate_callee (f := 16) rfl ?_); refine goesL_ (some 29) rfl rfl Try.func16 (by kernel_rfl) rfl #[.slice Ao17 t107.length co17, .slice Ao18 t111.length co18] rfl (by (try simp only [List.map_toArray, List.map_cons, List.map_nil]); first | done | rfl | (simp only [List.length_drop, List.length_take]; rfl)) ?_; (with_reducible refine (minuetlaw0_SameComps.calls k _ _ t107 _ _ t111 true _ ?side1 ?side2 ?side3 ?side4 A14.out).mono ?_); (case side1 => repeat (first | exact (Kd.R_reads' HO110.out).2.2 | (with_reducible refine Kd.C_alloc ?_ _) | (with_reducible refine Kd.C_drewN ?_ _) | (with_reducible refine Kd.C_drew ?_))); (case side2 => exact (Kd.R_reads' HO110.out).2.1); (case side3 => repeat (first | exact (Kd.R_reads' HO114.out).2.2 | (with_reducible refine Kd.C_alloc ?_ _) | (with_reducible refine Kd.C_drewN ?_ _) | (with_reducible refine Kd.C_drew ?_))); (case side4 => exact (Kd.R_reads' HO114.out).2.1); rintro e w' ⟨rfl, ⟨nd, rfl⟩⟩; refine ⟨_, rfl, ?_⟩) | (go_at_call 15; (with_reducible refine (minuetlaw0_Num.calls t108 t116 _ A16.out).mono ?_); rintro e w' ⟨rfl, ⟨nd, rfl⟩⟩))
    go_meet
    case rel => exact ⟨_, ((t116 != t112)), (by first | rfl | (simp; done) | (simp [*]; done)), H', ⟨by first | omega | exact Nat.le_refl _⟩, ⟨by (with_reducible repeat (first | apply Kd.R_alloc | apply Kd.R_drewN | apply Kd.R_drew)); exact Kd.R_mono HO103.out (fun _ hk => ⟨hk.1.1.2, hk.1.2⟩)⟩, ⟨by (with_reducible repeat (first | apply Kd.R_alloc | apply Kd.R_drewN | apply Kd.R_drew)); exact Kd.R_mono HM103.out (fun _ hk => ⟨hk.1.1.2, hk.1.2⟩)⟩, ⟨by (with_reducible repeat (first | apply Kd.R_alloc | apply Kd.R_drewN | apply Kd.R_drew)); exact Kd.R_mono HO106.out (fun _ hk => ⟨hk.1.1.2, hk.1.2⟩)⟩, ⟨by (with_reducible repeat (first | apply Kd.R_alloc | apply Kd.R_drewN | apply Kd.R_drew)); exact Kd.R_mono HM106.out (fun _ hk => ⟨hk.1.1.2, hk.1.2⟩)⟩, ⟨by (with_reducible repeat (first | apply Kd.R_alloc | apply Kd.R_drewN | apply Kd.R_drew)); exact Kd.R_mono HO110.out (fun _ hk => ⟨hk.1.1.2, hk.1.2⟩)⟩, ⟨by repeat (first | (with_reducible first | exact HB.out | apply below_alloc | apply pw_below_drewN | apply below_drew1) | exact HB.out)⟩⟩
  · replace c15 := Bool.eq_false_iff.mpr c15
    subst c15
    have H1 : (minuetlaw4_Composes.j0 k l0 l1 t101 t104 t107 true) = some r := by rw [if_neg (show ¬ (false = true) by decide)] at H; exact H
    clear H
    have H := H1
    clear H1
    have H' := Aside0.mk H
    clear H
    obtain ⟨Ao19, co19, eo19⟩ := Kd.R_slice HO110.out
    subst eo19
    obtain ⟨Ao20, co20, eo20⟩ := Kd.R_slice HO114.out
    subst eo20
    go_wp2_with (first | ((with_reducible refine gate_callee (f := 16) rfl ?_); refine goesL_ (some 29) rfl rfl Try.func16 (by kernel_rfl) rfl #[.slice Ao19 t107.length co19, .slice Ao20 t111.length co20] rfl (by (try simp only [List.map_toArray, List.map_cons, List.map_nil]); first | done | rfl | (simp only [List.length_drop, List.length_take]; rfl)) ?_; (with_reducible refine (minuetlaw0_SameComps.calls k _ _ t107 _ _ t111 false _ ?side1 ?side2 ?side3 ?side4 A14.out).mono ?_); (case side1 => repeat (first | exact (Kd.R_reads' HO110.out).2.2 | (with_reducible refine Kd.C_alloc ?_ _) | (with_reducible refine Kd.C_drewN ?_ _) | (with_reducible refine Kd.C_drew ?_))); (case side2 => exact (Kd.R_reads' HO110.out).2.1); (case side3 => repeat (first | exact (Kd.R_reads' HO114.out).2.2 | (with_reducible refine Kd.C_alloc ?_ _) | (with_reducible refine Kd.C_drewN ?_ _) | (with_reducible refine Kd.C_drew ?_))); (case side4 => exact (Kd.R_reads' HO114.out).2.1); rintro e w' ⟨rfl, ⟨nd, rfl⟩⟩; refine ⟨_, rfl, ?_⟩))
    go_meet
    case rel => exact ⟨_, (true), (by first | rfl | (simp; done) | (simp [*]; done)), H', ⟨by first | omega | exact Nat.le_refl _⟩, ⟨by (with_reducible repeat (first | apply Kd.R_alloc | apply Kd.R_drewN | apply Kd.R_drew)); exact Kd.R_mono HO103.out (fun _ hk => ⟨hk.1.1.2, hk.1.2⟩)⟩, ⟨by (with_reducible repeat (first | apply Kd.R_alloc | apply Kd.R_drewN | apply Kd.R_drew)); exact Kd.R_mono HM103.out (fun _ hk => ⟨hk.1.1.2, hk.1.2⟩)⟩, ⟨by (with_reducible repeat (first | apply Kd.R_alloc | apply Kd.R_drewN | apply Kd.R_drew)); exact Kd.R_mono HO106.out (fun _ hk => ⟨hk.1.1.2, hk.1.2⟩)⟩, ⟨by (with_reducible repeat (first | apply Kd.R_alloc | apply Kd.R_drewN | apply Kd.R_drew)); exact Kd.R_mono HM106.out (fun _ hk => ⟨hk.1.1.2, hk.1.2⟩)⟩, ⟨by (with_reducible repeat (first | apply Kd.R_alloc | apply Kd.R_drewN | apply Kd.R_drew)); exact Kd.R_mono HO110.out (fun _ hk => ⟨hk.1.1.2, hk.1.2⟩)⟩, ⟨by repeat (first | (with_reducible first | exact HB.out | apply below_alloc | apply pw_below_drewN | apply below_drew1) | exact HB.out)⟩⟩
 case rest =>
  clear HC7
  try clear c1
  try clear c2
  try clear p2
  try clear c6
  try clear c15
  try clear c16
  obtain ⟨kq, x36_6, rfl, HA, HJ6, HO_5, HM_5, HO_6, HM_6, HO_7, HB⟩ := hcut
  cases kq with
  | zero => exact absurd HA.out (by simp [minuetlaw4_Composes.j0])
  | succ kj6 =>
   have H := HA.out
   clear HA
   simp only [minuetlaw4_Composes.j0] at H
   by_cases c21 : x36_6 = true
   · subst c21
     have H1 : (none) = some r := by rw [if_pos rfl] at H; exact H
     clear H
     have H := H1
     clear H1
     exact absurd H (by simp)
   · replace c21 := Bool.eq_false_iff.mpr c21
     subst c21
     have H1 : ((minuetlaw0_SpoilComps.f kj6 t107).bind fun t117 => ((minuetlaw0_KeptComps.f kj6 t101 l0).bind fun t118 => (if t118 = true then ((minuetlaw0_KeptComps.f kj6 t104 l1).bind fun t119 => (if t119 = true then ((minuetlaw4_awake.f kj6).bind fun t120 => (some t120)) else (none))) else (none)))) = some r := by rw [if_neg (show ¬ (false = true) by decide)] at H; exact H
     clear H
     have H := H1
     clear H1
     replace H := Option.bind_eq_some_iff.mp H
     obtain ⟨t117, A220, H⟩ := H
     replace H : ((minuetlaw0_KeptComps.f kj6 t101 l0).bind fun t118 => (if t118 = true then ((minuetlaw0_KeptComps.f kj6 t104 l1).bind fun t119 => (if t119 = true then ((minuetlaw4_awake.f kj6).bind fun t120 => (some t120)) else (none))) else (none))) = some r := H
     have A22 := Aside0.mk A220
     clear A220
     replace H := Option.bind_eq_some_iff.mp H
     obtain ⟨t118, A230, H⟩ := H
     replace H : (if t118 = true then ((minuetlaw0_KeptComps.f kj6 t104 l1).bind fun t119 => (if t119 = true then ((minuetlaw4_awake.f kj6).bind fun t120 => (some t120)) else (none))) else (none)) = some r := H
     have A23 := Aside0.mk A230
     clear A230
     by_cases c24 : t118 = true
     · subst c24
       have H1 : ((minuetlaw0_KeptComps.f kj6 t104 l1).bind fun t119 => (if t119 = true then ((minuetlaw4_awake.f kj6).bind fun t120 => (some t120)) else (none))) = some r := by rw [if_pos rfl] at H; exact H
       clear H
       have H := H1
       clear H1
       replace H := Option.bind_eq_some_iff.mp H
       obtain ⟨t119, A250, H⟩ := H
       replace H : (if t119 = true then ((minuetlaw4_awake.f kj6).bind fun t120 => (some t120)) else (none)) = some r := H
       have A25 := Aside0.mk A250
       clear A250
       by_cases c26 : t119 = true
       · subst c26
         have H1 : ((minuetlaw4_awake.f kj6).bind fun t120 => (some t120)) = some r := by rw [if_pos rfl] at H; exact H
         clear H
         have H := H1
         clear H1
         replace H := Option.bind_eq_some_iff.mp H
         obtain ⟨t120, A270, H⟩ := H
         replace H : (some t120) = some r := H
         have A27 := Aside0.mk A270
         clear A270
         obtain rfl := Option.some.inj H
         obtain ⟨Ao28, co28, eo28⟩ := Kd.R_slice HO_7.out
         subst eo28
         go_wp2_with (first | ((with_reducible refine gate_callee (f := 26) rfl ?_); refine goesL_ (some 38) rfl rfl Try.func26 (by kernel_rfl) rfl #[.slice Ao28 t107.length co28] rfl (by (try simp only [List.map_toArray, List.map_cons, List.map_nil]); first | done | rfl | (simp only [List.length_drop, List.length_take]; rfl)) ?_; (with_reducible refine (minuetlaw0_SpoilComps.calls kj6 (fun k_ => some k_ = (.slice Ao28 t107.length co28 : Value).ownBlock) (.slice Ao28 t107.length co28) t107 t117 w _ ?side1 ?side2 A22.out).mono ?_); (case side1 => repeat (first | (with_reducible first | exact HB.out | apply below_alloc | apply pw_below_drewN | apply below_drew1) | exact HB.out)); (case side2 => exact Kd.R_tight rfl HO_7.out); rintro e w29 ⟨rfl, hy0, hb, hkp⟩; refine ⟨_, rfl, ?_⟩; have mA_5_ := Aside0.mk (Kd.R_mono (ok' := fun k_ => some k_ ≠ (.slice Ao11 t104.length co11 : Value).ownBlock ∧ some k_ ≠ (.slice Ao28 t107.length co28 : Value).ownBlock) (Kd.R_keptB (HM_5.out) hkp (fun k_ hk_ hs_ => (hk_.2) hs_)) (fun k_ hk_ => ⟨hk_.1.1, hk_.1.2⟩)); have n0_ := Aside0.mk (Kd.R_mono (ok' := fun k_ => some k_ ≠ (.slice Ao11 t104.length co11 : Value).ownBlock ∧ some k_ ≠ (.slice Ao28 t107.length co28 : Value).ownBlock) (Kd.R_keptB (HO_5.out) hkp (fun k_ hk_ hs_ => (hk_.2) hs_)) (fun k_ hk_ => ⟨hk_.1.1, hk_.1.2⟩)); have mA_6_ := Aside0.mk (Kd.R_mono (ok' := fun k_ => some k_ ≠ (.slice Ao10 t101.length co10 : Value).ownBlock ∧ some k_ ≠ (.slice Ao28 t107.length co28 : Value).ownBlock) (Kd.R_keptB (HM_6.out) hkp (fun k_ hk_ hs_ => (hk_.2) hs_)) (fun k_ hk_ => ⟨hk_.1.1, hk_.1.2⟩)); have n1_ := Aside0.mk (Kd.R_mono (ok' := fun k_ => some k_ ≠ (.slice Ao10 t101.length co10 : Value).ownBlock ∧ some k_ ≠ (.slice Ao28 t107.length co28 : Value).ownBlock) (Kd.R_keptB (HO_6.out) hkp (fun k_ hk_ hs_ => (hk_.2) hs_)) (fun k_ hk_ => ⟨hk_.1.1, hk_.1.2⟩)); have n2_ := Aside0.mk (Kd.R_reok rfl hy0 (fun k_ e_ => HO_7.out.1 k_ e_)); have n3_ := Aside0.mk (hb); clear HO_5; clear HM_5; clear HO_6; clear HM_6; clear HO_7; clear HB; have HO_5 := n0_; have HM_5 := mA_5_; clear mA_5_; have HO_6 := n1_; have HM_6 := mA_6_; clear mA_6_; have HO_7 := n2_; have HB := n3_; clear n0_ n1_ n2_ n3_; (try clear hb); (try clear hkp); (try clear hy0)) | ((with_reducible refine gate_callee (f := 27) rfl ?_); refine goesL_ (some 41) rfl rfl Try.func27 (by kernel_rfl) rfl #[.slice Ao10 t101.length co10, .slice A0 l0.length c0] rfl (by (try simp only [List.map_toArray, List.map_cons, List.map_nil]); first | done | rfl | (simp only [List.length_drop, List.length_take]; rfl)) ?_; (with_reducible refine (minuetlaw0_KeptComps.calls kj6 _ _ t101 _ _ l0 true _ ?side1 ?side2 ?side3 ?side4 A23.out ?sideM).mono ?_); (case sideM => refine ⟨(Kd.R_reads' HM_5.out).2.1, ?_⟩; repeat (first | exact (Kd.R_reads' HM_5.out).2.2 | (with_reducible refine Kd.C_alloc ?_ _) | (with_reducible refine Kd.C_drewN ?_ _) | (with_reducible refine Kd.C_drew ?_))); (case side1 => repeat (first | exact (Kd.R_reads' HO_5.out).2.2 | (with_reducible refine Kd.C_alloc ?_ _) | (with_reducible refine Kd.C_drewN ?_ _) | (with_reducible refine Kd.C_drew ?_))); (case side2 => exact (Kd.R_reads' HO_5.out).2.1); (case side3 => repeat (first | exact (Kd.C_below HR0.out HB.out) | (with_reducible refine Kd.C_alloc ?_ _) | (with_reducible refine Kd.C_drewN ?_ _) | (with_reducible refine Kd.C_drew ?_))); (case side4 => exact HC0.out); rintro e w' ⟨rfl, ⟨nd, rfl⟩⟩; refine ⟨_, rfl, ?_⟩) | (go_at_call 27; (with_reducible refine (minuetlaw0_KeptComps.calls kj6 _ _ t104 _ _ l1 true _ ?side1 ?side2 ?side3 ?side4 A25.out ?sideM).mono ?_); (case sideM => refine ⟨(Kd.R_reads' HM_6.out).2.1, ?_⟩; repeat (first | exact (Kd.R_reads' HM_6.out).2.2 | (with_reducible refine Kd.C_alloc ?_ _) | (with_reducible refine Kd.C_drewN ?_ _) | (with_reducible refine Kd.C_drew ?_))); (case side1 => repeat (first | exact (Kd.R_reads' HO_6.out).2.2 | (with_reducible refine Kd.C_alloc ?_ _) | (with_reducible refine Kd.C_drewN ?_ _) | (with_reducible refine Kd.C_drew ?_))); (case side2 => exact (Kd.R_reads' HO_6.out).2.1); (case side3 => repeat (first | exact (Kd.C_below HR1.out (by repeat (first | (with_reducible first | exact HB.out | apply below_alloc | apply pw_below_drewN | apply below_drew1) | exact HB.out))) | (with_reducible refine Kd.C_alloc ?_ _) | (with_reducible refine Kd.C_drewN ?_ _) | (with_reducible refine Kd.C_drew ?_))); (case side4 => exact HC1.out); rintro e w' ⟨rfl, ⟨nd, rfl⟩⟩) | (go_at_call 28; (with_reducible refine (minuetlaw4_awake.calls kj6  t120 _ A27.out).mono ?_); rintro e w30 ⟨rfl, hb⟩; have mA_5_ := Aside0.mk (Kd.R_below (by (with_reducible repeat (first | apply Kd.R_alloc | apply Kd.R_drewN | apply Kd.R_drew)); exact HM_5.out) hb); have n0_ := Aside0.mk (Kd.R_below (by (with_reducible repeat (first | apply Kd.R_alloc | apply Kd.R_drewN | apply Kd.R_drew)); exact HO_5.out) hb); have mA_6_ := Aside0.mk (Kd.R_below (by (with_reducible repeat (first | apply Kd.R_alloc | apply Kd.R_drewN | apply Kd.R_drew)); exact HM_6.out) hb); have n1_ := Aside0.mk (Kd.R_below (by (with_reducible repeat (first | apply Kd.R_alloc | apply Kd.R_drewN | apply Kd.R_drew)); exact HO_6.out) hb); have n2_ := Aside0.mk (Kd.R_below (by (with_reducible repeat (first | apply Kd.R_alloc | apply Kd.R_drewN | apply Kd.R_drew)); exact HO_7.out) hb); have n3_ := Aside0.mk (below_step (by repeat (first | (with_reducible first | exact HB.out | apply below_alloc | apply pw_below_drewN | apply below_drew1) | exact HB.out)) hb); clear HO_5; clear HM_5; clear HO_6; clear HM_6; clear HO_7; clear HB; have HO_5 := n0_; have HM_5 := mA_5_; clear mA_5_; have HO_6 := n1_; have HM_6 := mA_6_; clear mA_6_; have HO_7 := n2_; have HB := n3_; clear n0_ n1_ n2_ n3_; (try clear hb); (try clear hb2); (try clear hk); (try clear hi)))
         go_ret
         exact ⟨by first | rfl | (simp [errW_none, errW_some] <;> rfl) | (simp [*, errW_none, errW_some] <;> rfl), by repeat (first | (with_reducible first | exact HB.out | apply below_alloc | apply pw_below_drewN | apply below_drew1) | exact HB.out)⟩
       · replace c26 := Bool.eq_false_iff.mpr c26
         subst c26
         have H1 : (none) = some r := by rw [if_neg (show ¬ (false = true) by decide)] at H; exact H
         clear H
         have H := H1
         clear H1
         exact absurd H (by simp)
     · replace c24 := Bool.eq_false_iff.mpr c24
       subst c24
       have H1 : (none) = some r := by rw [if_neg (show ¬ (false = true) by decide)] at H; exact H
       clear H
       have H := H1
       clear H1
       exact absurd H (by simp)

end Go.Proofs.Ytldaokclpkcmmaa.G
