-- Laid by this session's own program gprint.py (wip/tools), out of the kit's print and of texts of this session. Lean checks it.
import Derived.Test.YtbkkcoppncgegaaGx0
import Derived.Test.YtbkkcoppncgegaaGMinuetlaw0PNum
import Derived.Test.YtbkkcoppncgegaaGMinuetlaw0PLendComps
import Derived.Test.YtbkkcoppncgegaaGCompPMay
import Derived.Test.YtbkkcoppncgegaaGCompPLengths
import Derived.Test.YtbkkcoppncgegaaGMinuetref1PNormal
import Derived.Test.YtbkkcoppncgegaaGMinuetref1PCompsMay
import Derived.Test.YtbkkcoppncgegaaGMinuetref1PLengths
import Derived.Test.YtbkkcoppncgegaaGMinuetlaw0PSameComps
import Derived.Test.YtbkkcoppncgegaaGMinuetlaw0PKeptComps
import Derived.Test.YtbkkcoppncgegaaGCompPNormal
import Derived.Test.YtbkkcoppncgegaaGMinuetlaw0PSpoilComps
import Derived.Test.YtbkkcoppncgegaaGMinuetlaw2qawake
import Derived.Test.YtbkkcoppncgegaaGLendComps
namespace Go.Proofs.Ytbkkcoppncgegaa.G
open Go.RowKit Go.Proofs.YtbkkcoppncgegaaW.PrintWords Go.Proofs.YtbkkcoppncgegaaW.PrintLast Go.Proofs.YtbkkcoppncgegaaW.PrintMore
attribute [local go_sem] max2_int min2_int max_two min_two max_three min_three max_four min_four   -- for this text's walks alone
set_option linter.unusedVariables false
set_option linter.unusedSimpArgs false

/-! ### minuetlaw2_CompsAll: function 9 -/
def minuetlaw2_CompsAll.j0 : Nat → List (S40) → List (S40) → List (S40) → Bool → Option (Bool)
 | 0, _, _, _, _ => none
 | k + 1, x0, x3, x4, x76 => if x76 = true then (none) else ((minuetlaw0_SpoilComps.f k x4).bind fun t124 => ((minuetlaw0_KeptComps.f k x3 x0).bind fun t125 => (if t125 = true then ((minuetlaw2_awake.f k).bind fun t126 => (some t126)) else (none))))
def minuetlaw2_CompsAll.f (k : Nat) (l0 : List (S40)) : Option (Bool) := (minuetlaw0_LendComps.f l0).bind fun t101 => ((comp_Normal.f k t101).bind fun bt104 => ((minuetref1_Normal.f k l0).bind fun bt108 => ((comp_Lengths.f k t101).bind fun bt112 => ((minuetref1_Lengths.f k l0).bind fun bt115 => ((minuetlaw0_SameComps.f k bt104.1 bt108.1).bind fun t118 => (if t118 = true then ((minuetlaw0_Num.f bt104.2).bind fun t119 => (if t119 = bt108.2 then (if bt112.1 = bt115.1 then (if bt112.2.1 = bt115.2.1 then ((minuetlaw0_Num.f bt112.2.2).bind fun t120 => (if t120 = bt115.2.2 then ((comp_May.f k t101).bind fun t121 => ((minuetref1_CompsMay.f k l0).bind fun t122 => (if (t121 != t122) = true then (minuetlaw2_CompsAll.j0 k l0 t101 bt104.1 true) else ((minuetlaw0_KeptComps.f k t101 l0).bind fun t123 => (minuetlaw2_CompsAll.j0 k l0 t101 bt104.1 (!t123)))))) else (minuetlaw2_CompsAll.j0 k l0 t101 bt104.1 true))) else (minuetlaw2_CompsAll.j0 k l0 t101 bt104.1 true)) else (minuetlaw2_CompsAll.j0 k l0 t101 bt104.1 true)) else (minuetlaw2_CompsAll.j0 k l0 t101 bt104.1 true))) else (minuetlaw2_CompsAll.j0 k l0 t101 bt104.1 true)))))))
theorem minuetlaw2_CompsAll.mono_l : ∀ k, (∀ y0 y1 y2 y3, LeO (minuetlaw2_CompsAll.j0 k y0 y1 y2 y3) (minuetlaw2_CompsAll.j0 (k + 1) y0 y1 y2 y3))
 | 0 => fun _ _ _ _ r h => by simp [minuetlaw2_CompsAll.j0] at h
 | k + 1 => by
  have ih0 := minuetlaw2_CompsAll.mono_l k
  · intro y0 y1 y2 y3
    unfold minuetlaw2_CompsAll.j0
    repeat' first
    | (with_reducible exact ih0 _ _ _ _)
    | (with_reducible exact comp_Lengths.mono _ _)
    | (with_reducible exact comp_May.mono _ _)
    | (with_reducible exact comp_Normal.mono _ _)
    | (with_reducible exact minuetlaw0_KeptComps.mono _ _ _)
    | (with_reducible exact minuetlaw0_SameComps.mono _ _ _)
    | (with_reducible exact minuetlaw0_SpoilComps.mono _ _)
    | (with_reducible exact minuetlaw2_awake.mono _)
    | (with_reducible exact minuetref1_CompsMay.mono _ _)
    | (with_reducible exact minuetref1_Lengths.mono _ _)
    | (with_reducible exact minuetref1_Normal.mono _ _)
    | (with_reducible exact LeO.refl _)
    | (with_reducible exact LeO.none _)
    | (with_reducible refine LeO.ite ?_ ?_)
    | (with_reducible refine LeO.bind ?_ (fun _ => ?_))
    | exact ih0 _ _ _ _
    | exact comp_Lengths.mono _ _
    | exact comp_May.mono _ _
    | exact comp_Normal.mono _ _
    | exact minuetlaw0_KeptComps.mono _ _ _
    | exact minuetlaw0_SameComps.mono _ _ _
    | exact minuetlaw0_SpoilComps.mono _ _
    | exact minuetlaw2_awake.mono _
    | exact minuetref1_CompsMay.mono _ _
    | exact minuetref1_Lengths.mono _ _
    | exact minuetref1_Normal.mono _ _
    | exact LeO.none _
    | refine LeO.ite ?_ ?_
    | refine LeO.bind ?_ (fun _ => ?_)
theorem minuetlaw2_CompsAll.mono : ∀ a0 k, LeO (minuetlaw2_CompsAll.f k a0) (minuetlaw2_CompsAll.f (k + 1) a0) := by
 intro a0 k
 have ih0 := minuetlaw2_CompsAll.mono_l k
 unfold minuetlaw2_CompsAll.f
 repeat' first
  | (with_reducible exact ih0 _ _ _ _)
  | (with_reducible exact comp_Lengths.mono _ _)
  | (with_reducible exact comp_May.mono _ _)
  | (with_reducible exact comp_Normal.mono _ _)
  | (with_reducible exact minuetlaw0_KeptComps.mono _ _ _)
  | (with_reducible exact minuetlaw0_SameComps.mono _ _ _)
  | (with_reducible exact minuetlaw0_SpoilComps.mono _ _)
  | (with_reducible exact minuetlaw2_awake.mono _)
  | (with_reducible exact minuetref1_CompsMay.mono _ _)
  | (with_reducible exact minuetref1_Lengths.mono _ _)
  | (with_reducible exact minuetref1_Normal.mono _ _)
  | (with_reducible exact LeO.refl _)
  | (with_reducible exact LeO.none _)
  | (with_reducible refine LeO.ite ?_ ?_)
  | (with_reducible refine LeO.bind ?_ (fun _ => ?_))
  | exact ih0 _ _ _ _
  | exact comp_Lengths.mono _ _
  | exact comp_May.mono _ _
  | exact comp_Normal.mono _ _
  | exact minuetlaw0_KeptComps.mono _ _ _
  | exact minuetlaw0_SameComps.mono _ _ _
  | exact minuetlaw0_SpoilComps.mono _ _
  | exact minuetlaw2_awake.mono _
  | exact minuetref1_CompsMay.mono _ _
  | exact minuetref1_Lengths.mono _ _
  | exact minuetref1_Normal.mono _ _
  | exact LeO.none _
  | refine LeO.ite ?_ ?_
  | refine LeO.bind ?_ (fun _ => ?_)
set_option maxHeartbeats 8000000 in
set_option maxRecDepth 100000 in
theorem minuetlaw2_CompsAll.calls (k : Nat) (A0 : Option Addr) (c0 : Nat) (l0 : List (S40)) (r : Bool) (w : World) (hr0 : Kd.C k40 w A0 l0.length l0) (hc0 : l0.length ≤ c0) (h : minuetlaw2_CompsAll.f k l0 = some r) :
 Calls Try.prog 9 #[.slice A0 l0.length c0] w fun e w' => e = .returned (.bool r) ∧ Below w.heap.size w w' := by
 have HR0 := Aside0.mk hr0
 have HC0 := Aside0.mk hc0
 clear hr0 hc0
 have HB := Aside0.mk (Below.refl w.heap.size w)
 have H : ((minuetlaw0_LendComps.f l0).bind fun t101 => ((comp_Normal.f k t101).bind fun bt104 => ((minuetref1_Normal.f k l0).bind fun bt108 => ((comp_Lengths.f k t101).bind fun bt112 => ((minuetref1_Lengths.f k l0).bind fun bt115 => ((minuetlaw0_SameComps.f k bt104.1 bt108.1).bind fun t118 => (if t118 = true then ((minuetlaw0_Num.f bt104.2).bind fun t119 => (if t119 = bt108.2 then (if bt112.1 = bt115.1 then (if bt112.2.1 = bt115.2.1 then ((minuetlaw0_Num.f bt112.2.2).bind fun t120 => (if t120 = bt115.2.2 then ((comp_May.f k t101).bind fun t121 => ((minuetref1_CompsMay.f k l0).bind fun t122 => (if (t121 != t122) = true then (minuetlaw2_CompsAll.j0 k l0 t101 bt104.1 true) else ((minuetlaw0_KeptComps.f k t101 l0).bind fun t123 => (minuetlaw2_CompsAll.j0 k l0 t101 bt104.1 (!t123)))))) else (minuetlaw2_CompsAll.j0 k l0 t101 bt104.1 true))) else (minuetlaw2_CompsAll.j0 k l0 t101 bt104.1 true)) else (minuetlaw2_CompsAll.j0 k l0 t101 bt104.1 true)) else (minuetlaw2_CompsAll.j0 k l0 t101 bt104.1 true))) else (minuetlaw2_CompsAll.j0 k l0 t101 bt104.1 true)))))))) = some r := h
 clear h
 replace H := Option.bind_eq_some_iff.mp H
 obtain ⟨t101, A20, H⟩ := H
 replace H : ((comp_Normal.f k t101).bind fun bt104 => ((minuetref1_Normal.f k l0).bind fun bt108 => ((comp_Lengths.f k t101).bind fun bt112 => ((minuetref1_Lengths.f k l0).bind fun bt115 => ((minuetlaw0_SameComps.f k bt104.1 bt108.1).bind fun t118 => (if t118 = true then ((minuetlaw0_Num.f bt104.2).bind fun t119 => (if t119 = bt108.2 then (if bt112.1 = bt115.1 then (if bt112.2.1 = bt115.2.1 then ((minuetlaw0_Num.f bt112.2.2).bind fun t120 => (if t120 = bt115.2.2 then ((comp_May.f k t101).bind fun t121 => ((minuetref1_CompsMay.f k l0).bind fun t122 => (if (t121 != t122) = true then (minuetlaw2_CompsAll.j0 k l0 t101 bt104.1 true) else ((minuetlaw0_KeptComps.f k t101 l0).bind fun t123 => (minuetlaw2_CompsAll.j0 k l0 t101 bt104.1 (!t123)))))) else (minuetlaw2_CompsAll.j0 k l0 t101 bt104.1 true))) else (minuetlaw2_CompsAll.j0 k l0 t101 bt104.1 true)) else (minuetlaw2_CompsAll.j0 k l0 t101 bt104.1 true)) else (minuetlaw2_CompsAll.j0 k l0 t101 bt104.1 true))) else (minuetlaw2_CompsAll.j0 k l0 t101 bt104.1 true))))))) = some r := H
 have A2 := Aside0.mk A20
 clear A20
 replace H := Option.bind_eq_some_iff.mp H
 obtain ⟨⟨t104, t105⟩, A30, H⟩ := H
 replace H : ((minuetref1_Normal.f k l0).bind fun bt108 => ((comp_Lengths.f k t101).bind fun bt112 => ((minuetref1_Lengths.f k l0).bind fun bt115 => ((minuetlaw0_SameComps.f k t104 bt108.1).bind fun t118 => (if t118 = true then ((minuetlaw0_Num.f t105).bind fun t119 => (if t119 = bt108.2 then (if bt112.1 = bt115.1 then (if bt112.2.1 = bt115.2.1 then ((minuetlaw0_Num.f bt112.2.2).bind fun t120 => (if t120 = bt115.2.2 then ((comp_May.f k t101).bind fun t121 => ((minuetref1_CompsMay.f k l0).bind fun t122 => (if (t121 != t122) = true then (minuetlaw2_CompsAll.j0 k l0 t101 t104 true) else ((minuetlaw0_KeptComps.f k t101 l0).bind fun t123 => (minuetlaw2_CompsAll.j0 k l0 t101 t104 (!t123)))))) else (minuetlaw2_CompsAll.j0 k l0 t101 t104 true))) else (minuetlaw2_CompsAll.j0 k l0 t101 t104 true)) else (minuetlaw2_CompsAll.j0 k l0 t101 t104 true)) else (minuetlaw2_CompsAll.j0 k l0 t101 t104 true))) else (minuetlaw2_CompsAll.j0 k l0 t101 t104 true)))))) = some r := H
 have A3 := Aside0.mk A30
 clear A30
 replace H := Option.bind_eq_some_iff.mp H
 obtain ⟨⟨t108, t109⟩, A40, H⟩ := H
 replace H : ((comp_Lengths.f k t101).bind fun bt112 => ((minuetref1_Lengths.f k l0).bind fun bt115 => ((minuetlaw0_SameComps.f k t104 t108).bind fun t118 => (if t118 = true then ((minuetlaw0_Num.f t105).bind fun t119 => (if t119 = t109 then (if bt112.1 = bt115.1 then (if bt112.2.1 = bt115.2.1 then ((minuetlaw0_Num.f bt112.2.2).bind fun t120 => (if t120 = bt115.2.2 then ((comp_May.f k t101).bind fun t121 => ((minuetref1_CompsMay.f k l0).bind fun t122 => (if (t121 != t122) = true then (minuetlaw2_CompsAll.j0 k l0 t101 t104 true) else ((minuetlaw0_KeptComps.f k t101 l0).bind fun t123 => (minuetlaw2_CompsAll.j0 k l0 t101 t104 (!t123)))))) else (minuetlaw2_CompsAll.j0 k l0 t101 t104 true))) else (minuetlaw2_CompsAll.j0 k l0 t101 t104 true)) else (minuetlaw2_CompsAll.j0 k l0 t101 t104 true)) else (minuetlaw2_CompsAll.j0 k l0 t101 t104 true))) else (minuetlaw2_CompsAll.j0 k l0 t101 t104 true))))) = some r := H
 have A4 := Aside0.mk A40
 clear A40
 replace H := Option.bind_eq_some_iff.mp H
 obtain ⟨⟨t112, t113, t114⟩, A50, H⟩ := H
 replace H : ((minuetref1_Lengths.f k l0).bind fun bt115 => ((minuetlaw0_SameComps.f k t104 t108).bind fun t118 => (if t118 = true then ((minuetlaw0_Num.f t105).bind fun t119 => (if t119 = t109 then (if t112 = bt115.1 then (if t113 = bt115.2.1 then ((minuetlaw0_Num.f t114).bind fun t120 => (if t120 = bt115.2.2 then ((comp_May.f k t101).bind fun t121 => ((minuetref1_CompsMay.f k l0).bind fun t122 => (if (t121 != t122) = true then (minuetlaw2_CompsAll.j0 k l0 t101 t104 true) else ((minuetlaw0_KeptComps.f k t101 l0).bind fun t123 => (minuetlaw2_CompsAll.j0 k l0 t101 t104 (!t123)))))) else (minuetlaw2_CompsAll.j0 k l0 t101 t104 true))) else (minuetlaw2_CompsAll.j0 k l0 t101 t104 true)) else (minuetlaw2_CompsAll.j0 k l0 t101 t104 true)) else (minuetlaw2_CompsAll.j0 k l0 t101 t104 true))) else (minuetlaw2_CompsAll.j0 k l0 t101 t104 true)))) = some r := H
 have A5 := Aside0.mk A50
 clear A50
 replace H := Option.bind_eq_some_iff.mp H
 obtain ⟨⟨t115, t116, t117⟩, A60, H⟩ := H
 replace H : ((minuetlaw0_SameComps.f k t104 t108).bind fun t118 => (if t118 = true then ((minuetlaw0_Num.f t105).bind fun t119 => (if t119 = t109 then (if t112 = t115 then (if t113 = t116 then ((minuetlaw0_Num.f t114).bind fun t120 => (if t120 = t117 then ((comp_May.f k t101).bind fun t121 => ((minuetref1_CompsMay.f k l0).bind fun t122 => (if (t121 != t122) = true then (minuetlaw2_CompsAll.j0 k l0 t101 t104 true) else ((minuetlaw0_KeptComps.f k t101 l0).bind fun t123 => (minuetlaw2_CompsAll.j0 k l0 t101 t104 (!t123)))))) else (minuetlaw2_CompsAll.j0 k l0 t101 t104 true))) else (minuetlaw2_CompsAll.j0 k l0 t101 t104 true)) else (minuetlaw2_CompsAll.j0 k l0 t101 t104 true)) else (minuetlaw2_CompsAll.j0 k l0 t101 t104 true))) else (minuetlaw2_CompsAll.j0 k l0 t101 t104 true))) = some r := H
 have A6 := Aside0.mk A60
 clear A60
 have HC7 := Aside0.mk H
 clear H
 go_enter Try.func9, Try.ntmps9
 go_upto_region 6 with (first | ((with_reducible refine gate_callee (f := 22) rfl ?_); refine goesL_ (some 15) rfl rfl Try.func22 (by kernel_rfl) rfl #[.slice A0 l0.length c0] rfl (by (try simp only [List.map_toArray, List.map_cons, List.map_nil]); first | done | rfl | (simp only [List.length_drop, List.length_take]; rfl)) ?_; (with_reducible refine (minuetlaw0_LendComps.calls2 _ _ l0 t101 _ ?side1 ?side2 A2.out).mono ?_); (case side1 => repeat (first | exact HR0.out | (with_reducible refine Kd.C_alloc ?_ _) | (with_reducible refine Kd.C_drewN ?_ _) | (with_reducible refine Kd.C_drew ?_))); (case side2 => exact HC0.out); rintro e w8 ⟨v102, rfl, ho0, hlent_, hb⟩; refine ⟨_, rfl, ?_⟩; have m0_ := Aside0.mk (minuetlaw0_KeptComps.Lent_lower hlent_ (below_size (by repeat (first | (with_reducible first | exact HB.out | apply below_alloc | apply pw_below_drewN | apply below_drew1) | exact HB.out)))); have n0_ := Aside0.mk (Kd.R_lower ho0 (below_size (by repeat (first | (with_reducible first | exact HB.out | apply below_alloc | apply pw_below_drewN | apply below_drew1) | exact HB.out)))); have n1_ := Aside0.mk (below_step (by repeat (first | (with_reducible first | exact HB.out | apply below_alloc | apply pw_below_drewN | apply below_drew1) | exact HB.out)) hb); clear HB; have HO103 := n0_; have HM103 := m0_; clear m0_; have HB := n1_; clear n0_ n1_; (try clear hb); (try clear hb2); (try clear hk); (try clear hi); (try clear ho0); (try clear hlent_); obtain ⟨Ao9, co9, eo9⟩ := Kd.R_slice HO103.out; subst eo9; have HN_ := Aside0.mk (minuetlaw0_KeptComps.Lent_R HM103.out); clear HM103; have HM103 := HN_; clear HN_) | ((with_reducible refine gate_callee (f := 30) rfl ?_); refine goesL_ (some 18) rfl rfl Try.func30 (by kernel_rfl) rfl #[.slice Ao9 t101.length co9] rfl (by (try simp only [List.map_toArray, List.map_cons, List.map_nil]); first | done | rfl | (simp only [List.length_drop, List.length_take]; rfl)) ?_; (with_reducible refine (comp_Normal.calls k _ _ t101 t104 t105 _ ?side1 ?side2 A3.out).mono ?_); (case side1 => repeat (first | exact (Kd.R_reads' HO103.out).2.2 | (with_reducible refine Kd.C_alloc ?_ _) | (with_reducible refine Kd.C_drewN ?_ _) | (with_reducible refine Kd.C_drew ?_))); (case side2 => exact (Kd.R_reads' HO103.out).2.1); rintro e w10 ⟨v106, rfl, ho0, hb⟩; refine ⟨_, rfl, ?_⟩; have m0_ := Aside0.mk (Kd.R_elder' (by (with_reducible repeat (first | apply Kd.R_alloc | apply Kd.R_drewN | apply Kd.R_drew)); exact HM103.out) (Kd.R_base ho0) hb); have n0_ := Aside0.mk (Kd.R_elder' (by (with_reducible repeat (first | apply Kd.R_alloc | apply Kd.R_drewN | apply Kd.R_drew)); exact HO103.out) (Kd.R_base ho0) hb); have n1_ := Aside0.mk (Kd.R_lower (Kd.R_new' ho0 (Kd.R_lt (by (with_reducible repeat (first | apply Kd.R_alloc | apply Kd.R_drewN | apply Kd.R_drew)); exact HO103.out))) (below_size (by repeat (first | (with_reducible first | exact HB.out | apply below_alloc | apply pw_below_drewN | apply below_drew1) | exact HB.out)))); have n2_ := Aside0.mk (below_step (by repeat (first | (with_reducible first | exact HB.out | apply below_alloc | apply pw_below_drewN | apply below_drew1) | exact HB.out)) hb); clear HO103; clear HM103; clear HB; have HO103 := n0_; have HM103 := m0_; clear m0_; have HO107 := n1_; have HB := n2_; clear n0_ n1_ n2_; (try clear hb); (try clear hb2); (try clear hk); (try clear hi); (try clear ho0)) | ((with_reducible refine gate_callee (f := 31) rfl ?_); refine goesL_ (some 23) rfl rfl Try.func31 (by kernel_rfl) rfl #[.slice A0 l0.length c0] rfl (by (try simp only [List.map_toArray, List.map_cons, List.map_nil]); first | done | rfl | (simp only [List.length_drop, List.length_take]; rfl)) ?_; (with_reducible refine (minuetref1_Normal.calls k _ _ l0 t108 t109 _ ?side1 ?side2 A4.out).mono ?_); (case side1 => repeat (first | exact (Kd.C_below HR0.out HB.out) | (with_reducible refine Kd.C_alloc ?_ _) | (with_reducible refine Kd.C_drewN ?_ _) | (with_reducible refine Kd.C_drew ?_))); (case side2 => exact HC0.out); rintro e w11 ⟨v110, rfl, ho0, hb⟩; refine ⟨_, rfl, ?_⟩; have m0_ := Aside0.mk (Kd.R_elder' (by (with_reducible repeat (first | apply Kd.R_alloc | apply Kd.R_drewN | apply Kd.R_drew)); exact HM103.out) (Kd.R_base ho0) hb); have n0_ := Aside0.mk (Kd.R_elder' (by (with_reducible repeat (first | apply Kd.R_alloc | apply Kd.R_drewN | apply Kd.R_drew)); exact HO103.out) (Kd.R_base ho0) hb); have n1_ := Aside0.mk (Kd.R_elder' (by (with_reducible repeat (first | apply Kd.R_alloc | apply Kd.R_drewN | apply Kd.R_drew)); exact HO107.out) (Kd.R_base ho0) hb); have n2_ := Aside0.mk (Kd.R_lower (Kd.R_new' (Kd.R_new' ho0 (Kd.R_lt (by (with_reducible repeat (first | apply Kd.R_alloc | apply Kd.R_drewN | apply Kd.R_drew)); exact HO103.out))) (Kd.R_lt (by (with_reducible repeat (first | apply Kd.R_alloc | apply Kd.R_drewN | apply Kd.R_drew)); exact HO107.out))) (below_size (by repeat (first | (with_reducible first | exact HB.out | apply below_alloc | apply pw_below_drewN | apply below_drew1) | exact HB.out)))); have n3_ := Aside0.mk (below_step (by repeat (first | (with_reducible first | exact HB.out | apply below_alloc | apply pw_below_drewN | apply below_drew1) | exact HB.out)) hb); clear HO103; clear HM103; clear HO107; clear HB; have HO103 := n0_; have HM103 := m0_; clear m0_; have HO107 := n1_; have HO111 := n2_; have HB := n3_; clear n0_ n1_ n2_ n3_; (try clear hb); (try clear hb2); (try clear hk); (try clear hi); (try clear ho0)) | ((with_reducible refine gate_callee (f := 32) rfl ?_); refine goesL_ (some 28) rfl rfl Try.func32 (by kernel_rfl) rfl #[.slice Ao9 t101.length co9] rfl (by (try simp only [List.map_toArray, List.map_cons, List.map_nil]); first | done | rfl | (simp only [List.length_drop, List.length_take]; rfl)) ?_; (with_reducible refine (comp_Lengths.calls k _ _ t101 t112 t113 t114 _ ?side1 ?side2 A5.out).mono ?_); (case side1 => repeat (first | exact (Kd.R_reads' HO103.out).2.2 | (with_reducible refine Kd.C_alloc ?_ _) | (with_reducible refine Kd.C_drewN ?_ _) | (with_reducible refine Kd.C_drew ?_))); (case side2 => exact (Kd.R_reads' HO103.out).2.1); rintro e w12 ⟨rfl, hb⟩; refine ⟨_, rfl, ?_⟩; have m0_ := Aside0.mk (Kd.R_below (by (with_reducible repeat (first | apply Kd.R_alloc | apply Kd.R_drewN | apply Kd.R_drew)); exact HM103.out) hb); have n0_ := Aside0.mk (Kd.R_below (by (with_reducible repeat (first | apply Kd.R_alloc | apply Kd.R_drewN | apply Kd.R_drew)); exact HO103.out) hb); have n1_ := Aside0.mk (Kd.R_below (by (with_reducible repeat (first | apply Kd.R_alloc | apply Kd.R_drewN | apply Kd.R_drew)); exact HO107.out) hb); have n2_ := Aside0.mk (Kd.R_below (by (with_reducible repeat (first | apply Kd.R_alloc | apply Kd.R_drewN | apply Kd.R_drew)); exact HO111.out) hb); have n3_ := Aside0.mk (below_step (by repeat (first | (with_reducible first | exact HB.out | apply below_alloc | apply pw_below_drewN | apply below_drew1) | exact HB.out)) hb); clear HO103; clear HM103; clear HO107; clear HO111; clear HB; have HO103 := n0_; have HM103 := m0_; clear m0_; have HO107 := n1_; have HO111 := n2_; have HB := n3_; clear n0_ n1_ n2_ n3_; (try clear hb); (try clear hb2); (try clear hk); (try clear hi)) | ((with_reducible refine gate_callee (f := 28) rfl ?_); refine goesL_ (some 34) rfl rfl Try.func28 (by kernel_rfl) rfl #[.slice A0 l0.length c0] rfl (by (try simp only [List.map_toArray, List.map_cons, List.map_nil]); first | done | rfl | (simp only [List.length_drop, List.length_take]; rfl)) ?_; (with_reducible refine (minuetref1_Lengths.calls k _ _ l0 t115 t116 t117 _ ?side1 ?side2 A6.out).mono ?_); (case side1 => repeat (first | exact (Kd.C_below HR0.out HB.out) | (with_reducible refine Kd.C_alloc ?_ _) | (with_reducible refine Kd.C_drewN ?_ _) | (with_reducible refine Kd.C_drew ?_))); (case side2 => exact HC0.out); rintro e w13 ⟨rfl, hb⟩; refine ⟨_, rfl, ?_⟩; have m0_ := Aside0.mk (Kd.R_below (by (with_reducible repeat (first | apply Kd.R_alloc | apply Kd.R_drewN | apply Kd.R_drew)); exact HM103.out) hb); have n0_ := Aside0.mk (Kd.R_below (by (with_reducible repeat (first | apply Kd.R_alloc | apply Kd.R_drewN | apply Kd.R_drew)); exact HO103.out) hb); have n1_ := Aside0.mk (Kd.R_below (by (with_reducible repeat (first | apply Kd.R_alloc | apply Kd.R_drewN | apply Kd.R_drew)); exact HO107.out) hb); have n2_ := Aside0.mk (Kd.R_below (by (with_reducible repeat (first | apply Kd.R_alloc | apply Kd.R_drewN | apply Kd.R_drew)); exact HO111.out) hb); have n3_ := Aside0.mk (below_step (by repeat (first | (with_reducible first | exact HB.out | apply below_alloc | apply pw_below_drewN | apply below_drew1) | exact HB.out)) hb); clear HO103; clear HM103; clear HO107; clear HO111; clear HB; have HO103 := n0_; have HM103 := m0_; clear m0_; have HO107 := n1_; have HO111 := n2_; have HB := n3_; clear n0_ n1_ n2_ n3_; (try clear hb); (try clear hb2); (try clear hk); (try clear hi)))
 (try simp only [Act.put, List.setIfInBounds_toArray, List.set_cons_zero, List.set_cons_succ])
 go_cut [76] (fun v76 wc => ∃ (kq : Nat) (x76_6 : Bool), v76 = .bool x76_6 ∧ Aside0 (minuetlaw2_CompsAll.j0 kq l0 t101 t104 x76_6 = some r) ∧ Aside0 (kq ≤ k) ∧ Aside0 (Kd.R k40 40 wc w.heap.size (fun k_ => some k_ ≠ (v106 : Value).ownBlock) (.slice Ao9 t101.length co9) t101) ∧ Aside0 (Kd.R k40 40 wc w.heap.size (fun k_ => some k_ ≠ (v106 : Value).ownBlock) (.slice Ao9 (t101.length + 2) co9) (t101 ++ [minuetlaw0_KeptComps.mark, minuetlaw0_KeptComps.mark])) ∧ Aside0 (Kd.R k40 40 wc w.heap.size (fun k_ => some k_ ≠ ((.slice Ao9 t101.length co9) : Value).ownBlock) v106 t104) ∧ Aside0 (Below w.heap.size w wc))
 case first =>
  have H := HC7.out
  clear HC7
  replace H := Option.bind_eq_some_iff.mp H
  obtain ⟨t118, A140, H⟩ := H
  replace H : (if t118 = true then ((minuetlaw0_Num.f t105).bind fun t119 => (if t119 = t109 then (if t112 = t115 then (if t113 = t116 then ((minuetlaw0_Num.f t114).bind fun t120 => (if t120 = t117 then ((comp_May.f k t101).bind fun t121 => ((minuetref1_CompsMay.f k l0).bind fun t122 => (if (t121 != t122) = true then (minuetlaw2_CompsAll.j0 k l0 t101 t104 true) else ((minuetlaw0_KeptComps.f k t101 l0).bind fun t123 => (minuetlaw2_CompsAll.j0 k l0 t101 t104 (!t123)))))) else (minuetlaw2_CompsAll.j0 k l0 t101 t104 true))) else (minuetlaw2_CompsAll.j0 k l0 t101 t104 true)) else (minuetlaw2_CompsAll.j0 k l0 t101 t104 true)) else (minuetlaw2_CompsAll.j0 k l0 t101 t104 true))) else (minuetlaw2_CompsAll.j0 k l0 t101 t104 true)) = some r := H
  have A14 := Aside0.mk A140
  clear A140
  by_cases c15 : t118 = true
  · subst c15
    have H1 : ((minuetlaw0_Num.f t105).bind fun t119 => (if t119 = t109 then (if t112 = t115 then (if t113 = t116 then ((minuetlaw0_Num.f t114).bind fun t120 => (if t120 = t117 then ((comp_May.f k t101).bind fun t121 => ((minuetref1_CompsMay.f k l0).bind fun t122 => (if (t121 != t122) = true then (minuetlaw2_CompsAll.j0 k l0 t101 t104 true) else ((minuetlaw0_KeptComps.f k t101 l0).bind fun t123 => (minuetlaw2_CompsAll.j0 k l0 t101 t104 (!t123)))))) else (minuetlaw2_CompsAll.j0 k l0 t101 t104 true))) else (minuetlaw2_CompsAll.j0 k l0 t101 t104 true)) else (minuetlaw2_CompsAll.j0 k l0 t101 t104 true)) else (minuetlaw2_CompsAll.j0 k l0 t101 t104 true))) = some r := by rw [if_pos rfl] at H; exact H
    clear H
    have H := H1
    clear H1
    replace H := Option.bind_eq_some_iff.mp H
    obtain ⟨t119, A160, H⟩ := H
    replace H : (if t119 = t109 then (if t112 = t115 then (if t113 = t116 then ((minuetlaw0_Num.f t114).bind fun t120 => (if t120 = t117 then ((comp_May.f k t101).bind fun t121 => ((minuetref1_CompsMay.f k l0).bind fun t122 => (if (t121 != t122) = true then (minuetlaw2_CompsAll.j0 k l0 t101 t104 true) else ((minuetlaw0_KeptComps.f k t101 l0).bind fun t123 => (minuetlaw2_CompsAll.j0 k l0 t101 t104 (!t123)))))) else (minuetlaw2_CompsAll.j0 k l0 t101 t104 true))) else (minuetlaw2_CompsAll.j0 k l0 t101 t104 true)) else (minuetlaw2_CompsAll.j0 k l0 t101 t104 true)) else (minuetlaw2_CompsAll.j0 k l0 t101 t104 true)) = some r := H
    have A16 := Aside0.mk A160
    clear A160
    by_cases c17 : t119 = t109
    · rw [if_pos c17] at H
      have c17b0 : (t119 == t109) = true := beq_iff_eq.mpr c17
      have c17b1 : (t119 != t109) = false := bne_eq_false_iff_eq.mpr c17
      clear c17
      (first | rw [c17b0] | (simp only [i64_w, i32_w]; rw [c17b0]) | skip)
      by_cases c18 : t112 = t115
      · rw [if_pos c18] at H
        have c18b0 : (t112 == t115) = true := beq_iff_eq.mpr c18
        have c18b1 : (t112 != t115) = false := bne_eq_false_iff_eq.mpr c18
        clear c18
        by_cases c19 : t113 = t116
        · rw [if_pos c19] at H
          have c19b0 : (t113 == t116) = true := beq_iff_eq.mpr c19
          have c19b1 : (t113 != t116) = false := bne_eq_false_iff_eq.mpr c19
          clear c19
          replace H := Option.bind_eq_some_iff.mp H
          obtain ⟨t120, A200, H⟩ := H
          replace H : (if t120 = t117 then ((comp_May.f k t101).bind fun t121 => ((minuetref1_CompsMay.f k l0).bind fun t122 => (if (t121 != t122) = true then (minuetlaw2_CompsAll.j0 k l0 t101 t104 true) else ((minuetlaw0_KeptComps.f k t101 l0).bind fun t123 => (minuetlaw2_CompsAll.j0 k l0 t101 t104 (!t123)))))) else (minuetlaw2_CompsAll.j0 k l0 t101 t104 true)) = some r := H
          have A20 := Aside0.mk A200
          clear A200
          by_cases c21 : t120 = t117
          · rw [if_pos c21] at H
            have c21b0 : (t120 == t117) = true := beq_iff_eq.mpr c21
            have c21b1 : (t120 != t117) = false := bne_eq_false_iff_eq.mpr c21
            clear c21
            replace H := Option.bind_eq_some_iff.mp H
            obtain ⟨t121, A220, H⟩ := H
            replace H : ((minuetref1_CompsMay.f k l0).bind fun t122 => (if (t121 != t122) = true then (minuetlaw2_CompsAll.j0 k l0 t101 t104 true) else ((minuetlaw0_KeptComps.f k t101 l0).bind fun t123 => (minuetlaw2_CompsAll.j0 k l0 t101 t104 (!t123))))) = some r := H
            have A22 := Aside0.mk A220
            clear A220
            replace H := Option.bind_eq_some_iff.mp H
            obtain ⟨t122, A230, H⟩ := H
            replace H : (if (t121 != t122) = true then (minuetlaw2_CompsAll.j0 k l0 t101 t104 true) else ((minuetlaw0_KeptComps.f k t101 l0).bind fun t123 => (minuetlaw2_CompsAll.j0 k l0 t101 t104 (!t123)))) = some r := H
            have A23 := Aside0.mk A230
            clear A230
            by_cases c24 : (t121 != t122) = true
            · rw [if_pos c24] at H
              have c24b0 : (t121 != t122) = true := c24
              (try (have c24b1 : decide (t121 = t122) = false := by simpa using c24))
              (try (have c24b2 : (t121 == t122) = false := by simpa using c24))
              (try (have c24b3 : ¬ (t121 = t122) := by simpa using c24))
              clear c24
              have H' := Aside0.mk H
              clear H
              obtain ⟨Ao25, co25, eo25⟩ := Kd.R_slice HO107.out
              subst eo25
              obtain ⟨Ao26, co26, eo26⟩ := Kd.R_slice HO111.out
              subst eo26
              go_wp2_with (first | ((with_reducible refine gate_callee (f := 33) rfl ?_); refine goesL_ (some 40) rfl rfl Try.func33 (by kernel_rfl) rfl #[.slice Ao25 t104.length co25, .slice Ao26 t108.length co26] rfl (by (try simp only [List.map_toArray, List.map_cons, List.map_nil]); first | done | rfl | (simp only [List.length_drop, List.length_take]; rfl)) ?_; (with_reducible refine (minuetlaw0_SameComps.calls k _ _ t104 _ _ t108 true _ ?side1 ?side2 ?side3 ?side4 A14.out).mono ?_); (case side1 => repeat (first | exact (Kd.R_reads' HO107.out).2.2 | (with_reducible refine Kd.C_alloc ?_ _) | (with_reducible refine Kd.C_drewN ?_ _) | (with_reducible refine Kd.C_drew ?_))); (case side2 => exact (Kd.R_reads' HO107.out).2.1); (case side3 => repeat (first | exact (Kd.R_reads' HO111.out).2.2 | (with_reducible refine Kd.C_alloc ?_ _) | (with_reducible refine Kd.C_drewN ?_ _) | (with_reducible refine Kd.C_drew ?_))); (case side4 => exact (Kd.R_reads' HO111.out).2.1); rintro e w' ⟨rfl, ⟨nd, rfl⟩⟩; refine ⟨_, rfl, ?_⟩) | (go_at_call 25; (with_reducible refine (minuetlaw0_Num.calls t105 t119 _ A16.out).mono ?_); rintro e w' ⟨rfl, ⟨nd, rfl⟩⟩) | (go_at_call 25; (with_reducible refine (minuetlaw0_Num.calls t114 t120 _ A20.out).mono ?_); rintro e w' ⟨rfl, ⟨nd, rfl⟩⟩) | (go_at_call 34; (with_reducible refine (comp_May.calls k _ _ t101 t121 _ ?side1 ?side2 A22.out).mono ?_); (case side1 => repeat (first | exact (Kd.R_reads' HO103.out).2.2 | (with_reducible refine Kd.C_alloc ?_ _) | (with_reducible refine Kd.C_drewN ?_ _) | (with_reducible refine Kd.C_drew ?_))); (case side2 => exact (Kd.R_reads' HO103.out).2.1); rintro e w27 ⟨rfl, hb⟩; have m0_ := Aside0.mk (Kd.R_below (by (with_reducible repeat (first | apply Kd.R_alloc | apply Kd.R_drewN | apply Kd.R_drew)); exact HM103.out) hb); have n0_ := Aside0.mk (Kd.R_below (by (with_reducible repeat (first | apply Kd.R_alloc | apply Kd.R_drewN | apply Kd.R_drew)); exact HO103.out) hb); have n1_ := Aside0.mk (Kd.R_below (by (with_reducible repeat (first | apply Kd.R_alloc | apply Kd.R_drewN | apply Kd.R_drew)); exact HO107.out) hb); have n2_ := Aside0.mk (Kd.R_below (by (with_reducible repeat (first | apply Kd.R_alloc | apply Kd.R_drewN | apply Kd.R_drew)); exact HO111.out) hb); have n3_ := Aside0.mk (below_step (by repeat (first | (with_reducible first | exact HB.out | apply below_alloc | apply pw_below_drewN | apply below_drew1) | exact HB.out)) hb); clear HO103; clear HM103; clear HO107; clear HO111; clear HB; have HO103 := n0_; have HM103 := m0_; clear m0_; have HO107 := n1_; have HO111 := n2_; have HB := n3_; clear n0_ n1_ n2_ n3_; (try clear hb); (try clear hb2); (try clear hk); (try clear hi)) | (go_at_call 35; (with_reducible refine (minuetref1_CompsMay.calls k _ _ l0 t122 _ ?side1 ?side2 A23.out).mono ?_); (case side1 => repeat (first | exact (Kd.C_below HR0.out HB.out) | (with_reducible refine Kd.C_alloc ?_ _) | (with_reducible refine Kd.C_drewN ?_ _) | (with_reducible refine Kd.C_drew ?_))); (case side2 => exact HC0.out); rintro e w28 ⟨rfl, hb⟩; have m0_ := Aside0.mk (Kd.R_below (by (with_reducible repeat (first | apply Kd.R_alloc | apply Kd.R_drewN | apply Kd.R_drew)); exact HM103.out) hb); have n0_ := Aside0.mk (Kd.R_below (by (with_reducible repeat (first | apply Kd.R_alloc | apply Kd.R_drewN | apply Kd.R_drew)); exact HO103.out) hb); have n1_ := Aside0.mk (Kd.R_below (by (with_reducible repeat (first | apply Kd.R_alloc | apply Kd.R_drewN | apply Kd.R_drew)); exact HO107.out) hb); have n2_ := Aside0.mk (Kd.R_below (by (with_reducible repeat (first | apply Kd.R_alloc | apply Kd.R_drewN | apply Kd.R_drew)); exact HO111.out) hb); have n3_ := Aside0.mk (below_step (by repeat (first | (with_reducible first | exact HB.out | apply below_alloc | apply pw_below_drewN | apply below_drew1) | exact HB.out)) hb); clear HO103; clear HM103; clear HO107; clear HO111; clear HB; have HO103 := n0_; have HM103 := m0_; clear m0_; have HO107 := n1_; have HO111 := n2_; have HB := n3_; clear n0_ n1_ n2_ n3_; (try clear hb); (try clear hb2); (try clear hk); (try clear hi)))
              go_meet
              case rel => exact ⟨_, (true), (by first | rfl | (simp; done) | (simp [*]; done)), H', ⟨by first | omega | exact Nat.le_refl _⟩, ⟨by (with_reducible repeat (first | apply Kd.R_alloc | apply Kd.R_drewN | apply Kd.R_drew)); exact Kd.R_mono HO103.out (fun _ hk => hk.1.2)⟩, ⟨by (with_reducible repeat (first | apply Kd.R_alloc | apply Kd.R_drewN | apply Kd.R_drew)); exact Kd.R_mono HM103.out (fun _ hk => hk.1.2)⟩, ⟨by (with_reducible repeat (first | apply Kd.R_alloc | apply Kd.R_drewN | apply Kd.R_drew)); exact Kd.R_mono HO107.out (fun _ hk => hk.1.2)⟩, ⟨by repeat (first | (with_reducible first | exact HB.out | apply below_alloc | apply pw_below_drewN | apply below_drew1) | exact HB.out)⟩⟩
            · rw [if_neg c24] at H
              have c24b0 : (t121 != t122) = false := by simpa using c24
              (try (have c24b1 : decide (t121 = t122) = true := by simpa using c24))
              (try (have c24b2 : (t121 == t122) = true := by simpa using c24))
              clear c24
              replace H := Option.bind_eq_some_iff.mp H
              obtain ⟨t123, A290, H⟩ := H
              replace H : (minuetlaw2_CompsAll.j0 k l0 t101 t104 (!t123)) = some r := H
              have A29 := Aside0.mk A290
              clear A290
              have H' := Aside0.mk H
              clear H
              obtain ⟨Ao30, co30, eo30⟩ := Kd.R_slice HO107.out
              subst eo30
              obtain ⟨Ao31, co31, eo31⟩ := Kd.R_slice HO111.out
              subst eo31
              go_wp2_with (first | ((with_reducible refine gate_callee (f := 33) rfl ?_); refine goesL_ (some 40) rfl rfl Try.func33 (by kernel_rfl) rfl #[.slice Ao30 t104.length co30, .slice Ao31 t108.length co31] rfl (by (try simp only [List.map_toArray, List.map_cons, List.map_nil]); first | done | rfl | (simp only [List.length_drop, List.length_take]; rfl)) ?_; (with_reducible refine (minuetlaw0_SameComps.calls k _ _ t104 _ _ t108 true _ ?side1 ?side2 ?side3 ?side4 A14.out).mono ?_); (case side1 => repeat (first | exact (Kd.R_reads' HO107.out).2.2 | (with_reducible refine Kd.C_alloc ?_ _) | (with_reducible refine Kd.C_drewN ?_ _) | (with_reducible refine Kd.C_drew ?_))); (case side2 => exact (Kd.R_reads' HO107.out).2.1); (case side3 => repeat (first | exact (Kd.R_reads' HO111.out).2.2 | (with_reducible refine Kd.C_alloc ?_ _) | (with_reducible refine Kd.C_drewN ?_ _) | (with_reducible refine Kd.C_drew ?_))); (case side4 => exact (Kd.R_reads' HO111.out).2.1); rintro e w' ⟨rfl, ⟨nd, rfl⟩⟩; refine ⟨_, rfl, ?_⟩) | (go_at_call 25; (with_reducible refine (minuetlaw0_Num.calls t105 t119 _ A16.out).mono ?_); rintro e w' ⟨rfl, ⟨nd, rfl⟩⟩) | (go_at_call 25; (with_reducible refine (minuetlaw0_Num.calls t114 t120 _ A20.out).mono ?_); rintro e w' ⟨rfl, ⟨nd, rfl⟩⟩) | (go_at_call 34; (with_reducible refine (comp_May.calls k _ _ t101 t121 _ ?side1 ?side2 A22.out).mono ?_); (case side1 => repeat (first | exact (Kd.R_reads' HO103.out).2.2 | (with_reducible refine Kd.C_alloc ?_ _) | (with_reducible refine Kd.C_drewN ?_ _) | (with_reducible refine Kd.C_drew ?_))); (case side2 => exact (Kd.R_reads' HO103.out).2.1); rintro e w32 ⟨rfl, hb⟩; have m0_ := Aside0.mk (Kd.R_below (by (with_reducible repeat (first | apply Kd.R_alloc | apply Kd.R_drewN | apply Kd.R_drew)); exact HM103.out) hb); have n0_ := Aside0.mk (Kd.R_below (by (with_reducible repeat (first | apply Kd.R_alloc | apply Kd.R_drewN | apply Kd.R_drew)); exact HO103.out) hb); have n1_ := Aside0.mk (Kd.R_below (by (with_reducible repeat (first | apply Kd.R_alloc | apply Kd.R_drewN | apply Kd.R_drew)); exact HO107.out) hb); have n2_ := Aside0.mk (Kd.R_below (by (with_reducible repeat (first | apply Kd.R_alloc | apply Kd.R_drewN | apply Kd.R_drew)); exact HO111.out) hb); have n3_ := Aside0.mk (below_step (by repeat (first | (with_reducible first | exact HB.out | apply below_alloc | apply pw_below_drewN | apply below_drew1) | exact HB.out)) hb); clear HO103; clear HM103; clear HO107; clear HO111; clear HB; have HO103 := n0_; have HM103 := m0_; clear m0_; have HO107 := n1_; have HO111 := n2_; have HB := n3_; clear n0_ n1_ n2_ n3_; (try clear hb); (try clear hb2); (try clear hk); (try clear hi)) | (go_at_call 35; (with_reducible refine (minuetref1_CompsMay.calls k _ _ l0 t122 _ ?side1 ?side2 A23.out).mono ?_); (case side1 => repeat (first | exact (Kd.C_below HR0.out HB.out) | (with_reducible refine Kd.C_alloc ?_ _) | (with_reducible refine Kd.C_drewN ?_ _) | (with_reducible refine Kd.C_drew ?_))); (case side2 => exact HC0.out); rintro e w33 ⟨rfl, hb⟩; have m0_ := Aside0.mk (Kd.R_below (by (with_reducible repeat (first | apply Kd.R_alloc | apply Kd.R_drewN | apply Kd.R_drew)); exact HM103.out) hb); have n0_ := Aside0.mk (Kd.R_below (by (with_reducible repeat (first | apply Kd.R_alloc | apply Kd.R_drewN | apply Kd.R_drew)); exact HO103.out) hb); have n1_ := Aside0.mk (Kd.R_below (by (with_reducible repeat (first | apply Kd.R_alloc | apply Kd.R_drewN | apply Kd.R_drew)); exact HO107.out) hb); have n2_ := Aside0.mk (Kd.R_below (by (with_reducible repeat (first | apply Kd.R_alloc | apply Kd.R_drewN | apply Kd.R_drew)); exact HO111.out) hb); have n3_ := Aside0.mk (below_step (by repeat (first | (with_reducible first | exact HB.out | apply below_alloc | apply pw_below_drewN | apply below_drew1) | exact HB.out)) hb); clear HO103; clear HM103; clear HO107; clear HO111; clear HB; have HO103 := n0_; have HM103 := m0_; clear m0_; have HO107 := n1_; have HO111 := n2_; have HB := n3_; clear n0_ n1_ n2_ n3_; (try clear hb); (try clear hb2); (try clear hk); (try clear hi)) | (go_at_call 26; (with_reducible refine (minuetlaw0_KeptComps.calls k _ _ t101 _ _ l0 t123 _ ?side1 ?side2 ?side3 ?side4 A29.out ?sideM).mono ?_); (case sideM => refine ⟨(Kd.R_reads' HM103.out).2.1, ?_⟩; repeat (first | exact (Kd.R_reads' HM103.out).2.2 | (with_reducible refine Kd.C_alloc ?_ _) | (with_reducible refine Kd.C_drewN ?_ _) | (with_reducible refine Kd.C_drew ?_))); (case side1 => repeat (first | exact (Kd.R_reads' HO103.out).2.2 | (with_reducible refine Kd.C_alloc ?_ _) | (with_reducible refine Kd.C_drewN ?_ _) | (with_reducible refine Kd.C_drew ?_))); (case side2 => exact (Kd.R_reads' HO103.out).2.1); (case side3 => repeat (first | exact (Kd.C_below HR0.out HB.out) | (with_reducible refine Kd.C_alloc ?_ _) | (with_reducible refine Kd.C_drewN ?_ _) | (with_reducible refine Kd.C_drew ?_))); (case side4 => exact HC0.out); rintro e w' ⟨rfl, ⟨nd, rfl⟩⟩))
              go_meet
              case rel => exact ⟨_, (!t123), (by first | rfl | (simp; done) | (simp [*]; done)), H', ⟨by first | omega | exact Nat.le_refl _⟩, ⟨by (with_reducible repeat (first | apply Kd.R_alloc | apply Kd.R_drewN | apply Kd.R_drew)); exact Kd.R_mono HO103.out (fun _ hk => hk.1.2)⟩, ⟨by (with_reducible repeat (first | apply Kd.R_alloc | apply Kd.R_drewN | apply Kd.R_drew)); exact Kd.R_mono HM103.out (fun _ hk => hk.1.2)⟩, ⟨by (with_reducible repeat (first | apply Kd.R_alloc | apply Kd.R_drewN | apply Kd.R_drew)); exact Kd.R_mono HO107.out (fun _ hk => hk.1.2)⟩, ⟨by repeat (first | (with_reducible first | exact HB.out | apply below_alloc | apply pw_below_drewN | apply below_drew1) | exact HB.out)⟩⟩
          · rw [if_neg c21] at H
            have c21b0 : (t120 == t117) = false := beq_eq_false_iff_ne.mpr c21
            have c21b1 : (t120 != t117) = true := bne_iff_ne.mpr c21
            have H' := Aside0.mk H
            clear H
            obtain ⟨Ao34, co34, eo34⟩ := Kd.R_slice HO107.out
            subst eo34
            obtain ⟨Ao35, co35, eo35⟩ := Kd.R_slice HO111.out
            subst eo35
            go_wp2_with (first | ((with_reducible refine gate_callee (f := 33) rfl ?_); refine goesL_ (some 40) rfl rfl Try.func33 (by kernel_rfl) rfl #[.slice Ao34 t104.length co34, .slice Ao35 t108.length co35] rfl (by (try simp only [List.map_toArray, List.map_cons, List.map_nil]); first | done | rfl | (simp only [List.length_drop, List.length_take]; rfl)) ?_; (with_reducible refine (minuetlaw0_SameComps.calls k _ _ t104 _ _ t108 true _ ?side1 ?side2 ?side3 ?side4 A14.out).mono ?_); (case side1 => repeat (first | exact (Kd.R_reads' HO107.out).2.2 | (with_reducible refine Kd.C_alloc ?_ _) | (with_reducible refine Kd.C_drewN ?_ _) | (with_reducible refine Kd.C_drew ?_))); (case side2 => exact (Kd.R_reads' HO107.out).2.1); (case side3 => repeat (first | exact (Kd.R_reads' HO111.out).2.2 | (with_reducible refine Kd.C_alloc ?_ _) | (with_reducible refine Kd.C_drewN ?_ _) | (with_reducible refine Kd.C_drew ?_))); (case side4 => exact (Kd.R_reads' HO111.out).2.1); rintro e w' ⟨rfl, ⟨nd, rfl⟩⟩; refine ⟨_, rfl, ?_⟩) | (go_at_call 25; (with_reducible refine (minuetlaw0_Num.calls t105 t119 _ A16.out).mono ?_); rintro e w' ⟨rfl, ⟨nd, rfl⟩⟩) | (go_at_call 25; (with_reducible refine (minuetlaw0_Num.calls t114 t120 _ A20.out).mono ?_); rintro e w' ⟨rfl, ⟨nd, rfl⟩⟩))
            go_meet
            case rel => exact ⟨_, (true), (by first | rfl | (simp; done) | (simp [*]; done)), H', ⟨by first | omega | exact Nat.le_refl _⟩, ⟨by (with_reducible repeat (first | apply Kd.R_alloc | apply Kd.R_drewN | apply Kd.R_drew)); exact Kd.R_mono HO103.out (fun _ hk => hk.1.2)⟩, ⟨by (with_reducible repeat (first | apply Kd.R_alloc | apply Kd.R_drewN | apply Kd.R_drew)); exact Kd.R_mono HM103.out (fun _ hk => hk.1.2)⟩, ⟨by (with_reducible repeat (first | apply Kd.R_alloc | apply Kd.R_drewN | apply Kd.R_drew)); exact Kd.R_mono HO107.out (fun _ hk => hk.1.2)⟩, ⟨by repeat (first | (with_reducible first | exact HB.out | apply below_alloc | apply pw_below_drewN | apply below_drew1) | exact HB.out)⟩⟩
        · rw [if_neg c19] at H
          have c19b0 : (t113 == t116) = false := beq_eq_false_iff_ne.mpr c19
          have c19b1 : (t113 != t116) = true := bne_iff_ne.mpr c19
          have H' := Aside0.mk H
          clear H
          obtain ⟨Ao36, co36, eo36⟩ := Kd.R_slice HO107.out
          subst eo36
          obtain ⟨Ao37, co37, eo37⟩ := Kd.R_slice HO111.out
          subst eo37
          go_wp2_with (first | ((with_reducible refine gate_callee (f := 33) rfl ?_); refine goesL_ (some 40) rfl rfl Try.func33 (by kernel_rfl) rfl #[.slice Ao36 t104.length co36, .slice Ao37 t108.length co37] rfl (by (try simp only [List.map_toArray, List.map_cons, List.map_nil]); first | done | rfl | (simp only [List.length_drop, List.length_take]; rfl)) ?_; (with_reducible refine (minuetlaw0_SameComps.calls k _ _ t104 _ _ t108 true _ ?side1 ?side2 ?side3 ?side4 A14.out).mono ?_); (case side1 => repeat (first | exact (Kd.R_reads' HO107.out).2.2 | (with_reducible refine Kd.C_alloc ?_ _) | (with_reducible refine Kd.C_drewN ?_ _) | (with_reducible refine Kd.C_drew ?_))); (case side2 => exact (Kd.R_reads' HO107.out).2.1); (case side3 => repeat (first | exact (Kd.R_reads' HO111.out).2.2 | (with_reducible refine Kd.C_alloc ?_ _) | (with_reducible refine Kd.C_drewN ?_ _) | (with_reducible refine Kd.C_drew ?_))); (case side4 => exact (Kd.R_reads' HO111.out).2.1); rintro e w' ⟨rfl, ⟨nd, rfl⟩⟩; refine ⟨_, rfl, ?_⟩) | (go_at_call 25; (with_reducible refine (minuetlaw0_Num.calls t105 t119 _ A16.out).mono ?_); rintro e w' ⟨rfl, ⟨nd, rfl⟩⟩))
          go_meet
          case rel => exact ⟨_, (true), (by first | rfl | (simp; done) | (simp [*]; done)), H', ⟨by first | omega | exact Nat.le_refl _⟩, ⟨by (with_reducible repeat (first | apply Kd.R_alloc | apply Kd.R_drewN | apply Kd.R_drew)); exact Kd.R_mono HO103.out (fun _ hk => hk.1.2)⟩, ⟨by (with_reducible repeat (first | apply Kd.R_alloc | apply Kd.R_drewN | apply Kd.R_drew)); exact Kd.R_mono HM103.out (fun _ hk => hk.1.2)⟩, ⟨by (with_reducible repeat (first | apply Kd.R_alloc | apply Kd.R_drewN | apply Kd.R_drew)); exact Kd.R_mono HO107.out (fun _ hk => hk.1.2)⟩, ⟨by repeat (first | (with_reducible first | exact HB.out | apply below_alloc | apply pw_below_drewN | apply below_drew1) | exact HB.out)⟩⟩
      · rw [if_neg c18] at H
        have c18b0 : (t112 == t115) = false := beq_eq_false_iff_ne.mpr c18
        have c18b1 : (t112 != t115) = true := bne_iff_ne.mpr c18
        have H' := Aside0.mk H
        clear H
        obtain ⟨Ao38, co38, eo38⟩ := Kd.R_slice HO107.out
        subst eo38
        obtain ⟨Ao39, co39, eo39⟩ := Kd.R_slice HO111.out
        subst eo39
        go_wp2_with (first | ((with_reducible refine gate_callee (f := 33) rfl ?_); refine goesL_ (some 40) rfl rfl Try.func33 (by kernel_rfl) rfl #[.slice Ao38 t104.length co38, .slice Ao39 t108.length co39] rfl (by (try simp only [List.map_toArray, List.map_cons, List.map_nil]); first | done | rfl | (simp only [List.length_drop, List.length_take]; rfl)) ?_; (with_reducible refine (minuetlaw0_SameComps.calls k _ _ t104 _ _ t108 true _ ?side1 ?side2 ?side3 ?side4 A14.out).mono ?_); (case side1 => repeat (first | exact (Kd.R_reads' HO107.out).2.2 | (with_reducible refine Kd.C_alloc ?_ _) | (with_reducible refine Kd.C_drewN ?_ _) | (with_reducible refine Kd.C_drew ?_))); (case side2 => exact (Kd.R_reads' HO107.out).2.1); (case side3 => repeat (first | exact (Kd.R_reads' HO111.out).2.2 | (with_reducible refine Kd.C_alloc ?_ _) | (with_reducible refine Kd.C_drewN ?_ _) | (with_reducible refine Kd.C_drew ?_))); (case side4 => exact (Kd.R_reads' HO111.out).2.1); rintro e w' ⟨rfl, ⟨nd, rfl⟩⟩; refine ⟨_, rfl, ?_⟩) | (go_at_call 25; (with_reducible refine (minuetlaw0_Num.calls t105 t119 _ A16.out).mono ?_); rintro e w' ⟨rfl, ⟨nd, rfl⟩⟩))
        go_meet
        case rel => exact ⟨_, (true), (by first | rfl | (simp; done) | (simp [*]; done)), H', ⟨by first | omega | exact Nat.le_refl _⟩, ⟨by (with_reducible repeat (first | apply Kd.R_alloc | apply Kd.R_drewN | apply Kd.R_drew)); exact Kd.R_mono HO103.out (fun _ hk => hk.1.2)⟩, ⟨by (with_reducible repeat (first | apply Kd.R_alloc | apply Kd.R_drewN | apply Kd.R_drew)); exact Kd.R_mono HM103.out (fun _ hk => hk.1.2)⟩, ⟨by (with_reducible repeat (first | apply Kd.R_alloc | apply Kd.R_drewN | apply Kd.R_drew)); exact Kd.R_mono HO107.out (fun _ hk => hk.1.2)⟩, ⟨by repeat (first | (with_reducible first | exact HB.out | apply below_alloc | apply pw_below_drewN | apply below_drew1) | exact HB.out)⟩⟩
    · rw [if_neg c17] at H
      have c17b0 : (t119 == t109) = false := beq_eq_false_iff_ne.mpr c17
      have c17b1 : (t119 != t109) = true := bne_iff_ne.mpr c17
      (first | rw [c17b0] | (simp only [i64_w, i32_w]; rw [c17b0]) | skip)
      have H' := Aside0.mk H
      clear H
      obtain ⟨Ao40, co40, eo40⟩ := Kd.R_slice HO107.out
      subst eo40
      obtain ⟨Ao41, co41, eo41⟩ := Kd.R_slice HO111.out
      subst eo41
      go_wp2_with (first | ((with_reducible refine gate_callee (f := 33) rfl ?_); refine goesL_ (some 40) rfl rfl Try.func33 (by kernel_rfl) rfl #[.slice Ao40 t104.length co40, .slice Ao41 t108.length co41] rfl (by (try simp only [List.map_toArray, List.map_cons, List.map_nil]); first | done | rfl | (simp only [List.length_drop, List.length_take]; rfl)) ?_; (with_reducible refine (minuetlaw0_SameComps.calls k _ _ t104 _ _ t108 true _ ?side1 ?side2 ?side3 ?side4 A14.out).mono ?_); (case side1 => repeat (first | exact (Kd.R_reads' HO107.out).2.2 | (with_reducible refine Kd.C_alloc ?_ _) | (with_reducible refine Kd.C_drewN ?_ _) | (with_reducible refine Kd.C_drew ?_))); (case side2 => exact (Kd.R_reads' HO107.out).2.1); (case side3 => repeat (first | exact (Kd.R_reads' HO111.out).2.2 | (with_reducible refine Kd.C_alloc ?_ _) | (with_reducible refine Kd.C_drewN ?_ _) | (with_reducible refine Kd.C_drew ?_))); (case side4 => exact (Kd.R_reads' HO111.out).2.1); rintro e w' ⟨rfl, ⟨nd, rfl⟩⟩; refine ⟨_, rfl, ?_⟩) | (go_at_call 25; (with_reducible refine (minuetlaw0_Num.calls t105 t119 _ A16.out).mono ?_); rintro e w' ⟨rfl, ⟨nd, rfl⟩⟩))
      go_meet
      case rel => exact ⟨_, (true), (by first | rfl | (simp; done) | (simp [*]; done)), H', ⟨by first | omega | exact Nat.le_refl _⟩, ⟨by (with_reducible repeat (first | apply Kd.R_alloc | apply Kd.R_drewN | apply Kd.R_drew)); exact Kd.R_mono HO103.out (fun _ hk => hk.1.2)⟩, ⟨by (with_reducible repeat (first | apply Kd.R_alloc | apply Kd.R_drewN | apply Kd.R_drew)); exact Kd.R_mono HM103.out (fun _ hk => hk.1.2)⟩, ⟨by (with_reducible repeat (first | apply Kd.R_alloc | apply Kd.R_drewN | apply Kd.R_drew)); exact Kd.R_mono HO107.out (fun _ hk => hk.1.2)⟩, ⟨by repeat (first | (with_reducible first | exact HB.out | apply below_alloc | apply pw_below_drewN | apply below_drew1) | exact HB.out)⟩⟩
  · replace c15 := Bool.eq_false_iff.mpr c15
    subst c15
    have H1 : (minuetlaw2_CompsAll.j0 k l0 t101 t104 true) = some r := by rw [if_neg (show ¬ (false = true) by decide)] at H; exact H
    clear H
    have H := H1
    clear H1
    have H' := Aside0.mk H
    clear H
    obtain ⟨Ao42, co42, eo42⟩ := Kd.R_slice HO107.out
    subst eo42
    obtain ⟨Ao43, co43, eo43⟩ := Kd.R_slice HO111.out
    subst eo43
    go_wp2_with (first | ((with_reducible refine gate_callee (f := 33) rfl ?_); refine goesL_ (some 40) rfl rfl Try.func33 (by kernel_rfl) rfl #[.slice Ao42 t104.length co42, .slice Ao43 t108.length co43] rfl (by (try simp only [List.map_toArray, List.map_cons, List.map_nil]); first | done | rfl | (simp only [List.length_drop, List.length_take]; rfl)) ?_; (with_reducible refine (minuetlaw0_SameComps.calls k _ _ t104 _ _ t108 false _ ?side1 ?side2 ?side3 ?side4 A14.out).mono ?_); (case side1 => repeat (first | exact (Kd.R_reads' HO107.out).2.2 | (with_reducible refine Kd.C_alloc ?_ _) | (with_reducible refine Kd.C_drewN ?_ _) | (with_reducible refine Kd.C_drew ?_))); (case side2 => exact (Kd.R_reads' HO107.out).2.1); (case side3 => repeat (first | exact (Kd.R_reads' HO111.out).2.2 | (with_reducible refine Kd.C_alloc ?_ _) | (with_reducible refine Kd.C_drewN ?_ _) | (with_reducible refine Kd.C_drew ?_))); (case side4 => exact (Kd.R_reads' HO111.out).2.1); rintro e w' ⟨rfl, ⟨nd, rfl⟩⟩; refine ⟨_, rfl, ?_⟩))
    go_meet
    case rel => exact ⟨_, (true), (by first | rfl | (simp; done) | (simp [*]; done)), H', ⟨by first | omega | exact Nat.le_refl _⟩, ⟨by (with_reducible repeat (first | apply Kd.R_alloc | apply Kd.R_drewN | apply Kd.R_drew)); exact Kd.R_mono HO103.out (fun _ hk => hk.1.2)⟩, ⟨by (with_reducible repeat (first | apply Kd.R_alloc | apply Kd.R_drewN | apply Kd.R_drew)); exact Kd.R_mono HM103.out (fun _ hk => hk.1.2)⟩, ⟨by (with_reducible repeat (first | apply Kd.R_alloc | apply Kd.R_drewN | apply Kd.R_drew)); exact Kd.R_mono HO107.out (fun _ hk => hk.1.2)⟩, ⟨by repeat (first | (with_reducible first | exact HB.out | apply below_alloc | apply pw_below_drewN | apply below_drew1) | exact HB.out)⟩⟩
 case rest =>
  clear HC7
  try clear c1
  try clear c2
  try clear p2
  try clear c3
  try clear c9
  try clear c15
  try clear c17
  try clear c17b0
  try clear c17b1
  try clear c18
  try clear c18b0
  try clear c18b1
  try clear c19
  try clear c19b0
  try clear c19b1
  try clear c21
  try clear c21b0
  try clear c21b1
  try clear c22
  try clear c24
  try clear c24b0
  try clear c24b1
  try clear c24b2
  try clear c28
  try clear c30
  try clear c31
  try clear c32
  try clear c33
  obtain ⟨kq, x76_6, rfl, HA, HJ6, HO_3, HM_3, HO_4, HB⟩ := hcut
  cases kq with
  | zero => exact absurd HA.out (by simp [minuetlaw2_CompsAll.j0])
  | succ kj6 =>
   have H := HA.out
   clear HA
   simp only [minuetlaw2_CompsAll.j0] at H
   by_cases c44 : x76_6 = true
   · subst c44
     have H1 : (none) = some r := by rw [if_pos rfl] at H; exact H
     clear H
     have H := H1
     clear H1
     exact absurd H (by simp)
   · replace c44 := Bool.eq_false_iff.mpr c44
     subst c44
     have H1 : ((minuetlaw0_SpoilComps.f kj6 t104).bind fun t124 => ((minuetlaw0_KeptComps.f kj6 t101 l0).bind fun t125 => (if t125 = true then ((minuetlaw2_awake.f kj6).bind fun t126 => (some t126)) else (none)))) = some r := by rw [if_neg (show ¬ (false = true) by decide)] at H; exact H
     clear H
     have H := H1
     clear H1
     replace H := Option.bind_eq_some_iff.mp H
     obtain ⟨t124, A450, H⟩ := H
     replace H : ((minuetlaw0_KeptComps.f kj6 t101 l0).bind fun t125 => (if t125 = true then ((minuetlaw2_awake.f kj6).bind fun t126 => (some t126)) else (none))) = some r := H
     have A45 := Aside0.mk A450
     clear A450
     replace H := Option.bind_eq_some_iff.mp H
     obtain ⟨t125, A460, H⟩ := H
     replace H : (if t125 = true then ((minuetlaw2_awake.f kj6).bind fun t126 => (some t126)) else (none)) = some r := H
     have A46 := Aside0.mk A460
     clear A460
     by_cases c47 : t125 = true
     · subst c47
       have H1 : ((minuetlaw2_awake.f kj6).bind fun t126 => (some t126)) = some r := by rw [if_pos rfl] at H; exact H
       clear H
       have H := H1
       clear H1
       replace H := Option.bind_eq_some_iff.mp H
       obtain ⟨t126, A480, H⟩ := H
       replace H : (some t126) = some r := H
       have A48 := Aside0.mk A480
       clear A480
       obtain rfl := Option.some.inj H
       obtain ⟨Ao49, co49, eo49⟩ := Kd.R_slice HO_4.out
       subst eo49
       go_wp2_with (first | ((with_reducible refine gate_callee (f := 36) rfl ?_); refine goesL_ (some 78) rfl rfl Try.func36 (by kernel_rfl) rfl #[.slice Ao49 t104.length co49] rfl (by (try simp only [List.map_toArray, List.map_cons, List.map_nil]); first | done | rfl | (simp only [List.length_drop, List.length_take]; rfl)) ?_; (with_reducible refine (minuetlaw0_SpoilComps.calls kj6 (fun k_ => some k_ = (.slice Ao49 t104.length co49 : Value).ownBlock) (.slice Ao49 t104.length co49) t104 t124 w _ ?side1 ?side2 A45.out).mono ?_); (case side1 => repeat (first | (with_reducible first | exact HB.out | apply below_alloc | apply pw_below_drewN | apply below_drew1) | exact HB.out)); (case side2 => exact Kd.R_tight rfl HO_4.out); rintro e w50 ⟨rfl, hy0, hb, hkp⟩; refine ⟨_, rfl, ?_⟩; have m0_ := Aside0.mk (Kd.R_mono (ok' := fun k_ => some k_ ≠ (.slice Ao49 t104.length co49 : Value).ownBlock) (Kd.R_keptB (HM_3.out) hkp (fun k_ hk_ hs_ => (hk_) hs_)) (fun k_ hk_ => hk_.1)); have n0_ := Aside0.mk (Kd.R_mono (ok' := fun k_ => some k_ ≠ (.slice Ao49 t104.length co49 : Value).ownBlock) (Kd.R_keptB (HO_3.out) hkp (fun k_ hk_ hs_ => (hk_) hs_)) (fun k_ hk_ => hk_.1)); have n1_ := Aside0.mk (Kd.R_reok rfl hy0 (fun k_ e_ => HO_4.out.1 k_ e_)); have n2_ := Aside0.mk (hb); clear HO_3; clear HM_3; clear HO_4; clear HB; have HO_3 := n0_; have HM_3 := m0_; clear m0_; have HO_4 := n1_; have HB := n2_; clear n0_ n1_ n2_; (try clear hb); (try clear hkp); (try clear hy0)) | ((with_reducible refine gate_callee (f := 26) rfl ?_); refine goesL_ (some 81) rfl rfl Try.func26 (by kernel_rfl) rfl #[.slice Ao9 t101.length co9, .slice A0 l0.length c0] rfl (by (try simp only [List.map_toArray, List.map_cons, List.map_nil]); first | done | rfl | (simp only [List.length_drop, List.length_take]; rfl)) ?_; (with_reducible refine (minuetlaw0_KeptComps.calls kj6 _ _ t101 _ _ l0 true _ ?side1 ?side2 ?side3 ?side4 A46.out ?sideM).mono ?_); (case sideM => refine ⟨(Kd.R_reads' HM_3.out).2.1, ?_⟩; repeat (first | exact (Kd.R_reads' HM_3.out).2.2 | (with_reducible refine Kd.C_alloc ?_ _) | (with_reducible refine Kd.C_drewN ?_ _) | (with_reducible refine Kd.C_drew ?_))); (case side1 => repeat (first | exact (Kd.R_reads' HO_3.out).2.2 | (with_reducible refine Kd.C_alloc ?_ _) | (with_reducible refine Kd.C_drewN ?_ _) | (with_reducible refine Kd.C_drew ?_))); (case side2 => exact (Kd.R_reads' HO_3.out).2.1); (case side3 => repeat (first | exact (Kd.C_below HR0.out HB.out) | (with_reducible refine Kd.C_alloc ?_ _) | (with_reducible refine Kd.C_drewN ?_ _) | (with_reducible refine Kd.C_drew ?_))); (case side4 => exact HC0.out); rintro e w' ⟨rfl, ⟨nd, rfl⟩⟩; refine ⟨_, rfl, ?_⟩) | (go_at_call 37; (with_reducible refine (minuetlaw2_awake.calls kj6  t126 _ A48.out).mono ?_); rintro e w51 ⟨rfl, hb⟩; have m0_ := Aside0.mk (Kd.R_below (by (with_reducible repeat (first | apply Kd.R_alloc | apply Kd.R_drewN | apply Kd.R_drew)); exact HM_3.out) hb); have n0_ := Aside0.mk (Kd.R_below (by (with_reducible repeat (first | apply Kd.R_alloc | apply Kd.R_drewN | apply Kd.R_drew)); exact HO_3.out) hb); have n1_ := Aside0.mk (Kd.R_below (by (with_reducible repeat (first | apply Kd.R_alloc | apply Kd.R_drewN | apply Kd.R_drew)); exact HO_4.out) hb); have n2_ := Aside0.mk (below_step (by repeat (first | (with_reducible first | exact HB.out | apply below_alloc | apply pw_below_drewN | apply below_drew1) | exact HB.out)) hb); clear HO_3; clear HM_3; clear HO_4; clear HB; have HO_3 := n0_; have HM_3 := m0_; clear m0_; have HO_4 := n1_; have HB := n2_; clear n0_ n1_ n2_; (try clear hb); (try clear hb2); (try clear hk); (try clear hi)))
       go_ret
       exact ⟨by first | rfl | (simp [errW_none, errW_some] <;> rfl) | (simp [*, errW_none, errW_some] <;> rfl), by repeat (first | (with_reducible first | exact HB.out | apply below_alloc | apply pw_below_drewN | apply below_drew1) | exact HB.out)⟩
     · replace c47 := Bool.eq_false_iff.mpr c47
       subst c47
       have H1 : (none) = some r := by rw [if_neg (show ¬ (false = true) by decide)] at H; exact H
       clear H
       have H := H1
       clear H1
       exact absurd H (by simp)

end Go.Proofs.Ytbkkcoppncgegaa.G
