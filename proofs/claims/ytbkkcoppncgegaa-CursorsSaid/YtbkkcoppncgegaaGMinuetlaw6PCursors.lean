-- Laid by this session's own program gprint.py (wip/tools), out of the kit's print and of texts of this session. Lean checks it.
import Derived.Test.YtbkkcoppncgegaaGx0
import Derived.Test.YtbkkcoppncgegaaGMinuetlaw0PNum
import Derived.Test.YtbkkcoppncgegaaGMinuetlaw0PLendComps
import Derived.Test.YtbkkcoppncgegaaGCursorPMove
import Derived.Test.YtbkkcoppncgegaaGMinuetref1PMove
import Derived.Test.YtbkkcoppncgegaaGMinuetlaw0PKeptComps
import Derived.Test.YtbkkcoppncgegaaGMinuetlaw6qawake
import Derived.Test.YtbkkcoppncgegaaGLendComps
namespace Go.Proofs.Ytbkkcoppncgegaa.G
open Go.RowKit Go.Proofs.YtbkkcoppncgegaaW.PrintWords Go.Proofs.YtbkkcoppncgegaaW.PrintLast Go.Proofs.YtbkkcoppncgegaaW.PrintMore
attribute [local go_sem] max2_int min2_int max_two min_two max_three min_three max_four min_four   -- for this text's walks alone
set_option linter.unusedVariables false
set_option linter.unusedSimpArgs false

/-! ### minuetlaw6_Cursors: function 4 -/
def minuetlaw6_Cursors.f (k : Nat) (l0 : List (S40)) (a1 : Int) (a2 : Bool) : Option (Bool) := (minuetlaw0_LendComps.f l0).bind fun t101 => ((cursor_Move.f k t101 a1 a2).bind fun bt104 => ((minuetref1_Move.f k l0 a1 a2).bind fun bt106 => (if bt104.1 = bt106.1 then ((minuetlaw0_Num.f bt104.2).bind fun t108 => (if t108 = bt106.2 then ((minuetlaw0_KeptComps.f k t101 l0).bind fun t109 => (if t109 = true then ((minuetlaw6_awake.f k).bind fun t110 => (some t110)) else (none))) else (none))) else (none))))
theorem minuetlaw6_Cursors.mono : ∀ a0 a1 a2 k, LeO (minuetlaw6_Cursors.f k a0 a1 a2) (minuetlaw6_Cursors.f (k + 1) a0 a1 a2) := by
 intro a0 a1 a2 k
 unfold minuetlaw6_Cursors.f
 repeat' first
  | (with_reducible exact cursor_Move.mono _ _ _ _)
  | (with_reducible exact minuetlaw0_KeptComps.mono _ _ _)
  | (with_reducible exact minuetlaw6_awake.mono _)
  | (with_reducible exact minuetref1_Move.mono _ _ _ _)
  | (with_reducible exact LeO.refl _)
  | (with_reducible exact LeO.none _)
  | (with_reducible refine LeO.ite ?_ ?_)
  | (with_reducible refine LeO.bind ?_ (fun _ => ?_))
  | exact cursor_Move.mono _ _ _ _
  | exact minuetlaw0_KeptComps.mono _ _ _
  | exact minuetlaw6_awake.mono _
  | exact minuetref1_Move.mono _ _ _ _
  | exact LeO.none _
  | refine LeO.ite ?_ ?_
  | refine LeO.bind ?_ (fun _ => ?_)
set_option maxHeartbeats 8000000 in
set_option maxRecDepth 100000 in
theorem minuetlaw6_Cursors.calls (k : Nat) (A0 : Option Addr) (c0 : Nat) (l0 : List (S40)) (a1 : Int) (a2 : Bool) (r : Bool) (w : World) (hr0 : Kd.C k40 w A0 l0.length l0) (hc0 : l0.length ≤ c0) (h : minuetlaw6_Cursors.f k l0 a1 a2 = some r) :
 Calls Try.prog 4 #[.slice A0 l0.length c0, .int .i64 a1, .bool a2] w fun e w' => e = .returned (.bool r) ∧ Below w.heap.size w w' := by
 have HR0 := Aside0.mk hr0
 have HC0 := Aside0.mk hc0
 clear hr0 hc0
 have HB := Aside0.mk (Below.refl w.heap.size w)
 have H : ((minuetlaw0_LendComps.f l0).bind fun t101 => ((cursor_Move.f k t101 a1 a2).bind fun bt104 => ((minuetref1_Move.f k l0 a1 a2).bind fun bt106 => (if bt104.1 = bt106.1 then ((minuetlaw0_Num.f bt104.2).bind fun t108 => (if t108 = bt106.2 then ((minuetlaw0_KeptComps.f k t101 l0).bind fun t109 => (if t109 = true then ((minuetlaw6_awake.f k).bind fun t110 => (some t110)) else (none))) else (none))) else (none))))) = some r := h
 clear h
 replace H := Option.bind_eq_some_iff.mp H
 obtain ⟨t101, A40, H⟩ := H
 replace H : ((cursor_Move.f k t101 a1 a2).bind fun bt104 => ((minuetref1_Move.f k l0 a1 a2).bind fun bt106 => (if bt104.1 = bt106.1 then ((minuetlaw0_Num.f bt104.2).bind fun t108 => (if t108 = bt106.2 then ((minuetlaw0_KeptComps.f k t101 l0).bind fun t109 => (if t109 = true then ((minuetlaw6_awake.f k).bind fun t110 => (some t110)) else (none))) else (none))) else (none)))) = some r := H
 have A4 := Aside0.mk A40
 clear A40
 replace H := Option.bind_eq_some_iff.mp H
 obtain ⟨⟨t104, t105⟩, A50, H⟩ := H
 replace H : ((minuetref1_Move.f k l0 a1 a2).bind fun bt106 => (if t104 = bt106.1 then ((minuetlaw0_Num.f t105).bind fun t108 => (if t108 = bt106.2 then ((minuetlaw0_KeptComps.f k t101 l0).bind fun t109 => (if t109 = true then ((minuetlaw6_awake.f k).bind fun t110 => (some t110)) else (none))) else (none))) else (none))) = some r := H
 have A5 := Aside0.mk A50
 clear A50
 replace H := Option.bind_eq_some_iff.mp H
 obtain ⟨⟨t106, t107⟩, A60, H⟩ := H
 replace H : (if t104 = t106 then ((minuetlaw0_Num.f t105).bind fun t108 => (if t108 = t107 then ((minuetlaw0_KeptComps.f k t101 l0).bind fun t109 => (if t109 = true then ((minuetlaw6_awake.f k).bind fun t110 => (some t110)) else (none))) else (none))) else (none)) = some r := H
 have A6 := Aside0.mk A60
 clear A60
 by_cases c7 : t104 = t106
 · rw [if_pos c7] at H
   have c7b0 : (t104 == t106) = true := beq_iff_eq.mpr c7
   have c7b1 : (t104 != t106) = false := bne_eq_false_iff_eq.mpr c7
   clear c7
   replace H := Option.bind_eq_some_iff.mp H
   obtain ⟨t108, A80, H⟩ := H
   replace H : (if t108 = t107 then ((minuetlaw0_KeptComps.f k t101 l0).bind fun t109 => (if t109 = true then ((minuetlaw6_awake.f k).bind fun t110 => (some t110)) else (none))) else (none)) = some r := H
   have A8 := Aside0.mk A80
   clear A80
   by_cases c9 : t108 = t107
   · rw [if_pos c9] at H
     have c9b0 : (t108 == t107) = true := beq_iff_eq.mpr c9
     have c9b1 : (t108 != t107) = false := bne_eq_false_iff_eq.mpr c9
     clear c9
     replace H := Option.bind_eq_some_iff.mp H
     obtain ⟨t109, A100, H⟩ := H
     replace H : (if t109 = true then ((minuetlaw6_awake.f k).bind fun t110 => (some t110)) else (none)) = some r := H
     have A10 := Aside0.mk A100
     clear A100
     by_cases c11 : t109 = true
     · subst c11
       have H1 : ((minuetlaw6_awake.f k).bind fun t110 => (some t110)) = some r := by rw [if_pos rfl] at H; exact H
       clear H
       have H := H1
       clear H1
       replace H := Option.bind_eq_some_iff.mp H
       obtain ⟨t110, A120, H⟩ := H
       replace H : (some t110) = some r := H
       have A12 := Aside0.mk A120
       clear A120
       obtain rfl := Option.some.inj H
       go_enter Try.func4, Try.ntmps4
       go_wp2_with (first | ((with_reducible refine gate_callee (f := 22) rfl ?_); refine goesL_ (some 13) rfl rfl Try.func22 (by kernel_rfl) rfl #[.slice A0 l0.length c0] rfl (by (try simp only [List.map_toArray, List.map_cons, List.map_nil]); first | done | rfl | (simp only [List.length_drop, List.length_take]; rfl)) ?_; (with_reducible refine (minuetlaw0_LendComps.calls2 _ _ l0 t101 _ ?side1 ?side2 A4.out).mono ?_); (case side1 => repeat (first | exact HR0.out | (with_reducible refine Kd.C_alloc ?_ _) | (with_reducible refine Kd.C_drewN ?_ _) | (with_reducible refine Kd.C_drew ?_))); (case side2 => exact HC0.out); rintro e w13 ⟨v102, rfl, ho0, hlent_, hb⟩; refine ⟨_, rfl, ?_⟩; have m0_ := Aside0.mk (minuetlaw0_KeptComps.Lent_lower hlent_ (below_size (by repeat (first | (with_reducible first | exact HB.out | apply below_alloc | apply pw_below_drewN | apply below_drew1) | exact HB.out)))); have n0_ := Aside0.mk (Kd.R_lower ho0 (below_size (by repeat (first | (with_reducible first | exact HB.out | apply below_alloc | apply pw_below_drewN | apply below_drew1) | exact HB.out)))); have n1_ := Aside0.mk (below_step (by repeat (first | (with_reducible first | exact HB.out | apply below_alloc | apply pw_below_drewN | apply below_drew1) | exact HB.out)) hb); clear HB; have HO103 := n0_; have HM103 := m0_; clear m0_; have HB := n1_; clear n0_ n1_; (try clear hb); (try clear hb2); (try clear hk); (try clear hi); (try clear ho0); (try clear hlent_); obtain ⟨Ao14, co14, eo14⟩ := Kd.R_slice HO103.out; subst eo14; have HN_ := Aside0.mk (minuetlaw0_KeptComps.Lent_R HM103.out); clear HM103; have HM103 := HN_; clear HN_) | ((with_reducible refine gate_callee (f := 23) rfl ?_); refine goesL_ (some 18) rfl rfl Try.func23 (by kernel_rfl) rfl #[.slice Ao14 t101.length co14, .int .i64 a1, .bool a2] rfl (by (try simp only [List.map_toArray, List.map_cons, List.map_nil]); first | done | rfl | (simp only [List.length_drop, List.length_take]; rfl)) ?_; (with_reducible refine (cursor_Move.calls k _ _ t101 a1 a2 t104 t105 _ ?side1 ?side2 A5.out).mono ?_); (case side1 => repeat (first | exact (Kd.R_reads' HO103.out).2.2 | (with_reducible refine Kd.C_alloc ?_ _) | (with_reducible refine Kd.C_drewN ?_ _) | (with_reducible refine Kd.C_drew ?_))); (case side2 => exact (Kd.R_reads' HO103.out).2.1); rintro e w15 ⟨rfl, hb⟩; refine ⟨_, rfl, ?_⟩; have m0_ := Aside0.mk (Kd.R_below (by (with_reducible repeat (first | apply Kd.R_alloc | apply Kd.R_drewN | apply Kd.R_drew)); exact HM103.out) hb); have n0_ := Aside0.mk (Kd.R_below (by (with_reducible repeat (first | apply Kd.R_alloc | apply Kd.R_drewN | apply Kd.R_drew)); exact HO103.out) hb); have n1_ := Aside0.mk (below_step (by repeat (first | (with_reducible first | exact HB.out | apply below_alloc | apply pw_below_drewN | apply below_drew1) | exact HB.out)) hb); clear HO103; clear HM103; clear HB; have HO103 := n0_; have HM103 := m0_; clear m0_; have HB := n1_; clear n0_ n1_; (try clear hb); (try clear hb2); (try clear hk); (try clear hi)) | ((with_reducible refine gate_callee (f := 24) rfl ?_); refine goesL_ (some 25) rfl rfl Try.func24 (by kernel_rfl) rfl #[.slice A0 l0.length c0, .int .i64 a1, .bool a2] rfl (by (try simp only [List.map_toArray, List.map_cons, List.map_nil]); first | done | rfl | (simp only [List.length_drop, List.length_take]; rfl)) ?_; (with_reducible refine (minuetref1_Move.calls k _ _ l0 a1 a2 t106 t107 _ ?side1 ?side2 A6.out).mono ?_); (case side1 => repeat (first | exact (Kd.C_below HR0.out HB.out) | (with_reducible refine Kd.C_alloc ?_ _) | (with_reducible refine Kd.C_drewN ?_ _) | (with_reducible refine Kd.C_drew ?_))); (case side2 => exact HC0.out); rintro e w16 ⟨rfl, hb⟩; refine ⟨_, rfl, ?_⟩; have m0_ := Aside0.mk (Kd.R_below (by (with_reducible repeat (first | apply Kd.R_alloc | apply Kd.R_drewN | apply Kd.R_drew)); exact HM103.out) hb); have n0_ := Aside0.mk (Kd.R_below (by (with_reducible repeat (first | apply Kd.R_alloc | apply Kd.R_drewN | apply Kd.R_drew)); exact HO103.out) hb); have n1_ := Aside0.mk (below_step (by repeat (first | (with_reducible first | exact HB.out | apply below_alloc | apply pw_below_drewN | apply below_drew1) | exact HB.out)) hb); clear HO103; clear HM103; clear HB; have HO103 := n0_; have HM103 := m0_; clear m0_; have HB := n1_; clear n0_ n1_; (try clear hb); (try clear hb2); (try clear hk); (try clear hi)) | (go_at_call 25; (with_reducible refine (minuetlaw0_Num.calls t105 t108 _ A8.out).mono ?_); rintro e w' ⟨rfl, ⟨nd, rfl⟩⟩) | (go_at_call 26; (with_reducible refine (minuetlaw0_KeptComps.calls k _ _ t101 _ _ l0 true _ ?side1 ?side2 ?side3 ?side4 A10.out ?sideM).mono ?_); (case sideM => refine ⟨(Kd.R_reads' HM103.out).2.1, ?_⟩; repeat (first | exact (Kd.R_reads' HM103.out).2.2 | (with_reducible refine Kd.C_alloc ?_ _) | (with_reducible refine Kd.C_drewN ?_ _) | (with_reducible refine Kd.C_drew ?_))); (case side1 => repeat (first | exact (Kd.R_reads' HO103.out).2.2 | (with_reducible refine Kd.C_alloc ?_ _) | (with_reducible refine Kd.C_drewN ?_ _) | (with_reducible refine Kd.C_drew ?_))); (case side2 => exact (Kd.R_reads' HO103.out).2.1); (case side3 => repeat (first | exact (Kd.C_below HR0.out (by repeat (first | (with_reducible first | exact HB.out | apply below_alloc | apply pw_below_drewN | apply below_drew1) | exact HB.out))) | (with_reducible refine Kd.C_alloc ?_ _) | (with_reducible refine Kd.C_drewN ?_ _) | (with_reducible refine Kd.C_drew ?_))); (case side4 => exact HC0.out); rintro e w' ⟨rfl, ⟨nd, rfl⟩⟩) | (go_at_call 27; (with_reducible refine (minuetlaw6_awake.calls k  t110 _ A12.out).mono ?_); rintro e w17 ⟨rfl, hb⟩; have m0_ := Aside0.mk (Kd.R_below (by (with_reducible repeat (first | apply Kd.R_alloc | apply Kd.R_drewN | apply Kd.R_drew)); exact HM103.out) hb); have n0_ := Aside0.mk (Kd.R_below (by (with_reducible repeat (first | apply Kd.R_alloc | apply Kd.R_drewN | apply Kd.R_drew)); exact HO103.out) hb); have n1_ := Aside0.mk (below_step (by repeat (first | (with_reducible first | exact HB.out | apply below_alloc | apply pw_below_drewN | apply below_drew1) | exact HB.out)) hb); clear HO103; clear HM103; clear HB; have HO103 := n0_; have HM103 := m0_; clear m0_; have HB := n1_; clear n0_ n1_; (try clear hb); (try clear hb2); (try clear hk); (try clear hi)))
       go_ret
       exact ⟨by first | rfl | (simp [errW_none, errW_some] <;> rfl) | (simp [*, errW_none, errW_some] <;> rfl), by repeat (first | (with_reducible first | exact HB.out | apply below_alloc | apply pw_below_drewN | apply below_drew1) | exact HB.out)⟩
     · replace c11 := Bool.eq_false_iff.mpr c11
       subst c11
       have H1 : (none) = some r := by rw [if_neg (show ¬ (false = true) by decide)] at H; exact H
       clear H
       have H := H1
       clear H1
       exact absurd H (by simp)
   · rw [if_neg c9] at H
     exact absurd H (by simp)
 · rw [if_neg c7] at H
   exact absurd H (by simp)

end Go.Proofs.Ytbkkcoppncgegaa.G
