-- Laid by this session's own program gprint.py (wip/tools), out of the kit's print and of texts of this session. Lean checks it.
import Derived.Test.YtbkkcoppncgegabGx0
import Derived.Test.YtbkkcoppncgegabGZ3
import Derived.Test.YtbkkcoppncgegabGMinuetref1PBetween
import Derived.Test.YtbkkcoppncgegabGZ6
import Derived.Test.YtbkkcoppncgegabGMinuetref1PMake
import Derived.Test.YtbkkcoppncgegabGEditPBetween
import Derived.Test.YtbkkcoppncgegabGMinuetlaw8qawake
namespace Go.Proofs.Ytbkkcoppncgegab.G
open Go.RowKit Go.Proofs.YtbkkcoppncgegabW.PrintWords Go.Proofs.YtbkkcoppncgegabW.PrintLast Go.Proofs.YtbkkcoppncgegabW.PrintMore
attribute [local go_sem] max2_int min2_int max_two min_two max_three min_three max_four min_four   -- for this text's walks alone
set_option linter.unusedVariables false
set_option linter.unusedSimpArgs false

/-! ### minuetlaw8_Edits: function 13 -/
def minuetlaw8_Edits.f (k : Nat) (a0 : ByteArray) (a1 : ByteArray) (a2 : Int) (a3 : Int) : Option (Bool) := (edit_Make.f k a0 a2 a3 a1).bind fun bt101 => ((minuetref1_Make.f k a0 a2 a3 a1).bind fun bt105 => ((edit_Between.f k a0 a1).bind fun bt109 => ((minuetref1_Between.f k a0 a1).bind fun bt113 => ((minuetlaw0_SameComps.f k bt101.1 bt105.1).bind fun t117 => (if t117 = true then ((minuetlaw0_Num.f bt101.2).bind fun t118 => (if t118 = bt105.2 then ((minuetlaw0_SameComps.f k bt109.1 bt113.1).bind fun t119 => (if t119 = true then ((minuetlaw0_Num.f bt109.2).bind fun t120 => (if t120 = bt113.2 then ((minuetlaw8_awake.f k).bind fun t121 => (some t121)) else (none))) else (none))) else (none))) else (none))))))
theorem minuetlaw8_Edits.mono : ∀ a0 a1 a2 a3 k, LeO (minuetlaw8_Edits.f k a0 a1 a2 a3) (minuetlaw8_Edits.f (k + 1) a0 a1 a2 a3) := by
 intro a0 a1 a2 a3 k
 unfold minuetlaw8_Edits.f
 repeat' first
  | (with_reducible exact edit_Between.mono _ _ _)
  | (with_reducible exact edit_Make.mono _ _ _ _ _)
  | (with_reducible exact minuetlaw0_SameComps.mono _ _ _)
  | (with_reducible exact minuetlaw8_awake.mono _)
  | (with_reducible exact minuetref1_Between.mono _ _ _)
  | (with_reducible exact minuetref1_Make.mono _ _ _ _ _)
  | (with_reducible exact LeO.refl _)
  | (with_reducible exact LeO.none _)
  | (with_reducible refine LeO.ite ?_ ?_)
  | (with_reducible refine LeO.bind ?_ (fun _ => ?_))
  | exact edit_Between.mono _ _ _
  | exact edit_Make.mono _ _ _ _ _
  | exact minuetlaw0_SameComps.mono _ _ _
  | exact minuetlaw8_awake.mono _
  | exact minuetref1_Between.mono _ _ _
  | exact minuetref1_Make.mono _ _ _ _ _
  | exact LeO.none _
  | refine LeO.ite ?_ ?_
  | refine LeO.bind ?_ (fun _ => ?_)
set_option maxHeartbeats 8000000 in
set_option maxRecDepth 100000 in
theorem minuetlaw8_Edits.calls (k : Nat) (a0 : ByteArray) (a1 : ByteArray) (a2 : Int) (a3 : Int) (r : Bool) (w : World) (h : minuetlaw8_Edits.f k a0 a1 a2 a3 = some r) :
 Calls Try.prog 13 #[.string a0, .string a1, .int .i64 a2, .int .i64 a3] w fun e w' => e = .returned (.bool r) ∧ Below w.heap.size w w' := by
 have HB := Aside0.mk (Below.refl w.heap.size w)
 have H : ((edit_Make.f k a0 a2 a3 a1).bind fun bt101 => ((minuetref1_Make.f k a0 a2 a3 a1).bind fun bt105 => ((edit_Between.f k a0 a1).bind fun bt109 => ((minuetref1_Between.f k a0 a1).bind fun bt113 => ((minuetlaw0_SameComps.f k bt101.1 bt105.1).bind fun t117 => (if t117 = true then ((minuetlaw0_Num.f bt101.2).bind fun t118 => (if t118 = bt105.2 then ((minuetlaw0_SameComps.f k bt109.1 bt113.1).bind fun t119 => (if t119 = true then ((minuetlaw0_Num.f bt109.2).bind fun t120 => (if t120 = bt113.2 then ((minuetlaw8_awake.f k).bind fun t121 => (some t121)) else (none))) else (none))) else (none))) else (none))))))) = some r := h
 clear h
 replace H := Option.bind_eq_some_iff.mp H
 obtain ⟨⟨t101, t102⟩, A50, H⟩ := H
 replace H : ((minuetref1_Make.f k a0 a2 a3 a1).bind fun bt105 => ((edit_Between.f k a0 a1).bind fun bt109 => ((minuetref1_Between.f k a0 a1).bind fun bt113 => ((minuetlaw0_SameComps.f k t101 bt105.1).bind fun t117 => (if t117 = true then ((minuetlaw0_Num.f t102).bind fun t118 => (if t118 = bt105.2 then ((minuetlaw0_SameComps.f k bt109.1 bt113.1).bind fun t119 => (if t119 = true then ((minuetlaw0_Num.f bt109.2).bind fun t120 => (if t120 = bt113.2 then ((minuetlaw8_awake.f k).bind fun t121 => (some t121)) else (none))) else (none))) else (none))) else (none)))))) = some r := H
 have A5 := Aside0.mk A50
 clear A50
 replace H := Option.bind_eq_some_iff.mp H
 obtain ⟨⟨t105, t106⟩, A60, H⟩ := H
 replace H : ((edit_Between.f k a0 a1).bind fun bt109 => ((minuetref1_Between.f k a0 a1).bind fun bt113 => ((minuetlaw0_SameComps.f k t101 t105).bind fun t117 => (if t117 = true then ((minuetlaw0_Num.f t102).bind fun t118 => (if t118 = t106 then ((minuetlaw0_SameComps.f k bt109.1 bt113.1).bind fun t119 => (if t119 = true then ((minuetlaw0_Num.f bt109.2).bind fun t120 => (if t120 = bt113.2 then ((minuetlaw8_awake.f k).bind fun t121 => (some t121)) else (none))) else (none))) else (none))) else (none))))) = some r := H
 have A6 := Aside0.mk A60
 clear A60
 replace H := Option.bind_eq_some_iff.mp H
 obtain ⟨⟨t109, t110⟩, A70, H⟩ := H
 replace H : ((minuetref1_Between.f k a0 a1).bind fun bt113 => ((minuetlaw0_SameComps.f k t101 t105).bind fun t117 => (if t117 = true then ((minuetlaw0_Num.f t102).bind fun t118 => (if t118 = t106 then ((minuetlaw0_SameComps.f k t109 bt113.1).bind fun t119 => (if t119 = true then ((minuetlaw0_Num.f t110).bind fun t120 => (if t120 = bt113.2 then ((minuetlaw8_awake.f k).bind fun t121 => (some t121)) else (none))) else (none))) else (none))) else (none)))) = some r := H
 have A7 := Aside0.mk A70
 clear A70
 replace H := Option.bind_eq_some_iff.mp H
 obtain ⟨⟨t113, t114⟩, A80, H⟩ := H
 replace H : ((minuetlaw0_SameComps.f k t101 t105).bind fun t117 => (if t117 = true then ((minuetlaw0_Num.f t102).bind fun t118 => (if t118 = t106 then ((minuetlaw0_SameComps.f k t109 t113).bind fun t119 => (if t119 = true then ((minuetlaw0_Num.f t110).bind fun t120 => (if t120 = t114 then ((minuetlaw8_awake.f k).bind fun t121 => (some t121)) else (none))) else (none))) else (none))) else (none))) = some r := H
 have A8 := Aside0.mk A80
 clear A80
 replace H := Option.bind_eq_some_iff.mp H
 obtain ⟨t117, A90, H⟩ := H
 replace H : (if t117 = true then ((minuetlaw0_Num.f t102).bind fun t118 => (if t118 = t106 then ((minuetlaw0_SameComps.f k t109 t113).bind fun t119 => (if t119 = true then ((minuetlaw0_Num.f t110).bind fun t120 => (if t120 = t114 then ((minuetlaw8_awake.f k).bind fun t121 => (some t121)) else (none))) else (none))) else (none))) else (none)) = some r := H
 have A9 := Aside0.mk A90
 clear A90
 by_cases c10 : t117 = true
 · subst c10
   have H1 : ((minuetlaw0_Num.f t102).bind fun t118 => (if t118 = t106 then ((minuetlaw0_SameComps.f k t109 t113).bind fun t119 => (if t119 = true then ((minuetlaw0_Num.f t110).bind fun t120 => (if t120 = t114 then ((minuetlaw8_awake.f k).bind fun t121 => (some t121)) else (none))) else (none))) else (none))) = some r := by rw [if_pos rfl] at H; exact H
   clear H
   have H := H1
   clear H1
   replace H := Option.bind_eq_some_iff.mp H
   obtain ⟨t118, A110, H⟩ := H
   replace H : (if t118 = t106 then ((minuetlaw0_SameComps.f k t109 t113).bind fun t119 => (if t119 = true then ((minuetlaw0_Num.f t110).bind fun t120 => (if t120 = t114 then ((minuetlaw8_awake.f k).bind fun t121 => (some t121)) else (none))) else (none))) else (none)) = some r := H
   have A11 := Aside0.mk A110
   clear A110
   by_cases c12 : t118 = t106
   · rw [if_pos c12] at H
     have c12b0 : (t118 == t106) = true := beq_iff_eq.mpr c12
     have c12b1 : (t118 != t106) = false := bne_eq_false_iff_eq.mpr c12
     clear c12
     replace H := Option.bind_eq_some_iff.mp H
     obtain ⟨t119, A130, H⟩ := H
     replace H : (if t119 = true then ((minuetlaw0_Num.f t110).bind fun t120 => (if t120 = t114 then ((minuetlaw8_awake.f k).bind fun t121 => (some t121)) else (none))) else (none)) = some r := H
     have A13 := Aside0.mk A130
     clear A130
     by_cases c14 : t119 = true
     · subst c14
       have H1 : ((minuetlaw0_Num.f t110).bind fun t120 => (if t120 = t114 then ((minuetlaw8_awake.f k).bind fun t121 => (some t121)) else (none))) = some r := by rw [if_pos rfl] at H; exact H
       clear H
       have H := H1
       clear H1
       replace H := Option.bind_eq_some_iff.mp H
       obtain ⟨t120, A150, H⟩ := H
       replace H : (if t120 = t114 then ((minuetlaw8_awake.f k).bind fun t121 => (some t121)) else (none)) = some r := H
       have A15 := Aside0.mk A150
       clear A150
       by_cases c16 : t120 = t114
       · rw [if_pos c16] at H
         have c16b0 : (t120 == t114) = true := beq_iff_eq.mpr c16
         have c16b1 : (t120 != t114) = false := bne_eq_false_iff_eq.mpr c16
         clear c16
         replace H := Option.bind_eq_some_iff.mp H
         obtain ⟨t121, A170, H⟩ := H
         replace H : (some t121) = some r := H
         have A17 := Aside0.mk A170
         clear A170
         obtain rfl := Option.some.inj H
         go_enter Try.func13, Try.ntmps13
         go_wp2_with (first | ((with_reducible refine gate_callee (f := 34) rfl ?_); refine goesL_ (some 22) rfl rfl Try.func34 (by kernel_rfl) rfl #[.string a0, .int .i64 a2, .int .i64 a3, .string a1] rfl (by (try simp only [List.map_toArray, List.map_cons, List.map_nil]); first | done | rfl | (simp only [List.length_drop, List.length_take]; rfl)) ?_; (with_reducible refine (edit_Make.calls k a0 a2 a3 a1 t101 t102 _ A5.out).mono ?_); rintro e w18 ⟨v103, rfl, ho0, hb⟩; refine ⟨_, rfl, ?_⟩; have n0_ := Aside0.mk (Kd.R_lower ho0 (below_size (by repeat (first | (with_reducible first | exact HB.out | apply below_alloc | apply pw_below_drewN | apply below_drew1) | exact HB.out)))); have n1_ := Aside0.mk (below_step (by repeat (first | (with_reducible first | exact HB.out | apply below_alloc | apply pw_below_drewN | apply below_drew1) | exact HB.out)) hb); clear HB; have HO104 := n0_; have HB := n1_; clear n0_ n1_; (try clear hb); (try clear hb2); (try clear hk); (try clear hi); (try clear ho0)) | ((with_reducible refine gate_callee (f := 35) rfl ?_); refine goesL_ (some 30) rfl rfl Try.func35 (by kernel_rfl) rfl #[.string a0, .int .i64 a2, .int .i64 a3, .string a1] rfl (by (try simp only [List.map_toArray, List.map_cons, List.map_nil]); first | done | rfl | (simp only [List.length_drop, List.length_take]; rfl)) ?_; (with_reducible refine (minuetref1_Make.calls k a0 a2 a3 a1 t105 t106 _ A6.out).mono ?_); rintro e w19 ⟨v107, rfl, ho0, hb⟩; refine ⟨_, rfl, ?_⟩; have n0_ := Aside0.mk (Kd.R_elder' (by (with_reducible repeat (first | apply Kd.R_alloc | apply Kd.R_drewN | apply Kd.R_drew)); exact HO104.out) (Kd.R_base ho0) hb); have n1_ := Aside0.mk (Kd.R_lower (Kd.R_new' ho0 (Kd.R_lt (by (with_reducible repeat (first | apply Kd.R_alloc | apply Kd.R_drewN | apply Kd.R_drew)); exact HO104.out))) (below_size (by repeat (first | (with_reducible first | exact HB.out | apply below_alloc | apply pw_below_drewN | apply below_drew1) | exact HB.out)))); have n2_ := Aside0.mk (below_step (by repeat (first | (with_reducible first | exact HB.out | apply below_alloc | apply pw_below_drewN | apply below_drew1) | exact HB.out)) hb); clear HO104; clear HB; have HO104 := n0_; have HO108 := n1_; have HB := n2_; clear n0_ n1_ n2_; (try clear hb); (try clear hb2); (try clear hk); (try clear hi); (try clear ho0)) | ((with_reducible refine gate_callee (f := 36) rfl ?_); refine goesL_ (some 36) rfl rfl Try.func36 (by kernel_rfl) rfl #[.string a0, .string a1] rfl (by (try simp only [List.map_toArray, List.map_cons, List.map_nil]); first | done | rfl | (simp only [List.length_drop, List.length_take]; rfl)) ?_; (with_reducible refine (edit_Between.calls k a0 a1 t109 t110 _ A7.out).mono ?_); rintro e w20 ⟨v111, rfl, ho0, hb⟩; refine ⟨_, rfl, ?_⟩; have n0_ := Aside0.mk (Kd.R_elder' (by (with_reducible repeat (first | apply Kd.R_alloc | apply Kd.R_drewN | apply Kd.R_drew)); exact HO104.out) (Kd.R_base ho0) hb); have n1_ := Aside0.mk (Kd.R_elder' (by (with_reducible repeat (first | apply Kd.R_alloc | apply Kd.R_drewN | apply Kd.R_drew)); exact HO108.out) (Kd.R_base ho0) hb); have n2_ := Aside0.mk (Kd.R_lower (Kd.R_new' (Kd.R_new' ho0 (Kd.R_lt (by (with_reducible repeat (first | apply Kd.R_alloc | apply Kd.R_drewN | apply Kd.R_drew)); exact HO104.out))) (Kd.R_lt (by (with_reducible repeat (first | apply Kd.R_alloc | apply Kd.R_drewN | apply Kd.R_drew)); exact HO108.out))) (below_size (by repeat (first | (with_reducible first | exact HB.out | apply below_alloc | apply pw_below_drewN | apply below_drew1) | exact HB.out)))); have n3_ := Aside0.mk (below_step (by repeat (first | (with_reducible first | exact HB.out | apply below_alloc | apply pw_below_drewN | apply below_drew1) | exact HB.out)) hb); clear HO104; clear HO108; clear HB; have HO104 := n0_; have HO108 := n1_; have HO112 := n2_; have HB := n3_; clear n0_ n1_ n2_ n3_; (try clear hb); (try clear hb2); (try clear hk); (try clear hi); (try clear ho0)) | ((with_reducible refine gate_callee (f := 32) rfl ?_); refine goesL_ (some 42) rfl rfl Try.func32 (by kernel_rfl) rfl #[.string a0, .string a1] rfl (by (try simp only [List.map_toArray, List.map_cons, List.map_nil]); first | done | rfl | (simp only [List.length_drop, List.length_take]; rfl)) ?_; (with_reducible refine (minuetref1_Between.calls k a0 a1 t113 t114 _ A8.out).mono ?_); rintro e w21 ⟨v115, rfl, ho0, hb⟩; refine ⟨_, rfl, ?_⟩; have n0_ := Aside0.mk (Kd.R_elder' (by (with_reducible repeat (first | apply Kd.R_alloc | apply Kd.R_drewN | apply Kd.R_drew)); exact HO104.out) (Kd.R_base ho0) hb); have n1_ := Aside0.mk (Kd.R_elder' (by (with_reducible repeat (first | apply Kd.R_alloc | apply Kd.R_drewN | apply Kd.R_drew)); exact HO108.out) (Kd.R_base ho0) hb); have n2_ := Aside0.mk (Kd.R_elder' (by (with_reducible repeat (first | apply Kd.R_alloc | apply Kd.R_drewN | apply Kd.R_drew)); exact HO112.out) (Kd.R_base ho0) hb); have n3_ := Aside0.mk (Kd.R_lower (Kd.R_new' (Kd.R_new' (Kd.R_new' ho0 (Kd.R_lt (by (with_reducible repeat (first | apply Kd.R_alloc | apply Kd.R_drewN | apply Kd.R_drew)); exact HO104.out))) (Kd.R_lt (by (with_reducible repeat (first | apply Kd.R_alloc | apply Kd.R_drewN | apply Kd.R_drew)); exact HO108.out))) (Kd.R_lt (by (with_reducible repeat (first | apply Kd.R_alloc | apply Kd.R_drewN | apply Kd.R_drew)); exact HO112.out))) (below_size (by repeat (first | (with_reducible first | exact HB.out | apply below_alloc | apply pw_below_drewN | apply below_drew1) | exact HB.out)))); have n4_ := Aside0.mk (below_step (by repeat (first | (with_reducible first | exact HB.out | apply below_alloc | apply pw_below_drewN | apply below_drew1) | exact HB.out)) hb); clear HO104; clear HO108; clear HO112; clear HB; have HO104 := n0_; have HO108 := n1_; have HO112 := n2_; have HO116 := n3_; have HB := n4_; clear n0_ n1_ n2_ n3_ n4_; (try clear hb); (try clear hb2); (try clear hk); (try clear hi); (try clear ho0); obtain ⟨Ao22, co22, eo22⟩ := Kd.R_slice HO104.out; subst eo22; obtain ⟨Ao23, co23, eo23⟩ := Kd.R_slice HO108.out; subst eo23) | ((with_reducible refine gate_callee (f := 24) rfl ?_); refine goesL_ (some 47) rfl rfl Try.func24 (by kernel_rfl) rfl #[.slice Ao22 t101.length co22, .slice Ao23 t105.length co23] rfl (by (try simp only [List.map_toArray, List.map_cons, List.map_nil]); first | done | rfl | (simp only [List.length_drop, List.length_take]; rfl)) ?_; (with_reducible refine (minuetlaw0_SameComps.calls k _ _ t101 _ _ t105 true _ ?side1 ?side2 ?side3 ?side4 A9.out).mono ?_); (case side1 => repeat (first | exact (Kd.R_reads' HO104.out).2.2 | (with_reducible refine Kd.C_alloc ?_ _) | (with_reducible refine Kd.C_drewN ?_ _) | (with_reducible refine Kd.C_drew ?_))); (case side2 => exact (Kd.R_reads' HO104.out).2.1); (case side3 => repeat (first | exact (Kd.R_reads' HO108.out).2.2 | (with_reducible refine Kd.C_alloc ?_ _) | (with_reducible refine Kd.C_drewN ?_ _) | (with_reducible refine Kd.C_drew ?_))); (case side4 => exact (Kd.R_reads' HO108.out).2.1); rintro e w' ⟨rfl, ⟨nd, rfl⟩⟩; refine ⟨_, rfl, ?_⟩) | (go_at_call 17; (with_reducible refine (minuetlaw0_Num.calls t102 t118 _ A11.out).mono ?_); rintro e w' ⟨rfl, ⟨nd, rfl⟩⟩; obtain ⟨Ao24, co24, eo24⟩ := Kd.R_slice HO112.out; subst eo24; obtain ⟨Ao25, co25, eo25⟩ := Kd.R_slice HO116.out; subst eo25) | (go_at_call 24; (with_reducible refine (minuetlaw0_SameComps.calls k _ _ t109 _ _ t113 true _ ?side1 ?side2 ?side3 ?side4 A13.out).mono ?_); (case side1 => repeat (first | exact (Kd.R_reads' HO112.out).2.2 | (with_reducible refine Kd.C_alloc ?_ _) | (with_reducible refine Kd.C_drewN ?_ _) | (with_reducible refine Kd.C_drew ?_))); (case side2 => exact (Kd.R_reads' HO112.out).2.1); (case side3 => repeat (first | exact (Kd.R_reads' HO116.out).2.2 | (with_reducible refine Kd.C_alloc ?_ _) | (with_reducible refine Kd.C_drewN ?_ _) | (with_reducible refine Kd.C_drew ?_))); (case side4 => exact (Kd.R_reads' HO116.out).2.1); rintro e w' ⟨rfl, ⟨nd, rfl⟩⟩) | (go_at_call 17; (with_reducible refine (minuetlaw0_Num.calls t110 t120 _ A15.out).mono ?_); rintro e w' ⟨rfl, ⟨nd, rfl⟩⟩) | (go_at_call 37; (with_reducible refine (minuetlaw8_awake.calls k  t121 _ A17.out).mono ?_); rintro e w26 ⟨rfl, hb⟩; have n0_ := Aside0.mk (Kd.R_below (by (with_reducible repeat (first | apply Kd.R_alloc | apply Kd.R_drewN | apply Kd.R_drew)); exact HO104.out) hb); have n1_ := Aside0.mk (Kd.R_below (by (with_reducible repeat (first | apply Kd.R_alloc | apply Kd.R_drewN | apply Kd.R_drew)); exact HO108.out) hb); have n2_ := Aside0.mk (Kd.R_below (by (with_reducible repeat (first | apply Kd.R_alloc | apply Kd.R_drewN | apply Kd.R_drew)); exact HO112.out) hb); have n3_ := Aside0.mk (Kd.R_below (by (with_reducible repeat (first | apply Kd.R_alloc | apply Kd.R_drewN | apply Kd.R_drew)); exact HO116.out) hb); have n4_ := Aside0.mk (below_step (by repeat (first | (with_reducible first | exact HB.out | apply below_alloc | apply pw_below_drewN | apply below_drew1) | exact HB.out)) hb); clear HO104; clear HO108; clear HO112; clear HO116; clear HB; have HO104 := n0_; have HO108 := n1_; have HO112 := n2_; have HO116 := n3_; have HB := n4_; clear n0_ n1_ n2_ n3_ n4_; (try clear hb); (try clear hb2); (try clear hk); (try clear hi)))
         go_ret
         exact ⟨by first | rfl | (simp [errW_none, errW_some] <;> rfl) | (simp [*, errW_none, errW_some] <;> rfl), by repeat (first | (with_reducible first | exact HB.out | apply below_alloc | apply pw_below_drewN | apply below_drew1) | exact HB.out)⟩
       · rw [if_neg c16] at H
         exact absurd H (by simp)
     · replace c14 := Bool.eq_false_iff.mpr c14
       subst c14
       have H1 : (none) = some r := by rw [if_neg (show ¬ (false = true) by decide)] at H; exact H
       clear H
       have H := H1
       clear H1
       exact absurd H (by simp)
   · rw [if_neg c12] at H
     exact absurd H (by simp)
 · replace c10 := Bool.eq_false_iff.mpr c10
   subst c10
   have H1 : (none) = some r := by rw [if_neg (show ¬ (false = true) by decide)] at H; exact H
   clear H
   have H := H1
   clear H1
   exact absurd H (by simp)

/-- THE ONE PURE STATEMENT of minuetlaw8_Edits: yours. -/
def minuetlaw8_Edits.Pure : Prop := ∀ (a0 : ByteArray) (a1 : ByteArray) (a2 : Int) (a3 : Int), a0.size ≤ 140737488351232 → a1.size ≤ 140737488351232 → (Lit.int .i64 a2).wf = true → (Lit.int .i64 a3).wf = true → ∃ k, minuetlaw8_Edits.f k a0 a1 a2 a3 = some true
theorem minuetlaw8_Edits.walk (P : minuetlaw8_Edits.Pure) (a0 : ByteArray) (a1 : ByteArray) (a2 : Int) (a3 : Int) (w : World) (w0 : a0.size ≤ 140737488351232) (w1 : a1.size ≤ 140737488351232) (w2 : (Lit.int .i64 a2).wf = true) (w3 : (Lit.int .i64 a3).wf = true) :
 Calls Try.prog 13 #[.string a0, .string a1, .int .i64 a2, .int .i64 a3] w fun e w' => e = .returned (.bool true) ∧ Below w.heap.size w w' := by
 obtain ⟨k, h⟩ := P a0 a1 a2 a3 w0 w1 w2 w3
 refine (minuetlaw8_Edits.calls k a0 a1 a2 a3 true w h).mono ?_
 rintro e w' ⟨rfl, hd⟩
 exact ⟨rfl, hd⟩

end Go.Proofs.Ytbkkcoppncgegab.G
