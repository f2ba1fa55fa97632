-- Laid by this session's own program gprint.py (wip/tools), out of the kit's print and of texts of this session. Lean checks it.
import Derived.Test.YtbkkcoppncgegabGx0
import Derived.Test.YtbkkcoppncgegabGApplyPApply
import Derived.Test.YtbkkcoppncgegabGMinuetlaw0PNum
import Derived.Test.YtbkkcoppncgegabGInvertPInvert
import Derived.Test.YtbkkcoppncgegabGMinuetlaw0PSameComps
import Derived.Test.YtbkkcoppncgegabGMinuetlaw7qawake
namespace Go.Proofs.Ytbkkcoppncgegab.G
open Go.RowKit Go.Proofs.YtbkkcoppncgegabW.PrintWords Go.Proofs.YtbkkcoppncgegabW.PrintLast Go.Proofs.YtbkkcoppncgegabW.PrintMore
attribute [local go_sem] max2_int min2_int max_two min_two max_three min_three max_four min_four   -- for this text's walks alone
set_option linter.unusedVariables false
set_option linter.unusedSimpArgs false

/-! ### minuetlaw7_InvertBack: function 7 -/
def minuetlaw7_InvertBack.f (k : Nat) (a0 : ByteArray) (l1 : List (S30)) : Option (Bool) := (minuetlaw7_awake.f k).bind fun t101 => (if t101 = true then ((apply_Apply.f k a0 l1).bind fun bt102 => ((invert_Invert.f k a0 l1).bind fun bt104 => ((minuetlaw0_Num.f bt102.2).bind fun t108 => (if t108 = 0 then ((apply_Apply.f k bt102.1 bt104.1).bind fun bt110 => ((invert_Invert.f k bt102.1 bt104.1).bind fun bt112 => ((minuetlaw0_Num.f bt104.2).bind fun t116 => (if t116 = 0 then ((minuetlaw0_Num.f bt110.2).bind fun t117 => (if t117 = 0 then (if bt110.1.toList = a0.toList then ((minuetlaw0_Num.f bt112.2).bind fun t118 => (if t118 = 0 then ((minuetlaw0_SameComps.f k bt112.1 l1).bind fun t119 => (some t119)) else (none))) else (none)) else (none))) else (none))))) else ((minuetlaw0_Num.f bt104.2).bind fun t109 => (if t109 = 700 then (some ((bt104.1.length : Int) == 0)) else (none))))))) else (none))
theorem minuetlaw7_InvertBack.mono : ∀ a0 a1 k, LeO (minuetlaw7_InvertBack.f k a0 a1) (minuetlaw7_InvertBack.f (k + 1) a0 a1) := by
 intro a0 a1 k
 unfold minuetlaw7_InvertBack.f
 repeat' first
  | (with_reducible exact apply_Apply.mono _ _ _)
  | (with_reducible exact invert_Invert.mono _ _ _)
  | (with_reducible exact minuetlaw0_SameComps.mono _ _ _)
  | (with_reducible exact minuetlaw7_awake.mono _)
  | (with_reducible exact LeO.refl _)
  | (with_reducible exact LeO.none _)
  | (with_reducible refine LeO.ite ?_ ?_)
  | (with_reducible refine LeO.bind ?_ (fun _ => ?_))
  | exact apply_Apply.mono _ _ _
  | exact invert_Invert.mono _ _ _
  | exact minuetlaw0_SameComps.mono _ _ _
  | exact minuetlaw7_awake.mono _
  | exact LeO.none _
  | refine LeO.ite ?_ ?_
  | refine LeO.bind ?_ (fun _ => ?_)
set_option maxHeartbeats 8000000 in
set_option maxRecDepth 100000 in
theorem minuetlaw7_InvertBack.calls (k : Nat) (a0 : ByteArray) (A1 : Option Addr) (c1 : Nat) (l1 : List (S30)) (r : Bool) (w : World) (hr1 : Kd.C k30 w A1 l1.length l1) (hc1 : l1.length ≤ c1) (h : minuetlaw7_InvertBack.f k a0 l1 = some r) :
 Calls Try.prog 7 #[.string a0, .slice A1 l1.length c1] w fun e w' => e = .returned (.bool r) ∧ Below w.heap.size w w' := by
 have HR1 := Aside0.mk hr1
 have HC1 := Aside0.mk hc1
 clear hr1 hc1
 have HB := Aside0.mk (Below.refl w.heap.size w)
 have H : ((minuetlaw7_awake.f k).bind fun t101 => (if t101 = true then ((apply_Apply.f k a0 l1).bind fun bt102 => ((invert_Invert.f k a0 l1).bind fun bt104 => ((minuetlaw0_Num.f bt102.2).bind fun t108 => (if t108 = 0 then ((apply_Apply.f k bt102.1 bt104.1).bind fun bt110 => ((invert_Invert.f k bt102.1 bt104.1).bind fun bt112 => ((minuetlaw0_Num.f bt104.2).bind fun t116 => (if t116 = 0 then ((minuetlaw0_Num.f bt110.2).bind fun t117 => (if t117 = 0 then (if bt110.1.toList = a0.toList then ((minuetlaw0_Num.f bt112.2).bind fun t118 => (if t118 = 0 then ((minuetlaw0_SameComps.f k bt112.1 l1).bind fun t119 => (some t119)) else (none))) else (none)) else (none))) else (none))))) else ((minuetlaw0_Num.f bt104.2).bind fun t109 => (if t109 = 700 then (some ((bt104.1.length : Int) == 0)) else (none))))))) else (none))) = some r := h
 clear h
 replace H := Option.bind_eq_some_iff.mp H
 obtain ⟨t101, A30, H⟩ := H
 replace H : (if t101 = true then ((apply_Apply.f k a0 l1).bind fun bt102 => ((invert_Invert.f k a0 l1).bind fun bt104 => ((minuetlaw0_Num.f bt102.2).bind fun t108 => (if t108 = 0 then ((apply_Apply.f k bt102.1 bt104.1).bind fun bt110 => ((invert_Invert.f k bt102.1 bt104.1).bind fun bt112 => ((minuetlaw0_Num.f bt104.2).bind fun t116 => (if t116 = 0 then ((minuetlaw0_Num.f bt110.2).bind fun t117 => (if t117 = 0 then (if bt110.1.toList = a0.toList then ((minuetlaw0_Num.f bt112.2).bind fun t118 => (if t118 = 0 then ((minuetlaw0_SameComps.f k bt112.1 l1).bind fun t119 => (some t119)) else (none))) else (none)) else (none))) else (none))))) else ((minuetlaw0_Num.f bt104.2).bind fun t109 => (if t109 = 700 then (some ((bt104.1.length : Int) == 0)) else (none))))))) else (none)) = some r := H
 have A3 := Aside0.mk A30
 clear A30
 by_cases c4 : t101 = true
 · subst c4
   have H1 : ((apply_Apply.f k a0 l1).bind fun bt102 => ((invert_Invert.f k a0 l1).bind fun bt104 => ((minuetlaw0_Num.f bt102.2).bind fun t108 => (if t108 = 0 then ((apply_Apply.f k bt102.1 bt104.1).bind fun bt110 => ((invert_Invert.f k bt102.1 bt104.1).bind fun bt112 => ((minuetlaw0_Num.f bt104.2).bind fun t116 => (if t116 = 0 then ((minuetlaw0_Num.f bt110.2).bind fun t117 => (if t117 = 0 then (if bt110.1.toList = a0.toList then ((minuetlaw0_Num.f bt112.2).bind fun t118 => (if t118 = 0 then ((minuetlaw0_SameComps.f k bt112.1 l1).bind fun t119 => (some t119)) else (none))) else (none)) else (none))) else (none))))) else ((minuetlaw0_Num.f bt104.2).bind fun t109 => (if t109 = 700 then (some ((bt104.1.length : Int) == 0)) else (none))))))) = some r := by rw [if_pos rfl] at H; exact H
   clear H
   have H := H1
   clear H1
   replace H := Option.bind_eq_some_iff.mp H
   obtain ⟨⟨t102, t103⟩, A50, H⟩ := H
   replace H : ((invert_Invert.f k a0 l1).bind fun bt104 => ((minuetlaw0_Num.f t103).bind fun t108 => (if t108 = 0 then ((apply_Apply.f k t102 bt104.1).bind fun bt110 => ((invert_Invert.f k t102 bt104.1).bind fun bt112 => ((minuetlaw0_Num.f bt104.2).bind fun t116 => (if t116 = 0 then ((minuetlaw0_Num.f bt110.2).bind fun t117 => (if t117 = 0 then (if bt110.1.toList = a0.toList then ((minuetlaw0_Num.f bt112.2).bind fun t118 => (if t118 = 0 then ((minuetlaw0_SameComps.f k bt112.1 l1).bind fun t119 => (some t119)) else (none))) else (none)) else (none))) else (none))))) else ((minuetlaw0_Num.f bt104.2).bind fun t109 => (if t109 = 700 then (some ((bt104.1.length : Int) == 0)) else (none)))))) = some r := H
   have A5 := Aside0.mk A50
   clear A50
   replace H := Option.bind_eq_some_iff.mp H
   obtain ⟨⟨t104, t105⟩, A60, H⟩ := H
   replace H : ((minuetlaw0_Num.f t103).bind fun t108 => (if t108 = 0 then ((apply_Apply.f k t102 t104).bind fun bt110 => ((invert_Invert.f k t102 t104).bind fun bt112 => ((minuetlaw0_Num.f t105).bind fun t116 => (if t116 = 0 then ((minuetlaw0_Num.f bt110.2).bind fun t117 => (if t117 = 0 then (if bt110.1.toList = a0.toList then ((minuetlaw0_Num.f bt112.2).bind fun t118 => (if t118 = 0 then ((minuetlaw0_SameComps.f k bt112.1 l1).bind fun t119 => (some t119)) else (none))) else (none)) else (none))) else (none))))) else ((minuetlaw0_Num.f t105).bind fun t109 => (if t109 = 700 then (some ((t104.length : Int) == 0)) else (none))))) = some r := H
   have A6 := Aside0.mk A60
   clear A60
   replace H := Option.bind_eq_some_iff.mp H
   obtain ⟨t108, A70, H⟩ := H
   replace H : (if t108 = 0 then ((apply_Apply.f k t102 t104).bind fun bt110 => ((invert_Invert.f k t102 t104).bind fun bt112 => ((minuetlaw0_Num.f t105).bind fun t116 => (if t116 = 0 then ((minuetlaw0_Num.f bt110.2).bind fun t117 => (if t117 = 0 then (if bt110.1.toList = a0.toList then ((minuetlaw0_Num.f bt112.2).bind fun t118 => (if t118 = 0 then ((minuetlaw0_SameComps.f k bt112.1 l1).bind fun t119 => (some t119)) else (none))) else (none)) else (none))) else (none))))) else ((minuetlaw0_Num.f t105).bind fun t109 => (if t109 = 700 then (some ((t104.length : Int) == 0)) else (none)))) = some r := H
   have A7 := Aside0.mk A70
   clear A70
   by_cases c8 : t108 = 0
   · rw [if_pos c8] at H
     have c8b0 : (t108 == 0) = true := beq_iff_eq.mpr c8
     have c8b1 : (t108 != 0) = false := bne_eq_false_iff_eq.mpr c8
     clear c8
     replace H := Option.bind_eq_some_iff.mp H
     obtain ⟨⟨t110, t111⟩, A90, H⟩ := H
     replace H : ((invert_Invert.f k t102 t104).bind fun bt112 => ((minuetlaw0_Num.f t105).bind fun t116 => (if t116 = 0 then ((minuetlaw0_Num.f t111).bind fun t117 => (if t117 = 0 then (if t110.toList = a0.toList then ((minuetlaw0_Num.f bt112.2).bind fun t118 => (if t118 = 0 then ((minuetlaw0_SameComps.f k bt112.1 l1).bind fun t119 => (some t119)) else (none))) else (none)) else (none))) else (none)))) = some r := H
     have A9 := Aside0.mk A90
     clear A90
     replace H := Option.bind_eq_some_iff.mp H
     obtain ⟨⟨t112, t113⟩, A100, H⟩ := H
     replace H : ((minuetlaw0_Num.f t105).bind fun t116 => (if t116 = 0 then ((minuetlaw0_Num.f t111).bind fun t117 => (if t117 = 0 then (if t110.toList = a0.toList then ((minuetlaw0_Num.f t113).bind fun t118 => (if t118 = 0 then ((minuetlaw0_SameComps.f k t112 l1).bind fun t119 => (some t119)) else (none))) else (none)) else (none))) else (none))) = some r := H
     have A10 := Aside0.mk A100
     clear A100
     replace H := Option.bind_eq_some_iff.mp H
     obtain ⟨t116, A110, H⟩ := H
     replace H : (if t116 = 0 then ((minuetlaw0_Num.f t111).bind fun t117 => (if t117 = 0 then (if t110.toList = a0.toList then ((minuetlaw0_Num.f t113).bind fun t118 => (if t118 = 0 then ((minuetlaw0_SameComps.f k t112 l1).bind fun t119 => (some t119)) else (none))) else (none)) else (none))) else (none)) = some r := H
     have A11 := Aside0.mk A110
     clear A110
     by_cases c12 : t116 = 0
     · rw [if_pos c12] at H
       have c12b0 : (t116 == 0) = true := beq_iff_eq.mpr c12
       have c12b1 : (t116 != 0) = false := bne_eq_false_iff_eq.mpr c12
       clear c12
       replace H := Option.bind_eq_some_iff.mp H
       obtain ⟨t117, A130, H⟩ := H
       replace H : (if t117 = 0 then (if t110.toList = a0.toList then ((minuetlaw0_Num.f t113).bind fun t118 => (if t118 = 0 then ((minuetlaw0_SameComps.f k t112 l1).bind fun t119 => (some t119)) else (none))) else (none)) else (none)) = some r := H
       have A13 := Aside0.mk A130
       clear A130
       by_cases c14 : t117 = 0
       · rw [if_pos c14] at H
         have c14b0 : (t117 == 0) = true := beq_iff_eq.mpr c14
         have c14b1 : (t117 != 0) = false := bne_eq_false_iff_eq.mpr c14
         clear c14
         by_cases c15 : t110.toList = a0.toList
         · rw [if_pos c15] at H
           have c15b0 : (t110.toList == a0.toList) = true := beq_iff_eq.mpr c15
           have c15b1 : (t110.toList != a0.toList) = false := bne_eq_false_iff_eq.mpr c15
           clear c15
           replace H := Option.bind_eq_some_iff.mp H
           obtain ⟨t118, A160, H⟩ := H
           replace H : (if t118 = 0 then ((minuetlaw0_SameComps.f k t112 l1).bind fun t119 => (some t119)) else (none)) = some r := H
           have A16 := Aside0.mk A160
           clear A160
           by_cases c17 : t118 = 0
           · rw [if_pos c17] at H
             have c17b0 : (t118 == 0) = true := beq_iff_eq.mpr c17
             have c17b1 : (t118 != 0) = false := bne_eq_false_iff_eq.mpr c17
             clear c17
             replace H := Option.bind_eq_some_iff.mp H
             obtain ⟨t119, A180, H⟩ := H
             replace H : (some t119) = some r := H
             have A18 := Aside0.mk A180
             clear A180
             obtain rfl := Option.some.inj H
             go_enter Try.func7, Try.ntmps7
             go_wp2_with (first | ((with_reducible refine gate_callee (f := 27) rfl ?_); refine goesL_ (some 13) rfl rfl Try.func27 (by kernel_rfl) rfl #[] rfl (by (try simp only [List.map_toArray, List.map_cons, List.map_nil]); first | done | rfl | (simp only [List.length_drop, List.length_take]; rfl)) ?_; (with_reducible refine (minuetlaw7_awake.calls k  true _ A3.out).mono ?_); rintro e w19 ⟨rfl, hb⟩; refine ⟨_, rfl, ?_⟩; have n0_ := Aside0.mk (below_step (by repeat (first | (with_reducible first | exact HB.out | apply below_alloc | apply pw_below_drewN | apply below_drew1) | exact HB.out)) hb); clear HB; have HB := n0_; clear n0_; (try clear hb); (try clear hb2); (try clear hk); (try clear hi)) | ((with_reducible refine gate_callee (f := 16) rfl ?_); refine goesL_ (some 18) rfl rfl Try.func16 (by kernel_rfl) rfl #[.string a0, .slice A1 l1.length c1] rfl (by (try simp only [List.map_toArray, List.map_cons, List.map_nil]); first | done | rfl | (simp only [List.length_drop, List.length_take]; rfl)) ?_; (with_reducible refine (apply_Apply.calls k a0 _ _ l1 t102 t103 _ ?side1 ?side2 A5.out).mono ?_); (case side1 => repeat (first | exact (Kd.C_below HR1.out HB.out) | (with_reducible refine Kd.C_alloc ?_ _) | (with_reducible refine Kd.C_drewN ?_ _) | (with_reducible refine Kd.C_drew ?_))); (case side2 => exact HC1.out); rintro e w20 ⟨rfl, hb⟩; refine ⟨_, rfl, ?_⟩; have n0_ := Aside0.mk (below_step (by repeat (first | (with_reducible first | exact HB.out | apply below_alloc | apply pw_below_drewN | apply below_drew1) | exact HB.out)) hb); clear HB; have HB := n0_; clear n0_; (try clear hb); (try clear hb2); (try clear hk); (try clear hi)) | ((with_reducible refine gate_callee (f := 22) rfl ?_); refine goesL_ (some 24) rfl rfl Try.func22 (by kernel_rfl) rfl #[.string a0, .slice A1 l1.length c1] rfl (by (try simp only [List.map_toArray, List.map_cons, List.map_nil]); first | done | rfl | (simp only [List.length_drop, List.length_take]; rfl)) ?_; (with_reducible refine (invert_Invert.calls k a0 _ _ l1 t104 t105 _ ?side1 ?side2 A6.out).mono ?_); (case side1 => repeat (first | exact (Kd.C_below HR1.out HB.out) | (with_reducible refine Kd.C_alloc ?_ _) | (with_reducible refine Kd.C_drewN ?_ _) | (with_reducible refine Kd.C_drew ?_))); (case side2 => exact HC1.out); rintro e w21 ⟨v106, rfl, ho0, hb⟩; refine ⟨_, rfl, ?_⟩; have n0_ := Aside0.mk (Kd.R_lower ho0 (below_size (by repeat (first | (with_reducible first | exact HB.out | apply below_alloc | apply pw_below_drewN | apply below_drew1) | exact HB.out)))); have n1_ := Aside0.mk (below_step (by repeat (first | (with_reducible first | exact HB.out | apply below_alloc | apply pw_below_drewN | apply below_drew1) | exact HB.out)) hb); clear HB; have HO107 := n0_; have HB := n1_; clear n0_ n1_; (try clear hb); (try clear hb2); (try clear hk); (try clear hi); (try clear ho0)) | ((with_reducible refine gate_callee (f := 17) rfl ?_); refine goesL_ (some 28) rfl rfl Try.func17 (by kernel_rfl) rfl #[.int .i64 t103] rfl (by (try simp only [List.map_toArray, List.map_cons, List.map_nil]); first | done | rfl | (simp only [List.length_drop, List.length_take]; rfl)) ?_; (with_reducible refine (minuetlaw0_Num.calls t103 t108 _ A7.out).mono ?_); rintro e w' ⟨rfl, ⟨nd, rfl⟩⟩; refine ⟨_, rfl, ?_⟩; obtain ⟨Ao22, co22, eo22⟩ := Kd.R_slice HO107.out; subst eo22) | ((with_reducible refine gate_callee (f := 16) rfl ?_); refine goesL_ (some 41) rfl rfl Try.func16 (by kernel_rfl) rfl #[.string t102, .slice Ao22 t104.length co22] rfl (by (try simp only [List.map_toArray, List.map_cons, List.map_nil]); first | done | rfl | (simp only [List.length_drop, List.length_take]; rfl)) ?_; (with_reducible refine (apply_Apply.calls k t102 _ _ t104 t110 t111 _ ?side1 ?side2 A9.out).mono ?_); (case side1 => repeat (first | exact (Kd.R_reads' HO107.out).2.2 | (with_reducible refine Kd.C_alloc ?_ _) | (with_reducible refine Kd.C_drewN ?_ _) | (with_reducible refine Kd.C_drew ?_))); (case side2 => exact (Kd.R_reads' HO107.out).2.1); rintro e w23 ⟨rfl, hb⟩; refine ⟨_, rfl, ?_⟩; have n0_ := Aside0.mk (Kd.R_below (by (with_reducible repeat (first | apply Kd.R_alloc | apply Kd.R_drewN | apply Kd.R_drew)); exact HO107.out) hb); have n1_ := Aside0.mk (below_step (by repeat (first | (with_reducible first | exact HB.out | apply below_alloc | apply pw_below_drewN | apply below_drew1) | exact HB.out)) hb); clear HO107; clear HB; have HO107 := n0_; have HB := n1_; clear n0_ n1_; (try clear hb); (try clear hb2); (try clear hk); (try clear hi)) | ((with_reducible refine gate_callee (f := 22) rfl ?_); refine goesL_ (some 47) rfl rfl Try.func22 (by kernel_rfl) rfl #[.string t102, .slice Ao22 t104.length co22] rfl (by (try simp only [List.map_toArray, List.map_cons, List.map_nil]); first | done | rfl | (simp only [List.length_drop, List.length_take]; rfl)) ?_; (with_reducible refine (invert_Invert.calls k t102 _ _ t104 t112 t113 _ ?side1 ?side2 A10.out).mono ?_); (case side1 => repeat (first | exact (Kd.R_reads' HO107.out).2.2 | (with_reducible refine Kd.C_alloc ?_ _) | (with_reducible refine Kd.C_drewN ?_ _) | (with_reducible refine Kd.C_drew ?_))); (case side2 => exact (Kd.R_reads' HO107.out).2.1); rintro e w24 ⟨v114, rfl, ho0, hb⟩; refine ⟨_, rfl, ?_⟩; have n0_ := Aside0.mk (Kd.R_elder' (by (with_reducible repeat (first | apply Kd.R_alloc | apply Kd.R_drewN | apply Kd.R_drew)); exact HO107.out) (Kd.R_base ho0) hb); have n1_ := Aside0.mk (Kd.R_lower (Kd.R_new' ho0 (Kd.R_lt (by (with_reducible repeat (first | apply Kd.R_alloc | apply Kd.R_drewN | apply Kd.R_drew)); exact HO107.out))) (below_size (by repeat (first | (with_reducible first | exact HB.out | apply below_alloc | apply pw_below_drewN | apply below_drew1) | exact HB.out)))); have n2_ := Aside0.mk (below_step (by repeat (first | (with_reducible first | exact HB.out | apply below_alloc | apply pw_below_drewN | apply below_drew1) | exact HB.out)) hb); clear HO107; clear HB; have HO107 := n0_; have HO115 := n1_; have HB := n2_; clear n0_ n1_ n2_; (try clear hb); (try clear hb2); (try clear hk); (try clear hi); (try clear ho0)) | ((with_reducible refine gate_callee (f := 17) rfl ?_); refine goesL_ (some 51) rfl rfl Try.func17 (by kernel_rfl) rfl #[.int .i64 t105] rfl (by (try simp only [List.map_toArray, List.map_cons, List.map_nil]); first | done | rfl | (simp only [List.length_drop, List.length_take]; rfl)) ?_; (with_reducible refine (minuetlaw0_Num.calls t105 t116 _ A11.out).mono ?_); rintro e w' ⟨rfl, ⟨nd, rfl⟩⟩; refine ⟨_, rfl, ?_⟩) | (go_at_call 17; (with_reducible refine (minuetlaw0_Num.calls t111 t117 _ A13.out).mono ?_); rintro e w' ⟨rfl, ⟨nd, rfl⟩⟩) | (go_at_call 17; (with_reducible refine (minuetlaw0_Num.calls t113 t118 _ A16.out).mono ?_); rintro e w' ⟨rfl, ⟨nd, rfl⟩⟩; obtain ⟨Ao25, co25, eo25⟩ := Kd.R_slice HO115.out; subst eo25) | (go_at_call 24; (with_reducible refine (minuetlaw0_SameComps.calls k _ _ t112 _ _ l1 t119 _ ?side1 ?side2 ?side3 ?side4 A18.out).mono ?_); (case side1 => repeat (first | exact (Kd.R_reads' HO115.out).2.2 | (with_reducible refine Kd.C_alloc ?_ _) | (with_reducible refine Kd.C_drewN ?_ _) | (with_reducible refine Kd.C_drew ?_))); (case side2 => exact (Kd.R_reads' HO115.out).2.1); (case side3 => repeat (first | exact (Kd.C_below HR1.out (by repeat (first | (with_reducible first | exact HB.out | apply below_alloc | apply pw_below_drewN | apply below_drew1) | exact HB.out))) | (with_reducible refine Kd.C_alloc ?_ _) | (with_reducible refine Kd.C_drewN ?_ _) | (with_reducible refine Kd.C_drew ?_))); (case side4 => exact HC1.out); rintro e w' ⟨rfl, ⟨nd, rfl⟩⟩))
             go_ret
             exact ⟨by first | rfl | (simp [errW_none, errW_some] <;> rfl) | (simp [*, errW_none, errW_some] <;> rfl), by repeat (first | (with_reducible first | exact HB.out | apply below_alloc | apply pw_below_drewN | apply below_drew1) | exact HB.out)⟩
           · rw [if_neg c17] at H
             exact absurd H (by simp)
         · rw [if_neg c15] at H
           exact absurd H (by simp)
       · rw [if_neg c14] at H
         exact absurd H (by simp)
     · rw [if_neg c12] at H
       exact absurd H (by simp)
   · rw [if_neg c8] at H
     have c8b0 : (t108 == 0) = false := beq_eq_false_iff_ne.mpr c8
     have c8b1 : (t108 != 0) = true := bne_iff_ne.mpr c8
     replace H := Option.bind_eq_some_iff.mp H
     obtain ⟨t109, A260, H⟩ := H
     replace H : (if t109 = 700 then (some ((t104.length : Int) == 0)) else (none)) = some r := H
     have A26 := Aside0.mk A260
     clear A260
     by_cases c27 : t109 = 700
     · rw [if_pos c27] at H
       have c27b0 : (t109 == 700) = true := beq_iff_eq.mpr c27
       have c27b1 : (t109 != 700) = false := bne_eq_false_iff_eq.mpr c27
       clear c27
       obtain rfl := Option.some.inj H
       go_enter Try.func7, Try.ntmps7
       go_wp2_with (first | ((with_reducible refine gate_callee (f := 27) rfl ?_); refine goesL_ (some 13) rfl rfl Try.func27 (by kernel_rfl) rfl #[] rfl (by (try simp only [List.map_toArray, List.map_cons, List.map_nil]); first | done | rfl | (simp only [List.length_drop, List.length_take]; rfl)) ?_; (with_reducible refine (minuetlaw7_awake.calls k  true _ A3.out).mono ?_); rintro e w28 ⟨rfl, hb⟩; refine ⟨_, rfl, ?_⟩; have n0_ := Aside0.mk (below_step (by repeat (first | (with_reducible first | exact HB.out | apply below_alloc | apply pw_below_drewN | apply below_drew1) | exact HB.out)) hb); clear HB; have HB := n0_; clear n0_; (try clear hb); (try clear hb2); (try clear hk); (try clear hi)) | ((with_reducible refine gate_callee (f := 16) rfl ?_); refine goesL_ (some 18) rfl rfl Try.func16 (by kernel_rfl) rfl #[.string a0, .slice A1 l1.length c1] rfl (by (try simp only [List.map_toArray, List.map_cons, List.map_nil]); first | done | rfl | (simp only [List.length_drop, List.length_take]; rfl)) ?_; (with_reducible refine (apply_Apply.calls k a0 _ _ l1 t102 t103 _ ?side1 ?side2 A5.out).mono ?_); (case side1 => repeat (first | exact (Kd.C_below HR1.out HB.out) | (with_reducible refine Kd.C_alloc ?_ _) | (with_reducible refine Kd.C_drewN ?_ _) | (with_reducible refine Kd.C_drew ?_))); (case side2 => exact HC1.out); rintro e w29 ⟨rfl, hb⟩; refine ⟨_, rfl, ?_⟩; have n0_ := Aside0.mk (below_step (by repeat (first | (with_reducible first | exact HB.out | apply below_alloc | apply pw_below_drewN | apply below_drew1) | exact HB.out)) hb); clear HB; have HB := n0_; clear n0_; (try clear hb); (try clear hb2); (try clear hk); (try clear hi)) | ((with_reducible refine gate_callee (f := 22) rfl ?_); refine goesL_ (some 24) rfl rfl Try.func22 (by kernel_rfl) rfl #[.string a0, .slice A1 l1.length c1] rfl (by (try simp only [List.map_toArray, List.map_cons, List.map_nil]); first | done | rfl | (simp only [List.length_drop, List.length_take]; rfl)) ?_; (with_reducible refine (invert_Invert.calls k a0 _ _ l1 t104 t105 _ ?side1 ?side2 A6.out).mono ?_); (case side1 => repeat (first | exact (Kd.C_below HR1.out HB.out) | (with_reducible refine Kd.C_alloc ?_ _) | (with_reducible refine Kd.C_drewN ?_ _) | (with_reducible refine Kd.C_drew ?_))); (case side2 => exact HC1.out); rintro e w30 ⟨v106, rfl, ho0, hb⟩; refine ⟨_, rfl, ?_⟩; have n0_ := Aside0.mk (Kd.R_lower ho0 (below_size (by repeat (first | (with_reducible first | exact HB.out | apply below_alloc | apply pw_below_drewN | apply below_drew1) | exact HB.out)))); have n1_ := Aside0.mk (below_step (by repeat (first | (with_reducible first | exact HB.out | apply below_alloc | apply pw_below_drewN | apply below_drew1) | exact HB.out)) hb); clear HB; have HO107 := n0_; have HB := n1_; clear n0_ n1_; (try clear hb); (try clear hb2); (try clear hk); (try clear hi); (try clear ho0)) | ((with_reducible refine gate_callee (f := 17) rfl ?_); refine goesL_ (some 28) rfl rfl Try.func17 (by kernel_rfl) rfl #[.int .i64 t103] rfl (by (try simp only [List.map_toArray, List.map_cons, List.map_nil]); first | done | rfl | (simp only [List.length_drop, List.length_take]; rfl)) ?_; (with_reducible refine (minuetlaw0_Num.calls t103 t108 _ A7.out).mono ?_); rintro e w' ⟨rfl, ⟨nd, rfl⟩⟩; refine ⟨_, rfl, ?_⟩) | ((with_reducible refine gate_callee (f := 17) rfl ?_); refine goesL_ (some 31) rfl rfl Try.func17 (by kernel_rfl) rfl #[.int .i64 t105] rfl (by (try simp only [List.map_toArray, List.map_cons, List.map_nil]); first | done | rfl | (simp only [List.length_drop, List.length_take]; rfl)) ?_; (with_reducible refine (minuetlaw0_Num.calls t105 t109 _ A26.out).mono ?_); rintro e w' ⟨rfl, ⟨nd, rfl⟩⟩; refine ⟨_, rfl, ?_⟩; obtain ⟨Ao31, co31, eo31⟩ := Kd.R_slice HO107.out; subst eo31))
       go_ret
       exact ⟨by first | rfl | (simp [errW_none, errW_some] <;> rfl) | (simp [*, errW_none, errW_some] <;> rfl), by repeat (first | (with_reducible first | exact HB.out | apply below_alloc | apply pw_below_drewN | apply below_drew1) | exact HB.out)⟩
     · rw [if_neg c27] at H
       exact absurd H (by simp)
 · replace c4 := Bool.eq_false_iff.mpr c4
   subst c4
   have H1 : (none) = some r := by rw [if_neg (show ¬ (false = true) by decide)] at H; exact H
   clear H
   have H := H1
   clear H1
   exact absurd H (by simp)

end Go.Proofs.Ytbkkcoppncgegab.G
