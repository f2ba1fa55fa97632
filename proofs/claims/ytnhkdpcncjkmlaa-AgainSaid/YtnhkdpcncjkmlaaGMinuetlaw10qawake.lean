-- Laid by this session's own program gprint.py (wip/tools), out of the kit's print and of texts of this session. Lean checks it.
import Derived.Test.YtnhkdpcncjkmlaaGx0
import Derived.Test.YtnhkdpcncjkmlaaGLexPTokens
import Derived.Test.YtnhkdpcncjkmlaaGMinuetlaw0PNum
import Derived.Test.YtnhkdpcncjkmlaaGRelexPAgain
namespace Go.Proofs.Ytnhkdpcncjkmlaa.G
open Go.RowKit Go.Proofs.YtnhkdpcncjkmlaaW.PrintWords Go.Proofs.YtnhkdpcncjkmlaaW.PrintLast Go.Proofs.YtnhkdpcncjkmlaaW.PrintMore
attribute [local go_sem] max2_int min2_int max_two min_two max_three min_three max_four min_four   -- for this text's walks alone
set_option linter.unusedVariables false
set_option linter.unusedSimpArgs false

/-! ### minuetlaw10_awake: function 22 -/
def minuetlaw10_awake.f (k : Nat)  : Option (Bool) := (lex_Tokens.f (⟨#[91, 49, 44, 32, 50, 51, 93]⟩ : ByteArray)).bind fun bt101 => ((relex_Again.f k (⟨#[91, 49, 44, 32, 50, 51, 93]⟩ : ByteArray) bt101.1 4 1 (⟨#[120]⟩ : ByteArray)).bind fun bt105 => ((relex_Again.f k (⟨#[91, 49, 44, 32, 50, 51, 93]⟩ : ByteArray) ([] : List (S34)) 4 1 (⟨#[120]⟩ : ByteArray)).bind fun bt111 => ((relex_Again.f k (⟨#[91, 49, 44, 32, 50, 51, 93]⟩ : ByteArray) bt101.1 7 1 (⟨#[120]⟩ : ByteArray)).bind fun bt117 => ((minuetlaw0_Num.f bt101.2).bind fun t123 => (if t123 = 0 then (if (bt105.1.length : Int) = 7 then (if 4 < (bt105.1.length : Int) then (if ((rd_T34 bt105.1 4).f0) = 11 then (if bt105.2.1 = 4 then (if bt105.2.2.1 = 1 then ((minuetlaw0_Num.f bt105.2.2.2).bind fun t125 => (if t125 = 0 then ((minuetlaw0_Num.f bt111.2.2.2).bind fun t126 => (if t126 = 1000 then ((minuetlaw0_Num.f bt117.2.2.2).bind fun t127 => (some (t127 == 1000))) else (none))) else (none))) else (none)) else (none)) else (none)) else (none)) else (none)) else (none))))))
theorem minuetlaw10_awake.mono : ∀ k, LeO (minuetlaw10_awake.f k ) (minuetlaw10_awake.f (k + 1) ) := by
 intro  k
 unfold minuetlaw10_awake.f
 repeat' first
  | (with_reducible exact relex_Again.mono _ _ _ _ _ _)
  | (with_reducible exact LeO.refl _)
  | (with_reducible exact LeO.none _)
  | (with_reducible refine LeO.ite ?_ ?_)
  | (with_reducible refine LeO.bind ?_ (fun _ => ?_))
  | exact relex_Again.mono _ _ _ _ _ _
  | exact LeO.none _
  | refine LeO.ite ?_ ?_
  | refine LeO.bind ?_ (fun _ => ?_)
set_option maxHeartbeats 8000000 in
set_option maxRecDepth 100000 in
theorem minuetlaw10_awake.calls (k : Nat)  (r : Bool) (w : World) (hm_ : MaxOk w) (h : minuetlaw10_awake.f k  = some r) :
 Calls Try.prog 22 #[] w fun e w' => e = .returned (.bool r) ∧ Below w.heap.size w w' := by
 have HM_ := Aside0.mk hm_
 clear hm_
 have HB := Aside0.mk (Below.refl w.heap.size w)
 have H : ((lex_Tokens.f (⟨#[91, 49, 44, 32, 50, 51, 93]⟩ : ByteArray)).bind fun bt101 => ((relex_Again.f k (⟨#[91, 49, 44, 32, 50, 51, 93]⟩ : ByteArray) bt101.1 4 1 (⟨#[120]⟩ : ByteArray)).bind fun bt105 => ((relex_Again.f k (⟨#[91, 49, 44, 32, 50, 51, 93]⟩ : ByteArray) ([] : List (S34)) 4 1 (⟨#[120]⟩ : ByteArray)).bind fun bt111 => ((relex_Again.f k (⟨#[91, 49, 44, 32, 50, 51, 93]⟩ : ByteArray) bt101.1 7 1 (⟨#[120]⟩ : ByteArray)).bind fun bt117 => ((minuetlaw0_Num.f bt101.2).bind fun t123 => (if t123 = 0 then (if (bt105.1.length : Int) = 7 then (if 4 < (bt105.1.length : Int) then (if ((rd_T34 bt105.1 4).f0) = 11 then (if bt105.2.1 = 4 then (if bt105.2.2.1 = 1 then ((minuetlaw0_Num.f bt105.2.2.2).bind fun t125 => (if t125 = 0 then ((minuetlaw0_Num.f bt111.2.2.2).bind fun t126 => (if t126 = 1000 then ((minuetlaw0_Num.f bt117.2.2.2).bind fun t127 => (some (t127 == 1000))) else (none))) else (none))) else (none)) else (none)) else (none)) else (none)) else (none)) else (none))))))) = some r := h
 clear h
 replace H := Option.bind_eq_some_iff.mp H
 obtain ⟨⟨t101, t102⟩, A10, H⟩ := H
 replace H : ((relex_Again.f k (⟨#[91, 49, 44, 32, 50, 51, 93]⟩ : ByteArray) t101 4 1 (⟨#[120]⟩ : ByteArray)).bind fun bt105 => ((relex_Again.f k (⟨#[91, 49, 44, 32, 50, 51, 93]⟩ : ByteArray) ([] : List (S34)) 4 1 (⟨#[120]⟩ : ByteArray)).bind fun bt111 => ((relex_Again.f k (⟨#[91, 49, 44, 32, 50, 51, 93]⟩ : ByteArray) t101 7 1 (⟨#[120]⟩ : ByteArray)).bind fun bt117 => ((minuetlaw0_Num.f t102).bind fun t123 => (if t123 = 0 then (if (bt105.1.length : Int) = 7 then (if 4 < (bt105.1.length : Int) then (if ((rd_T34 bt105.1 4).f0) = 11 then (if bt105.2.1 = 4 then (if bt105.2.2.1 = 1 then ((minuetlaw0_Num.f bt105.2.2.2).bind fun t125 => (if t125 = 0 then ((minuetlaw0_Num.f bt111.2.2.2).bind fun t126 => (if t126 = 1000 then ((minuetlaw0_Num.f bt117.2.2.2).bind fun t127 => (some (t127 == 1000))) else (none))) else (none))) else (none)) else (none)) else (none)) else (none)) else (none)) else (none)))))) = some r := H
 have A1 := Aside0.mk A10
 clear A10
 replace H := Option.bind_eq_some_iff.mp H
 obtain ⟨⟨t105, t106, t107, t108⟩, A20, H⟩ := H
 replace H : ((relex_Again.f k (⟨#[91, 49, 44, 32, 50, 51, 93]⟩ : ByteArray) ([] : List (S34)) 4 1 (⟨#[120]⟩ : ByteArray)).bind fun bt111 => ((relex_Again.f k (⟨#[91, 49, 44, 32, 50, 51, 93]⟩ : ByteArray) t101 7 1 (⟨#[120]⟩ : ByteArray)).bind fun bt117 => ((minuetlaw0_Num.f t102).bind fun t123 => (if t123 = 0 then (if (t105.length : Int) = 7 then (if 4 < (t105.length : Int) then (if ((rd_T34 t105 4).f0) = 11 then (if t106 = 4 then (if t107 = 1 then ((minuetlaw0_Num.f t108).bind fun t125 => (if t125 = 0 then ((minuetlaw0_Num.f bt111.2.2.2).bind fun t126 => (if t126 = 1000 then ((minuetlaw0_Num.f bt117.2.2.2).bind fun t127 => (some (t127 == 1000))) else (none))) else (none))) else (none)) else (none)) else (none)) else (none)) else (none)) else (none))))) = some r := H
 have A2 := Aside0.mk A20
 clear A20
 replace H := Option.bind_eq_some_iff.mp H
 obtain ⟨⟨t111, t112, t113, t114⟩, A30, H⟩ := H
 replace H : ((relex_Again.f k (⟨#[91, 49, 44, 32, 50, 51, 93]⟩ : ByteArray) t101 7 1 (⟨#[120]⟩ : ByteArray)).bind fun bt117 => ((minuetlaw0_Num.f t102).bind fun t123 => (if t123 = 0 then (if (t105.length : Int) = 7 then (if 4 < (t105.length : Int) then (if ((rd_T34 t105 4).f0) = 11 then (if t106 = 4 then (if t107 = 1 then ((minuetlaw0_Num.f t108).bind fun t125 => (if t125 = 0 then ((minuetlaw0_Num.f t114).bind fun t126 => (if t126 = 1000 then ((minuetlaw0_Num.f bt117.2.2.2).bind fun t127 => (some (t127 == 1000))) else (none))) else (none))) else (none)) else (none)) else (none)) else (none)) else (none)) else (none)))) = some r := H
 have A3 := Aside0.mk A30
 clear A30
 replace H := Option.bind_eq_some_iff.mp H
 obtain ⟨⟨t117, t118, t119, t120⟩, A40, H⟩ := H
 replace H : ((minuetlaw0_Num.f t102).bind fun t123 => (if t123 = 0 then (if (t105.length : Int) = 7 then (if 4 < (t105.length : Int) then (if ((rd_T34 t105 4).f0) = 11 then (if t106 = 4 then (if t107 = 1 then ((minuetlaw0_Num.f t108).bind fun t125 => (if t125 = 0 then ((minuetlaw0_Num.f t114).bind fun t126 => (if t126 = 1000 then ((minuetlaw0_Num.f t120).bind fun t127 => (some (t127 == 1000))) else (none))) else (none))) else (none)) else (none)) else (none)) else (none)) else (none)) else (none))) = some r := H
 have A4 := Aside0.mk A40
 clear A40
 replace H := Option.bind_eq_some_iff.mp H
 obtain ⟨t123, A50, H⟩ := H
 replace H : (if t123 = 0 then (if (t105.length : Int) = 7 then (if 4 < (t105.length : Int) then (if ((rd_T34 t105 4).f0) = 11 then (if t106 = 4 then (if t107 = 1 then ((minuetlaw0_Num.f t108).bind fun t125 => (if t125 = 0 then ((minuetlaw0_Num.f t114).bind fun t126 => (if t126 = 1000 then ((minuetlaw0_Num.f t120).bind fun t127 => (some (t127 == 1000))) else (none))) else (none))) else (none)) else (none)) else (none)) else (none)) else (none)) else (none)) = some r := H
 have A5 := Aside0.mk A50
 clear A50
 by_cases c6 : t123 = 0
 · rw [if_pos c6] at H
   have c6b0 : (t123 == 0) = true := beq_iff_eq.mpr c6
   have c6b1 : (t123 != 0) = false := bne_eq_false_iff_eq.mpr c6
   clear c6
   by_cases c7 : (t105.length : Int) = 7
   · rw [if_pos c7] at H
     have c7b0 : ((t105.length : Int) == 7) = true := beq_iff_eq.mpr c7
     have c7b1 : ((t105.length : Int) != 7) = false := bne_eq_false_iff_eq.mpr c7
     clear c7
     by_cases c8 : 4 < (t105.length : Int)
     · rw [if_pos c8] at H
       have c8b0 : decide (4 < (t105.length : Int)) = true := decide_eq_true c8
       have c8b1 : decide (4 < t105.length) = true := decide_eq_true (by omega)
       clear c8
       by_cases c9 : ((rd_T34 t105 4).f0) = 11
       · rw [if_pos c9] at H
         have c9b0 : (((rd_T34 t105 4).f0) == 11) = true := beq_iff_eq.mpr c9
         have c9b1 : (((rd_T34 t105 4).f0) != 11) = false := bne_eq_false_iff_eq.mpr c9
         clear c9
         by_cases c10 : t106 = 4
         · rw [if_pos c10] at H
           have c10b0 : (t106 == 4) = true := beq_iff_eq.mpr c10
           have c10b1 : (t106 != 4) = false := bne_eq_false_iff_eq.mpr c10
           clear c10
           by_cases c11 : t107 = 1
           · rw [if_pos c11] at H
             have c11b0 : (t107 == 1) = true := beq_iff_eq.mpr c11
             have c11b1 : (t107 != 1) = false := bne_eq_false_iff_eq.mpr c11
             clear c11
             replace H := Option.bind_eq_some_iff.mp H
             obtain ⟨t125, A120, H⟩ := H
             replace H : (if t125 = 0 then ((minuetlaw0_Num.f t114).bind fun t126 => (if t126 = 1000 then ((minuetlaw0_Num.f t120).bind fun t127 => (some (t127 == 1000))) else (none))) else (none)) = some r := H
             have A12 := Aside0.mk A120
             clear A120
             by_cases c13 : t125 = 0
             · rw [if_pos c13] at H
               have c13b0 : (t125 == 0) = true := beq_iff_eq.mpr c13
               have c13b1 : (t125 != 0) = false := bne_eq_false_iff_eq.mpr c13
               clear c13
               replace H := Option.bind_eq_some_iff.mp H
               obtain ⟨t126, A140, H⟩ := H
               replace H : (if t126 = 1000 then ((minuetlaw0_Num.f t120).bind fun t127 => (some (t127 == 1000))) else (none)) = some r := H
               have A14 := Aside0.mk A140
               clear A140
               by_cases c15 : t126 = 1000
               · rw [if_pos c15] at H
                 have c15b0 : (t126 == 1000) = true := beq_iff_eq.mpr c15
                 have c15b1 : (t126 != 1000) = false := bne_eq_false_iff_eq.mpr c15
                 clear c15
                 replace H := Option.bind_eq_some_iff.mp H
                 obtain ⟨t127, A160, H⟩ := H
                 replace H : (some (t127 == 1000)) = some r := H
                 have A16 := Aside0.mk A160
                 clear A160
                 obtain rfl := Option.some.inj H
                 go_enter Try.func22, Try.ntmps22
                 go_wp2_with (first | ((with_reducible refine gate_callee (f := 12) rfl ?_); refine goesL_ (some 16) rfl rfl Try.func12 (by kernel_rfl) rfl #[.string (⟨#[91, 49, 44, 32, 50, 51, 93]⟩ : ByteArray)] rfl (by (try simp only [List.map_toArray, List.map_cons, List.map_nil]); first | done | rfl | (simp only [List.length_drop, List.length_take]; rfl)) ?_; (with_reducible refine (lex_Tokens.calls (⟨#[91, 49, 44, 32, 50, 51, 93]⟩ : ByteArray) t101 t102 _ (MaxOk.of HM_.out (by repeat (first | (with_reducible first | exact HB.out | apply below_alloc | apply pw_below_drewN | apply below_drew1) | exact HB.out))) A1.out).mono ?_); rintro e w17 ⟨v103, rfl, ho0, hb⟩; refine ⟨_, rfl, ?_⟩; have n0_ := Aside0.mk (Kd.R_lower ho0 (below_size (by repeat (first | (with_reducible first | exact HB.out | apply below_alloc | apply pw_below_drewN | apply below_drew1) | exact HB.out)))); have n1_ := Aside0.mk (below_step (by repeat (first | (with_reducible first | exact HB.out | apply below_alloc | apply pw_below_drewN | apply below_drew1) | exact HB.out)) hb); clear HB; have HO104 := n0_; have HB := n1_; clear n0_ n1_; (try clear hb); (try clear hb2); (try clear hk); (try clear hi); (try clear ho0); obtain ⟨Ao18, co18, eo18⟩ := Kd.R_slice HO104.out; subst eo18) | ((with_reducible refine gate_callee (f := 19) rfl ?_); refine goesL_ (some 21) rfl rfl Try.func19 (by kernel_rfl) rfl #[.string (⟨#[91, 49, 44, 32, 50, 51, 93]⟩ : ByteArray), .slice Ao18 t101.length co18, .int .i64 4, .int .i64 1, .string (⟨#[120]⟩ : ByteArray)] rfl (by (try simp only [List.map_toArray, List.map_cons, List.map_nil]); first | done | rfl | (simp only [List.length_drop, List.length_take]; rfl)) ?_; (with_reducible refine (relex_Again.calls k (⟨#[91, 49, 44, 32, 50, 51, 93]⟩ : ByteArray) _ _ t101 4 1 (⟨#[120]⟩ : ByteArray) t105 t106 t107 t108 _ ?side1 ?side2 (MaxOk.of HM_.out (by repeat (first | (with_reducible first | exact HB.out | apply below_alloc | apply pw_below_drewN | apply below_drew1) | exact HB.out))) A2.out).mono ?_); (case side1 => repeat (first | exact (Kd.R_reads' HO104.out).2.2 | (with_reducible refine Kd.C_alloc ?_ _) | (with_reducible refine Kd.C_drewN ?_ _) | (with_reducible refine Kd.C_drew ?_))); (case side2 => exact (Kd.R_reads' HO104.out).2.1); rintro e w19 ⟨v109, rfl, ho0, hb⟩; refine ⟨_, rfl, ?_⟩; have n0_ := Aside0.mk (Kd.R_elder' (by (with_reducible repeat (first | apply Kd.R_alloc | apply Kd.R_drewN | apply Kd.R_drew)); exact HO104.out) (Kd.R_base ho0) hb); have n1_ := Aside0.mk (Kd.R_lower (Kd.R_new' ho0 (Kd.R_lt (by (with_reducible repeat (first | apply Kd.R_alloc | apply Kd.R_drewN | apply Kd.R_drew)); exact HO104.out))) (below_size (by repeat (first | (with_reducible first | exact HB.out | apply below_alloc | apply pw_below_drewN | apply below_drew1) | exact HB.out)))); have n2_ := Aside0.mk (below_step (by repeat (first | (with_reducible first | exact HB.out | apply below_alloc | apply pw_below_drewN | apply below_drew1) | exact HB.out)) hb); clear HO104; clear HB; have HO104 := n0_; have HO110 := n1_; have HB := n2_; clear n0_ n1_ n2_; (try clear hb); (try clear hb2); (try clear hk); (try clear hi); (try clear ho0)) | ((with_reducible refine gate_callee (f := 19) rfl ?_); refine goesL_ (some 27) rfl rfl Try.func19 (by kernel_rfl) rfl #[.string (⟨#[91, 49, 44, 32, 50, 51, 93]⟩ : ByteArray), .slice none 0 0, .int .i64 4, .int .i64 1, .string (⟨#[120]⟩ : ByteArray)] rfl (by (try simp only [List.map_toArray, List.map_cons, List.map_nil]); first | done | rfl | (simp only [List.length_drop, List.length_take]; rfl)) ?_; (refine (relex_Again.calls k (⟨#[91, 49, 44, 32, 50, 51, 93]⟩ : ByteArray) _ _ ([] : List (S34)) 4 1 (⟨#[120]⟩ : ByteArray) t111 t112 t113 t114 _ ?side1 ?side2 (MaxOk.of HM_.out (by repeat (first | (with_reducible first | exact HB.out | apply below_alloc | apply pw_below_drewN | apply below_drew1) | exact HB.out))) A3.out).mono ?_); (case side1 => exact Kd.C_nil _ _); (case side2 => exact Nat.le_refl _); rintro e w20 ⟨v115, rfl, ho0, hb⟩; refine ⟨_, rfl, ?_⟩; have n0_ := Aside0.mk (Kd.R_elder' (by (with_reducible repeat (first | apply Kd.R_alloc | apply Kd.R_drewN | apply Kd.R_drew)); exact HO104.out) (Kd.R_base ho0) hb); have n1_ := Aside0.mk (Kd.R_elder' (by (with_reducible repeat (first | apply Kd.R_alloc | apply Kd.R_drewN | apply Kd.R_drew)); exact HO110.out) (Kd.R_base ho0) hb); have n2_ := Aside0.mk (Kd.R_lower (Kd.R_new' (Kd.R_new' ho0 (Kd.R_lt (by (with_reducible repeat (first | apply Kd.R_alloc | apply Kd.R_drewN | apply Kd.R_drew)); exact HO104.out))) (Kd.R_lt (by (with_reducible repeat (first | apply Kd.R_alloc | apply Kd.R_drewN | apply Kd.R_drew)); exact HO110.out))) (below_size (by repeat (first | (with_reducible first | exact HB.out | apply below_alloc | apply pw_below_drewN | apply below_drew1) | exact HB.out)))); have n3_ := Aside0.mk (below_step (by repeat (first | (with_reducible first | exact HB.out | apply below_alloc | apply pw_below_drewN | apply below_drew1) | exact HB.out)) hb); clear HO104; clear HO110; clear HB; have HO104 := n0_; have HO110 := n1_; have HO116 := n2_; have HB := n3_; clear n0_ n1_ n2_ n3_; (try clear hb); (try clear hb2); (try clear hk); (try clear hi); (try clear ho0)) | ((with_reducible refine gate_callee (f := 19) rfl ?_); refine goesL_ (some 34) rfl rfl Try.func19 (by kernel_rfl) rfl #[.string (⟨#[91, 49, 44, 32, 50, 51, 93]⟩ : ByteArray), .slice Ao18 t101.length co18, .int .i64 7, .int .i64 1, .string (⟨#[120]⟩ : ByteArray)] rfl (by (try simp only [List.map_toArray, List.map_cons, List.map_nil]); first | done | rfl | (simp only [List.length_drop, List.length_take]; rfl)) ?_; (with_reducible refine (relex_Again.calls k (⟨#[91, 49, 44, 32, 50, 51, 93]⟩ : ByteArray) _ _ t101 7 1 (⟨#[120]⟩ : ByteArray) t117 t118 t119 t120 _ ?side1 ?side2 (MaxOk.of HM_.out (by repeat (first | (with_reducible first | exact HB.out | apply below_alloc | apply pw_below_drewN | apply below_drew1) | exact HB.out))) A4.out).mono ?_); (case side1 => repeat (first | exact (Kd.R_reads' HO104.out).2.2 | (with_reducible refine Kd.C_alloc ?_ _) | (with_reducible refine Kd.C_drewN ?_ _) | (with_reducible refine Kd.C_drew ?_))); (case side2 => exact (Kd.R_reads' HO104.out).2.1); rintro e w21 ⟨v121, rfl, ho0, hb⟩; refine ⟨_, rfl, ?_⟩; have n0_ := Aside0.mk (Kd.R_elder' (by (with_reducible repeat (first | apply Kd.R_alloc | apply Kd.R_drewN | apply Kd.R_drew)); exact HO104.out) (Kd.R_base ho0) hb); have n1_ := Aside0.mk (Kd.R_elder' (by (with_reducible repeat (first | apply Kd.R_alloc | apply Kd.R_drewN | apply Kd.R_drew)); exact HO110.out) (Kd.R_base ho0) hb); have n2_ := Aside0.mk (Kd.R_elder' (by (with_reducible repeat (first | apply Kd.R_alloc | apply Kd.R_drewN | apply Kd.R_drew)); exact HO116.out) (Kd.R_base ho0) hb); have n3_ := Aside0.mk (Kd.R_lower (Kd.R_new' (Kd.R_new' (Kd.R_new' ho0 (Kd.R_lt (by (with_reducible repeat (first | apply Kd.R_alloc | apply Kd.R_drewN | apply Kd.R_drew)); exact HO104.out))) (Kd.R_lt (by (with_reducible repeat (first | apply Kd.R_alloc | apply Kd.R_drewN | apply Kd.R_drew)); exact HO110.out))) (Kd.R_lt (by (with_reducible repeat (first | apply Kd.R_alloc | apply Kd.R_drewN | apply Kd.R_drew)); exact HO116.out))) (below_size (by repeat (first | (with_reducible first | exact HB.out | apply below_alloc | apply pw_below_drewN | apply below_drew1) | exact HB.out)))); have n4_ := Aside0.mk (below_step (by repeat (first | (with_reducible first | exact HB.out | apply below_alloc | apply pw_below_drewN | apply below_drew1) | exact HB.out)) hb); clear HO104; clear HO110; clear HO116; clear HB; have HO104 := n0_; have HO110 := n1_; have HO116 := n2_; have HO122 := n3_; have HB := n4_; clear n0_ n1_ n2_ n3_ n4_; (try clear hb); (try clear hb2); (try clear hk); (try clear hi); (try clear ho0)) | ((with_reducible refine gate_callee (f := 15) rfl ?_); refine goesL_ (some 40) rfl rfl Try.func15 (by kernel_rfl) rfl #[.int .i64 t102] rfl (by (try simp only [List.map_toArray, List.map_cons, List.map_nil]); first | done | rfl | (simp only [List.length_drop, List.length_take]; rfl)) ?_; (with_reducible refine (minuetlaw0_Num.calls t102 t123 _ A5.out).mono ?_); rintro e w' ⟨rfl, ⟨nd, rfl⟩⟩; refine ⟨_, rfl, ?_⟩; obtain ⟨Ao22, co22, eo22⟩ := Kd.R_slice HO110.out; subst eo22; have p124 : 0 ≤ (4 : Int) := (by omega); have q124 : 4 < (t105.length : Int) := of_decide_eq_true (by first | (with_reducible assumption) | assumption); obtain ⟨ad124, e124, hx124_0, hx124_1, hx124_2⟩ := at_T34 (Kd.R_reads' HO110.out).2.2 4 p124 q124; cases e124; (try simp only [show (4 : Int).toNat = 4 from rfl, Nat.reduceMul, Nat.reduceEqDiff, Go.Addr.add, ↓reduceIte] at hx124_0); (try simp only [show (4 : Int).toNat = 4 from rfl, Nat.reduceMul, Nat.reduceEqDiff, Go.Addr.add, ↓reduceIte] at hx124_1); (try simp only [show (4 : Int).toNat = 4 from rfl, Nat.reduceMul, Nat.reduceEqDiff, Go.Addr.add, ↓reduceIte] at hx124_2); have qi124 : (4 < t105.length) = True := eq_true (by omega); (try rw [show ((4 : Int)).toNat = 4 from rfl] at hx124_0); (try rw [show 4 * 3 = 12 from rfl] at hx124_0); (try rw [show ((4 : Int)).toNat = 4 from rfl] at hx124_1); (try rw [show 4 * 3 = 12 from rfl] at hx124_1); (try rw [show ((4 : Int)).toNat = 4 from rfl] at hx124_2); (try rw [show 4 * 3 = 12 from rfl] at hx124_2); replace p124 := eq_true p124; replace q124 := eq_true q124) | (go_at_call 15; (with_reducible refine (minuetlaw0_Num.calls t108 t125 _ A12.out).mono ?_); rintro e w' ⟨rfl, ⟨nd, rfl⟩⟩) | (go_at_call 15; (with_reducible refine (minuetlaw0_Num.calls t114 t126 _ A14.out).mono ?_); rintro e w' ⟨rfl, ⟨nd, rfl⟩⟩) | (go_at_call 15; (with_reducible refine (minuetlaw0_Num.calls t120 t127 _ A16.out).mono ?_); rintro e w' ⟨rfl, ⟨nd, rfl⟩⟩))
                 go_ret
                 exact ⟨by first | rfl | (simp [errW_none, errW_some] <;> rfl) | (simp [*, errW_none, errW_some] <;> rfl), by repeat (first | (with_reducible first | exact HB.out | apply below_alloc | apply pw_below_drewN | apply below_drew1) | exact HB.out)⟩
               · rw [if_neg c15] at H
                 exact absurd H (by simp)
             · rw [if_neg c13] at H
               exact absurd H (by simp)
           · rw [if_neg c11] at H
             exact absurd H (by simp)
         · rw [if_neg c10] at H
           exact absurd H (by simp)
       · rw [if_neg c9] at H
         exact absurd H (by simp)
     · rw [if_neg c8] at H
       exact absurd H (by simp)
   · rw [if_neg c7] at H
     exact absurd H (by simp)
 · rw [if_neg c6] at H
   exact absurd H (by simp)

end Go.Proofs.Ytnhkdpcncjkmlaa.G
