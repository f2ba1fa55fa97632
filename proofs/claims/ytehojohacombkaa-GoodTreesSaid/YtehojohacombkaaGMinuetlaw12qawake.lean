-- Laid by this session's own program gprint.py (wip/tools), out of the kit's print and of texts of this session. Lean checks it.
import Derived.Test.YtehojohacombkaaGx0
import Derived.Test.YtehojohacombkaaGGoodPGood
import Derived.Test.YtehojohacombkaaGMinuetlaw0PNum
namespace Go.Proofs.Ytehojohacombkaa.G
open Go.RowKit Go.Proofs.YtehojohacombkaaW.PrintWords Go.Proofs.YtehojohacombkaaW.PrintLast Go.Proofs.YtehojohacombkaaW.PrintMore
attribute [local go_sem] max2_int min2_int max_two min_two max_three min_three max_four min_four   -- for this text's walks alone
set_option linter.unusedVariables false
set_option linter.unusedSimpArgs false

/-! ### minuetlaw12_awake: function 12 -/
def minuetlaw12_awake.f  : Option (Bool) := (good_Good.f (⟨#[47, 47, 32, 120, 10, 123, 34, 97, 34, 58, 32, 91, 49, 44, 32, 50, 46, 53, 101, 49, 44, 32, 116, 114, 117, 101, 93, 44, 32, 34, 98, 34, 58, 32, 123, 125, 125]⟩ : ByteArray)).bind fun bt101 => ((good_Good.f (⟨#[91, 49, 44, 93]⟩ : ByteArray)).bind fun bt103 => ((good_Good.f (⟨#[123, 49, 58, 32, 50, 125]⟩ : ByteArray)).bind fun bt105 => (if bt101.1 = true then ((minuetlaw0_Num.f bt101.2).bind fun t107 => (if t107 = 0 then (if bt103.1 = true then (none) else ((minuetlaw0_Num.f bt103.2).bind fun t108 => (if t108 = 0 then (if bt105.1 = true then (none) else ((minuetlaw0_Num.f bt105.2).bind fun t109 => (some (t109 == 0)))) else (none)))) else (none))) else (none))))
set_option maxHeartbeats 8000000 in
set_option maxRecDepth 100000 in
theorem minuetlaw12_awake.calls  (r : Bool) (w : World) (hm_ : MaxOk w) (h : minuetlaw12_awake.f  = some r) :
 Calls Try.prog 12 #[] w fun e w' => e = .returned (.bool r) ∧ Below w.heap.size w w' := by
 have HM_ := Aside0.mk hm_
 clear hm_
 have HB := Aside0.mk (Below.refl w.heap.size w)
 have H : ((good_Good.f (⟨#[47, 47, 32, 120, 10, 123, 34, 97, 34, 58, 32, 91, 49, 44, 32, 50, 46, 53, 101, 49, 44, 32, 116, 114, 117, 101, 93, 44, 32, 34, 98, 34, 58, 32, 123, 125, 125]⟩ : ByteArray)).bind fun bt101 => ((good_Good.f (⟨#[91, 49, 44, 93]⟩ : ByteArray)).bind fun bt103 => ((good_Good.f (⟨#[123, 49, 58, 32, 50, 125]⟩ : ByteArray)).bind fun bt105 => (if bt101.1 = true then ((minuetlaw0_Num.f bt101.2).bind fun t107 => (if t107 = 0 then (if bt103.1 = true then (none) else ((minuetlaw0_Num.f bt103.2).bind fun t108 => (if t108 = 0 then (if bt105.1 = true then (none) else ((minuetlaw0_Num.f bt105.2).bind fun t109 => (some (t109 == 0)))) else (none)))) else (none))) else (none))))) = some r := h
 clear h
 replace H := Option.bind_eq_some_iff.mp H
 obtain ⟨⟨t101, t102⟩, A10, H⟩ := H
 replace H : ((good_Good.f (⟨#[91, 49, 44, 93]⟩ : ByteArray)).bind fun bt103 => ((good_Good.f (⟨#[123, 49, 58, 32, 50, 125]⟩ : ByteArray)).bind fun bt105 => (if t101 = true then ((minuetlaw0_Num.f t102).bind fun t107 => (if t107 = 0 then (if bt103.1 = true then (none) else ((minuetlaw0_Num.f bt103.2).bind fun t108 => (if t108 = 0 then (if bt105.1 = true then (none) else ((minuetlaw0_Num.f bt105.2).bind fun t109 => (some (t109 == 0)))) else (none)))) else (none))) else (none)))) = some r := H
 have A1 := Aside0.mk A10
 clear A10
 replace H := Option.bind_eq_some_iff.mp H
 obtain ⟨⟨t103, t104⟩, A20, H⟩ := H
 replace H : ((good_Good.f (⟨#[123, 49, 58, 32, 50, 125]⟩ : ByteArray)).bind fun bt105 => (if t101 = true then ((minuetlaw0_Num.f t102).bind fun t107 => (if t107 = 0 then (if t103 = true then (none) else ((minuetlaw0_Num.f t104).bind fun t108 => (if t108 = 0 then (if bt105.1 = true then (none) else ((minuetlaw0_Num.f bt105.2).bind fun t109 => (some (t109 == 0)))) else (none)))) else (none))) else (none))) = some r := H
 have A2 := Aside0.mk A20
 clear A20
 replace H := Option.bind_eq_some_iff.mp H
 obtain ⟨⟨t105, t106⟩, A30, H⟩ := H
 replace H : (if t101 = true then ((minuetlaw0_Num.f t102).bind fun t107 => (if t107 = 0 then (if t103 = true then (none) else ((minuetlaw0_Num.f t104).bind fun t108 => (if t108 = 0 then (if t105 = true then (none) else ((minuetlaw0_Num.f t106).bind fun t109 => (some (t109 == 0)))) else (none)))) else (none))) else (none)) = some r := H
 have A3 := Aside0.mk A30
 clear A30
 by_cases c4 : t101 = true
 · subst c4
   have H1 : ((minuetlaw0_Num.f t102).bind fun t107 => (if t107 = 0 then (if t103 = true then (none) else ((minuetlaw0_Num.f t104).bind fun t108 => (if t108 = 0 then (if t105 = true then (none) else ((minuetlaw0_Num.f t106).bind fun t109 => (some (t109 == 0)))) else (none)))) else (none))) = some r := by rw [if_pos rfl] at H; exact H
   clear H
   have H := H1
   clear H1
   replace H := Option.bind_eq_some_iff.mp H
   obtain ⟨t107, A50, H⟩ := H
   replace H : (if t107 = 0 then (if t103 = true then (none) else ((minuetlaw0_Num.f t104).bind fun t108 => (if t108 = 0 then (if t105 = true then (none) else ((minuetlaw0_Num.f t106).bind fun t109 => (some (t109 == 0)))) else (none)))) else (none)) = some r := H
   have A5 := Aside0.mk A50
   clear A50
   by_cases c6 : t107 = 0
   · rw [if_pos c6] at H
     have c6b0 : (t107 == 0) = true := beq_iff_eq.mpr c6
     have c6b1 : (t107 != 0) = false := bne_eq_false_iff_eq.mpr c6
     clear c6
     by_cases c7 : t103 = true
     · subst c7
       have H1 : (none) = some r := by rw [if_pos rfl] at H; exact H
       clear H
       have H := H1
       clear H1
       exact absurd H (by simp)
     · replace c7 := Bool.eq_false_iff.mpr c7
       subst c7
       have H1 : ((minuetlaw0_Num.f t104).bind fun t108 => (if t108 = 0 then (if t105 = true then (none) else ((minuetlaw0_Num.f t106).bind fun t109 => (some (t109 == 0)))) else (none))) = some r := by rw [if_neg (show ¬ (false = true) by decide)] at H; exact H
       clear H
       have H := H1
       clear H1
       replace H := Option.bind_eq_some_iff.mp H
       obtain ⟨t108, A80, H⟩ := H
       replace H : (if t108 = 0 then (if t105 = true then (none) else ((minuetlaw0_Num.f t106).bind fun t109 => (some (t109 == 0)))) else (none)) = some r := H
       have A8 := Aside0.mk A80
       clear A80
       by_cases c9 : t108 = 0
       · rw [if_pos c9] at H
         have c9b0 : (t108 == 0) = true := beq_iff_eq.mpr c9
         have c9b1 : (t108 != 0) = false := bne_eq_false_iff_eq.mpr c9
         clear c9
         by_cases c10 : t105 = true
         · subst c10
           have H1 : (none) = some r := by rw [if_pos rfl] at H; exact H
           clear H
           have H := H1
           clear H1
           exact absurd H (by simp)
         · replace c10 := Bool.eq_false_iff.mpr c10
           subst c10
           have H1 : ((minuetlaw0_Num.f t106).bind fun t109 => (some (t109 == 0))) = some r := by rw [if_neg (show ¬ (false = true) by decide)] at H; exact H
           clear H
           have H := H1
           clear H1
           replace H := Option.bind_eq_some_iff.mp H
           obtain ⟨t109, A110, H⟩ := H
           replace H : (some (t109 == 0)) = some r := H
           have A11 := Aside0.mk A110
           clear A110
           obtain rfl := Option.some.inj H
           go_enter Try.func12, Try.ntmps12
           go_wp2_with (first | ((with_reducible refine gate_callee (f := 13) rfl ?_); refine goesL_ (some 8) rfl rfl Try.func13 (by kernel_rfl) rfl #[.string (⟨#[47, 47, 32, 120, 10, 123, 34, 97, 34, 58, 32, 91, 49, 44, 32, 50, 46, 53, 101, 49, 44, 32, 116, 114, 117, 101, 93, 44, 32, 34, 98, 34, 58, 32, 123, 125, 125]⟩ : ByteArray)] rfl (by (try simp only [List.map_toArray, List.map_cons, List.map_nil]); first | done | rfl | (simp only [List.length_drop, List.length_take]; rfl)) ?_; (with_reducible refine (good_Good.calls (⟨#[47, 47, 32, 120, 10, 123, 34, 97, 34, 58, 32, 91, 49, 44, 32, 50, 46, 53, 101, 49, 44, 32, 116, 114, 117, 101, 93, 44, 32, 34, 98, 34, 58, 32, 123, 125, 125]⟩ : ByteArray) true t102 _ (MaxOk.of HM_.out (by repeat (first | (with_reducible first | exact HB.out | apply below_alloc | apply pw_below_drewN | apply below_drew1) | exact HB.out))) A1.out).mono ?_); rintro e w12 ⟨rfl, hb⟩; refine ⟨_, rfl, ?_⟩; have n0_ := Aside0.mk (below_step (by repeat (first | (with_reducible first | exact HB.out | apply below_alloc | apply pw_below_drewN | apply below_drew1) | exact HB.out)) hb); clear HB; have HB := n0_; clear n0_; (try clear hb); (try clear hb2); (try clear hk); (try clear hi)) | ((with_reducible refine gate_callee (f := 13) rfl ?_); refine goesL_ (some 12) rfl rfl Try.func13 (by kernel_rfl) rfl #[.string (⟨#[91, 49, 44, 93]⟩ : ByteArray)] rfl (by (try simp only [List.map_toArray, List.map_cons, List.map_nil]); first | done | rfl | (simp only [List.length_drop, List.length_take]; rfl)) ?_; (with_reducible refine (good_Good.calls (⟨#[91, 49, 44, 93]⟩ : ByteArray) false t104 _ (MaxOk.of HM_.out (by repeat (first | (with_reducible first | exact HB.out | apply below_alloc | apply pw_below_drewN | apply below_drew1) | exact HB.out))) A2.out).mono ?_); rintro e w13 ⟨rfl, hb⟩; refine ⟨_, rfl, ?_⟩; have n0_ := Aside0.mk (below_step (by repeat (first | (with_reducible first | exact HB.out | apply below_alloc | apply pw_below_drewN | apply below_drew1) | exact HB.out)) hb); clear HB; have HB := n0_; clear n0_; (try clear hb); (try clear hb2); (try clear hk); (try clear hi)) | ((with_reducible refine gate_callee (f := 13) rfl ?_); refine goesL_ (some 16) rfl rfl Try.func13 (by kernel_rfl) rfl #[.string (⟨#[123, 49, 58, 32, 50, 125]⟩ : ByteArray)] rfl (by (try simp only [List.map_toArray, List.map_cons, List.map_nil]); first | done | rfl | (simp only [List.length_drop, List.length_take]; rfl)) ?_; (with_reducible refine (good_Good.calls (⟨#[123, 49, 58, 32, 50, 125]⟩ : ByteArray) false t106 _ (MaxOk.of HM_.out (by repeat (first | (with_reducible first | exact HB.out | apply below_alloc | apply pw_below_drewN | apply below_drew1) | exact HB.out))) A3.out).mono ?_); rintro e w14 ⟨rfl, hb⟩; refine ⟨_, rfl, ?_⟩; have n0_ := Aside0.mk (below_step (by repeat (first | (with_reducible first | exact HB.out | apply below_alloc | apply pw_below_drewN | apply below_drew1) | exact HB.out)) hb); clear HB; have HB := n0_; clear n0_; (try clear hb); (try clear hb2); (try clear hk); (try clear hi)) | (go_at_call 15; (with_reducible refine (minuetlaw0_Num.calls t102 t107 _ A5.out).mono ?_); rintro e w' ⟨rfl, ⟨nd, rfl⟩⟩) | (go_at_call 15; (with_reducible refine (minuetlaw0_Num.calls t104 t108 _ A8.out).mono ?_); rintro e w' ⟨rfl, ⟨nd, rfl⟩⟩) | (go_at_call 15; (with_reducible refine (minuetlaw0_Num.calls t106 t109 _ A11.out).mono ?_); rintro e w' ⟨rfl, ⟨nd, rfl⟩⟩))
           go_ret
           exact ⟨by first | rfl | (simp [errW_none, errW_some] <;> rfl) | (simp [*, errW_none, errW_some] <;> rfl), by repeat (first | (with_reducible first | exact HB.out | apply below_alloc | apply pw_below_drewN | apply below_drew1) | exact HB.out)⟩
       · rw [if_neg c9] at H
         exact absurd H (by simp)
   · rw [if_neg c6] at H
     exact absurd H (by simp)
 · replace c4 := Bool.eq_false_iff.mpr c4
   subst c4
   have H1 : (none) = some r := by rw [if_neg (show ¬ (false = true) by decide)] at H; exact H
   clear H
   have H := H1
   clear H1
   exact absurd H (by simp)

end Go.Proofs.Ytehojohacombkaa.G
