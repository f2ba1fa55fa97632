-- Laid by this session's own program gprint.py (wip/tools), out of the kit's print and of texts of this session. Lean checks it.
import Derived.Test.YtgbajaljfbgilaaGx0
import Derived.Test.YtgbajaljfbgilaaGEditPBetween
import Derived.Test.YtgbajaljfbgilaaGZ3
import Derived.Test.YtgbajaljfbgilaaGZ6
import Derived.Test.YtgbajaljfbgilaaGMinuetlaw8qlong
namespace Go.Proofs.Ytgbajaljfbgilaa.G
open Go.RowKit Go.Proofs.YtgbajaljfbgilaaW.PrintWords Go.Proofs.YtgbajaljfbgilaaW.PrintLast Go.Proofs.YtgbajaljfbgilaaW.PrintMore
attribute [local go_sem] max2_int min2_int max_two min_two max_three min_three max_four min_four   -- for this text's walks alone
set_option linter.unusedVariables false
set_option linter.unusedSimpArgs false

/-! ### minuetlaw8_awake: function 6 -/
def minuetlaw8_awake.f (k : Nat)  : Option (Bool) := (edit_Make.f k (⟨#[97, 98, 99, 100, 101, 102]⟩ : ByteArray) 2 3 (⟨#[120, 121]⟩ : ByteArray)).bind fun bt101 => ((edit_Between.f k (⟨#[97, 98, 99, 100, 101, 102]⟩ : ByteArray) (⟨#[97, 98, 120, 121, 102]⟩ : ByteArray)).bind fun bt105 => ((edit_Make.f k (⟨#[97, 98, 99]⟩ : ByteArray) 2 2 (⟨#[]⟩ : ByteArray)).bind fun bt109 => ((minuetlaw8_long.f k 300).bind fun t113 => ((edit_Make.f k (⟨#[97, 98, 99]⟩ : ByteArray) 0 0 t113).bind fun bt114 => ((some (([(⟨0, 2, (⟨#[]⟩ : ByteArray)⟩ : S36), (⟨1, 0, (⟨#[120, 121]⟩ : ByteArray)⟩ : S36), (⟨2, 3, (⟨#[]⟩ : ByteArray)⟩ : S36), (⟨0, 1, (⟨#[]⟩ : ByteArray)⟩ : S36)] : List (S36)) : List (S36))).bind fun y118 => ((minuetlaw0_SameComps.f k bt101.1 y118).bind fun t121 => (if t121 = true then ((minuetlaw0_Num.f bt101.2).bind fun t122 => (if t122 = 0 then ((minuetlaw0_SameComps.f k bt105.1 y118).bind fun t123 => (if t123 = true then ((minuetlaw0_Num.f bt105.2).bind fun t124 => (if t124 = 0 then ((minuetlaw0_Num.f bt109.2).bind fun t125 => (if t125 = 800 then ((minuetlaw0_Num.f bt114.2).bind fun t126 => (some (t126 == 801))) else (none))) else (none))) else (none))) else (none))) else (none))))))))
theorem minuetlaw8_awake.mono : ∀ k, LeO (minuetlaw8_awake.f k ) (minuetlaw8_awake.f (k + 1) ) := by
 intro  k
 unfold minuetlaw8_awake.f
 repeat' first
  | (with_reducible exact edit_Between.mono _ _ _)
  | (with_reducible exact edit_Make.mono _ _ _ _ _)
  | (with_reducible exact minuetlaw0_SameComps.mono _ _ _)
  | (with_reducible exact minuetlaw8_long.mono _ _)
  | (with_reducible exact LeO.refl _)
  | (with_reducible exact LeO.none _)
  | (with_reducible refine LeO.ite ?_ ?_)
  | (with_reducible refine LeO.bind ?_ (fun _ => ?_))
  | exact edit_Between.mono _ _ _
  | exact edit_Make.mono _ _ _ _ _
  | exact minuetlaw0_SameComps.mono _ _ _
  | exact minuetlaw8_long.mono _ _
  | exact LeO.none _
  | refine LeO.ite ?_ ?_
  | refine LeO.bind ?_ (fun _ => ?_)
set_option maxHeartbeats 8000000 in
set_option maxRecDepth 100000 in
theorem minuetlaw8_awake.calls (k : Nat)  (r : Bool) (w : World) (h : minuetlaw8_awake.f k  = some r) :
 Calls Try.prog 6 #[] w fun e w' => e = .returned (.bool r) ∧ Below w.heap.size w w' := by
 have hu36 := Try.underlying36
 have HB := Aside0.mk (Below.refl w.heap.size w)
 have H : ((edit_Make.f k (⟨#[97, 98, 99, 100, 101, 102]⟩ : ByteArray) 2 3 (⟨#[120, 121]⟩ : ByteArray)).bind fun bt101 => ((edit_Between.f k (⟨#[97, 98, 99, 100, 101, 102]⟩ : ByteArray) (⟨#[97, 98, 120, 121, 102]⟩ : ByteArray)).bind fun bt105 => ((edit_Make.f k (⟨#[97, 98, 99]⟩ : ByteArray) 2 2 (⟨#[]⟩ : ByteArray)).bind fun bt109 => ((minuetlaw8_long.f k 300).bind fun t113 => ((edit_Make.f k (⟨#[97, 98, 99]⟩ : ByteArray) 0 0 t113).bind fun bt114 => ((some (([(⟨0, 2, (⟨#[]⟩ : ByteArray)⟩ : S36), (⟨1, 0, (⟨#[120, 121]⟩ : ByteArray)⟩ : S36), (⟨2, 3, (⟨#[]⟩ : ByteArray)⟩ : S36), (⟨0, 1, (⟨#[]⟩ : ByteArray)⟩ : S36)] : List (S36)) : List (S36))).bind fun y118 => ((minuetlaw0_SameComps.f k bt101.1 y118).bind fun t121 => (if t121 = true then ((minuetlaw0_Num.f bt101.2).bind fun t122 => (if t122 = 0 then ((minuetlaw0_SameComps.f k bt105.1 y118).bind fun t123 => (if t123 = true then ((minuetlaw0_Num.f bt105.2).bind fun t124 => (if t124 = 0 then ((minuetlaw0_Num.f bt109.2).bind fun t125 => (if t125 = 800 then ((minuetlaw0_Num.f bt114.2).bind fun t126 => (some (t126 == 801))) else (none))) else (none))) else (none))) else (none))) else (none))))))))) = some r := h
 clear h
 replace H := Option.bind_eq_some_iff.mp H
 obtain ⟨⟨t101, t102⟩, A10, H⟩ := H
 replace H : ((edit_Between.f k (⟨#[97, 98, 99, 100, 101, 102]⟩ : ByteArray) (⟨#[97, 98, 120, 121, 102]⟩ : ByteArray)).bind fun bt105 => ((edit_Make.f k (⟨#[97, 98, 99]⟩ : ByteArray) 2 2 (⟨#[]⟩ : ByteArray)).bind fun bt109 => ((minuetlaw8_long.f k 300).bind fun t113 => ((edit_Make.f k (⟨#[97, 98, 99]⟩ : ByteArray) 0 0 t113).bind fun bt114 => ((some (([(⟨0, 2, (⟨#[]⟩ : ByteArray)⟩ : S36), (⟨1, 0, (⟨#[120, 121]⟩ : ByteArray)⟩ : S36), (⟨2, 3, (⟨#[]⟩ : ByteArray)⟩ : S36), (⟨0, 1, (⟨#[]⟩ : ByteArray)⟩ : S36)] : List (S36)) : List (S36))).bind fun y118 => ((minuetlaw0_SameComps.f k t101 y118).bind fun t121 => (if t121 = true then ((minuetlaw0_Num.f t102).bind fun t122 => (if t122 = 0 then ((minuetlaw0_SameComps.f k bt105.1 y118).bind fun t123 => (if t123 = true then ((minuetlaw0_Num.f bt105.2).bind fun t124 => (if t124 = 0 then ((minuetlaw0_Num.f bt109.2).bind fun t125 => (if t125 = 800 then ((minuetlaw0_Num.f bt114.2).bind fun t126 => (some (t126 == 801))) else (none))) else (none))) else (none))) else (none))) else (none)))))))) = some r := H
 have A1 := Aside0.mk A10
 clear A10
 replace H := Option.bind_eq_some_iff.mp H
 obtain ⟨⟨t105, t106⟩, A20, H⟩ := H
 replace H : ((edit_Make.f k (⟨#[97, 98, 99]⟩ : ByteArray) 2 2 (⟨#[]⟩ : ByteArray)).bind fun bt109 => ((minuetlaw8_long.f k 300).bind fun t113 => ((edit_Make.f k (⟨#[97, 98, 99]⟩ : ByteArray) 0 0 t113).bind fun bt114 => ((some (([(⟨0, 2, (⟨#[]⟩ : ByteArray)⟩ : S36), (⟨1, 0, (⟨#[120, 121]⟩ : ByteArray)⟩ : S36), (⟨2, 3, (⟨#[]⟩ : ByteArray)⟩ : S36), (⟨0, 1, (⟨#[]⟩ : ByteArray)⟩ : S36)] : List (S36)) : List (S36))).bind fun y118 => ((minuetlaw0_SameComps.f k t101 y118).bind fun t121 => (if t121 = true then ((minuetlaw0_Num.f t102).bind fun t122 => (if t122 = 0 then ((minuetlaw0_SameComps.f k t105 y118).bind fun t123 => (if t123 = true then ((minuetlaw0_Num.f t106).bind fun t124 => (if t124 = 0 then ((minuetlaw0_Num.f bt109.2).bind fun t125 => (if t125 = 800 then ((minuetlaw0_Num.f bt114.2).bind fun t126 => (some (t126 == 801))) else (none))) else (none))) else (none))) else (none))) else (none))))))) = some r := H
 have A2 := Aside0.mk A20
 clear A20
 replace H := Option.bind_eq_some_iff.mp H
 obtain ⟨⟨t109, t110⟩, A30, H⟩ := H
 replace H : ((minuetlaw8_long.f k 300).bind fun t113 => ((edit_Make.f k (⟨#[97, 98, 99]⟩ : ByteArray) 0 0 t113).bind fun bt114 => ((some (([(⟨0, 2, (⟨#[]⟩ : ByteArray)⟩ : S36), (⟨1, 0, (⟨#[120, 121]⟩ : ByteArray)⟩ : S36), (⟨2, 3, (⟨#[]⟩ : ByteArray)⟩ : S36), (⟨0, 1, (⟨#[]⟩ : ByteArray)⟩ : S36)] : List (S36)) : List (S36))).bind fun y118 => ((minuetlaw0_SameComps.f k t101 y118).bind fun t121 => (if t121 = true then ((minuetlaw0_Num.f t102).bind fun t122 => (if t122 = 0 then ((minuetlaw0_SameComps.f k t105 y118).bind fun t123 => (if t123 = true then ((minuetlaw0_Num.f t106).bind fun t124 => (if t124 = 0 then ((minuetlaw0_Num.f t110).bind fun t125 => (if t125 = 800 then ((minuetlaw0_Num.f bt114.2).bind fun t126 => (some (t126 == 801))) else (none))) else (none))) else (none))) else (none))) else (none)))))) = some r := H
 have A3 := Aside0.mk A30
 clear A30
 replace H := Option.bind_eq_some_iff.mp H
 obtain ⟨t113, A40, H⟩ := H
 replace H : ((edit_Make.f k (⟨#[97, 98, 99]⟩ : ByteArray) 0 0 t113).bind fun bt114 => ((some (([(⟨0, 2, (⟨#[]⟩ : ByteArray)⟩ : S36), (⟨1, 0, (⟨#[120, 121]⟩ : ByteArray)⟩ : S36), (⟨2, 3, (⟨#[]⟩ : ByteArray)⟩ : S36), (⟨0, 1, (⟨#[]⟩ : ByteArray)⟩ : S36)] : List (S36)) : List (S36))).bind fun y118 => ((minuetlaw0_SameComps.f k t101 y118).bind fun t121 => (if t121 = true then ((minuetlaw0_Num.f t102).bind fun t122 => (if t122 = 0 then ((minuetlaw0_SameComps.f k t105 y118).bind fun t123 => (if t123 = true then ((minuetlaw0_Num.f t106).bind fun t124 => (if t124 = 0 then ((minuetlaw0_Num.f t110).bind fun t125 => (if t125 = 800 then ((minuetlaw0_Num.f bt114.2).bind fun t126 => (some (t126 == 801))) else (none))) else (none))) else (none))) else (none))) else (none))))) = some r := H
 have A4 := Aside0.mk A40
 clear A40
 replace H := Option.bind_eq_some_iff.mp H
 obtain ⟨⟨t114, t115⟩, A50, H⟩ := H
 replace H : ((some (([(⟨0, 2, (⟨#[]⟩ : ByteArray)⟩ : S36), (⟨1, 0, (⟨#[120, 121]⟩ : ByteArray)⟩ : S36), (⟨2, 3, (⟨#[]⟩ : ByteArray)⟩ : S36), (⟨0, 1, (⟨#[]⟩ : ByteArray)⟩ : S36)] : List (S36)) : List (S36))).bind fun y118 => ((minuetlaw0_SameComps.f k t101 y118).bind fun t121 => (if t121 = true then ((minuetlaw0_Num.f t102).bind fun t122 => (if t122 = 0 then ((minuetlaw0_SameComps.f k t105 y118).bind fun t123 => (if t123 = true then ((minuetlaw0_Num.f t106).bind fun t124 => (if t124 = 0 then ((minuetlaw0_Num.f t110).bind fun t125 => (if t125 = 800 then ((minuetlaw0_Num.f t115).bind fun t126 => (some (t126 == 801))) else (none))) else (none))) else (none))) else (none))) else (none)))) = some r := H
 have A5 := Aside0.mk A50
 clear A50
 obtain ⟨y118, hy118⟩ : ∃ y_ : List (S36), y_ = (([(⟨0, 2, (⟨#[]⟩ : ByteArray)⟩ : S36), (⟨1, 0, (⟨#[120, 121]⟩ : ByteArray)⟩ : S36), (⟨2, 3, (⟨#[]⟩ : ByteArray)⟩ : S36), (⟨0, 1, (⟨#[]⟩ : ByteArray)⟩ : S36)] : List (S36))) := ⟨_, rfl⟩
 replace H : ((minuetlaw0_SameComps.f k t101 y118).bind fun t121 => (if t121 = true then ((minuetlaw0_Num.f t102).bind fun t122 => (if t122 = 0 then ((minuetlaw0_SameComps.f k t105 y118).bind fun t123 => (if t123 = true then ((minuetlaw0_Num.f t106).bind fun t124 => (if t124 = 0 then ((minuetlaw0_Num.f t110).bind fun t125 => (if t125 = 800 then ((minuetlaw0_Num.f t115).bind fun t126 => (some (t126 == 801))) else (none))) else (none))) else (none))) else (none))) else (none))) = some r := by first | (rw [hy118]; with_reducible exact H) | (have H2_ := (Option.bind_some _ _).symm.trans H; rw [hy118]; with_reducible exact H2_) | (have H2_ := (Option.bind_some _ _).symm.trans H; with_reducible exact H2_) | with_reducible exact H | (rw [hy118]; exact H) | exact H
 have Ny118 := Aside0.mk hy118
 clear hy118
 replace H := Option.bind_eq_some_iff.mp H
 obtain ⟨t121, A60, H⟩ := H
 replace H : (if t121 = true then ((minuetlaw0_Num.f t102).bind fun t122 => (if t122 = 0 then ((minuetlaw0_SameComps.f k t105 y118).bind fun t123 => (if t123 = true then ((minuetlaw0_Num.f t106).bind fun t124 => (if t124 = 0 then ((minuetlaw0_Num.f t110).bind fun t125 => (if t125 = 800 then ((minuetlaw0_Num.f t115).bind fun t126 => (some (t126 == 801))) else (none))) else (none))) else (none))) else (none))) else (none)) = some r := H
 have A6 := Aside0.mk A60
 clear A60
 by_cases c7 : t121 = true
 · subst c7
   have H1 : ((minuetlaw0_Num.f t102).bind fun t122 => (if t122 = 0 then ((minuetlaw0_SameComps.f k t105 y118).bind fun t123 => (if t123 = true then ((minuetlaw0_Num.f t106).bind fun t124 => (if t124 = 0 then ((minuetlaw0_Num.f t110).bind fun t125 => (if t125 = 800 then ((minuetlaw0_Num.f t115).bind fun t126 => (some (t126 == 801))) else (none))) else (none))) else (none))) else (none))) = some r := by rw [if_pos rfl] at H; exact H
   clear H
   have H := H1
   clear H1
   replace H := Option.bind_eq_some_iff.mp H
   obtain ⟨t122, A80, H⟩ := H
   replace H : (if t122 = 0 then ((minuetlaw0_SameComps.f k t105 y118).bind fun t123 => (if t123 = true then ((minuetlaw0_Num.f t106).bind fun t124 => (if t124 = 0 then ((minuetlaw0_Num.f t110).bind fun t125 => (if t125 = 800 then ((minuetlaw0_Num.f t115).bind fun t126 => (some (t126 == 801))) else (none))) else (none))) else (none))) else (none)) = some r := H
   have A8 := Aside0.mk A80
   clear A80
   by_cases c9 : t122 = 0
   · rw [if_pos c9] at H
     have c9b0 : (t122 == 0) = true := beq_iff_eq.mpr c9
     have c9b1 : (t122 != 0) = false := bne_eq_false_iff_eq.mpr c9
     clear c9
     replace H := Option.bind_eq_some_iff.mp H
     obtain ⟨t123, A100, H⟩ := H
     replace H : (if t123 = true then ((minuetlaw0_Num.f t106).bind fun t124 => (if t124 = 0 then ((minuetlaw0_Num.f t110).bind fun t125 => (if t125 = 800 then ((minuetlaw0_Num.f t115).bind fun t126 => (some (t126 == 801))) else (none))) else (none))) else (none)) = some r := H
     have A10 := Aside0.mk A100
     clear A100
     by_cases c11 : t123 = true
     · subst c11
       have H1 : ((minuetlaw0_Num.f t106).bind fun t124 => (if t124 = 0 then ((minuetlaw0_Num.f t110).bind fun t125 => (if t125 = 800 then ((minuetlaw0_Num.f t115).bind fun t126 => (some (t126 == 801))) else (none))) else (none))) = some r := by rw [if_pos rfl] at H; exact H
       clear H
       have H := H1
       clear H1
       replace H := Option.bind_eq_some_iff.mp H
       obtain ⟨t124, A120, H⟩ := H
       replace H : (if t124 = 0 then ((minuetlaw0_Num.f t110).bind fun t125 => (if t125 = 800 then ((minuetlaw0_Num.f t115).bind fun t126 => (some (t126 == 801))) else (none))) else (none)) = some r := H
       have A12 := Aside0.mk A120
       clear A120
       by_cases c13 : t124 = 0
       · rw [if_pos c13] at H
         have c13b0 : (t124 == 0) = true := beq_iff_eq.mpr c13
         have c13b1 : (t124 != 0) = false := bne_eq_false_iff_eq.mpr c13
         clear c13
         replace H := Option.bind_eq_some_iff.mp H
         obtain ⟨t125, A140, H⟩ := H
         replace H : (if t125 = 800 then ((minuetlaw0_Num.f t115).bind fun t126 => (some (t126 == 801))) else (none)) = some r := H
         have A14 := Aside0.mk A140
         clear A140
         by_cases c15 : t125 = 800
         · rw [if_pos c15] at H
           have c15b0 : (t125 == 800) = true := beq_iff_eq.mpr c15
           have c15b1 : (t125 != 800) = false := bne_eq_false_iff_eq.mpr c15
           clear c15
           replace H := Option.bind_eq_some_iff.mp H
           obtain ⟨t126, A160, H⟩ := H
           replace H : (some (t126 == 801)) = some r := H
           have A16 := Aside0.mk A160
           clear A160
           obtain rfl := Option.some.inj H
           go_enter Try.func6, Try.ntmps6
           go_wp2_with (first | ((with_reducible refine gate_callee (f := 15) rfl ?_); refine goesL_ (some 11) rfl rfl Try.func15 (by kernel_rfl) rfl #[.string (⟨#[97, 98, 99, 100, 101, 102]⟩ : ByteArray), .int .i64 2, .int .i64 3, .string (⟨#[120, 121]⟩ : ByteArray)] rfl (by (try simp only [List.map_toArray, List.map_cons, List.map_nil]); first | done | rfl | (simp only [List.length_drop, List.length_take]; rfl)) ?_; (with_reducible refine (edit_Make.calls k (⟨#[97, 98, 99, 100, 101, 102]⟩ : ByteArray) 2 3 (⟨#[120, 121]⟩ : ByteArray) t101 t102 _ A1.out).mono ?_); rintro e w17 ⟨v103, rfl, ho0, hb⟩; refine ⟨_, rfl, ?_⟩; have n0_ := Aside0.mk (Kd.R_lower ho0 (below_size (by repeat (first | (with_reducible first | exact HB.out | apply below_alloc | apply pw_below_drewN | apply below_drew1) | exact HB.out)))); have n1_ := Aside0.mk (below_step (by repeat (first | (with_reducible first | exact HB.out | apply below_alloc | apply pw_below_drewN | apply below_drew1) | exact HB.out)) hb); clear HB; have HO104 := n0_; have HB := n1_; clear n0_ n1_; (try clear hb); (try clear hb2); (try clear hk); (try clear hi); (try clear ho0)) | ((with_reducible refine gate_callee (f := 7) rfl ?_); refine goesL_ (some 15) rfl rfl Try.func7 (by kernel_rfl) rfl #[.string (⟨#[97, 98, 99, 100, 101, 102]⟩ : ByteArray), .string (⟨#[97, 98, 120, 121, 102]⟩ : ByteArray)] rfl (by (try simp only [List.map_toArray, List.map_cons, List.map_nil]); first | done | rfl | (simp only [List.length_drop, List.length_take]; rfl)) ?_; (with_reducible refine (edit_Between.calls k (⟨#[97, 98, 99, 100, 101, 102]⟩ : ByteArray) (⟨#[97, 98, 120, 121, 102]⟩ : ByteArray) t105 t106 _ A2.out).mono ?_); rintro e w18 ⟨v107, rfl, ho0, hb⟩; refine ⟨_, rfl, ?_⟩; have n0_ := Aside0.mk (Kd.R_elder' (by (with_reducible repeat (first | apply Kd.R_alloc | apply Kd.R_drewN | apply Kd.R_drew)); exact HO104.out) (Kd.R_base ho0) hb); have n1_ := Aside0.mk (Kd.R_lower (Kd.R_new' ho0 (Kd.R_lt (by (with_reducible repeat (first | apply Kd.R_alloc | apply Kd.R_drewN | apply Kd.R_drew)); exact HO104.out))) (below_size (by repeat (first | (with_reducible first | exact HB.out | apply below_alloc | apply pw_below_drewN | apply below_drew1) | exact HB.out)))); have n2_ := Aside0.mk (below_step (by repeat (first | (with_reducible first | exact HB.out | apply below_alloc | apply pw_below_drewN | apply below_drew1) | exact HB.out)) hb); clear HO104; clear HB; have HO104 := n0_; have HO108 := n1_; have HB := n2_; clear n0_ n1_ n2_; (try clear hb); (try clear hb2); (try clear hk); (try clear hi); (try clear ho0)) | ((with_reducible refine gate_callee (f := 15) rfl ?_); refine goesL_ (some 19) rfl rfl Try.func15 (by kernel_rfl) rfl #[.string (⟨#[97, 98, 99]⟩ : ByteArray), .int .i64 2, .int .i64 2, .string (⟨#[]⟩ : ByteArray)] rfl (by (try simp only [List.map_toArray, List.map_cons, List.map_nil]); first | done | rfl | (simp only [List.length_drop, List.length_take]; rfl)) ?_; (with_reducible refine (edit_Make.calls k (⟨#[97, 98, 99]⟩ : ByteArray) 2 2 (⟨#[]⟩ : ByteArray) t109 t110 _ A3.out).mono ?_); rintro e w19 ⟨v111, rfl, ho0, hb⟩; refine ⟨_, rfl, ?_⟩; have n0_ := Aside0.mk (Kd.R_elder' (by (with_reducible repeat (first | apply Kd.R_alloc | apply Kd.R_drewN | apply Kd.R_drew)); exact HO104.out) (Kd.R_base ho0) hb); have n1_ := Aside0.mk (Kd.R_elder' (by (with_reducible repeat (first | apply Kd.R_alloc | apply Kd.R_drewN | apply Kd.R_drew)); exact HO108.out) (Kd.R_base ho0) hb); have n2_ := Aside0.mk (Kd.R_lower (Kd.R_new' (Kd.R_new' ho0 (Kd.R_lt (by (with_reducible repeat (first | apply Kd.R_alloc | apply Kd.R_drewN | apply Kd.R_drew)); exact HO104.out))) (Kd.R_lt (by (with_reducible repeat (first | apply Kd.R_alloc | apply Kd.R_drewN | apply Kd.R_drew)); exact HO108.out))) (below_size (by repeat (first | (with_reducible first | exact HB.out | apply below_alloc | apply pw_below_drewN | apply below_drew1) | exact HB.out)))); have n3_ := Aside0.mk (below_step (by repeat (first | (with_reducible first | exact HB.out | apply below_alloc | apply pw_below_drewN | apply below_drew1) | exact HB.out)) hb); clear HO104; clear HO108; clear HB; have HO104 := n0_; have HO108 := n1_; have HO112 := n2_; have HB := n3_; clear n0_ n1_ n2_ n3_; (try clear hb); (try clear hb2); (try clear hk); (try clear hi); (try clear ho0)) | ((with_reducible refine gate_callee (f := 17) rfl ?_); refine goesL_ (some 23) rfl rfl Try.func17 (by kernel_rfl) rfl #[.int .i64 300] rfl (by (try simp only [List.map_toArray, List.map_cons, List.map_nil]); first | done | rfl | (simp only [List.length_drop, List.length_take]; rfl)) ?_; (with_reducible refine (minuetlaw8_long.calls k 300 t113 _ A4.out).mono ?_); rintro e w20 ⟨rfl, hb⟩; refine ⟨_, rfl, ?_⟩; have n0_ := Aside0.mk (Kd.R_below (by (with_reducible repeat (first | apply Kd.R_alloc | apply Kd.R_drewN | apply Kd.R_drew)); exact HO104.out) hb); have n1_ := Aside0.mk (Kd.R_below (by (with_reducible repeat (first | apply Kd.R_alloc | apply Kd.R_drewN | apply Kd.R_drew)); exact HO108.out) hb); have n2_ := Aside0.mk (Kd.R_below (by (with_reducible repeat (first | apply Kd.R_alloc | apply Kd.R_drewN | apply Kd.R_drew)); exact HO112.out) hb); have n3_ := Aside0.mk (below_step (by repeat (first | (with_reducible first | exact HB.out | apply below_alloc | apply pw_below_drewN | apply below_drew1) | exact HB.out)) hb); clear HO104; clear HO108; clear HO112; clear HB; have HO104 := n0_; have HO108 := n1_; have HO112 := n2_; have HB := n3_; clear n0_ n1_ n2_ n3_; (try clear hb); (try clear hb2); (try clear hk); (try clear hi)) | ((with_reducible refine gate_callee (f := 15) rfl ?_); refine goesL_ (some 24) rfl rfl Try.func15 (by kernel_rfl) rfl #[.string (⟨#[97, 98, 99]⟩ : ByteArray), .int .i64 0, .int .i64 0, .string t113] rfl (by (try simp only [List.map_toArray, List.map_cons, List.map_nil]); first | done | rfl | (simp only [List.length_drop, List.length_take]; rfl)) ?_; (with_reducible refine (edit_Make.calls k (⟨#[97, 98, 99]⟩ : ByteArray) 0 0 t113 t114 t115 _ A5.out).mono ?_); rintro e w21 ⟨v116, rfl, ho0, hb⟩; refine ⟨_, rfl, ?_⟩; have n0_ := Aside0.mk (Kd.R_elder' (by (with_reducible repeat (first | apply Kd.R_alloc | apply Kd.R_drewN | apply Kd.R_drew)); exact HO104.out) (Kd.R_base ho0) hb); have n1_ := Aside0.mk (Kd.R_elder' (by (with_reducible repeat (first | apply Kd.R_alloc | apply Kd.R_drewN | apply Kd.R_drew)); exact HO108.out) (Kd.R_base ho0) hb); have n2_ := Aside0.mk (Kd.R_elder' (by (with_reducible repeat (first | apply Kd.R_alloc | apply Kd.R_drewN | apply Kd.R_drew)); exact HO112.out) (Kd.R_base ho0) hb); have n3_ := Aside0.mk (Kd.R_lower (Kd.R_new' (Kd.R_new' (Kd.R_new' ho0 (Kd.R_lt (by (with_reducible repeat (first | apply Kd.R_alloc | apply Kd.R_drewN | apply Kd.R_drew)); exact HO104.out))) (Kd.R_lt (by (with_reducible repeat (first | apply Kd.R_alloc | apply Kd.R_drewN | apply Kd.R_drew)); exact HO108.out))) (Kd.R_lt (by (with_reducible repeat (first | apply Kd.R_alloc | apply Kd.R_drewN | apply Kd.R_drew)); exact HO112.out))) (below_size (by repeat (first | (with_reducible first | exact HB.out | apply below_alloc | apply pw_below_drewN | apply below_drew1) | exact HB.out)))); have n4_ := Aside0.mk (below_step (by repeat (first | (with_reducible first | exact HB.out | apply below_alloc | apply pw_below_drewN | apply below_drew1) | exact HB.out)) hb); clear HO104; clear HO108; clear HO112; clear HB; have HO104 := n0_; have HO108 := n1_; have HO112 := n2_; have HO117 := n3_; have HB := n4_; clear n0_ n1_ n2_ n3_ n4_; (try clear hb); (try clear hb2); (try clear hk); (try clear hi); (try clear ho0)) | ((with_reducible refine gate_dst (N := 31) rfl ?_); refine Kd.R_lit k36 _ 36 ?hg (N := 31) ?hd (xs := ([(⟨0, 2, (⟨#[]⟩ : ByteArray)⟩ : S36), (⟨1, 0, (⟨#[120, 121]⟩ : ByteArray)⟩ : S36), (⟨2, 3, (⟨#[]⟩ : ByteArray)⟩ : S36), (⟨0, 1, (⟨#[]⟩ : ByteArray)⟩ : S36)] : List (S36))) (inner := [.int .i64 0, .int .i64 2, .string (⟨#[]⟩ : ByteArray), .int .i64 1, .int .i64 0, .string (⟨#[120, 121]⟩ : ByteArray), .int .i64 2, .int .i64 3, .string (⟨#[]⟩ : ByteArray), .int .i64 0, .int .i64 1, .string (⟨#[]⟩ : ByteArray)]) (ok := fun _ => True) (okp := fun _ => True) ?hr ?hp (fun _ hk => hk) trivial (Below.refl _ _) (Nat.le_refl _) (by simp) ?_; (case hd => rfl); (case hg => rfl); (case hr => first | (go_simp; done) | (go_simp; rfl)); (case hp => exact (Reps.c3 (show Kd.M k36 _ _ _ (⟨0, 2, (⟨#[]⟩ : ByteArray)⟩ : S36) [.int .i64 0, .int .i64 2, .string (⟨#[]⟩ : ByteArray)] from (k36_mkM _ _ _ (⟨0, 2, (⟨#[]⟩ : ByteArray)⟩ : S36) )) (Reps.c3 (show Kd.M k36 _ _ _ (⟨1, 0, (⟨#[120, 121]⟩ : ByteArray)⟩ : S36) [.int .i64 1, .int .i64 0, .string (⟨#[120, 121]⟩ : ByteArray)] from (k36_mkM _ _ _ (⟨1, 0, (⟨#[120, 121]⟩ : ByteArray)⟩ : S36) )) (Reps.c3 (show Kd.M k36 _ _ _ (⟨2, 3, (⟨#[]⟩ : ByteArray)⟩ : S36) [.int .i64 2, .int .i64 3, .string (⟨#[]⟩ : ByteArray)] from (k36_mkM _ _ _ (⟨2, 3, (⟨#[]⟩ : ByteArray)⟩ : S36) )) (Reps.c3 (show Kd.M k36 _ _ _ (⟨0, 1, (⟨#[]⟩ : ByteArray)⟩ : S36) [.int .i64 0, .int .i64 1, .string (⟨#[]⟩ : ByteArray)] from (k36_mkM _ _ _ (⟨0, 1, (⟨#[]⟩ : ByteArray)⟩ : S36) )) (Reps.none _ _)))))); intro v119 w22 ho23 hb hg_ hnew_; clear hg_ hnew_; (first | rw [← Ny118.out] at ho23 | (simp only [Int.reduceToNat] at ho23; rw [← Ny118.out] at ho23)); have n0_ := Aside0.mk (Kd.R_elder' (by (with_reducible repeat (first | apply Kd.R_alloc | apply Kd.R_drewN | apply Kd.R_drew)); exact HO104.out) (Kd.R_base ho23) hb); have n1_ := Aside0.mk (Kd.R_elder' (by (with_reducible repeat (first | apply Kd.R_alloc | apply Kd.R_drewN | apply Kd.R_drew)); exact HO108.out) (Kd.R_base ho23) hb); have n2_ := Aside0.mk (Kd.R_elder' (by (with_reducible repeat (first | apply Kd.R_alloc | apply Kd.R_drewN | apply Kd.R_drew)); exact HO112.out) (Kd.R_base ho23) hb); have n3_ := Aside0.mk (Kd.R_elder' (by (with_reducible repeat (first | apply Kd.R_alloc | apply Kd.R_drewN | apply Kd.R_drew)); exact HO117.out) (Kd.R_base ho23) hb); have n4_ := Aside0.mk (Kd.R_lower (Kd.R_new' (Kd.R_new' (Kd.R_new' (Kd.R_new' ho23 (Kd.R_lt (by (with_reducible repeat (first | apply Kd.R_alloc | apply Kd.R_drewN | apply Kd.R_drew)); exact HO104.out))) (Kd.R_lt (by (with_reducible repeat (first | apply Kd.R_alloc | apply Kd.R_drewN | apply Kd.R_drew)); exact HO108.out))) (Kd.R_lt (by (with_reducible repeat (first | apply Kd.R_alloc | apply Kd.R_drewN | apply Kd.R_drew)); exact HO112.out))) (Kd.R_lt (by (with_reducible repeat (first | apply Kd.R_alloc | apply Kd.R_drewN | apply Kd.R_drew)); exact HO117.out))) (below_size (by repeat (first | (with_reducible first | exact HB.out | apply below_alloc | apply pw_below_drewN | apply below_drew1) | exact HB.out)))); have n5_ := Aside0.mk (below_step (by repeat (first | (with_reducible first | exact HB.out | apply below_alloc | apply pw_below_drewN | apply below_drew1) | exact HB.out)) hb); clear HO104; clear HO108; clear HO112; clear HO117; clear HB; have HO104 := n0_; have HO108 := n1_; have HO112 := n2_; have HO117 := n3_; have HO120 := n4_; have HB := n5_; clear n0_ n1_ n2_ n3_ n4_ n5_; clear hb ho23; obtain ⟨Ao24, co24, eo24⟩ := Kd.R_slice HO104.out; subst eo24; obtain ⟨Ao25, co25, eo25⟩ := Kd.R_slice HO120.out; subst eo25) | ((with_reducible refine gate_callee (f := 13) rfl ?_); refine goesL_ (some 34) rfl rfl Try.func13 (by kernel_rfl) rfl #[.slice Ao24 t101.length co24, .slice Ao25 y118.length co25] rfl (by (try simp only [List.map_toArray, List.map_cons, List.map_nil]); first | done | rfl | (simp only [List.length_drop, List.length_take]; rfl)) ?_; (with_reducible refine (minuetlaw0_SameComps.calls k _ _ t101 _ _ y118 true _ ?side1 ?side2 ?side3 ?side4 A6.out).mono ?_); (case side1 => repeat (first | exact (Kd.R_reads' HO104.out).2.2 | (with_reducible refine Kd.C_alloc ?_ _) | (with_reducible refine Kd.C_drewN ?_ _) | (with_reducible refine Kd.C_drew ?_))); (case side2 => exact (Kd.R_reads' HO104.out).2.1); (case side3 => repeat (first | exact (Kd.R_reads' HO120.out).2.2 | (with_reducible refine Kd.C_alloc ?_ _) | (with_reducible refine Kd.C_drewN ?_ _) | (with_reducible refine Kd.C_drew ?_))); (case side4 => exact (Kd.R_reads' HO120.out).2.1); rintro e w' ⟨rfl, ⟨nd, rfl⟩⟩; refine ⟨_, rfl, ?_⟩) | (go_at_call 8; (with_reducible refine (minuetlaw0_Num.calls t102 t122 _ A8.out).mono ?_); rintro e w' ⟨rfl, ⟨nd, rfl⟩⟩; obtain ⟨Ao26, co26, eo26⟩ := Kd.R_slice HO108.out; subst eo26) | (go_at_call 13; (with_reducible refine (minuetlaw0_SameComps.calls k _ _ t105 _ _ y118 true _ ?side1 ?side2 ?side3 ?side4 A10.out).mono ?_); (case side1 => repeat (first | exact (Kd.R_reads' HO108.out).2.2 | (with_reducible refine Kd.C_alloc ?_ _) | (with_reducible refine Kd.C_drewN ?_ _) | (with_reducible refine Kd.C_drew ?_))); (case side2 => exact (Kd.R_reads' HO108.out).2.1); (case side3 => repeat (first | exact (Kd.R_reads' HO120.out).2.2 | (with_reducible refine Kd.C_alloc ?_ _) | (with_reducible refine Kd.C_drewN ?_ _) | (with_reducible refine Kd.C_drew ?_))); (case side4 => exact (Kd.R_reads' HO120.out).2.1); rintro e w' ⟨rfl, ⟨nd, rfl⟩⟩) | (go_at_call 8; (with_reducible refine (minuetlaw0_Num.calls t106 t124 _ A12.out).mono ?_); rintro e w' ⟨rfl, ⟨nd, rfl⟩⟩) | (go_at_call 8; (with_reducible refine (minuetlaw0_Num.calls t110 t125 _ A14.out).mono ?_); rintro e w' ⟨rfl, ⟨nd, rfl⟩⟩) | (go_at_call 8; (with_reducible refine (minuetlaw0_Num.calls t115 t126 _ A16.out).mono ?_); rintro e w' ⟨rfl, ⟨nd, rfl⟩⟩))
           go_ret
           exact ⟨by first | rfl | (simp [errW_none, errW_some] <;> rfl) | (simp [*, errW_none, errW_some] <;> rfl), by repeat (first | (with_reducible first | exact HB.out | apply below_alloc | apply pw_below_drewN | apply below_drew1) | exact HB.out)⟩
         · rw [if_neg c15] at H
           exact absurd H (by simp)
       · rw [if_neg c13] at H
         exact absurd H (by simp)
     · replace c11 := Bool.eq_false_iff.mpr c11
       subst c11
       have H1 : (none) = some r := by rw [if_neg (show ¬ (false = true) by decide)] at H; exact H
       clear H
       have H := H1
       clear H1
       exact absurd H (by simp)
   · rw [if_neg c9] at H
     exact absurd H (by simp)
 · replace c7 := Bool.eq_false_iff.mpr c7
   subst c7
   have H1 : (none) = some r := by rw [if_neg (show ¬ (false = true) by decide)] at H; exact H
   clear H
   have H := H1
   clear H1
   exact absurd H (by simp)

end Go.Proofs.Ytgbajaljfbgilaa.G
