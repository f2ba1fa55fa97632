-- Laid by this session's own program gprint.py (wip/tools), out of the kit's print and of texts of this session. Lean checks it.
import Derived.Test.YtbkkcoppncgegaaGx0
import Derived.Test.YtbkkcoppncgegaaGMinuetlaw0PNum
import Derived.Test.YtbkkcoppncgegaaGCompPMay
import Derived.Test.YtbkkcoppncgegaaGCompPLengths
import Derived.Test.YtbkkcoppncgegaaGMinuetlaw2qawake
namespace Go.Proofs.Ytbkkcoppncgegaa.G
open Go.RowKit Go.Proofs.YtbkkcoppncgegaaW.PrintWords Go.Proofs.YtbkkcoppncgegaaW.PrintLast Go.Proofs.YtbkkcoppncgegaaW.PrintMore
attribute [local go_sem] max2_int min2_int max_two min_two max_three min_three max_four min_four   -- for this text's walks alone
set_option linter.unusedVariables false
set_option linter.unusedSimpArgs false

/-! ### minuetlaw2_CompSizes: function 13 -/
def minuetlaw2_CompSizes.f (k : Nat) (l0 : List (S40)) (a1 : Int) : Option (Bool) := (minuetlaw2_awake.f k).bind fun t101 => (if t101 = true then ((comp_Lengths.f k l0).bind fun bt102 => ((minuetlaw0_Num.f bt102.2.2).bind fun t105 => (if t105 = 0 then (if (IntKind.u64.wrap (wrap64 ((l0.length : Int) + 1))) = 0 then (none) else (if 0 ≤ (wrap64 (Int.tmod (IntKind.u64.wrap (a1)) (IntKind.u64.wrap (wrap64 ((l0.length : Int) + 1))))) then (if (wrap64 (Int.tmod (IntKind.u64.wrap (a1)) (IntKind.u64.wrap (wrap64 ((l0.length : Int) + 1))))) ≤ (l0.length : Int) then ((comp_Lengths.f k (l0.take ((wrap64 (Int.tmod (IntKind.u64.wrap (a1)) (IntKind.u64.wrap (wrap64 ((l0.length : Int) + 1))))) : Int).toNat)).bind fun bt111 => ((comp_Lengths.f k (l0.drop ((wrap64 (Int.tmod (IntKind.u64.wrap (a1)) (IntKind.u64.wrap (wrap64 ((l0.length : Int) + 1))))) : Int).toNat)).bind fun bt118 => ((minuetlaw0_Num.f bt111.2.2).bind fun t121 => (if t121 = 0 then ((minuetlaw0_Num.f bt118.2.2).bind fun t122 => (if t122 = 0 then (if bt102.1 = (wrap64 (bt111.1 + bt118.1)) then (some (bt102.2.1 == (wrap64 (bt111.2.1 + bt118.2.1)))) else (none)) else (none))) else (none))))) else (none)) else (none))) else (if bt102.1 = 0 then (if bt102.2.1 = 0 then ((comp_May.f k l0).bind fun t106 => (some (!t106))) else (none)) else (none))))) else (none))
theorem minuetlaw2_CompSizes.mono : ∀ a0 a1 k, LeO (minuetlaw2_CompSizes.f k a0 a1) (minuetlaw2_CompSizes.f (k + 1) a0 a1) := by
 intro a0 a1 k
 unfold minuetlaw2_CompSizes.f
 repeat' first
  | (with_reducible exact comp_Lengths.mono _ _)
  | (with_reducible exact comp_May.mono _ _)
  | (with_reducible exact minuetlaw2_awake.mono _)
  | (with_reducible exact LeO.refl _)
  | (with_reducible exact LeO.none _)
  | (with_reducible refine LeO.ite ?_ ?_)
  | (with_reducible refine LeO.bind ?_ (fun _ => ?_))
  | exact comp_Lengths.mono _ _
  | exact comp_May.mono _ _
  | exact minuetlaw2_awake.mono _
  | exact LeO.none _
  | refine LeO.ite ?_ ?_
  | refine LeO.bind ?_ (fun _ => ?_)
set_option maxHeartbeats 8000000 in
set_option maxRecDepth 100000 in
theorem minuetlaw2_CompSizes.calls (k : Nat) (A0 : Option Addr) (c0 : Nat) (l0 : List (S40)) (a1 : Int) (r : Bool) (w : World) (hr0 : Kd.C k40 w A0 l0.length l0) (hc0 : l0.length ≤ c0) (h : minuetlaw2_CompSizes.f k l0 a1 = some r) :
 Calls Try.prog 13 #[.slice A0 l0.length c0, .int .i64 a1] w fun e w' => e = .returned (.bool r) ∧ Below w.heap.size w w' := by
 have HR0 := Aside0.mk hr0
 have HC0 := Aside0.mk hc0
 clear hr0 hc0
 have HB := Aside0.mk (Below.refl w.heap.size w)
 have H : ((minuetlaw2_awake.f k).bind fun t101 => (if t101 = true then ((comp_Lengths.f k l0).bind fun bt102 => ((minuetlaw0_Num.f bt102.2.2).bind fun t105 => (if t105 = 0 then (if (IntKind.u64.wrap (wrap64 ((l0.length : Int) + 1))) = 0 then (none) else (if 0 ≤ (wrap64 (Int.tmod (IntKind.u64.wrap (a1)) (IntKind.u64.wrap (wrap64 ((l0.length : Int) + 1))))) then (if (wrap64 (Int.tmod (IntKind.u64.wrap (a1)) (IntKind.u64.wrap (wrap64 ((l0.length : Int) + 1))))) ≤ (l0.length : Int) then ((comp_Lengths.f k (l0.take ((wrap64 (Int.tmod (IntKind.u64.wrap (a1)) (IntKind.u64.wrap (wrap64 ((l0.length : Int) + 1))))) : Int).toNat)).bind fun bt111 => ((comp_Lengths.f k (l0.drop ((wrap64 (Int.tmod (IntKind.u64.wrap (a1)) (IntKind.u64.wrap (wrap64 ((l0.length : Int) + 1))))) : Int).toNat)).bind fun bt118 => ((minuetlaw0_Num.f bt111.2.2).bind fun t121 => (if t121 = 0 then ((minuetlaw0_Num.f bt118.2.2).bind fun t122 => (if t122 = 0 then (if bt102.1 = (wrap64 (bt111.1 + bt118.1)) then (some (bt102.2.1 == (wrap64 (bt111.2.1 + bt118.2.1)))) else (none)) else (none))) else (none))))) else (none)) else (none))) else (if bt102.1 = 0 then (if bt102.2.1 = 0 then ((comp_May.f k l0).bind fun t106 => (some (!t106))) else (none)) else (none))))) else (none))) = some r := h
 clear h
 replace H := Option.bind_eq_some_iff.mp H
 obtain ⟨t101, A30, H⟩ := H
 replace H : (if t101 = true then ((comp_Lengths.f k l0).bind fun bt102 => ((minuetlaw0_Num.f bt102.2.2).bind fun t105 => (if t105 = 0 then (if (IntKind.u64.wrap (wrap64 ((l0.length : Int) + 1))) = 0 then (none) else (if 0 ≤ (wrap64 (Int.tmod (IntKind.u64.wrap (a1)) (IntKind.u64.wrap (wrap64 ((l0.length : Int) + 1))))) then (if (wrap64 (Int.tmod (IntKind.u64.wrap (a1)) (IntKind.u64.wrap (wrap64 ((l0.length : Int) + 1))))) ≤ (l0.length : Int) then ((comp_Lengths.f k (l0.take ((wrap64 (Int.tmod (IntKind.u64.wrap (a1)) (IntKind.u64.wrap (wrap64 ((l0.length : Int) + 1))))) : Int).toNat)).bind fun bt111 => ((comp_Lengths.f k (l0.drop ((wrap64 (Int.tmod (IntKind.u64.wrap (a1)) (IntKind.u64.wrap (wrap64 ((l0.length : Int) + 1))))) : Int).toNat)).bind fun bt118 => ((minuetlaw0_Num.f bt111.2.2).bind fun t121 => (if t121 = 0 then ((minuetlaw0_Num.f bt118.2.2).bind fun t122 => (if t122 = 0 then (if bt102.1 = (wrap64 (bt111.1 + bt118.1)) then (some (bt102.2.1 == (wrap64 (bt111.2.1 + bt118.2.1)))) else (none)) else (none))) else (none))))) else (none)) else (none))) else (if bt102.1 = 0 then (if bt102.2.1 = 0 then ((comp_May.f k l0).bind fun t106 => (some (!t106))) else (none)) else (none))))) else (none)) = some r := H
 have A3 := Aside0.mk A30
 clear A30
 by_cases c4 : t101 = true
 · subst c4
   have H1 : ((comp_Lengths.f k l0).bind fun bt102 => ((minuetlaw0_Num.f bt102.2.2).bind fun t105 => (if t105 = 0 then (if (IntKind.u64.wrap (wrap64 ((l0.length : Int) + 1))) = 0 then (none) else (if 0 ≤ (wrap64 (Int.tmod (IntKind.u64.wrap (a1)) (IntKind.u64.wrap (wrap64 ((l0.length : Int) + 1))))) then (if (wrap64 (Int.tmod (IntKind.u64.wrap (a1)) (IntKind.u64.wrap (wrap64 ((l0.length : Int) + 1))))) ≤ (l0.length : Int) then ((comp_Lengths.f k (l0.take ((wrap64 (Int.tmod (IntKind.u64.wrap (a1)) (IntKind.u64.wrap (wrap64 ((l0.length : Int) + 1))))) : Int).toNat)).bind fun bt111 => ((comp_Lengths.f k (l0.drop ((wrap64 (Int.tmod (IntKind.u64.wrap (a1)) (IntKind.u64.wrap (wrap64 ((l0.length : Int) + 1))))) : Int).toNat)).bind fun bt118 => ((minuetlaw0_Num.f bt111.2.2).bind fun t121 => (if t121 = 0 then ((minuetlaw0_Num.f bt118.2.2).bind fun t122 => (if t122 = 0 then (if bt102.1 = (wrap64 (bt111.1 + bt118.1)) then (some (bt102.2.1 == (wrap64 (bt111.2.1 + bt118.2.1)))) else (none)) else (none))) else (none))))) else (none)) else (none))) else (if bt102.1 = 0 then (if bt102.2.1 = 0 then ((comp_May.f k l0).bind fun t106 => (some (!t106))) else (none)) else (none))))) = some r := by rw [if_pos rfl] at H; exact H
   clear H
   have H := H1
   clear H1
   replace H := Option.bind_eq_some_iff.mp H
   obtain ⟨⟨t102, t103, t104⟩, A50, H⟩ := H
   replace H : ((minuetlaw0_Num.f t104).bind fun t105 => (if t105 = 0 then (if (IntKind.u64.wrap (wrap64 ((l0.length : Int) + 1))) = 0 then (none) else (if 0 ≤ (wrap64 (Int.tmod (IntKind.u64.wrap (a1)) (IntKind.u64.wrap (wrap64 ((l0.length : Int) + 1))))) then (if (wrap64 (Int.tmod (IntKind.u64.wrap (a1)) (IntKind.u64.wrap (wrap64 ((l0.length : Int) + 1))))) ≤ (l0.length : Int) then ((comp_Lengths.f k (l0.take ((wrap64 (Int.tmod (IntKind.u64.wrap (a1)) (IntKind.u64.wrap (wrap64 ((l0.length : Int) + 1))))) : Int).toNat)).bind fun bt111 => ((comp_Lengths.f k (l0.drop ((wrap64 (Int.tmod (IntKind.u64.wrap (a1)) (IntKind.u64.wrap (wrap64 ((l0.length : Int) + 1))))) : Int).toNat)).bind fun bt118 => ((minuetlaw0_Num.f bt111.2.2).bind fun t121 => (if t121 = 0 then ((minuetlaw0_Num.f bt118.2.2).bind fun t122 => (if t122 = 0 then (if t102 = (wrap64 (bt111.1 + bt118.1)) then (some (t103 == (wrap64 (bt111.2.1 + bt118.2.1)))) else (none)) else (none))) else (none))))) else (none)) else (none))) else (if t102 = 0 then (if t103 = 0 then ((comp_May.f k l0).bind fun t106 => (some (!t106))) else (none)) else (none)))) = some r := H
   have A5 := Aside0.mk A50
   clear A50
   replace H := Option.bind_eq_some_iff.mp H
   obtain ⟨t105, A60, H⟩ := H
   replace H : (if t105 = 0 then (if (IntKind.u64.wrap (wrap64 ((l0.length : Int) + 1))) = 0 then (none) else (if 0 ≤ (wrap64 (Int.tmod (IntKind.u64.wrap (a1)) (IntKind.u64.wrap (wrap64 ((l0.length : Int) + 1))))) then (if (wrap64 (Int.tmod (IntKind.u64.wrap (a1)) (IntKind.u64.wrap (wrap64 ((l0.length : Int) + 1))))) ≤ (l0.length : Int) then ((comp_Lengths.f k (l0.take ((wrap64 (Int.tmod (IntKind.u64.wrap (a1)) (IntKind.u64.wrap (wrap64 ((l0.length : Int) + 1))))) : Int).toNat)).bind fun bt111 => ((comp_Lengths.f k (l0.drop ((wrap64 (Int.tmod (IntKind.u64.wrap (a1)) (IntKind.u64.wrap (wrap64 ((l0.length : Int) + 1))))) : Int).toNat)).bind fun bt118 => ((minuetlaw0_Num.f bt111.2.2).bind fun t121 => (if t121 = 0 then ((minuetlaw0_Num.f bt118.2.2).bind fun t122 => (if t122 = 0 then (if t102 = (wrap64 (bt111.1 + bt118.1)) then (some (t103 == (wrap64 (bt111.2.1 + bt118.2.1)))) else (none)) else (none))) else (none))))) else (none)) else (none))) else (if t102 = 0 then (if t103 = 0 then ((comp_May.f k l0).bind fun t106 => (some (!t106))) else (none)) else (none))) = some r := H
   have A6 := Aside0.mk A60
   clear A60
   by_cases c7 : t105 = 0
   · rw [if_pos c7] at H
     have c7b0 : (t105 == 0) = true := beq_iff_eq.mpr c7
     have c7b1 : (t105 != 0) = false := bne_eq_false_iff_eq.mpr c7
     clear c7
     by_cases c8 : (IntKind.u64.wrap (wrap64 ((l0.length : Int) + 1))) = 0
     · rw [if_pos c8] at H
       exact absurd H (by simp)
     · rw [if_neg c8] at H
       have c8b0 : ((IntKind.u64.wrap (wrap64 ((l0.length : Int) + 1))) == 0) = false := beq_eq_false_iff_ne.mpr c8
       have c8b1 : ((IntKind.u64.wrap (wrap64 ((l0.length : Int) + 1))) != 0) = true := bne_iff_ne.mpr c8
       obtain ⟨ji9, hji9⟩ : ∃ j_ : Int, (wrap64 (Int.tmod (IntKind.u64.wrap (a1)) (IntKind.u64.wrap (wrap64 ((l0.length : Int) + 1))))) = j_ := ⟨_, rfl⟩
       replace H : (if 0 ≤ (ji9) then (if (ji9) ≤ (l0.length : Int) then ((comp_Lengths.f k (l0.take ((ji9) : Int).toNat)).bind fun bt111 => ((comp_Lengths.f k (l0.drop ((ji9) : Int).toNat)).bind fun bt118 => ((minuetlaw0_Num.f bt111.2.2).bind fun t121 => (if t121 = 0 then ((minuetlaw0_Num.f bt118.2.2).bind fun t122 => (if t122 = 0 then (if t102 = (wrap64 (bt111.1 + bt118.1)) then (some (t103 == (wrap64 (bt111.2.1 + bt118.2.1)))) else (none)) else (none))) else (none))))) else (none)) else (none)) = some r := by first | (rw [hji9] at H; exact H) | (simp only [hji9] at H ⊢; exact H)
       (try rw [hji9] at A3)
       (try rw [hji9] at A5)
       (try rw [hji9] at A6)
       have hji9w : (IntKind.i64.wrap (Int.tmod (IntKind.u64.wrap (a1)) (IntKind.u64.wrap (wrap64 ((l0.length : Int) + 1))))) = ji9 := (i64_w _).trans hji9
       by_cases c10 : 0 ≤ (ji9)
       · rw [if_pos c10] at H
         have c10b0 := eq_true c10
         have c10b1 : decide (0 ≤ (ji9)) = true := decide_eq_true c10
         clear c10
         by_cases c11 : (ji9) ≤ (l0.length : Int)
         · rw [if_pos c11] at H
           have c11b0 := eq_true c11
           have c11b1 : decide ((ji9) ≤ (l0.length : Int)) = true := decide_eq_true c11
           clear c11
           obtain ⟨y107, hy107⟩ : ∃ y_ : List (S40), y_ = (l0.take ((ji9) : Int).toNat) := ⟨_, rfl⟩
           replace H : ((comp_Lengths.f k y107).bind fun bt111 => ((comp_Lengths.f k (l0.drop ((ji9) : Int).toNat)).bind fun bt118 => ((minuetlaw0_Num.f bt111.2.2).bind fun t121 => (if t121 = 0 then ((minuetlaw0_Num.f bt118.2.2).bind fun t122 => (if t122 = 0 then (if t102 = (wrap64 (bt111.1 + bt118.1)) then (some (t103 == (wrap64 (bt111.2.1 + bt118.2.1)))) else (none)) else (none))) else (none))))) = some r := by first | (rw [hy107]; with_reducible exact H) | (have H2_ := (Option.bind_some _ _).symm.trans H; rw [hy107]; with_reducible exact H2_) | (have H2_ := (Option.bind_some _ _).symm.trans H; with_reducible exact H2_) | with_reducible exact H | (rw [hy107]; exact H) | exact H
           have Ny107 := Aside0.mk hy107
           clear hy107
           replace H := Option.bind_eq_some_iff.mp H
           obtain ⟨⟨t111, t112, t113⟩, A120, H⟩ := H
           replace H : ((comp_Lengths.f k (l0.drop ((ji9) : Int).toNat)).bind fun bt118 => ((minuetlaw0_Num.f t113).bind fun t121 => (if t121 = 0 then ((minuetlaw0_Num.f bt118.2.2).bind fun t122 => (if t122 = 0 then (if t102 = (wrap64 (t111 + bt118.1)) then (some (t103 == (wrap64 (t112 + bt118.2.1)))) else (none)) else (none))) else (none)))) = some r := H
           have A12 := Aside0.mk A120
           clear A120
           have c13b0 := eq_true (of_decide_eq_true (by first | (with_reducible assumption) | assumption) : 0 ≤ (ji9))
           have c14b0 := eq_true (of_decide_eq_true (by first | (with_reducible assumption) | assumption) : (ji9) ≤ (l0.length : Int))
           obtain ⟨y114, hy114⟩ : ∃ y_ : List (S40), y_ = (l0.drop ((ji9) : Int).toNat) := ⟨_, rfl⟩
           replace H : ((comp_Lengths.f k y114).bind fun bt118 => ((minuetlaw0_Num.f t113).bind fun t121 => (if t121 = 0 then ((minuetlaw0_Num.f bt118.2.2).bind fun t122 => (if t122 = 0 then (if t102 = (wrap64 (t111 + bt118.1)) then (some (t103 == (wrap64 (t112 + bt118.2.1)))) else (none)) else (none))) else (none)))) = some r := by first | (rw [hy114]; with_reducible exact H) | (have H2_ := (Option.bind_some _ _).symm.trans H; rw [hy114]; with_reducible exact H2_) | (have H2_ := (Option.bind_some _ _).symm.trans H; with_reducible exact H2_) | with_reducible exact H | (rw [hy114]; exact H) | exact H
           have Ny114 := Aside0.mk hy114
           clear hy114
           replace H := Option.bind_eq_some_iff.mp H
           obtain ⟨⟨t118, t119, t120⟩, A150, H⟩ := H
           replace H : ((minuetlaw0_Num.f t113).bind fun t121 => (if t121 = 0 then ((minuetlaw0_Num.f t120).bind fun t122 => (if t122 = 0 then (if t102 = (wrap64 (t111 + t118)) then (some (t103 == (wrap64 (t112 + t119)))) else (none)) else (none))) else (none))) = some r := H
           have A15 := Aside0.mk A150
           clear A150
           replace H := Option.bind_eq_some_iff.mp H
           obtain ⟨t121, A160, H⟩ := H
           replace H : (if t121 = 0 then ((minuetlaw0_Num.f t120).bind fun t122 => (if t122 = 0 then (if t102 = (wrap64 (t111 + t118)) then (some (t103 == (wrap64 (t112 + t119)))) else (none)) else (none))) else (none)) = some r := H
           have A16 := Aside0.mk A160
           clear A160
           by_cases c17 : t121 = 0
           · rw [if_pos c17] at H
             have c17b0 : (t121 == 0) = true := beq_iff_eq.mpr c17
             have c17b1 : (t121 != 0) = false := bne_eq_false_iff_eq.mpr c17
             clear c17
             replace H := Option.bind_eq_some_iff.mp H
             obtain ⟨t122, A180, H⟩ := H
             replace H : (if t122 = 0 then (if t102 = (wrap64 (t111 + t118)) then (some (t103 == (wrap64 (t112 + t119)))) else (none)) else (none)) = some r := H
             have A18 := Aside0.mk A180
             clear A180
             by_cases c19 : t122 = 0
             · rw [if_pos c19] at H
               have c19b0 : (t122 == 0) = true := beq_iff_eq.mpr c19
               have c19b1 : (t122 != 0) = false := bne_eq_false_iff_eq.mpr c19
               clear c19
               by_cases c20 : t102 = (wrap64 (t111 + t118))
               · rw [if_pos c20] at H
                 have c20b0 : (t102 == (wrap64 (t111 + t118))) = true := beq_iff_eq.mpr c20
                 have c20b1 : (t102 != (wrap64 (t111 + t118))) = false := bne_eq_false_iff_eq.mpr c20
                 clear c20
                 obtain rfl := Option.some.inj H
                 go_enter Try.func13, Try.ntmps13
                 go_wp2_with (first | ((with_reducible refine gate_callee (f := 37) rfl ?_); refine goesL_ (some 15) rfl rfl Try.func37 (by kernel_rfl) rfl #[] rfl (by (try simp only [List.map_toArray, List.map_cons, List.map_nil]); first | done | rfl | (simp only [List.length_drop, List.length_take]; rfl)) ?_; (with_reducible refine (minuetlaw2_awake.calls k  true _ A3.out).mono ?_); rintro e w21 ⟨rfl, hb⟩; refine ⟨_, rfl, ?_⟩; have n0_ := Aside0.mk (below_step (by repeat (first | (with_reducible first | exact HB.out | apply below_alloc | apply pw_below_drewN | apply below_drew1) | exact HB.out)) hb); clear HB; have HB := n0_; clear n0_; (try clear hb); (try clear hb2); (try clear hk); (try clear hi)) | ((with_reducible refine gate_callee (f := 32) rfl ?_); refine goesL_ (some 19) rfl rfl Try.func32 (by kernel_rfl) rfl #[.slice A0 l0.length c0] rfl (by (try simp only [List.map_toArray, List.map_cons, List.map_nil]); first | done | rfl | (simp only [List.length_drop, List.length_take]; rfl)) ?_; (with_reducible refine (comp_Lengths.calls k _ _ l0 t102 t103 t104 _ ?side1 ?side2 A5.out).mono ?_); (case side1 => repeat (first | exact (Kd.C_below HR0.out HB.out) | (with_reducible refine Kd.C_alloc ?_ _) | (with_reducible refine Kd.C_drewN ?_ _) | (with_reducible refine Kd.C_drew ?_))); (case side2 => exact HC0.out); rintro e w22 ⟨rfl, hb⟩; refine ⟨_, rfl, ?_⟩; have n0_ := Aside0.mk (below_step (by repeat (first | (with_reducible first | exact HB.out | apply below_alloc | apply pw_below_drewN | apply below_drew1) | exact HB.out)) hb); clear HB; have HB := n0_; clear n0_; (try clear hb); (try clear hb2); (try clear hk); (try clear hi)) | ((with_reducible refine gate_callee (f := 25) rfl ?_); refine goesL_ (some 24) rfl rfl Try.func25 (by kernel_rfl) rfl #[.int .i64 t104] rfl (by (try simp only [List.map_toArray, List.map_cons, List.map_nil]); first | done | rfl | (simp only [List.length_drop, List.length_take]; rfl)) ?_; (with_reducible refine (minuetlaw0_Num.calls t104 t105 _ A6.out).mono ?_); rintro e w' ⟨rfl, ⟨nd, rfl⟩⟩; refine ⟨_, rfl, ?_⟩; have q23 : ((ji9) : Int) ≤ ((l0.length : Int) : Int) := of_decide_eq_true (by first | (with_reducible assumption) | assumption); obtain ⟨i023, hi023, _, hsz23, _⟩ := info_parts info40; have hroom23 : l0.length ≤ c0 := HC0.out; have hC23 : Kd.C k40 _ A0 l0.length l0 := HR0.out; have hcut23 := cut_to (P := Try.prog) 23 40 .i64 Try.underlying23 hi023 A0 l0.length c0 (ji9) (of_decide_eq_true (by first | (with_reducible assumption) | assumption)) q23 hroom23; have hr23 := Kd.C_take (m := ((ji9) : Int).toNat) hC23 (by omega); have hy23 : y107.length = ((ji9) : Int).toNat := (by rw [Ny107.out, List.length_take]; omega); rw [← Ny107.out] at hr23; rw [← hy23] at hcut23; have HR110 := Aside0.mk hr23; have HC110 := Aside0.mk (show y107.length ≤ c0 from by omega); clear hr23 hC23 hroom23 hi023 hsz23; have KY23 := Aside0.mk hy23; clear hy23; replace q23 := eq_true q23) | ((with_reducible refine gate_callee (f := 32) rfl ?_); refine goesL_ (some 49) rfl rfl Try.func32 (by kernel_rfl) rfl #[.slice A0 y107.length c0] rfl (by (try simp only [List.map_toArray, List.map_cons, List.map_nil]); first | done | rfl | (simp only [List.length_drop, List.length_take]; rfl)) ?_; (with_reducible refine (comp_Lengths.calls k _ _ y107 t111 t112 t113 _ ?side1 ?side2 A12.out).mono ?_); (case side1 => repeat (first | exact (Kd.C_below HR110.out (by repeat (first | (with_reducible first | exact HB.out | apply below_alloc | apply pw_below_drewN | apply below_drew1) | exact HB.out))) | (with_reducible refine Kd.C_alloc ?_ _) | (with_reducible refine Kd.C_drewN ?_ _) | (with_reducible refine Kd.C_drew ?_))); (case side2 => exact HC110.out); rintro e w24 ⟨rfl, hb⟩; refine ⟨_, rfl, ?_⟩; have n0_ := Aside0.mk (below_step (by repeat (first | (with_reducible first | exact HB.out | apply below_alloc | apply pw_below_drewN | apply below_drew1) | exact HB.out)) hb); clear HB; have HB := n0_; clear n0_; (try clear hb); (try clear hb2); (try clear hk); (try clear hi); have q25 : ((ji9) : Int) ≤ ((l0.length : Int) : Int) := of_decide_eq_true (by first | (with_reducible assumption) | assumption); obtain ⟨i025, hi025, _, hsz25, _⟩ := info_parts info40; have hroom25 : l0.length ≤ c0 := HC0.out; have hC25 : Kd.C k40 _ A0 l0.length l0 := HR0.out; have q025 : (0 : Int) ≤ ((ji9) : Int) := of_decide_eq_true (by first | (with_reducible assumption) | assumption); have hcut25 := cut_from (P := Try.prog) 23 40 .i64 Try.underlying23 hi025 3 hsz25 A0 l0.length c0 (ji9) q025 q25; have hr25 := Kd.C_drop (m := ((ji9) : Int).toNat) (c := c0) hC25 (by omega) hroom25; obtain ⟨A25, hA25⟩ : ∃ A1, A1 = (if c0 = ((ji9) : Int).toNat then A0 else (A0 : Option Addr).map (·.add (((ji9) : Int).toNat * 3))) := ⟨_, rfl⟩; obtain ⟨c25, hc25⟩ : ∃ c1, c1 = c0 - ((ji9) : Int).toNat := ⟨_, rfl⟩; have hy25 : y114.length = l0.length - ((ji9) : Int).toNat := (by rw [Ny114.out, List.length_drop] <;> omega); rw [show (l0).drop ((ji9) : Int).toNat = y114 from Ny114.out.symm] at hr25; replace hr25 : Kd.C k40 _ A25 y114.length y114 := (by rw [hA25]; exact hr25); rw [← hy25, ← hA25, ← hc25] at hcut25; have HR117 := Aside0.mk hr25; have HC117 := Aside0.mk (show y114.length ≤ c25 from by rw [hy25, hc25]; exact Nat.sub_le_sub_right hroom25 _); clear hr25 hC25 hroom25 hi025 hsz25 hc25; have KY25 := Aside0.mk hy25; have KA25 := Aside0.mk hA25; clear hy25 hA25; replace q25 := eq_true q25) | ((with_reducible refine gate_callee (f := 32) rfl ?_); refine goesL_ (some 57) rfl rfl Try.func32 (by kernel_rfl) rfl #[.slice A25 y114.length c25] rfl (by (try simp only [List.map_toArray, List.map_cons, List.map_nil]); first | done | rfl | (simp only [List.length_drop, List.length_take]; rfl)) ?_; (with_reducible refine (comp_Lengths.calls k _ _ y114 t118 t119 t120 _ ?side1 ?side2 A15.out).mono ?_); (case side1 => repeat (first | exact (Kd.C_below HR117.out HB.out) | (with_reducible refine Kd.C_alloc ?_ _) | (with_reducible refine Kd.C_drewN ?_ _) | (with_reducible refine Kd.C_drew ?_))); (case side2 => exact HC117.out); rintro e w26 ⟨rfl, hb⟩; refine ⟨_, rfl, ?_⟩; have n0_ := Aside0.mk (below_step (by repeat (first | (with_reducible first | exact HB.out | apply below_alloc | apply pw_below_drewN | apply below_drew1) | exact HB.out)) hb); clear HB; have HB := n0_; clear n0_; (try clear hb); (try clear hb2); (try clear hk); (try clear hi)) | ((with_reducible refine gate_callee (f := 25) rfl ?_); refine goesL_ (some 62) rfl rfl Try.func25 (by kernel_rfl) rfl #[.int .i64 t113] rfl (by (try simp only [List.map_toArray, List.map_cons, List.map_nil]); first | done | rfl | (simp only [List.length_drop, List.length_take]; rfl)) ?_; (with_reducible refine (minuetlaw0_Num.calls t113 t121 _ A16.out).mono ?_); rintro e w' ⟨rfl, ⟨nd, rfl⟩⟩; refine ⟨_, rfl, ?_⟩) | (go_at_call 25; (with_reducible refine (minuetlaw0_Num.calls t120 t122 _ A18.out).mono ?_); rintro e w' ⟨rfl, ⟨nd, rfl⟩⟩))
                 go_ret
                 exact ⟨by first | rfl | (simp [errW_none, errW_some] <;> rfl) | (simp only [← hji9]; first | rfl | (simp [errW_none, errW_some] <;> rfl)) | (simp [*, errW_none, errW_some] <;> rfl), by repeat (first | (with_reducible first | exact HB.out | apply below_alloc | apply pw_below_drewN | apply below_drew1) | exact HB.out)⟩
               · rw [if_neg c20] at H
                 exact absurd H (by simp)
             · rw [if_neg c19] at H
               exact absurd H (by simp)
           · rw [if_neg c17] at H
             exact absurd H (by simp)
         · rw [if_neg c11] at H
           exact absurd H (by simp)
       · rw [if_neg c10] at H
         exact absurd H (by simp)
   · rw [if_neg c7] at H
     have c7b0 : (t105 == 0) = false := beq_eq_false_iff_ne.mpr c7
     have c7b1 : (t105 != 0) = true := bne_iff_ne.mpr c7
     by_cases c27 : t102 = 0
     · rw [if_pos c27] at H
       have c27b0 : (t102 == 0) = true := beq_iff_eq.mpr c27
       have c27b1 : (t102 != 0) = false := bne_eq_false_iff_eq.mpr c27
       clear c27
       by_cases c28 : t103 = 0
       · rw [if_pos c28] at H
         have c28b0 : (t103 == 0) = true := beq_iff_eq.mpr c28
         have c28b1 : (t103 != 0) = false := bne_eq_false_iff_eq.mpr c28
         clear c28
         replace H := Option.bind_eq_some_iff.mp H
         obtain ⟨t106, A290, H⟩ := H
         replace H : (some (!t106)) = some r := H
         have A29 := Aside0.mk A290
         clear A290
         obtain rfl := Option.some.inj H
         go_enter Try.func13, Try.ntmps13
         go_wp2_with (first | ((with_reducible refine gate_callee (f := 37) rfl ?_); refine goesL_ (some 15) rfl rfl Try.func37 (by kernel_rfl) rfl #[] rfl (by (try simp only [List.map_toArray, List.map_cons, List.map_nil]); first | done | rfl | (simp only [List.length_drop, List.length_take]; rfl)) ?_; (with_reducible refine (minuetlaw2_awake.calls k  true _ A3.out).mono ?_); rintro e w30 ⟨rfl, hb⟩; refine ⟨_, rfl, ?_⟩; have n0_ := Aside0.mk (below_step (by repeat (first | (with_reducible first | exact HB.out | apply below_alloc | apply pw_below_drewN | apply below_drew1) | exact HB.out)) hb); clear HB; have HB := n0_; clear n0_; (try clear hb); (try clear hb2); (try clear hk); (try clear hi)) | ((with_reducible refine gate_callee (f := 32) rfl ?_); refine goesL_ (some 19) rfl rfl Try.func32 (by kernel_rfl) rfl #[.slice A0 l0.length c0] rfl (by (try simp only [List.map_toArray, List.map_cons, List.map_nil]); first | done | rfl | (simp only [List.length_drop, List.length_take]; rfl)) ?_; (with_reducible refine (comp_Lengths.calls k _ _ l0 t102 t103 t104 _ ?side1 ?side2 A5.out).mono ?_); (case side1 => repeat (first | exact (Kd.C_below HR0.out HB.out) | (with_reducible refine Kd.C_alloc ?_ _) | (with_reducible refine Kd.C_drewN ?_ _) | (with_reducible refine Kd.C_drew ?_))); (case side2 => exact HC0.out); rintro e w31 ⟨rfl, hb⟩; refine ⟨_, rfl, ?_⟩; have n0_ := Aside0.mk (below_step (by repeat (first | (with_reducible first | exact HB.out | apply below_alloc | apply pw_below_drewN | apply below_drew1) | exact HB.out)) hb); clear HB; have HB := n0_; clear n0_; (try clear hb); (try clear hb2); (try clear hk); (try clear hi)) | ((with_reducible refine gate_callee (f := 25) rfl ?_); refine goesL_ (some 24) rfl rfl Try.func25 (by kernel_rfl) rfl #[.int .i64 t104] rfl (by (try simp only [List.map_toArray, List.map_cons, List.map_nil]); first | done | rfl | (simp only [List.length_drop, List.length_take]; rfl)) ?_; (with_reducible refine (minuetlaw0_Num.calls t104 t105 _ A6.out).mono ?_); rintro e w' ⟨rfl, ⟨nd, rfl⟩⟩; refine ⟨_, rfl, ?_⟩) | (go_at_call 34; (with_reducible refine (comp_May.calls k _ _ l0 t106 _ ?side1 ?side2 A29.out).mono ?_); (case side1 => repeat (first | exact (Kd.C_below HR0.out (by repeat (first | (with_reducible first | exact HB.out | apply below_alloc | apply pw_below_drewN | apply below_drew1) | exact HB.out))) | (with_reducible refine Kd.C_alloc ?_ _) | (with_reducible refine Kd.C_drewN ?_ _) | (with_reducible refine Kd.C_drew ?_))); (case side2 => exact HC0.out); rintro e w32 ⟨rfl, hb⟩; have n0_ := Aside0.mk (below_step (by repeat (first | (with_reducible first | exact HB.out | apply below_alloc | apply pw_below_drewN | apply below_drew1) | exact HB.out)) hb); clear HB; have HB := n0_; clear n0_; (try clear hb); (try clear hb2); (try clear hk); (try clear hi)))
         go_ret
         exact ⟨by first | rfl | (simp [errW_none, errW_some] <;> rfl) | (simp [*, errW_none, errW_some] <;> rfl), by repeat (first | (with_reducible first | exact HB.out | apply below_alloc | apply pw_below_drewN | apply below_drew1) | exact HB.out)⟩
       · rw [if_neg c28] at H
         exact absurd H (by simp)
     · rw [if_neg c27] at H
       exact absurd H (by simp)
 · replace c4 := Bool.eq_false_iff.mpr c4
   subst c4
   have H1 : (none) = some r := by rw [if_neg (show ¬ (false = true) by decide)] at H; exact H
   clear H
   have H := H1
   clear H1
   exact absurd H (by simp)

end Go.Proofs.Ytbkkcoppncgegaa.G
