-- Laid by this session's own program gprint.py (wip/tools), out of the kit's print and of texts of this session. Lean checks it.
import Derived.Test.YtehojohacombkaaGx0
import Derived.Test.YtehojohacombkaaGMinuetlaw0PNum
import Derived.Test.YtehojohacombkaaGParsePParse
import Derived.Test.YtehojohacombkaaGMinuetlaw0PSameInts
import Derived.Test.YtehojohacombkaaGMinuetlaw11qawake
import Derived.Test.YtehojohacombkaaGMinuetlaw11PParseBlanksA
namespace Go.Proofs.Ytehojohacombkaa.G
open Go.RowKit Go.Proofs.YtehojohacombkaaW.PrintWords Go.Proofs.YtehojohacombkaaW.PrintLast Go.Proofs.YtehojohacombkaaW.PrintMore
open List renaming setIfInBounds_toArray → z1_, set_cons_zero → z2_, set_cons_succ → z3_
attribute [local go_sem] max2_int min2_int max_two min_two max_three min_three max_four min_four   -- for this text's walks alone
set_option linter.unusedVariables false
set_option linter.unusedSimpArgs false

set_option maxHeartbeats 8000000 in
set_option maxRecDepth 100000 in
theorem minuetlaw11_ParseBlanks.calls (k : Nat) (a0 : ByteArray) (a1 : Int) (r : Bool) (w : World) (hm_ : MaxOk w) (h : minuetlaw11_ParseBlanks.f k a0 a1 = some r) :
 Calls Try.prog 11 #[.string a0, .int .i64 a1] w fun e w' => e = .returned (.bool r) ∧ Below w.heap.size w w' := by
 have HM_ := Aside0.mk hm_
 clear hm_
 have hu28 := Try.underlying28
 have hu34 := Try.underlying34
 have HB := Aside0.mk (Below.refl w.heap.size w)
 have H : ((minuetlaw11_awake.f k).bind fun t101 => (if t101 = true then ((some (([(⟨#[32]⟩ : ByteArray), (⟨#[10, 9, 32]⟩ : ByteArray), (⟨#[47, 47, 32, 123, 10]⟩ : ByteArray), (⟨#[47, 42, 32, 91, 49, 93, 32, 42, 47]⟩ : ByteArray)] : List ByteArray) : List ByteArray)).bind fun y102 => (if 0 ≤ (Go.bits .and .i64 a1 3) then (if (Go.bits .and .i64 a1 3) < (y102.length : Int) then (if (wrap64 ((a0.size : Int) + ((rdOf ByteArray.empty y102 (Go.bits .and .i64 a1 3)).size : Int))) > 300 then (some true) else ((parse_Parse.f a0).bind fun bt106 => (if (rdOf ByteArray.empty y102 (Go.bits .and .i64 a1 3)).size + a0.size ≤ 9223372036854775807 then ((parse_Parse.f ((rdOf ByteArray.empty y102 (Go.bits .and .i64 a1 3)) ++ a0)).bind fun bt113 => ((minuetlaw0_Num.f bt106.2.2.2).bind fun t120 => (if t120 = 0 then ((minuetlaw0_Num.f bt113.2.2.2).bind fun t121 => (if t121 = 0 then (minuetlaw11_ParseBlanks.j0 k (rdOf ByteArray.empty y102 (Go.bits .and .i64 a1 3)) ((bt106.2.2.1.length : Int) != (bt113.2.2.1.length : Int)) bt106.1 bt106.2.1 bt106.2.2.1 bt113.1 bt113.2.1 bt113.2.2.1) else (minuetlaw11_ParseBlanks.j0 k (rdOf ByteArray.empty y102 (Go.bits .and .i64 a1 3)) true bt106.1 bt106.2.1 bt106.2.2.1 bt113.1 bt113.2.1 bt113.2.2.1))) else (minuetlaw11_ParseBlanks.j0 k (rdOf ByteArray.empty y102 (Go.bits .and .i64 a1 3)) true bt106.1 bt106.2.1 bt106.2.2.1 bt113.1 bt113.2.1 bt113.2.2.1)))) else (none)))) else (none)) else (none))) else (none))) = some r := h
 clear h
 replace H := Option.bind_eq_some_iff.mp H
 obtain ⟨t101, A30, H⟩ := H
 replace H : (if t101 = true then ((some (([(⟨#[32]⟩ : ByteArray), (⟨#[10, 9, 32]⟩ : ByteArray), (⟨#[47, 47, 32, 123, 10]⟩ : ByteArray), (⟨#[47, 42, 32, 91, 49, 93, 32, 42, 47]⟩ : ByteArray)] : List ByteArray) : List ByteArray)).bind fun y102 => (if 0 ≤ (Go.bits .and .i64 a1 3) then (if (Go.bits .and .i64 a1 3) < (y102.length : Int) then (if (wrap64 ((a0.size : Int) + ((rdOf ByteArray.empty y102 (Go.bits .and .i64 a1 3)).size : Int))) > 300 then (some true) else ((parse_Parse.f a0).bind fun bt106 => (if (rdOf ByteArray.empty y102 (Go.bits .and .i64 a1 3)).size + a0.size ≤ 9223372036854775807 then ((parse_Parse.f ((rdOf ByteArray.empty y102 (Go.bits .and .i64 a1 3)) ++ a0)).bind fun bt113 => ((minuetlaw0_Num.f bt106.2.2.2).bind fun t120 => (if t120 = 0 then ((minuetlaw0_Num.f bt113.2.2.2).bind fun t121 => (if t121 = 0 then (minuetlaw11_ParseBlanks.j0 k (rdOf ByteArray.empty y102 (Go.bits .and .i64 a1 3)) ((bt106.2.2.1.length : Int) != (bt113.2.2.1.length : Int)) bt106.1 bt106.2.1 bt106.2.2.1 bt113.1 bt113.2.1 bt113.2.2.1) else (minuetlaw11_ParseBlanks.j0 k (rdOf ByteArray.empty y102 (Go.bits .and .i64 a1 3)) true bt106.1 bt106.2.1 bt106.2.2.1 bt113.1 bt113.2.1 bt113.2.2.1))) else (minuetlaw11_ParseBlanks.j0 k (rdOf ByteArray.empty y102 (Go.bits .and .i64 a1 3)) true bt106.1 bt106.2.1 bt106.2.2.1 bt113.1 bt113.2.1 bt113.2.2.1)))) else (none)))) else (none)) else (none))) else (none)) = some r := H
 have A3 := Aside0.mk A30
 clear A30
 by_cases c4 : t101 = true
 rotate_left
 ·replace c4 := Bool.eq_false_iff.mpr c4
  subst c4
  have H1 : (none) = some r := by rw [if_neg (show ¬ (false = true) by decide)] at H; exact H
  clear H
  have H := H1
  clear H1
  exact absurd H (by simp)

 subst c4
 have H1 : ((some (([(⟨#[32]⟩ : ByteArray), (⟨#[10, 9, 32]⟩ : ByteArray), (⟨#[47, 47, 32, 123, 10]⟩ : ByteArray), (⟨#[47, 42, 32, 91, 49, 93, 32, 42, 47]⟩ : ByteArray)] : List ByteArray) : List ByteArray)).bind fun y102 => (if 0 ≤ (Go.bits .and .i64 a1 3) then (if (Go.bits .and .i64 a1 3) < (y102.length : Int) then (if (wrap64 ((a0.size : Int) + ((rdOf ByteArray.empty y102 (Go.bits .and .i64 a1 3)).size : Int))) > 300 then (some true) else ((parse_Parse.f a0).bind fun bt106 => (if (rdOf ByteArray.empty y102 (Go.bits .and .i64 a1 3)).size + a0.size ≤ 9223372036854775807 then ((parse_Parse.f ((rdOf ByteArray.empty y102 (Go.bits .and .i64 a1 3)) ++ a0)).bind fun bt113 => ((minuetlaw0_Num.f bt106.2.2.2).bind fun t120 => (if t120 = 0 then ((minuetlaw0_Num.f bt113.2.2.2).bind fun t121 => (if t121 = 0 then (minuetlaw11_ParseBlanks.j0 k (rdOf ByteArray.empty y102 (Go.bits .and .i64 a1 3)) ((bt106.2.2.1.length : Int) != (bt113.2.2.1.length : Int)) bt106.1 bt106.2.1 bt106.2.2.1 bt113.1 bt113.2.1 bt113.2.2.1) else (minuetlaw11_ParseBlanks.j0 k (rdOf ByteArray.empty y102 (Go.bits .and .i64 a1 3)) true bt106.1 bt106.2.1 bt106.2.2.1 bt113.1 bt113.2.1 bt113.2.2.1))) else (minuetlaw11_ParseBlanks.j0 k (rdOf ByteArray.empty y102 (Go.bits .and .i64 a1 3)) true bt106.1 bt106.2.1 bt106.2.2.1 bt113.1 bt113.2.1 bt113.2.2.1)))) else (none)))) else (none)) else (none))) = some r := by rw [if_pos rfl] at H; exact H
 clear H
 have H := H1
 clear H1
 obtain ⟨y102, hy102⟩ : ∃ y_ : List ByteArray, y_ = (([(⟨#[32]⟩ : ByteArray), (⟨#[10, 9, 32]⟩ : ByteArray), (⟨#[47, 47, 32, 123, 10]⟩ : ByteArray), (⟨#[47, 42, 32, 91, 49, 93, 32, 42, 47]⟩ : ByteArray)] : List ByteArray)) := ⟨_, rfl⟩
 replace H : (if 0 ≤ (Go.bits .and .i64 a1 3) then (if (Go.bits .and .i64 a1 3) < (y102.length : Int) then (if (wrap64 ((a0.size : Int) + ((rdOf ByteArray.empty y102 (Go.bits .and .i64 a1 3)).size : Int))) > 300 then (some true) else ((parse_Parse.f a0).bind fun bt106 => (if (rdOf ByteArray.empty y102 (Go.bits .and .i64 a1 3)).size + a0.size ≤ 9223372036854775807 then ((parse_Parse.f ((rdOf ByteArray.empty y102 (Go.bits .and .i64 a1 3)) ++ a0)).bind fun bt113 => ((minuetlaw0_Num.f bt106.2.2.2).bind fun t120 => (if t120 = 0 then ((minuetlaw0_Num.f bt113.2.2.2).bind fun t121 => (if t121 = 0 then (minuetlaw11_ParseBlanks.j0 k (rdOf ByteArray.empty y102 (Go.bits .and .i64 a1 3)) ((bt106.2.2.1.length : Int) != (bt113.2.2.1.length : Int)) bt106.1 bt106.2.1 bt106.2.2.1 bt113.1 bt113.2.1 bt113.2.2.1) else (minuetlaw11_ParseBlanks.j0 k (rdOf ByteArray.empty y102 (Go.bits .and .i64 a1 3)) true bt106.1 bt106.2.1 bt106.2.2.1 bt113.1 bt113.2.1 bt113.2.2.1))) else (minuetlaw11_ParseBlanks.j0 k (rdOf ByteArray.empty y102 (Go.bits .and .i64 a1 3)) true bt106.1 bt106.2.1 bt106.2.2.1 bt113.1 bt113.2.1 bt113.2.2.1)))) else (none)))) else (none)) else (none)) = some r := by first | (rw [hy102]; with_reducible exact H) | (have H2_ := (Option.bind_some _ _).symm.trans H; rw [hy102]; with_reducible exact H2_) | (have H2_ := (Option.bind_some _ _).symm.trans H; with_reducible exact H2_) | with_reducible exact H | (rw [hy102]; exact H) | exact H
 have Ny102 := Aside0.mk hy102
 clear hy102
 by_cases c5 : 0 ≤ (Go.bits .and .i64 a1 3)
 rotate_left
 ·rw [if_neg c5] at H
  exact absurd H (by simp)
 rw [if_pos c5] at H
 have c5b0 : decide (0 ≤ (Go.bits .and .i64 a1 3)) = true := decide_eq_true c5
 clear c5
 by_cases c6 : (Go.bits .and .i64 a1 3) < (y102.length : Int)
 rotate_left
 ·rw [if_neg c6] at H
  exact absurd H (by simp)
 rw [if_pos c6] at H
 have c6b0 : decide ((Go.bits .and .i64 a1 3) < (y102.length : Int)) = true := decide_eq_true c6
 clear c6
 by_cases c7 : (wrap64 ((a0.size : Int) + ((rdOf ByteArray.empty y102 (Go.bits .and .i64 a1 3)).size : Int))) > 300
 ·rw [if_pos c7] at H
  have c7b0 : decide (300 < (wrap64 ((a0.size : Int) + ((rdOf ByteArray.empty y102 (Go.bits .and .i64 a1 3)).size : Int)))) = true := decide_eq_true c7
  clear c7
  obtain rfl := Option.some.inj H
  go_enter Try.func11, Try.ntmps11
  go_wp2_with (first | ((with_reducible refine gate_callee (f := 19) rfl ?_); refine goesL_ (some 13) rfl rfl Try.func19 (by kernel_rfl) rfl #[] rfl (by (try simp only [List.map_toArray, List.map_cons, List.map_nil]); first | done | rfl | (simp only [List.length_drop, List.length_take]; rfl)) ?_; (with_reducible refine (minuetlaw11_awake.calls k  true _ (MaxOk.of HM_.out (by repeat (first | (with_reducible first | exact HB.out | apply below_alloc | apply pw_below_drewN | apply below_drew1 | refine below_set ?_ GE112.out | refine below_set ?_ GE119.out | refine below_set ?_ GE124.out | refine below_set ?_ GE125.out) | exact HB.out))) A3.out).mono ?_); rintro e w8 ⟨rfl, hb⟩; refine ⟨_, rfl, ?_⟩; have n0_ := Aside0.mk (below_step (by repeat (first | (with_reducible first | exact HB.out | apply below_alloc | apply pw_below_drewN | apply below_drew1) | exact HB.out)) hb); clear HB; have HB := n0_; clear n0_; (try clear hb); (try clear hb2); (try clear hk); (try clear hi)) | ((with_reducible refine gate_dst (N := 15) rfl ?_); (try (refine gate_guard (by rfl) ?_; dsimp only)); refine Kd.R_lit Kd.string _ 9 ?hg (N := 15) ?hd (xs := ([(⟨#[32]⟩ : ByteArray), (⟨#[10, 9, 32]⟩ : ByteArray), (⟨#[47, 47, 32, 123, 10]⟩ : ByteArray), (⟨#[47, 42, 32, 91, 49, 93, 32, 42, 47]⟩ : ByteArray)] : List ByteArray)) (inner := [.string (⟨#[32]⟩ : ByteArray), .string (⟨#[10, 9, 32]⟩ : ByteArray), .string (⟨#[47, 47, 32, 123, 10]⟩ : ByteArray), .string (⟨#[47, 42, 32, 91, 49, 93, 32, 42, 47]⟩ : ByteArray)]) (ok := fun _ => True) (okp := fun _ => True) ?hr ?hp (fun _ hk => hk) trivial (Below.refl _ _) (Nat.le_refl _) (by simp) ?_; (case hd => rfl); (case hg => rfl); (case hr => first | (go_simp; done) | (go_simp; rfl)); (case hp => exact (Reps.one (show Kd.M Kd.string _ _ _ (⟨#[32]⟩ : ByteArray) [.string (⟨#[32]⟩ : ByteArray)] from rfl) (Reps.one (show Kd.M Kd.string _ _ _ (⟨#[10, 9, 32]⟩ : ByteArray) [.string (⟨#[10, 9, 32]⟩ : ByteArray)] from rfl) (Reps.one (show Kd.M Kd.string _ _ _ (⟨#[47, 47, 32, 123, 10]⟩ : ByteArray) [.string (⟨#[47, 47, 32, 123, 10]⟩ : ByteArray)] from rfl) (Reps.one (show Kd.M Kd.string _ _ _ (⟨#[47, 42, 32, 91, 49, 93, 32, 42, 47]⟩ : ByteArray) [.string (⟨#[47, 42, 32, 91, 49, 93, 32, 42, 47]⟩ : ByteArray)] from rfl) (Reps.none _ _)))))); intro v103 w9 ho10 hb hg_ hnew_; clear hg_ hnew_; (first | rw [← Ny102.out] at ho10 | (simp only [Int.reduceToNat] at ho10; rw [← Ny102.out] at ho10)); have n0_ := Aside0.mk (Kd.R_lower ho10 (below_size (by repeat (first | (with_reducible first | exact HB.out | apply below_alloc | apply pw_below_drewN | apply below_drew1) | exact HB.out)))); have n1_ := Aside0.mk (below_step (by repeat (first | (with_reducible first | exact HB.out | apply below_alloc | apply pw_below_drewN | apply below_drew1) | exact HB.out)) hb); clear HB; have HO104 := n0_; have HB := n1_; clear n0_ n1_; clear hb ho10; obtain ⟨Ao11, co11, eo11⟩ := Kd.R_slice HO104.out; subst eo11; have p105 : 0 ≤ ((Go.bits .and .i64 a1 3) : Int) := of_decide_eq_true (by first | (with_reducible assumption) | assumption); have q105 : (Go.bits .and .i64 a1 3) < (y102.length : Int) := of_decide_eq_true (by first | (with_reducible assumption) | assumption); obtain ⟨ad105, e105, hx105_0⟩ := Kd.at_string (Kd.R_reads' HO104.out).2.2 (Go.bits .and .i64 a1 3) p105 q105; cases e105; replace p105 := eq_true p105; replace q105 := eq_true q105))
  go_ret
  exact ⟨by first | rfl | (simp [errW_none, errW_some] <;> rfl) | (simp [*, errW_none, errW_some] <;> rfl), by repeat (first | (with_reducible first | exact HB.out | apply below_alloc | apply pw_below_drewN | apply below_drew1) | exact HB.out)⟩
 rw [if_neg c7] at H
 have c7b0 : decide (300 < (wrap64 ((a0.size : Int) + ((rdOf ByteArray.empty y102 (Go.bits .and .i64 a1 3)).size : Int)))) = false := decide_eq_false c7
 clear c7
 replace H := Option.bind_eq_some_iff.mp H
 obtain ⟨⟨t106, t107, t108, t111⟩, A120, H⟩ := H
 replace H : (if (rdOf ByteArray.empty y102 (Go.bits .and .i64 a1 3)).size + a0.size ≤ 9223372036854775807 then ((parse_Parse.f ((rdOf ByteArray.empty y102 (Go.bits .and .i64 a1 3)) ++ a0)).bind fun bt113 => ((minuetlaw0_Num.f t111).bind fun t120 => (if t120 = 0 then ((minuetlaw0_Num.f bt113.2.2.2).bind fun t121 => (if t121 = 0 then (minuetlaw11_ParseBlanks.j0 k (rdOf ByteArray.empty y102 (Go.bits .and .i64 a1 3)) ((t108.length : Int) != (bt113.2.2.1.length : Int)) t106 t107 t108 bt113.1 bt113.2.1 bt113.2.2.1) else (minuetlaw11_ParseBlanks.j0 k (rdOf ByteArray.empty y102 (Go.bits .and .i64 a1 3)) true t106 t107 t108 bt113.1 bt113.2.1 bt113.2.2.1))) else (minuetlaw11_ParseBlanks.j0 k (rdOf ByteArray.empty y102 (Go.bits .and .i64 a1 3)) true t106 t107 t108 bt113.1 bt113.2.1 bt113.2.2.1)))) else (none)) = some r := H
 have A12 := Aside0.mk A120
 clear A120
 by_cases c13 : (rdOf ByteArray.empty y102 (Go.bits .and .i64 a1 3)).size + a0.size ≤ 9223372036854775807
 rotate_left
 ·rw [if_neg c13] at H
  exact absurd H (by simp)
 rw [if_pos c13] at H
 have c13b0 := eq_true c13
 have c13b1 : decide ((rdOf ByteArray.empty y102 (Go.bits .and .i64 a1 3)).size + a0.size ≤ 9223372036854775807) = true := decide_eq_true c13
 try have c13b2 : (9223372036854775807 < (rdOf ByteArray.empty y102 (Go.bits .and .i64 a1 3)).size + a0.size) = False := eq_false (Nat.not_lt.2 c13)
 replace H := Option.bind_eq_some_iff.mp H
 obtain ⟨⟨t113, t114, t115, t118⟩, A140, H⟩ := H
 replace H : ((minuetlaw0_Num.f t111).bind fun t120 => (if t120 = 0 then ((minuetlaw0_Num.f t118).bind fun t121 => (if t121 = 0 then (minuetlaw11_ParseBlanks.j0 k (rdOf ByteArray.empty y102 (Go.bits .and .i64 a1 3)) ((t108.length : Int) != (t115.length : Int)) t106 t107 t108 t113 t114 t115) else (minuetlaw11_ParseBlanks.j0 k (rdOf ByteArray.empty y102 (Go.bits .and .i64 a1 3)) true t106 t107 t108 t113 t114 t115))) else (minuetlaw11_ParseBlanks.j0 k (rdOf ByteArray.empty y102 (Go.bits .and .i64 a1 3)) true t106 t107 t108 t113 t114 t115))) = some r := H
 have A14 := Aside0.mk A140
 clear A140
 have HC15 := Aside0.mk H
 clear H
 go_enter Try.func11, Try.ntmps11
 have c7w : decide (300 < ((a0.size : Int) + ((rdOf ByteArray.empty y102 (Go.bits .and .i64 a1 3)).size : Int))) = false := by have e_ : wrap64 ((a0.size : Int) + ((rdOf ByteArray.empty y102 (Go.bits .and .i64 a1 3)).size : Int)) = (a0.size : Int) + ((rdOf ByteArray.empty y102 (Go.bits .and .i64 a1 3)).size : Int) := (by unfold wrap64; omega); have h_ := c7b0; rw [e_] at h_; exact h_
 go_upto_region 8 with (first | ((with_reducible refine gate_callee (f := 19) rfl ?_); refine goesL_ (some 13) rfl rfl Try.func19 (by kernel_rfl) rfl #[] rfl (by (try simp only [List.map_toArray, List.map_cons, List.map_nil]); first | done | rfl | (simp only [List.length_drop, List.length_take]; rfl)) ?_; (with_reducible refine (minuetlaw11_awake.calls k  true _ (MaxOk.of HM_.out (by repeat (first | (with_reducible first | exact HB.out | apply below_alloc | apply pw_below_drewN | apply below_drew1 | refine below_set ?_ GE112.out | refine below_set ?_ GE119.out | refine below_set ?_ GE124.out | refine below_set ?_ GE125.out) | exact HB.out))) A3.out).mono ?_); rintro e w16 ⟨rfl, hb⟩; refine ⟨_, rfl, ?_⟩; have n0_ := Aside0.mk (below_step (by repeat (first | (with_reducible first | exact HB.out | apply below_alloc | apply pw_below_drewN | apply below_drew1) | exact HB.out)) hb); clear HB; have HB := n0_; clear n0_; (try clear hb); (try clear hb2); (try clear hk); (try clear hi)) | ((with_reducible refine gate_dst (N := 15) rfl ?_); (try (refine gate_guard (by rfl) ?_; dsimp only)); refine Kd.R_lit Kd.string _ 9 ?hg (N := 15) ?hd (xs := ([(⟨#[32]⟩ : ByteArray), (⟨#[10, 9, 32]⟩ : ByteArray), (⟨#[47, 47, 32, 123, 10]⟩ : ByteArray), (⟨#[47, 42, 32, 91, 49, 93, 32, 42, 47]⟩ : ByteArray)] : List ByteArray)) (inner := [.string (⟨#[32]⟩ : ByteArray), .string (⟨#[10, 9, 32]⟩ : ByteArray), .string (⟨#[47, 47, 32, 123, 10]⟩ : ByteArray), .string (⟨#[47, 42, 32, 91, 49, 93, 32, 42, 47]⟩ : ByteArray)]) (ok := fun _ => True) (okp := fun _ => True) ?hr ?hp (fun _ hk => hk) trivial (Below.refl _ _) (Nat.le_refl _) (by simp) ?_; (case hd => rfl); (case hg => rfl); (case hr => first | (go_simp; done) | (go_simp; rfl)); (case hp => exact (Reps.one (show Kd.M Kd.string _ _ _ (⟨#[32]⟩ : ByteArray) [.string (⟨#[32]⟩ : ByteArray)] from rfl) (Reps.one (show Kd.M Kd.string _ _ _ (⟨#[10, 9, 32]⟩ : ByteArray) [.string (⟨#[10, 9, 32]⟩ : ByteArray)] from rfl) (Reps.one (show Kd.M Kd.string _ _ _ (⟨#[47, 47, 32, 123, 10]⟩ : ByteArray) [.string (⟨#[47, 47, 32, 123, 10]⟩ : ByteArray)] from rfl) (Reps.one (show Kd.M Kd.string _ _ _ (⟨#[47, 42, 32, 91, 49, 93, 32, 42, 47]⟩ : ByteArray) [.string (⟨#[47, 42, 32, 91, 49, 93, 32, 42, 47]⟩ : ByteArray)] from rfl) (Reps.none _ _)))))); intro v103 w17 ho18 hb hg_ hnew_; clear hg_ hnew_; (first | rw [← Ny102.out] at ho18 | (simp only [Int.reduceToNat] at ho18; rw [← Ny102.out] at ho18)); have n0_ := Aside0.mk (Kd.R_lower ho18 (below_size (by repeat (first | (with_reducible first | exact HB.out | apply below_alloc | apply pw_below_drewN | apply below_drew1) | exact HB.out)))); have n1_ := Aside0.mk (below_step (by repeat (first | (with_reducible first | exact HB.out | apply below_alloc | apply pw_below_drewN | apply below_drew1) | exact HB.out)) hb); clear HB; have HO104 := n0_; have HB := n1_; clear n0_ n1_; clear hb ho18; obtain ⟨Ao19, co19, eo19⟩ := Kd.R_slice HO104.out; subst eo19; have p105 : 0 ≤ ((Go.bits .and .i64 a1 3) : Int) := of_decide_eq_true (by first | (with_reducible assumption) | assumption); have q105 : (Go.bits .and .i64 a1 3) < (y102.length : Int) := of_decide_eq_true (by first | (with_reducible assumption) | assumption); obtain ⟨ad105, e105, hx105_0⟩ := Kd.at_string (Kd.R_reads' HO104.out).2.2 (Go.bits .and .i64 a1 3) p105 q105; cases e105; replace p105 := eq_true p105; replace q105 := eq_true q105) | ((with_reducible refine gate_callee (f := 14) rfl ?_); refine goesL_ (some 28) rfl rfl Try.func14 (by kernel_rfl) rfl #[.string a0] rfl (by (try simp only [List.map_toArray, List.map_cons, List.map_nil]); first | done | rfl | (simp only [List.length_drop, List.length_take]; rfl)) ?_; (with_reducible refine (parse_Parse.calls a0 t106 t107 t108 t111 _ (MaxOk.of HM_.out (by repeat (first | (with_reducible first | exact HB.out | apply below_alloc | apply pw_below_drewN | apply below_drew1 | refine below_set ?_ GE112.out | refine below_set ?_ GE119.out | refine below_set ?_ GE124.out | refine below_set ?_ GE125.out) | exact HB.out))) A12.out).mono ?_); rintro e w20 ⟨v109, rfl, ho0, hb⟩; refine ⟨_, rfl, ?_⟩; have n0_ := Aside0.mk (Kd.R_below (by (with_reducible repeat (first | apply Kd.R_alloc | apply Kd.R_drewN | apply Kd.R_drew)); exact HO104.out) hb); have n1_ := Aside0.mk (Kd.S_lower ho0 (below_size (by repeat (first | (with_reducible first | exact HB.out | apply below_alloc | apply pw_below_drewN | apply below_drew1) | exact HB.out)))); have n2_ := Aside0.mk (below_step (by repeat (first | (with_reducible first | exact HB.out | apply below_alloc | apply pw_below_drewN | apply below_drew1) | exact HB.out)) hb); clear HO104; clear HB; have HO104 := n0_; have HO110 := n1_; have HB := n2_; clear n0_ n1_ n2_; (try clear hb); (try clear hb2); (try clear hk); (try clear hi); (try clear ho0)) | ((with_reducible refine gate_dst (N := 6) rfl ?_); (try (refine gate_guard (by rfl) ?_; dsimp only)); refine box_event ?hg (N := 6) ?hd (cs := #[.int .i64 0, .int .i64 0, .slice none 0 0]) (t := 28) ?hr ?_; (case hd => rfl); (case hg => rfl); (case hr => first | (go_simp; done) | (go_simp; rfl)); intro gb112 hg w21 hbox hb; have n0_ := Aside0.mk (Kd.R_below (by (with_reducible repeat (first | apply Kd.R_alloc | apply Kd.R_drewN | apply Kd.R_drew)); exact HO104.out) hb); have n1_ := Aside0.mk (Kd.S_below (by (with_reducible repeat (first | apply Kd.S_alloc | apply Kd.S_drewN | apply Kd.S_drew)); exact HO110.out) hb); have n2_ := Aside0.mk (below_step (by repeat (first | (with_reducible first | exact HB.out | apply below_alloc | apply pw_below_drewN | apply below_drew1) | exact HB.out)) hb); have n3_ := Aside0.mk (hbox); have n4_ := Aside0.mk ((by rw [hg]; exact (below_size (by repeat (first | (with_reducible first | exact HB.out | apply below_alloc | apply pw_below_drewN | apply below_drew1) | exact HB.out))) : w.heap.size ≤ gb112)); have n5_ := Aside0.mk ((by rw [hg]; exact (below_size (by repeat (first | (with_reducible first | exact HB.out | apply below_alloc | apply pw_below_drewN | apply below_drew1) | exact HB.out))) : w.heap.size ≤ gb112)); clear HO104; clear HO110; clear HB; have HO104 := n0_; have HO110 := n1_; have HB := n2_; have BK112 := n3_; have GW112 := n4_; have GE112 := n5_; clear n0_ n1_ n2_ n3_ n4_ n5_; clear hb hbox hg; have hcz22_0 : w21.cell? ⟨gb112, 0, none⟩ = some (.int .i64 0) := (blk_cell BK112.out 0).trans rfl; have hcz22_1 : w21.cell? ⟨gb112, 1, none⟩ = some (.int .i64 0) := (blk_cell BK112.out 1).trans rfl; have hcz22_2 : w21.cell? ⟨gb112, 2, none⟩ = some (.slice none 0 0) := (blk_cell BK112.out 2).trans rfl; have hfz22_0 := blk_frozen BK112.out 0; have hfz22_1 := blk_frozen BK112.out 1; have hfz22_2 := blk_frozen BK112.out 2; obtain ⟨Ao23, co23, eo23⟩ := Kd.S_slice HO110.out; subst eo23) | ((with_reducible refine gate_callee (f := 14) rfl ?_); refine goesL_ (some 35) rfl rfl Try.func14 (by kernel_rfl) rfl #[.string ((rdOf ByteArray.empty y102 (Go.bits .and .i64 a1 3)) ++ a0)] rfl (by (try simp only [List.map_toArray, List.map_cons, List.map_nil]); first | done | rfl | (simp only [List.length_drop, List.length_take]; rfl)) ?_; (with_reducible refine (parse_Parse.calls ((rdOf ByteArray.empty y102 (Go.bits .and .i64 a1 3)) ++ a0) t113 t114 t115 t118 _ (MaxOk.of HM_.out (by repeat (first | (with_reducible first | exact HB.out | apply below_alloc | apply pw_below_drewN | apply below_drew1 | refine below_set ?_ GE112.out | refine below_set ?_ GE119.out | refine below_set ?_ GE124.out | refine below_set ?_ GE125.out) | exact HB.out))) A14.out).mono ?_); rintro e w24 ⟨v116, rfl, ho0, hb⟩; refine ⟨_, rfl, ?_⟩; have n0_ := Aside0.mk (Kd.R_below (by (with_reducible repeat (first | apply Kd.R_alloc | apply Kd.R_drewN | apply Kd.R_drew)); exact (Kd.R_mono (Kd.R_far (p := ⟨gb112, 2, none⟩) (Kd.R_far (p := ⟨gb112, 1, none⟩) (Kd.R_far (p := ⟨gb112, 0, none⟩) (Kd.R_types HO104.out BK112.out (by decide)) (fun _ hk => hk.2) (.int .i64 t106)) (fun _ hk => hk.2) (.int .i64 t107)) (fun _ hk => hk.2) (.slice Ao23 t108.length co23)) (fun _ h_ => h_.1))) hb); have n1_ := Aside0.mk (Kd.S_elder' (by (with_reducible repeat (first | apply Kd.S_alloc | apply Kd.S_drewN | apply Kd.S_drew)); exact (Kd.S_mono (Kd.S_far (p := ⟨gb112, 2, none⟩) (Kd.S_far (p := ⟨gb112, 1, none⟩) (Kd.S_far (p := ⟨gb112, 0, none⟩) (Kd.S_types HO110.out BK112.out (by decide)) (fun _ hk => hk.2) (.int .i64 t106)) (fun _ hk => hk.2) (.int .i64 t107)) (fun _ hk => hk.2) (.slice Ao23 t108.length co23)) (fun _ h_ => h_.1))) (Kd.S_base ho0) hb); have n2_ := Aside0.mk (Kd.S_lower (Kd.S_new' ho0 (Kd.S_lt (by (with_reducible repeat (first | apply Kd.S_alloc | apply Kd.S_drewN | apply Kd.S_drew)); exact (Kd.S_mono (Kd.S_far (p := ⟨gb112, 2, none⟩) (Kd.S_far (p := ⟨gb112, 1, none⟩) (Kd.S_far (p := ⟨gb112, 0, none⟩) (Kd.S_types HO110.out BK112.out (by decide)) (fun _ hk => hk.2) (.int .i64 t106)) (fun _ hk => hk.2) (.int .i64 t107)) (fun _ hk => hk.2) (.slice Ao23 t108.length co23)) (fun _ h_ => h_.1))))) (below_size (by repeat (first | (with_reducible first | exact HB.out | apply below_alloc | apply pw_below_drewN | apply below_drew1 | refine below_set ?_ GE112.out) | exact HB.out)))); have n3_ := Aside0.mk (blk_below (g := gb112) (o := .cells #[.int .i64 t106, .int .i64 t107, .slice Ao23 t108.length co23] 28 (0, 0)) (by (with_reducible repeat (first | refine blk_drewN ?_ _ | refine blk_drew ?_ | refine blk_alloc ?_ _)); refine blk_put (cs := #[.int .i64 t106, .int .i64 t107, .slice none 0 0]) ?_ 2 _ rfl; (with_reducible repeat (first | refine blk_drewN ?_ _ | refine blk_drew ?_ | refine blk_alloc ?_ _)); refine blk_put (cs := #[.int .i64 t106, .int .i64 0, .slice none 0 0]) ?_ 1 _ rfl; (with_reducible repeat (first | refine blk_drewN ?_ _ | refine blk_drew ?_ | refine blk_alloc ?_ _)); refine blk_put (cs := #[.int .i64 0, .int .i64 0, .slice none 0 0]) ?_ 0 _ rfl; (with_reducible repeat (first | refine blk_drewN ?_ _ | refine blk_drew ?_ | refine blk_alloc ?_ _)); exact BK112.out) hb); have n4_ := Aside0.mk (below_step (by repeat (first | (with_reducible first | exact HB.out | apply below_alloc | apply pw_below_drewN | apply below_drew1 | refine below_set ?_ GE112.out) | exact HB.out)) hb); clear HO104; clear HO110; clear BK112; clear HB; have HO104 := n0_; have HO110 := n1_; have HO117 := n2_; have BK112 := n3_; have HB := n4_; clear n0_ n1_ n2_ n3_ n4_; (try clear hb); (try clear hb2); (try clear hk); (try clear hi); (try clear ho0)) | ((with_reducible refine gate_dst (N := 8) rfl ?_); (try (refine gate_guard (by rfl) ?_; dsimp only)); refine box_event ?hg (N := 8) ?hd (cs := #[.int .i64 0, .int .i64 0, .slice none 0 0]) (t := 28) ?hr ?_; (case hd => rfl); (case hg => rfl); (case hr => first | (go_simp; done) | (go_simp; rfl)); intro gb119 hg w25 hbox hb; have n0_ := Aside0.mk (Kd.R_below (by (with_reducible repeat (first | apply Kd.R_alloc | apply Kd.R_drewN | apply Kd.R_drew)); exact HO104.out) hb); have n1_ := Aside0.mk (Kd.S_below (by (with_reducible repeat (first | apply Kd.S_alloc | apply Kd.S_drewN | apply Kd.S_drew)); exact HO110.out) hb); have n2_ := Aside0.mk (Kd.S_below (by (with_reducible repeat (first | apply Kd.S_alloc | apply Kd.S_drewN | apply Kd.S_drew)); exact HO117.out) hb); have n3_ := Aside0.mk (blk_below (g := gb112) (o := .cells #[.int .i64 t106, .int .i64 t107, .slice Ao23 t108.length co23] 28 (0, 0)) (by (with_reducible repeat (first | refine blk_drewN ?_ _ | refine blk_drew ?_ | refine blk_alloc ?_ _)); exact BK112.out) hb); have n4_ := Aside0.mk (below_step (by repeat (first | (with_reducible first | exact HB.out | apply below_alloc | apply pw_below_drewN | apply below_drew1 | refine below_set ?_ GE112.out) | exact HB.out)) hb); have n5_ := Aside0.mk (hbox); have n6_ := Aside0.mk ((by rw [hg]; exact (below_size (by repeat (first | (with_reducible first | exact HB.out | apply below_alloc | apply pw_below_drewN | apply below_drew1 | refine below_set ?_ GE112.out) | exact HB.out))) : w.heap.size ≤ gb119)); have n7_ := Aside0.mk ((by rw [hg]; exact (below_size (by repeat (first | (with_reducible first | exact HB.out | apply below_alloc | apply pw_below_drewN | apply below_drew1 | refine below_set ?_ GE112.out) | exact HB.out))) : w.heap.size ≤ gb119)); have n8_ := Aside0.mk ((by rw [hg]; exact Nat.ne_of_lt (blk_lt (g := gb112) (o := .cells #[.int .i64 t106, .int .i64 t107, .slice Ao23 t108.length co23] 28 (0, 0)) (by (with_reducible repeat (first | refine blk_drewN ?_ _ | refine blk_drew ?_ | refine blk_alloc ?_ _)); exact BK112.out)) : gb112 ≠ gb119)); have n9_ := Aside0.mk ((by rw [hg]; exact Nat.ne_of_gt (blk_lt (g := gb112) (o := .cells #[.int .i64 t106, .int .i64 t107, .slice Ao23 t108.length co23] 28 (0, 0)) (by (with_reducible repeat (first | refine blk_drewN ?_ _ | refine blk_drew ?_ | refine blk_alloc ?_ _)); exact BK112.out)) : gb119 ≠ gb112)); clear HO104; clear HO110; clear HO117; clear BK112; clear HB; have HO104 := n0_; have HO110 := n1_; have HO117 := n2_; have BK112 := n3_; have HB := n4_; have BK119 := n5_; have GW119 := n6_; have GE119 := n7_; have NB112_119 := n8_; have NB119_112 := n9_; clear n0_ n1_ n2_ n3_ n4_ n5_ n6_ n7_ n8_ n9_; clear hb hbox hg; have hnb26 := NB119_112.out; have hnc26 := NB112_119.out; have hcz27_0 : w25.cell? ⟨gb119, 0, none⟩ = some (.int .i64 0) := (blk_cell BK119.out 0).trans rfl; have hcz27_1 : w25.cell? ⟨gb119, 1, none⟩ = some (.int .i64 0) := (blk_cell BK119.out 1).trans rfl; have hcz27_2 : w25.cell? ⟨gb119, 2, none⟩ = some (.slice none 0 0) := (blk_cell BK119.out 2).trans rfl; have hfz27_0 := blk_frozen BK119.out 0; have hfz27_1 := blk_frozen BK119.out 1; have hfz27_2 := blk_frozen BK119.out 2; obtain ⟨Ao28, co28, eo28⟩ := Kd.S_slice HO117.out; subst eo28))
 (try simp only [Act.put, z1_, z2_, z3_])
 go_cut [54] (fun v54 wc => ∃ (kq : Nat) (x54_14 : Bool), v54 = .bool x54_14 ∧ Aside0 (minuetlaw11_ParseBlanks.j0 kq (rdOf ByteArray.empty y102 (Go.bits .and .i64 a1 3)) x54_14 t106 t107 t108 t113 t114 t115 = some r) ∧ Aside0 (kq ≤ k) ∧ Aside0 (Kd.S k34 34 wc w.heap.size (fun k_ => some k_ ≠ ((.slice Ao28 t115.length co28) : Value).ownBlock) (.slice Ao23 t108.length co23) t108) ∧ Aside0 (Kd.S k34 34 wc w.heap.size (fun k_ => some k_ ≠ ((.slice Ao23 t108.length co23) : Value).ownBlock) (.slice Ao28 t115.length co28) t115) ∧ Aside0 (wc.heap[gb112]? = some (.cells #[.int .i64 t106, .int .i64 t107, (.slice Ao23 t108.length co23)] 28 (0, 0))) ∧ Aside0 (wc.heap[gb119]? = some (.cells #[.int .i64 t113, .int .i64 t114, (.slice Ao28 t115.length co28)] 28 (0, 0))) ∧ Aside0 (Below w.heap.size w wc))
 case first =>
  have H := HC15.out
  clear HC15
  replace H := Option.bind_eq_some_iff.mp H
  obtain ⟨t120, A290, H⟩ := H
  replace H : (if t120 = 0 then ((minuetlaw0_Num.f t118).bind fun t121 => (if t121 = 0 then (minuetlaw11_ParseBlanks.j0 k (rdOf ByteArray.empty y102 (Go.bits .and .i64 a1 3)) ((t108.length : Int) != (t115.length : Int)) t106 t107 t108 t113 t114 t115) else (minuetlaw11_ParseBlanks.j0 k (rdOf ByteArray.empty y102 (Go.bits .and .i64 a1 3)) true t106 t107 t108 t113 t114 t115))) else (minuetlaw11_ParseBlanks.j0 k (rdOf ByteArray.empty y102 (Go.bits .and .i64 a1 3)) true t106 t107 t108 t113 t114 t115)) = some r := H
  have A29 := Aside0.mk A290
  clear A290
  by_cases c30 : t120 = 0
  rotate_left
  ·rw [if_neg c30] at H
   have c30b0 : (t120 == 0) = false := beq_eq_false_iff_ne.mpr c30
   have c30b1 : (t120 != 0) = true := bne_iff_ne.mpr c30
   (first | rw [c30b0] | (simp only [i64_w, i32_w]; rw [c30b0]) | skip)
   have H' := Aside0.mk H
   clear H
   go_wp2_with (first | ((with_reducible refine gate_callee (f := 15) rfl ?_); refine goesL_ (some 39) rfl rfl Try.func15 (by kernel_rfl) rfl #[.int .i64 t111] rfl (by (try simp only [List.map_toArray, List.map_cons, List.map_nil]); first | done | rfl | (simp only [List.length_drop, List.length_take]; rfl)) ?_; (with_reducible refine (minuetlaw0_Num.calls t111 t120 _ A29.out).mono ?_); rintro e w' ⟨rfl, ⟨nd, rfl⟩⟩; refine ⟨_, rfl, ?_⟩))
   go_meet
   case rel => exact ⟨_, (true), (by first | rfl | (simp; done) | (simp [*]; done)), H', ⟨by first | omega | exact Nat.le_refl _⟩, ⟨by (with_reducible repeat (first | apply Kd.S_alloc | apply Kd.S_drewN | apply Kd.S_drew)); exact Kd.S_mono (Kd.S_far (p := ⟨gb119, 2, none⟩) (Kd.S_far (p := ⟨gb119, 1, none⟩) (Kd.S_far (p := ⟨gb119, 0, none⟩) (Kd.S_types HO110.out BK119.out (by decide)) (fun _ hk => hk.2) (.int .i64 t113)) (fun _ hk => hk.2) (.int .i64 t114)) (fun _ hk => hk.2) (.slice Ao28 t115.length co28)) (fun _ hk => hk.1.2)⟩, ⟨by (with_reducible repeat (first | apply Kd.S_alloc | apply Kd.S_drewN | apply Kd.S_drew)); exact Kd.S_mono (Kd.S_far (p := ⟨gb119, 2, none⟩) (Kd.S_far (p := ⟨gb119, 1, none⟩) (Kd.S_far (p := ⟨gb119, 0, none⟩) (Kd.S_types HO117.out BK119.out (by decide)) (fun _ hk => hk.2) (.int .i64 t113)) (fun _ hk => hk.2) (.int .i64 t114)) (fun _ hk => hk.2) (.slice Ao28 t115.length co28)) (fun _ hk => hk.1.2)⟩, ⟨by (with_reducible repeat (first | refine blk_drewN ?_ _ | refine blk_drew ?_ | refine blk_alloc ?_ _)); refine blk_far ?_ NB112_119.out _; (with_reducible repeat (first | refine blk_drewN ?_ _ | refine blk_drew ?_ | refine blk_alloc ?_ _)); refine blk_far ?_ NB112_119.out _; (with_reducible repeat (first | refine blk_drewN ?_ _ | refine blk_drew ?_ | refine blk_alloc ?_ _)); refine blk_far ?_ NB112_119.out _; (with_reducible repeat (first | refine blk_drewN ?_ _ | refine blk_drew ?_ | refine blk_alloc ?_ _)); exact BK112.out⟩, ⟨by (with_reducible repeat (first | refine blk_drewN ?_ _ | refine blk_drew ?_ | refine blk_alloc ?_ _)); refine blk_put (cs := #[.int .i64 t113, .int .i64 t114, .slice none 0 0]) ?_ 2 _ rfl; (with_reducible repeat (first | refine blk_drewN ?_ _ | refine blk_drew ?_ | refine blk_alloc ?_ _)); refine blk_put (cs := #[.int .i64 t113, .int .i64 0, .slice none 0 0]) ?_ 1 _ rfl; (with_reducible repeat (first | refine blk_drewN ?_ _ | refine blk_drew ?_ | refine blk_alloc ?_ _)); refine blk_put (cs := #[.int .i64 0, .int .i64 0, .slice none 0 0]) ?_ 0 _ rfl; (with_reducible repeat (first | refine blk_drewN ?_ _ | refine blk_drew ?_ | refine blk_alloc ?_ _)); exact BK119.out⟩, ⟨by repeat (first | (with_reducible first | exact HB.out | apply below_alloc | apply pw_below_drewN | apply below_drew1 | refine below_set ?_ GE112.out | refine below_set ?_ GE119.out) | exact HB.out)⟩⟩
  rw [if_pos c30] at H
  have c30b0 : (t120 == 0) = true := beq_iff_eq.mpr c30
  have c30b1 : (t120 != 0) = false := bne_eq_false_iff_eq.mpr c30
  clear c30
  (first | rw [c30b0] | (simp only [i64_w, i32_w]; rw [c30b0]) | skip)
  replace H := Option.bind_eq_some_iff.mp H
  obtain ⟨t121, A310, H⟩ := H
  replace H : (if t121 = 0 then (minuetlaw11_ParseBlanks.j0 k (rdOf ByteArray.empty y102 (Go.bits .and .i64 a1 3)) ((t108.length : Int) != (t115.length : Int)) t106 t107 t108 t113 t114 t115) else (minuetlaw11_ParseBlanks.j0 k (rdOf ByteArray.empty y102 (Go.bits .and .i64 a1 3)) true t106 t107 t108 t113 t114 t115)) = some r := H
  have A31 := Aside0.mk A310
  clear A310
  by_cases c32 : t121 = 0
  rotate_left
  ·rw [if_neg c32] at H
   have c32b0 : (t121 == 0) = false := beq_eq_false_iff_ne.mpr c32
   have c32b1 : (t121 != 0) = true := bne_iff_ne.mpr c32
   have H' := Aside0.mk H
   clear H
   go_wp2_with (first | ((with_reducible refine gate_callee (f := 15) rfl ?_); refine goesL_ (some 39) rfl rfl Try.func15 (by kernel_rfl) rfl #[.int .i64 t111] rfl (by (try simp only [List.map_toArray, List.map_cons, List.map_nil]); first | done | rfl | (simp only [List.length_drop, List.length_take]; rfl)) ?_; (with_reducible refine (minuetlaw0_Num.calls t111 t120 _ A29.out).mono ?_); rintro e w' ⟨rfl, ⟨nd, rfl⟩⟩; refine ⟨_, rfl, ?_⟩) | (go_at_call 15; (with_reducible refine (minuetlaw0_Num.calls t118 t121 _ A31.out).mono ?_); rintro e w' ⟨rfl, ⟨nd, rfl⟩⟩))
   go_meet
   case rel => exact ⟨_, (true), (by first | rfl | (simp; done) | (simp [*]; done)), H', ⟨by first | omega | exact Nat.le_refl _⟩, ⟨by (with_reducible repeat (first | apply Kd.S_alloc | apply Kd.S_drewN | apply Kd.S_drew)); exact Kd.S_mono (Kd.S_far (p := ⟨gb119, 2, none⟩) (Kd.S_far (p := ⟨gb119, 1, none⟩) (Kd.S_far (p := ⟨gb119, 0, none⟩) (Kd.S_types HO110.out BK119.out (by decide)) (fun _ hk => hk.2) (.int .i64 t113)) (fun _ hk => hk.2) (.int .i64 t114)) (fun _ hk => hk.2) (.slice Ao28 t115.length co28)) (fun _ hk => hk.1.2)⟩, ⟨by (with_reducible repeat (first | apply Kd.S_alloc | apply Kd.S_drewN | apply Kd.S_drew)); exact Kd.S_mono (Kd.S_far (p := ⟨gb119, 2, none⟩) (Kd.S_far (p := ⟨gb119, 1, none⟩) (Kd.S_far (p := ⟨gb119, 0, none⟩) (Kd.S_types HO117.out BK119.out (by decide)) (fun _ hk => hk.2) (.int .i64 t113)) (fun _ hk => hk.2) (.int .i64 t114)) (fun _ hk => hk.2) (.slice Ao28 t115.length co28)) (fun _ hk => hk.1.2)⟩, ⟨by (with_reducible repeat (first | refine blk_drewN ?_ _ | refine blk_drew ?_ | refine blk_alloc ?_ _)); refine blk_far ?_ NB112_119.out _; (with_reducible repeat (first | refine blk_drewN ?_ _ | refine blk_drew ?_ | refine blk_alloc ?_ _)); refine blk_far ?_ NB112_119.out _; (with_reducible repeat (first | refine blk_drewN ?_ _ | refine blk_drew ?_ | refine blk_alloc ?_ _)); refine blk_far ?_ NB112_119.out _; (with_reducible repeat (first | refine blk_drewN ?_ _ | refine blk_drew ?_ | refine blk_alloc ?_ _)); exact BK112.out⟩, ⟨by (with_reducible repeat (first | refine blk_drewN ?_ _ | refine blk_drew ?_ | refine blk_alloc ?_ _)); refine blk_put (cs := #[.int .i64 t113, .int .i64 t114, .slice none 0 0]) ?_ 2 _ rfl; (with_reducible repeat (first | refine blk_drewN ?_ _ | refine blk_drew ?_ | refine blk_alloc ?_ _)); refine blk_put (cs := #[.int .i64 t113, .int .i64 0, .slice none 0 0]) ?_ 1 _ rfl; (with_reducible repeat (first | refine blk_drewN ?_ _ | refine blk_drew ?_ | refine blk_alloc ?_ _)); refine blk_put (cs := #[.int .i64 0, .int .i64 0, .slice none 0 0]) ?_ 0 _ rfl; (with_reducible repeat (first | refine blk_drewN ?_ _ | refine blk_drew ?_ | refine blk_alloc ?_ _)); exact BK119.out⟩, ⟨by repeat (first | (with_reducible first | exact HB.out | apply below_alloc | apply pw_below_drewN | apply below_drew1 | refine below_set ?_ GE112.out | refine below_set ?_ GE119.out) | exact HB.out)⟩⟩
  rw [if_pos c32] at H
  have c32b0 : (t121 == 0) = true := beq_iff_eq.mpr c32
  have c32b1 : (t121 != 0) = false := bne_eq_false_iff_eq.mpr c32
  clear c32
  have H' := Aside0.mk H
  clear H
  go_wp2_with (first | ((with_reducible refine gate_callee (f := 15) rfl ?_); refine goesL_ (some 39) rfl rfl Try.func15 (by kernel_rfl) rfl #[.int .i64 t111] rfl (by (try simp only [List.map_toArray, List.map_cons, List.map_nil]); first | done | rfl | (simp only [List.length_drop, List.length_take]; rfl)) ?_; (with_reducible refine (minuetlaw0_Num.calls t111 t120 _ A29.out).mono ?_); rintro e w' ⟨rfl, ⟨nd, rfl⟩⟩; refine ⟨_, rfl, ?_⟩) | (go_at_call 15; (with_reducible refine (minuetlaw0_Num.calls t118 t121 _ A31.out).mono ?_); rintro e w' ⟨rfl, ⟨nd, rfl⟩⟩; have hnb33 := NB112_119.out; have hnc33 := NB119_112.out; have hcz34_0 : w25.cell? ⟨gb112, 0, none⟩ = some (.int .i64 t106) := (blk_cell BK112.out 0).trans rfl; have hcz34_1 : w25.cell? ⟨gb112, 1, none⟩ = some (.int .i64 t107) := (blk_cell BK112.out 1).trans rfl; have hcz34_2 : w25.cell? ⟨gb112, 2, none⟩ = some (.slice Ao23 t108.length co23) := (blk_cell BK112.out 2).trans rfl; have hfz34_0 := blk_frozen BK112.out 0; have hfz34_1 := blk_frozen BK112.out 1; have hfz34_2 := blk_frozen BK112.out 2; have hcz35_0 : w25.cell? ⟨gb119, 0, none⟩ = some (.int .i64 0) := (blk_cell BK119.out 0).trans rfl; have hcz35_1 : w25.cell? ⟨gb119, 1, none⟩ = some (.int .i64 0) := (blk_cell BK119.out 1).trans rfl; have hcz35_2 : w25.cell? ⟨gb119, 2, none⟩ = some (.slice none 0 0) := (blk_cell BK119.out 2).trans rfl; have hfz35_0 := blk_frozen BK119.out 0; have hfz35_1 := blk_frozen BK119.out 1; have hfz35_2 := blk_frozen BK119.out 2))
  go_meet
  case rel => exact ⟨_, (((t108.length : Int) != (t115.length : Int))), (by first | rfl | (simp; done) | (simp [*]; done)), H', ⟨by first | omega | exact Nat.le_refl _⟩, ⟨by (with_reducible repeat (first | apply Kd.S_alloc | apply Kd.S_drewN | apply Kd.S_drew)); exact Kd.S_mono (Kd.S_far (p := ⟨gb119, 2, none⟩) (Kd.S_far (p := ⟨gb119, 1, none⟩) (Kd.S_far (p := ⟨gb119, 0, none⟩) (Kd.S_types HO110.out BK119.out (by decide)) (fun _ hk => hk.2) (.int .i64 t113)) (fun _ hk => hk.2) (.int .i64 t114)) (fun _ hk => hk.2) (.slice Ao28 t115.length co28)) (fun _ hk => hk.1.2)⟩, ⟨by (with_reducible repeat (first | apply Kd.S_alloc | apply Kd.S_drewN | apply Kd.S_drew)); exact Kd.S_mono (Kd.S_far (p := ⟨gb119, 2, none⟩) (Kd.S_far (p := ⟨gb119, 1, none⟩) (Kd.S_far (p := ⟨gb119, 0, none⟩) (Kd.S_types HO117.out BK119.out (by decide)) (fun _ hk => hk.2) (.int .i64 t113)) (fun _ hk => hk.2) (.int .i64 t114)) (fun _ hk => hk.2) (.slice Ao28 t115.length co28)) (fun _ hk => hk.1.2)⟩, ⟨by (with_reducible repeat (first | refine blk_drewN ?_ _ | refine blk_drew ?_ | refine blk_alloc ?_ _)); refine blk_far ?_ NB112_119.out _; (with_reducible repeat (first | refine blk_drewN ?_ _ | refine blk_drew ?_ | refine blk_alloc ?_ _)); refine blk_far ?_ NB112_119.out _; (with_reducible repeat (first | refine blk_drewN ?_ _ | refine blk_drew ?_ | refine blk_alloc ?_ _)); refine blk_far ?_ NB112_119.out _; (with_reducible repeat (first | refine blk_drewN ?_ _ | refine blk_drew ?_ | refine blk_alloc ?_ _)); exact BK112.out⟩, ⟨by (with_reducible repeat (first | refine blk_drewN ?_ _ | refine blk_drew ?_ | refine blk_alloc ?_ _)); refine blk_put (cs := #[.int .i64 t113, .int .i64 t114, .slice none 0 0]) ?_ 2 _ rfl; (with_reducible repeat (first | refine blk_drewN ?_ _ | refine blk_drew ?_ | refine blk_alloc ?_ _)); refine blk_put (cs := #[.int .i64 t113, .int .i64 0, .slice none 0 0]) ?_ 1 _ rfl; (with_reducible repeat (first | refine blk_drewN ?_ _ | refine blk_drew ?_ | refine blk_alloc ?_ _)); refine blk_put (cs := #[.int .i64 0, .int .i64 0, .slice none 0 0]) ?_ 0 _ rfl; (with_reducible repeat (first | refine blk_drewN ?_ _ | refine blk_drew ?_ | refine blk_alloc ?_ _)); exact BK119.out⟩, ⟨by repeat (first | (with_reducible first | exact HB.out | apply below_alloc | apply pw_below_drewN | apply below_drew1 | refine below_set ?_ GE112.out | refine below_set ?_ GE119.out) | exact HB.out)⟩⟩
 case rest =>
  clear HC15
  try clear c1
  try clear p1
  try clear q1
  try clear hx1
  try clear c2
  try clear p2
  try clear c3
  try clear c4
  try clear c5
  try clear c5b0
  try clear c6
  try clear c6b0
  try clear p6
  try clear c7
  try clear c7b0
  try clear p10
  try clear q10
  try clear hx10
  try clear c11
  try clear c13
  try clear c13b0
  try clear c13b1
  try clear c13b2
  try clear c14
  try clear c15
  try clear c19
  try clear c26
  try clear c30
  try clear c30b0
  try clear c30b1
  try clear c32
  try clear c32b0
  try clear c32b1
  try clear c33
  try clear hcz22_0
  try clear hcz22_1
  try clear hcz22_2
  try clear hcz27_0
  try clear hcz27_1
  try clear hcz27_2
  try clear hcz34_0
  try clear hcz34_1
  try clear hcz34_2
  try clear hcz35_0
  try clear hcz35_1
  try clear hcz35_2
  try clear hfz22_0
  try clear hfz22_1
  try clear hfz22_2
  try clear hfz27_0
  try clear hfz27_1
  try clear hfz27_2
  try clear hfz34_0
  try clear hfz34_1
  try clear hfz34_2
  try clear hfz35_0
  try clear hfz35_1
  try clear hfz35_2
  try clear hx105_0
  try clear p105
  try clear q105
  obtain ⟨kq, x54_14, rfl, HA, HJ14, HO_113002, HO_120002, BK112, BK119, HB⟩ := hcut
  cases kq with
  | zero => exact absurd HA.out (by simp [minuetlaw11_ParseBlanks.j0])
  | succ kj14 =>
   have H := HA.out
   clear HA
   simp only [minuetlaw11_ParseBlanks.j0] at H
   by_cases c36 : x54_14 = true
   ·subst c36
    have H1 : (none) = some r := by rw [if_pos rfl] at H; exact H
    clear H
    have H := H1
    clear H1
    exact absurd H (by simp)
   replace c36 := Bool.eq_false_iff.mpr c36
   subst c36
   have H1 : (minuetlaw11_ParseBlanks.l0 kj14 (rdOf ByteArray.empty y102 (Go.bits .and .i64 a1 3)) 0 t106 t107 t108 t113 t114 t115) = some r := by rw [if_neg (show ¬ (false = true) by decide)] at H; exact H
   clear H
   have H := H1
   clear H1
   have H' := Aside0.mk H
   clear H
   go_wp2
   go_loopg [10] kj14 (fun kq v10 w' => ∃ (x10_2 : Int), v10 = .int .i64 x10_2 ∧ Aside0 (minuetlaw11_ParseBlanks.l0 kq (rdOf ByteArray.empty y102 (Go.bits .and .i64 a1 3)) x10_2 t106 t107 t108 t113 t114 t115 = some r) ∧ Aside0 (kq ≤ kj14) ∧ Aside0 (Kd.S k34 34 w' w.heap.size (fun k_ => some k_ ≠ ((.slice Ao28 t115.length co28) : Value).ownBlock) (.slice Ao23 t108.length co23) t108) ∧ Aside0 (Kd.S k34 34 w' w.heap.size (fun k_ => some k_ ≠ ((.slice Ao23 t108.length co23) : Value).ownBlock) (.slice Ao28 t115.length co28) t115) ∧ Aside0 (w'.heap[gb112]? = some (.cells #[.int .i64 t106, .int .i64 t107, (.slice Ao23 t108.length co23)] 28 (0, 0))) ∧ Aside0 (w'.heap[gb119]? = some (.cells #[.int .i64 t113, .int .i64 t114, (.slice Ao28 t115.length co28)] 28 (0, 0))) ∧ Aside0 (Below w.heap.size w w'))
   case atStart => exact ⟨(0), (by first | rfl | (simp; done) | (simp [*]; done)), H', ⟨Nat.le_refl _⟩, ⟨by (with_reducible repeat (first | apply Kd.S_alloc | apply Kd.S_drewN | apply Kd.S_drew)); exact HO_113002.out⟩, ⟨by (with_reducible repeat (first | apply Kd.S_alloc | apply Kd.S_drewN | apply Kd.S_drew)); exact HO_120002.out⟩, ⟨by (with_reducible repeat (first | refine blk_drewN ?_ _ | refine blk_drew ?_ | refine blk_alloc ?_ _)); exact BK112.out⟩, ⟨by (with_reducible repeat (first | refine blk_drewN ?_ _ | refine blk_drew ?_ | refine blk_alloc ?_ _)); exact BK119.out⟩, ⟨by repeat (first | (with_reducible first | exact HB.out | apply below_alloc | apply pw_below_drewN | apply below_drew1 | refine below_set ?_ GE112.out | refine below_set ?_ GE119.out) | exact HB.out)⟩⟩
   case round =>
    clear H'
    try clear c1
    try clear p1
    try clear q1
    try clear hx1
    try clear c2
    try clear p2
    try clear c3
    try clear c4
    try clear c5
    try clear c5b0
    try clear c6
    try clear c6b0
    try clear p6
    try clear c7
    try clear c7b0
    try clear p10
    try clear q10
    try clear hx10
    try clear c11
    try clear c13
    try clear c13b0
    try clear c13b1
    try clear c13b2
    try clear c14
    try clear c15
    try clear c19
    try clear c26
    try clear c30
    try clear c30b0
    try clear c30b1
    try clear c32
    try clear c32b0
    try clear c32b1
    try clear c33
    try clear c36
    try clear hcz22_0
    try clear hcz22_1
    try clear hcz22_2
    try clear hcz27_0
    try clear hcz27_1
    try clear hcz27_2
    try clear hcz34_0
    try clear hcz34_1
    try clear hcz34_2
    try clear hcz35_0
    try clear hcz35_1
    try clear hcz35_2
    try clear hfz22_0
    try clear hfz22_1
    try clear hfz22_2
    try clear hfz27_0
    try clear hfz27_1
    try clear hfz27_2
    try clear hfz34_0
    try clear hfz34_1
    try clear hfz34_2
    try clear hfz35_0
    try clear hfz35_1
    try clear hfz35_2
    try clear hx105_0
    try clear p1
    try clear p10
    try clear p105
    try clear p2
    try clear p6
    try clear q1
    try clear q10
    try clear q105
    obtain ⟨x10_2, rfl, HA, HK2, HO_113002, HO_120002, BK112, BK119, HB⟩ := hrel
    cases gk with
    | zero => exact absurd HA.out (by simp [minuetlaw11_ParseBlanks.l0])
    | succ k2 =>
     have H := HA.out
     clear HA
     simp only [minuetlaw11_ParseBlanks.l0] at H
     by_cases c37 : x10_2 < (t108.length : Int)
     rotate_left
     ·rw [if_neg c37] at H
      have c37b0 : decide (x10_2 < (t108.length : Int)) = false := decide_eq_false c37
      clear c37
      obtain rfl := Option.some.inj H
      have hnb99 := NB112_119.out
      have hnc99 := NB119_112.out
      have hcz100_0 : wr.cell? ⟨gb112, 0, none⟩ = some (.int .i64 t106) := (blk_cell BK112.out 0).trans rfl
      have hcz100_1 : wr.cell? ⟨gb112, 1, none⟩ = some (.int .i64 t107) := (blk_cell BK112.out 1).trans rfl
      have hcz100_2 : wr.cell? ⟨gb112, 2, none⟩ = some (.slice Ao23 t108.length co23) := (blk_cell BK112.out 2).trans rfl
      have hfz100_0 := blk_frozen BK112.out 0
      have hfz100_1 := blk_frozen BK112.out 1
      have hfz100_2 := blk_frozen BK112.out 2
      go_wp2
      go_ret
      exact ⟨by first | rfl | (simp [errW_none, errW_some] <;> rfl) | (simp [*, errW_none, errW_some] <;> rfl), by repeat (first | (with_reducible first | exact HB.out | apply below_alloc | apply pw_below_drewN | apply below_drew1 | refine below_set ?_ GE112.out | refine below_set ?_ GE119.out) | exact HB.out)⟩
     rw [if_pos c37] at H
     have c37b0 : decide (x10_2 < (t108.length : Int)) = true := decide_eq_true c37
     clear c37
     by_cases c38 : 0 ≤ x10_2
     rotate_left
     ·rw [if_neg c38] at H
      exact absurd H (by simp)
     rw [if_pos c38] at H
     have c38b0 : decide (0 ≤ x10_2) = true := decide_eq_true c38
     clear c38
     by_cases c39 : x10_2 < (t115.length : Int)
     rotate_left
     ·rw [if_neg c39] at H
      exact absurd H (by simp)
     rw [if_pos c39] at H
     have c39b0 : decide (x10_2 < (t115.length : Int)) = true := decide_eq_true c39
     clear c39
     by_cases c40 : ((rd_T34 t108 x10_2).f1) = 0
     ·rw [if_pos c40] at H
      have c40b0 : (((rd_T34 t108 x10_2).f1) == 0) = true := beq_iff_eq.mpr c40
      have c40b1 : (((rd_T34 t108 x10_2).f1) != 0) = false := bne_eq_false_iff_eq.mpr c40
      clear c40
      by_cases c41 : ((rd_T34 t108 x10_2).f0) = ((rd_T34 t115 x10_2).f0)
      rotate_left
      ·rw [if_neg c41] at H
       exact absurd H (by simp)
      rw [if_pos c41] at H
      have c41b0 : (((rd_T34 t108 x10_2).f0) == ((rd_T34 t115 x10_2).f0)) = true := beq_iff_eq.mpr c41
      have c41b1 : (((rd_T34 t108 x10_2).f0) != ((rd_T34 t115 x10_2).f0)) = false := bne_eq_false_iff_eq.mpr c41
      clear c41
      by_cases c42 : ((rd_T34 t108 x10_2).f1) = ((rd_T34 t115 x10_2).f1)
      rotate_left
      ·rw [if_neg c42] at H
       exact absurd H (by simp)
      rw [if_pos c42] at H
      have c42b0 : (((rd_T34 t108 x10_2).f1) == ((rd_T34 t115 x10_2).f1)) = true := beq_iff_eq.mpr c42
      have c42b1 : (((rd_T34 t108 x10_2).f1) != ((rd_T34 t115 x10_2).f1)) = false := bne_eq_false_iff_eq.mpr c42
      clear c42
      by_cases c43 : ((rd_T34 t108 x10_2).f2) = ((rd_T34 t115 x10_2).f2)
      rotate_left
      ·rw [if_neg c43] at H
       exact absurd H (by simp)
      rw [if_pos c43] at H
      have c43b0 : (((rd_T34 t108 x10_2).f2) == ((rd_T34 t115 x10_2).f2)) = true := beq_iff_eq.mpr c43
      have c43b1 : (((rd_T34 t108 x10_2).f2) != ((rd_T34 t115 x10_2).f2)) = false := bne_eq_false_iff_eq.mpr c43
      clear c43
      by_cases c44 : ((rd_T34 t108 x10_2).f3) = (wrap64 (((rd_T34 t115 x10_2).f3) - ((rdOf ByteArray.empty y102 (Go.bits .and .i64 a1 3)).size : Int)))
      rotate_left
      ·rw [if_neg c44] at H
       exact absurd H (by simp)
      rw [if_pos c44] at H
      have c44b0 : (((rd_T34 t108 x10_2).f3) == (wrap64 (((rd_T34 t115 x10_2).f3) - ((rdOf ByteArray.empty y102 (Go.bits .and .i64 a1 3)).size : Int)))) = true := beq_iff_eq.mpr c44
      have c44b1 : (((rd_T34 t108 x10_2).f3) != (wrap64 (((rd_T34 t115 x10_2).f3) - ((rdOf ByteArray.empty y102 (Go.bits .and .i64 a1 3)).size : Int)))) = false := bne_eq_false_iff_eq.mpr c44
      clear c44
      replace H := Option.bind_eq_some_iff.mp H
      obtain ⟨t126, A450, H⟩ := H
      replace H : (if t126 = true then (minuetlaw11_ParseBlanks.l0 k2 (rdOf ByteArray.empty y102 (Go.bits .and .i64 a1 3)) (wrap64 (x10_2 + 1)) t106 t107 t108 t113 t114 t115) else (none)) = some r := H
      have A45 := Aside0.mk A450
      clear A450
      by_cases c46 : t126 = true
      rotate_left
      ·replace c46 := Bool.eq_false_iff.mpr c46
       subst c46
       have H1 : (none) = some r := by rw [if_neg (show ¬ (false = true) by decide)] at H; exact H
       clear H
       have H := H1
       clear H1
       exact absurd H (by simp)
      subst c46
      have H1 : (minuetlaw11_ParseBlanks.l0 k2 (rdOf ByteArray.empty y102 (Go.bits .and .i64 a1 3)) (wrap64 (x10_2 + 1)) t106 t107 t108 t113 t114 t115) = some r := by rw [if_pos rfl] at H; exact H
      clear H
      have H := H1
      clear H1
      have H' := Aside0.mk H
      clear H
      have hnb47 := NB112_119.out
      have hnc47 := NB119_112.out
      have hcz48_0 : wr.cell? ⟨gb112, 0, none⟩ = some (.int .i64 t106) := (blk_cell BK112.out 0).trans rfl
      have hcz48_1 : wr.cell? ⟨gb112, 1, none⟩ = some (.int .i64 t107) := (blk_cell BK112.out 1).trans rfl
      have hcz48_2 : wr.cell? ⟨gb112, 2, none⟩ = some (.slice Ao23 t108.length co23) := (blk_cell BK112.out 2).trans rfl
      have hfz48_0 := blk_frozen BK112.out 0
      have hfz48_1 := blk_frozen BK112.out 1
      have hfz48_2 := blk_frozen BK112.out 2
      try go_wp2
      have n0_ := Aside0.mk (Kd.S_drew HO_113002.out)
      have n1_ := Aside0.mk (Kd.S_drew HO_120002.out)
      have n2_ := Aside0.mk (blk_drew BK112.out)
      have n3_ := Aside0.mk (blk_drew BK119.out)
      have n4_ := Aside0.mk (below_drew1 HB.out)
      clear HO_113002
      clear HO_120002
      clear BK112
      clear BK119
      clear HB
      have HO_113002 := n0_
      have HO_120002 := n1_
      have BK112 := n2_
      have BK119 := n3_
      have HB := n4_
      clear n0_ n1_ n2_ n3_ n4_
      have p122 : 0 ≤ (x10_2 : Int) := of_decide_eq_true (by first | (with_reducible assumption) | assumption)
      have q122 : x10_2 < (t108.length : Int) := of_decide_eq_true (by first | (with_reducible assumption) | assumption)
      obtain ⟨ad122, A122_4, c122_4, e122, hx122_0, hx122_1, hx122_2, hx122_3, hx122_4, hl122_4, hi122_4⟩ := at_T34 (Kd.S_reads' HO_113002.out).2.2 x10_2 p122 q122
      cases e122
      obtain ⟨ce122, hce122, hMe122, hcc122⟩ := Kd.S_get HO_113002.out z34 x10_2 p122 (by first | exact q122 | exact of_decide_eq_true (by first | (with_reducible assumption) | assumption) | (have e_ := (Kd.S_reads' HO_113002.out).1; omega))
      obtain ⟨ve122_4, rfl, ge122_4⟩ := k34_openM hMe122
      have hv122_4 := hcc122 4 _ rfl
      rw [add_field _ _ 4 (by omega)] at hv122_4
      replace hv122_4 := Option.some.inj (hv122_4.symm.trans hx122_4)
      rw [hv122_4] at ge122_4
      have HL122_4 := Aside0.mk (show Kd.R (Kd.int .i64) 3 _ _ _ _ ((rd_T34 t108 x10_2).f4) from ge122_4)
      clear hv122_4 ge122_4
      clear hcc122 hce122
      have HR122_4 := Aside0.mk hi122_4
      have HC122_4 := Aside0.mk hl122_4
      clear hi122_4 hl122_4
      replace p122 := eq_true p122
      replace q122 := eq_true q122
      have p123 : 0 ≤ (x10_2 : Int) := of_decide_eq_true (by first | (with_reducible assumption) | assumption)
      have q123 : x10_2 < (t115.length : Int) := of_decide_eq_true (by first | (with_reducible assumption) | assumption)
      obtain ⟨ad123, A123_4, c123_4, e123, hx123_0, hx123_1, hx123_2, hx123_3, hx123_4, hl123_4, hi123_4⟩ := at_T34 (Kd.S_reads' HO_120002.out).2.2 x10_2 p123 q123
      cases e123
      obtain ⟨ce123, hce123, hMe123, hcc123⟩ := Kd.S_get HO_120002.out z34 x10_2 p123 (by first | exact q123 | exact of_decide_eq_true (by first | (with_reducible assumption) | assumption) | (have e_ := (Kd.S_reads' HO_120002.out).1; omega))
      obtain ⟨ve123_4, rfl, ge123_4⟩ := k34_openM hMe123
      have hv123_4 := hcc123 4 _ rfl
      rw [add_field _ _ 4 (by omega)] at hv123_4
      replace hv123_4 := Option.some.inj (hv123_4.symm.trans hx123_4)
      rw [hv123_4] at ge123_4
      have HL123_4 := Aside0.mk (show Kd.R (Kd.int .i64) 3 _ _ _ _ ((rd_T34 t115 x10_2).f4) from ge123_4)
      clear hv123_4 ge123_4
      clear hcc123 hce123
      have HR123_4 := Aside0.mk hi123_4
      have HC123_4 := Aside0.mk hl123_4
      clear hi123_4 hl123_4
      replace p123 := eq_true p123
      replace q123 := eq_true q123
      refine start_ (n := 14) (S := fun w' => w'.cell? ⟨gb112, 0, none⟩ = some (.int .i64 t106) ∧ w'.cell? ⟨gb112, 1, none⟩ = some (.int .i64 t107) ∧ w'.cell? ⟨gb112, 2, none⟩ = some (.slice (some ad122) t108.length co23) ∧ w'.cell? ⟨gb119, 0, none⟩ = some (.int .i64 t113) ∧ w'.cell? ⟨gb119, 1, none⟩ = some (.int .i64 t114) ∧ w'.cell? ⟨gb119, 2, none⟩ = some (.slice (some ad123) t115.length co28) ∧ w'.cell? (ad122.add ((x10_2).toNat * 5)) = some (.int .i64 ((rd_T34 t108 x10_2).f0)) ∧ w'.cell? ⟨(ad122.add ((x10_2).toNat * 5)).block, (ad122.add ((x10_2).toNat * 5)).off + 1, none⟩ = some (.int .i64 ((rd_T34 t108 x10_2).f1)) ∧ w'.cell? ⟨(ad122.add ((x10_2).toNat * 5)).block, (ad122.add ((x10_2).toNat * 5)).off + 2, none⟩ = some (.int .i64 ((rd_T34 t108 x10_2).f2)) ∧ w'.cell? ⟨(ad122.add ((x10_2).toNat * 5)).block, (ad122.add ((x10_2).toNat * 5)).off + 3, none⟩ = some (.int .i64 ((rd_T34 t108 x10_2).f3)) ∧ w'.cell? ⟨(ad122.add ((x10_2).toNat * 5)).block, (ad122.add ((x10_2).toNat * 5)).off + 4, none⟩ = some (.slice A122_4 ((rd_T34 t108 x10_2).f4).length c122_4) ∧ w'.cell? (ad123.add ((x10_2).toNat * 5)) = some (.int .i64 ((rd_T34 t115 x10_2).f0)) ∧ w'.cell? ⟨(ad123.add ((x10_2).toNat * 5)).block, (ad123.add ((x10_2).toNat * 5)).off + 1, none⟩ = some (.int .i64 ((rd_T34 t115 x10_2).f1)) ∧ w'.cell? ⟨(ad123.add ((x10_2).toNat * 5)).block, (ad123.add ((x10_2).toNat * 5)).off + 2, none⟩ = some (.int .i64 ((rd_T34 t115 x10_2).f2)) ∧ w'.cell? ⟨(ad123.add ((x10_2).toNat * 5)).block, (ad123.add ((x10_2).toNat * 5)).off + 3, none⟩ = some (.int .i64 ((rd_T34 t115 x10_2).f3)) ∧ w'.cell? ⟨(ad123.add ((x10_2).toNat * 5)).block, (ad123.add ((x10_2).toNat * 5)).off + 4, none⟩ = some (.slice A123_4 ((rd_T34 t115 x10_2).f4).length c123_4)) (ds := []) #[false, false, false, false, false, false, false, false, false, false, false, false, false, false] (by kernel_rfl) rfl rfl ⟨(blk_cell BK112.out 0).trans rfl, (blk_cell BK112.out 1).trans rfl, (blk_cell BK112.out 2).trans rfl, (blk_cell BK119.out 0).trans rfl, (blk_cell BK119.out 1).trans rfl, (blk_cell BK119.out 2).trans rfl, hx122_0, hx122_1, hx122_2, hx122_3, hx122_4, hx123_0, hx123_1, hx123_2, hx123_3, hx123_4⟩ (fun hHeld => ?_); refine with_tabW minuetlaw11_ParseBlanks.tab13 minuetlaw11_ParseBlanks.bits13 (fun HT_ HW_ => ?_)
      generalize wr.drew = w49 at HO_113002 HO_120002 BK112 BK119 HB HL122_4 HL123_4 HR122_4 HR123_4 hx122_0 hx122_1 hx122_2 hx122_3 hx122_4 hx123_0 hx123_1 hx123_2 hx123_3 hx123_4 hHeld ⊢
      refine pure_ (i := 0) (N := some 62) (v := ?_) (a' := ?_) #[true, false, false, false, false, false, false, false, false, false, false, false, false, false] rfl rfl (any_of HT_.out (by kernel_rfl)) (fun _ _ _ h => h) (Or.inl ⟨by rfl, ?_⟩) ?_ ?_
      rotate_left
      ·intro w'
       go_simp
       with_reducible rfl
      rotate_left
      ·simp only [Act.put, z1_, z2_, z3_, i64_w, i32_w]
       rfl
      refine pure_ (i := 2) (N := some 64) (v := ?_) (a' := ?_) #[true, false, true, false, false, false, false, false, false, false, false, false, false, false] rfl rfl (any_of HT_.out (by kernel_rfl)) (fun _ _ _ h => h) (Or.inl ⟨by rfl, ?_⟩) ?_ ?_
      rotate_left
      ·intro w'
       go_simp
       with_reducible rfl
      rotate_left
      ·simp only [Act.put, z1_, z2_, z3_, i64_w, i32_w]
       rfl
      refine pure_ (i := 5) (N := some 67) (v := ?_) (a' := ?_) #[true, false, true, false, false, true, false, false, false, false, false, false, false, false] rfl rfl (any_of HT_.out (by kernel_rfl)) (fun _ _ _ h => h) (Or.inl ⟨by rfl, ?_⟩) ?_ ?_
      rotate_left
      ·intro w'
       go_simp
       with_reducible rfl
      rotate_left
      ·simp only [Act.put, z1_, z2_, z3_, i64_w, i32_w]
       rfl
      refine pure_ (i := 7) (N := some 69) (v := ?_) (a' := ?_) #[true, false, true, false, false, true, false, true, false, false, false, false, false, false] rfl rfl (any_of HT_.out (by kernel_rfl)) (fun _ _ _ h => h) (Or.inl ⟨by rfl, ?_⟩) ?_ ?_
      rotate_left
      ·intro w'
       go_simp
       with_reducible rfl
      rotate_left
      ·simp only [Act.put, z1_, z2_, z3_, i64_w, i32_w]
       rfl
      refine take_ (i := 1) (N := some 63) (v := ?_) (a' := ?_) #[true, true, true, false, false, true, false, true, false, false, false, false, false, false] rfl rfl (take_ofW HT_.out HW_.out (by kernel_rfl)) (fun _ _ _ h => h) (Or.inl ⟨by rfl, ?_⟩) hHeld ?_ ?_
      rotate_left
      ·rintro w' ⟨s0, s1, s2, s3, s4, s5, s6, s7, s8, s9, s10, s11, s12, s13, s14, s15⟩
       go_simp
       with_reducible rfl
      rotate_left
      ·simp only [Act.put, z1_, z2_, z3_, i64_w, i32_w]
       rfl
      refine pure_ (i := 3) (N := some 65) (v := ?_) (a' := ?_) #[true, true, true, true, false, true, false, true, false, false, false, false, false, false] rfl rfl (any_of HT_.out (by kernel_rfl)) (fun _ _ _ h => h) (Or.inl ⟨by rfl, ?_⟩) ?_ ?_
      rotate_left
      ·intro w'
       go_simp
       with_reducible rfl
      rotate_left
      ·simp only [Act.put, z1_, z2_, z3_, i64_w, i32_w]
       rfl
      refine take_ (i := 4) (N := some 66) (v := ?_) (a' := ?_) #[true, true, true, true, true, true, false, true, false, false, false, false, false, false] rfl rfl (take_ofW HT_.out HW_.out (by kernel_rfl)) (fun _ _ _ h => h) (Or.inl ⟨by rfl, ?_⟩) hHeld ?_ ?_
      rotate_left
      ·rintro w' ⟨s0, s1, s2, s3, s4, s5, s6, s7, s8, s9, s10, s11, s12, s13, s14, s15⟩
       go_simp
       with_reducible rfl
      rotate_left
      ·simp only [Act.put, z1_, z2_, z3_, i64_w, i32_w]
       rfl
      refine take_ (i := 6) (N := some 68) (v := ?_) (a' := ?_) #[true, true, true, true, true, true, true, true, false, false, false, false, false, false] rfl rfl (take_ofW HT_.out HW_.out (by kernel_rfl)) (fun _ _ _ h => h) (Or.inl ⟨by rfl, ?_⟩) hHeld ?_ ?_
      rotate_left
      ·rintro w' ⟨s0, s1, s2, s3, s4, s5, s6, s7, s8, s9, s10, s11, s12, s13, s14, s15⟩
       go_simp
       with_reducible rfl
      rotate_left
      ·simp only [Act.put, z1_, z2_, z3_, i64_w, i32_w]
       rfl
      refine pure_ (i := 8) (N := some 70) (v := ?_) (a' := ?_) #[true, true, true, true, true, true, true, true, true, false, false, false, false, false] rfl rfl (any_of HT_.out (by kernel_rfl)) (fun _ _ _ h => h) (Or.inl ⟨by rfl, ?_⟩) ?_ ?_
      rotate_left
      ·intro w'
       go_simp
       with_reducible rfl
      rotate_left
      ·simp only [Act.put, z1_, z2_, z3_, i64_w, i32_w]
       rfl
      refine take_ (i := 9) (N := some 71) (v := ?_) (a' := ?_) #[true, true, true, true, true, true, true, true, true, true, false, false, false, false] rfl rfl (take_ofW HT_.out HW_.out (by kernel_rfl)) (fun _ _ _ h => h) (Or.inl ⟨by rfl, ?_⟩) hHeld ?_ ?_
      rotate_left
      ·rintro w' ⟨s0, s1, s2, s3, s4, s5, s6, s7, s8, s9, s10, s11, s12, s13, s14, s15⟩
       go_simp
       with_reducible rfl
      rotate_left
      ·simp only [Act.put, z1_, z2_, z3_, i64_w, i32_w]
       rfl
      refine join_ (σ := Nat × Nat) 2 #[true, true, true, true, true, true, true, true, true, true, true, true, false, false] (fun s_ => [(11, .pointer (some ⟨s_.1, 0, none⟩)), (12, .pointer (some ⟨s_.2, 0, none⟩))]) (fun s_ w' => (w'.cell? ⟨gb112, 0, none⟩ = some (.int .i64 t106) ∧ w'.cell? ⟨gb112, 1, none⟩ = some (.int .i64 t107) ∧ w'.cell? ⟨gb112, 2, none⟩ = some (.slice (some ad122) t108.length co23) ∧ w'.cell? ⟨gb119, 0, none⟩ = some (.int .i64 t113) ∧ w'.cell? ⟨gb119, 1, none⟩ = some (.int .i64 t114) ∧ w'.cell? ⟨gb119, 2, none⟩ = some (.slice (some ad123) t115.length co28) ∧ w'.cell? (ad122.add ((x10_2).toNat * 5)) = some (.int .i64 ((rd_T34 t108 x10_2).f0)) ∧ w'.cell? ⟨(ad122.add ((x10_2).toNat * 5)).block, (ad122.add ((x10_2).toNat * 5)).off + 1, none⟩ = some (.int .i64 ((rd_T34 t108 x10_2).f1)) ∧ w'.cell? ⟨(ad122.add ((x10_2).toNat * 5)).block, (ad122.add ((x10_2).toNat * 5)).off + 2, none⟩ = some (.int .i64 ((rd_T34 t108 x10_2).f2)) ∧ w'.cell? ⟨(ad122.add ((x10_2).toNat * 5)).block, (ad122.add ((x10_2).toNat * 5)).off + 3, none⟩ = some (.int .i64 ((rd_T34 t108 x10_2).f3)) ∧ w'.cell? ⟨(ad122.add ((x10_2).toNat * 5)).block, (ad122.add ((x10_2).toNat * 5)).off + 4, none⟩ = some (.slice A122_4 ((rd_T34 t108 x10_2).f4).length c122_4) ∧ w'.cell? (ad123.add ((x10_2).toNat * 5)) = some (.int .i64 ((rd_T34 t115 x10_2).f0)) ∧ w'.cell? ⟨(ad123.add ((x10_2).toNat * 5)).block, (ad123.add ((x10_2).toNat * 5)).off + 1, none⟩ = some (.int .i64 ((rd_T34 t115 x10_2).f1)) ∧ w'.cell? ⟨(ad123.add ((x10_2).toNat * 5)).block, (ad123.add ((x10_2).toNat * 5)).off + 2, none⟩ = some (.int .i64 ((rd_T34 t115 x10_2).f2)) ∧ w'.cell? ⟨(ad123.add ((x10_2).toNat * 5)).block, (ad123.add ((x10_2).toNat * 5)).off + 3, none⟩ = some (.int .i64 ((rd_T34 t115 x10_2).f3)) ∧ w'.cell? ⟨(ad123.add ((x10_2).toNat * 5)).block, (ad123.add ((x10_2).toNat * 5)).off + 4, none⟩ = some (.slice A123_4 ((rd_T34 t115 x10_2).f4).length c123_4)) ∧ (Kd.R (Kd.int .i64) 3 w' w.heap.size (fun k_ => some k_ ≠ (.slice (some ad122) t108.length co23 : Value).ownBlock ∧ some k_ ≠ (.slice (some ad123) t115.length co28 : Value).ownBlock) (.slice A122_4 ((rd_T34 t108 x10_2).f4).length c122_4) ((rd_T34 t108 x10_2).f4)) ∧ (Kd.R (Kd.int .i64) 3 w' w.heap.size (fun k_ => some k_ ≠ (.slice (some ad122) t108.length co23 : Value).ownBlock ∧ some k_ ≠ (.slice (some ad123) t115.length co28 : Value).ownBlock) (.slice A123_4 ((rd_T34 t115 x10_2).f4).length c123_4) ((rd_T34 t115 x10_2).f4)) ∧ (Kd.S k34 34 w' w.heap.size (fun k_ => some k_ ≠ (.slice (some ad123) t115.length co28 : Value).ownBlock ∧ k_ ≠ s_.1 ∧ k_ ≠ s_.2) (.slice (some ad122) t108.length co23) t108) ∧ (Kd.S k34 34 w' w.heap.size (fun k_ => some k_ ≠ (.slice (some ad122) t108.length co23 : Value).ownBlock ∧ k_ ≠ s_.1 ∧ k_ ≠ s_.2) (.slice (some ad123) t115.length co28) t115) ∧ (w'.heap[gb112]? = some (.cells #[.int .i64 t106, .int .i64 t107, .slice (some ad122) t108.length co23] 28 (0, 0))) ∧ (w'.heap[gb119]? = some (.cells #[.int .i64 t113, .int .i64 t114, .slice (some ad123) t115.length co28] 28 (0, 0))) ∧ (w'.heap[s_.1]? = some (.cells #[.int .i64 0, .int .i64 0, .int .i64 0, .int .i64 0, .slice none 0 0] 34 (0, 0))) ∧ (w'.heap[s_.2]? = some (.cells #[.int .i64 0, .int .i64 0, .int .i64 0, .int .i64 0, .slice none 0 0] 34 (0, 0))) ∧ (w.heap.size ≤ s_.1) ∧ (w.heap.size ≤ s_.1) ∧ (gb112 ≠ s_.1) ∧ (s_.1 ≠ gb112) ∧ (gb119 ≠ s_.1) ∧ (s_.1 ≠ gb119) ∧ (s_.2 ≠ s_.1) ∧ (s_.1 ≠ s_.2) ∧ (w.heap.size ≤ s_.2) ∧ (w.heap.size ≤ s_.2) ∧ (gb112 ≠ s_.2) ∧ (s_.2 ≠ gb112) ∧ (gb119 ≠ s_.2) ∧ (s_.2 ≠ gb119) ∧ (Below w.heap.size w w')) ?_ ?_
      rotate_left
      ·intro hCont
       refine two_ (i := 10) (j := 11) (Ni := some 11) (Nj := some 12) #[true, true, true, true, true, true, true, true, true, true, true, false, false, false] #[true, true, true, true, true, true, true, true, true, true, false, true, false, false] rfl rfl rfl rfl (two_of HT_.out (by kernel_rfl)) (by decide) (by decide) (fun K hK => ?_) (fun K hK => ?_)
       ·skip
        refine box_step ?hg (N := 11) ?hd (cs := #[.int .i64 0, .int .i64 0, .int .i64 0, .int .i64 0, .slice none 0 0]) (t := 34) ?hr ?_; (case hd => rfl); (case hg => rfl); (case hr => first | (go_simp; done) | (go_simp; rfl))
        intro gb124 hg w50 hbox hb
        have HS6_ := (hb.cell (World.block_lt_of_cell? _ _ (hHeld.2.2.2.2.2.2.1))).trans (hHeld.2.2.2.2.2.2.1)
        have HS7_ := (hb.cell (World.block_lt_of_cell? _ _ (hHeld.2.2.2.2.2.2.2.1))).trans (hHeld.2.2.2.2.2.2.2.1)
        have HS8_ := (hb.cell (World.block_lt_of_cell? _ _ (hHeld.2.2.2.2.2.2.2.2.1))).trans (hHeld.2.2.2.2.2.2.2.2.1)
        have HS9_ := (hb.cell (World.block_lt_of_cell? _ _ (hHeld.2.2.2.2.2.2.2.2.2.1))).trans (hHeld.2.2.2.2.2.2.2.2.2.1)
        have HS10_ := (hb.cell (World.block_lt_of_cell? _ _ (hHeld.2.2.2.2.2.2.2.2.2.2.1))).trans (hHeld.2.2.2.2.2.2.2.2.2.2.1)
        have HS11_ := (hb.cell (World.block_lt_of_cell? _ _ (hHeld.2.2.2.2.2.2.2.2.2.2.2.1))).trans (hHeld.2.2.2.2.2.2.2.2.2.2.2.1)
        have HS12_ := (hb.cell (World.block_lt_of_cell? _ _ (hHeld.2.2.2.2.2.2.2.2.2.2.2.2.1))).trans (hHeld.2.2.2.2.2.2.2.2.2.2.2.2.1)
        have HS13_ := (hb.cell (World.block_lt_of_cell? _ _ (hHeld.2.2.2.2.2.2.2.2.2.2.2.2.2.1))).trans (hHeld.2.2.2.2.2.2.2.2.2.2.2.2.2.1)
        have HS14_ := (hb.cell (World.block_lt_of_cell? _ _ (hHeld.2.2.2.2.2.2.2.2.2.2.2.2.2.2.1))).trans (hHeld.2.2.2.2.2.2.2.2.2.2.2.2.2.2.1)
        have HS15_ := (hb.cell (World.block_lt_of_cell? _ _ (hHeld.2.2.2.2.2.2.2.2.2.2.2.2.2.2.2))).trans (hHeld.2.2.2.2.2.2.2.2.2.2.2.2.2.2.2)
        have n0_ := Aside0.mk (Kd.S_below (Kd.S_elderB (by (with_reducible repeat (first | apply Kd.S_alloc | apply Kd.S_drewN | apply Kd.S_drew)); exact HO_113002.out) gb124 (Nat.le_of_eq hg.symm)) hb)
        have n1_ := Aside0.mk (Kd.S_below (Kd.S_elderB (by (with_reducible repeat (first | apply Kd.S_alloc | apply Kd.S_drewN | apply Kd.S_drew)); exact HO_120002.out) gb124 (Nat.le_of_eq hg.symm)) hb)
        have n2_ := Aside0.mk (Kd.R_below (by (with_reducible repeat (first | apply Kd.R_alloc | apply Kd.R_drewN | apply Kd.R_drew)); exact HL122_4.out) hb)
        have n3_ := Aside0.mk (Kd.R_below (by (with_reducible repeat (first | apply Kd.R_alloc | apply Kd.R_drewN | apply Kd.R_drew)); exact HL123_4.out) hb)
        have n4_ := Aside0.mk (blk_below (g := gb112) (o := .cells #[.int .i64 t106, .int .i64 t107, .slice (some ad122) t108.length co23] 28 (0, 0)) (by (with_reducible repeat (first | refine blk_drewN ?_ _ | refine blk_drew ?_ | refine blk_alloc ?_ _)); exact BK112.out) hb)
        have n5_ := Aside0.mk (blk_below (g := gb119) (o := .cells #[.int .i64 t113, .int .i64 t114, .slice (some ad123) t115.length co28] 28 (0, 0)) (by (with_reducible repeat (first | refine blk_drewN ?_ _ | refine blk_drew ?_ | refine blk_alloc ?_ _)); exact BK119.out) hb)
        (first | (with_reducible have n6_ := Aside0.mk (Kd.C_below (Kd.C_drewN HR122_4.out _) hb)) | (with_reducible have n6_ := Aside0.mk (Kd.C_below HR122_4.out hb)) | (have n6_ := Aside0.mk (Kd.C_below (by repeat (first | (with_reducible exact HR122_4.out) | (with_reducible refine Kd.C_alloc ?_ _) | (with_reducible refine Kd.C_drewN ?_ _) | (with_reducible refine Kd.C_drew ?_) | exact HR122_4.out)) hb)))
        (first | (with_reducible have n7_ := Aside0.mk (Kd.C_below (Kd.C_drewN HR123_4.out _) hb)) | (with_reducible have n7_ := Aside0.mk (Kd.C_below HR123_4.out hb)) | (have n7_ := Aside0.mk (Kd.C_below (by repeat (first | (with_reducible exact HR123_4.out) | (with_reducible refine Kd.C_alloc ?_ _) | (with_reducible refine Kd.C_drewN ?_ _) | (with_reducible refine Kd.C_drew ?_) | exact HR123_4.out)) hb)))
        have n8_ := Aside0.mk (below_step (by repeat (first | (with_reducible first | exact HB.out | apply below_alloc | apply pw_below_drewN | apply below_drew1 | refine below_set ?_ GE112.out | refine below_set ?_ GE119.out) | exact HB.out)) hb)
        have n9_ := Aside0.mk (hbox)
        have n10_ := Aside0.mk ((by rw [hg]; exact (below_size (by repeat (first | (with_reducible first | exact HB.out | apply below_alloc | apply pw_below_drewN | apply below_drew1 | refine below_set ?_ GE112.out | refine below_set ?_ GE119.out) | exact HB.out))) : w.heap.size ≤ gb124))
        have n11_ := Aside0.mk ((by rw [hg]; exact (below_size (by repeat (first | (with_reducible first | exact HB.out | apply below_alloc | apply pw_below_drewN | apply below_drew1 | refine below_set ?_ GE112.out | refine below_set ?_ GE119.out) | exact HB.out))) : w.heap.size ≤ gb124))
        have n12_ := Aside0.mk ((by rw [hg]; exact Nat.ne_of_lt (blk_lt (g := gb112) (o := .cells #[.int .i64 t106, .int .i64 t107, .slice (some ad122) t108.length co23] 28 (0, 0)) (by (with_reducible repeat (first | refine blk_drewN ?_ _ | refine blk_drew ?_ | refine blk_alloc ?_ _)); exact BK112.out)) : gb112 ≠ gb124))
        have n13_ := Aside0.mk ((by rw [hg]; exact Nat.ne_of_gt (blk_lt (g := gb112) (o := .cells #[.int .i64 t106, .int .i64 t107, .slice (some ad122) t108.length co23] 28 (0, 0)) (by (with_reducible repeat (first | refine blk_drewN ?_ _ | refine blk_drew ?_ | refine blk_alloc ?_ _)); exact BK112.out)) : gb124 ≠ gb112))
        have n14_ := Aside0.mk ((by rw [hg]; exact Nat.ne_of_lt (blk_lt (g := gb119) (o := .cells #[.int .i64 t113, .int .i64 t114, .slice (some ad123) t115.length co28] 28 (0, 0)) (by (with_reducible repeat (first | refine blk_drewN ?_ _ | refine blk_drew ?_ | refine blk_alloc ?_ _)); exact BK119.out)) : gb119 ≠ gb124))
        have n15_ := Aside0.mk ((by rw [hg]; exact Nat.ne_of_gt (blk_lt (g := gb119) (o := .cells #[.int .i64 t113, .int .i64 t114, .slice (some ad123) t115.length co28] 28 (0, 0)) (by (with_reducible repeat (first | refine blk_drewN ?_ _ | refine blk_drew ?_ | refine blk_alloc ?_ _)); exact BK119.out)) : gb124 ≠ gb119))
        clear HO_113002
        clear HO_120002
        clear HL122_4
        clear HL123_4
        clear BK112
        clear BK119
        clear HR122_4
        clear HR123_4
        clear HB
        have HO_113002 := n0_
        have HO_120002 := n1_
        have HL122_4 := n2_
        have HL123_4 := n3_
        have BK112 := n4_
        have BK119 := n5_
        have HR122_4 := n6_
        have HR123_4 := n7_
        have HB := n8_
        have BK124 := n9_
        have GW124 := n10_
        have GE124 := n11_
        have NB112_124 := n12_
        have NB124_112 := n13_
        have NB119_124 := n14_
        have NB124_119 := n15_
        clear n0_ n1_ n2_ n3_ n4_ n5_ n6_ n7_ n8_ n9_ n10_ n11_ n12_ n13_ n14_ n15_
        clear hb hbox hg
        refine hK.out _ _ ⟨(blk_cell BK112.out 0).trans rfl, (blk_cell BK112.out 1).trans rfl, (blk_cell BK112.out 2).trans rfl, (blk_cell BK119.out 0).trans rfl, (blk_cell BK119.out 1).trans rfl, (blk_cell BK119.out 2).trans rfl, HS6_, HS7_, HS8_, HS9_, HS10_, HS11_, HS12_, HS13_, HS14_, HS15_⟩ (fun hHeld => ?_)
        clear hK K
        refine norm_ (a' := ?_) ?_ ?_
        rotate_left
        ·show Act.put _ (some 11) _ = _
         simp only [Act.put, z1_, z2_, z3_, i64_w, i32_w]
         rfl
        refine one_ (i := 11) (N := some 12) #[true, true, true, true, true, true, true, true, true, true, true, true, false, false] rfl rfl (one_of HT_.out (by kernel_rfl)) (by decide) (fun K hK => ?_)
        refine box_step ?hg (N := 12) ?hd (cs := #[.int .i64 0, .int .i64 0, .int .i64 0, .int .i64 0, .slice none 0 0]) (t := 34) ?hr ?_; (case hd => rfl); (case hg => rfl); (case hr => first | (go_simp; done) | (go_simp; rfl))
        intro gb125 hg w51 hbox hb
        have HS6_ := (hb.cell (World.block_lt_of_cell? _ _ (hHeld.2.2.2.2.2.2.1))).trans (hHeld.2.2.2.2.2.2.1)
        have HS7_ := (hb.cell (World.block_lt_of_cell? _ _ (hHeld.2.2.2.2.2.2.2.1))).trans (hHeld.2.2.2.2.2.2.2.1)
        have HS8_ := (hb.cell (World.block_lt_of_cell? _ _ (hHeld.2.2.2.2.2.2.2.2.1))).trans (hHeld.2.2.2.2.2.2.2.2.1)
        have HS9_ := (hb.cell (World.block_lt_of_cell? _ _ (hHeld.2.2.2.2.2.2.2.2.2.1))).trans (hHeld.2.2.2.2.2.2.2.2.2.1)
        have HS10_ := (hb.cell (World.block_lt_of_cell? _ _ (hHeld.2.2.2.2.2.2.2.2.2.2.1))).trans (hHeld.2.2.2.2.2.2.2.2.2.2.1)
        have HS11_ := (hb.cell (World.block_lt_of_cell? _ _ (hHeld.2.2.2.2.2.2.2.2.2.2.2.1))).trans (hHeld.2.2.2.2.2.2.2.2.2.2.2.1)
        have HS12_ := (hb.cell (World.block_lt_of_cell? _ _ (hHeld.2.2.2.2.2.2.2.2.2.2.2.2.1))).trans (hHeld.2.2.2.2.2.2.2.2.2.2.2.2.1)
        have HS13_ := (hb.cell (World.block_lt_of_cell? _ _ (hHeld.2.2.2.2.2.2.2.2.2.2.2.2.2.1))).trans (hHeld.2.2.2.2.2.2.2.2.2.2.2.2.2.1)
        have HS14_ := (hb.cell (World.block_lt_of_cell? _ _ (hHeld.2.2.2.2.2.2.2.2.2.2.2.2.2.2.1))).trans (hHeld.2.2.2.2.2.2.2.2.2.2.2.2.2.2.1)
        have HS15_ := (hb.cell (World.block_lt_of_cell? _ _ (hHeld.2.2.2.2.2.2.2.2.2.2.2.2.2.2.2))).trans (hHeld.2.2.2.2.2.2.2.2.2.2.2.2.2.2.2)
        have n0_ := Aside0.mk (Kd.S_below (Kd.S_elderB (by (with_reducible repeat (first | apply Kd.S_alloc | apply Kd.S_drewN | apply Kd.S_drew)); exact HO_113002.out) gb125 (Nat.le_of_eq hg.symm)) hb)
        have n1_ := Aside0.mk (Kd.S_below (Kd.S_elderB (by (with_reducible repeat (first | apply Kd.S_alloc | apply Kd.S_drewN | apply Kd.S_drew)); exact HO_120002.out) gb125 (Nat.le_of_eq hg.symm)) hb)
        have n2_ := Aside0.mk (Kd.R_below (by (with_reducible repeat (first | apply Kd.R_alloc | apply Kd.R_drewN | apply Kd.R_drew)); exact HL122_4.out) hb)
        have n3_ := Aside0.mk (Kd.R_below (by (with_reducible repeat (first | apply Kd.R_alloc | apply Kd.R_drewN | apply Kd.R_drew)); exact HL123_4.out) hb)
        have n4_ := Aside0.mk (blk_below (g := gb112) (o := .cells #[.int .i64 t106, .int .i64 t107, .slice (some ad122) t108.length co23] 28 (0, 0)) (by (with_reducible repeat (first | refine blk_drewN ?_ _ | refine blk_drew ?_ | refine blk_alloc ?_ _)); exact BK112.out) hb)
        have n5_ := Aside0.mk (blk_below (g := gb119) (o := .cells #[.int .i64 t113, .int .i64 t114, .slice (some ad123) t115.length co28] 28 (0, 0)) (by (with_reducible repeat (first | refine blk_drewN ?_ _ | refine blk_drew ?_ | refine blk_alloc ?_ _)); exact BK119.out) hb)
        (first | (with_reducible have n6_ := Aside0.mk (Kd.C_below (Kd.C_drewN HR122_4.out _) hb)) | (with_reducible have n6_ := Aside0.mk (Kd.C_below HR122_4.out hb)) | (have n6_ := Aside0.mk (Kd.C_below (by repeat (first | (with_reducible exact HR122_4.out) | (with_reducible refine Kd.C_alloc ?_ _) | (with_reducible refine Kd.C_drewN ?_ _) | (with_reducible refine Kd.C_drew ?_) | exact HR122_4.out)) hb)))
        (first | (with_reducible have n7_ := Aside0.mk (Kd.C_below (Kd.C_drewN HR123_4.out _) hb)) | (with_reducible have n7_ := Aside0.mk (Kd.C_below HR123_4.out hb)) | (have n7_ := Aside0.mk (Kd.C_below (by repeat (first | (with_reducible exact HR123_4.out) | (with_reducible refine Kd.C_alloc ?_ _) | (with_reducible refine Kd.C_drewN ?_ _) | (with_reducible refine Kd.C_drew ?_) | exact HR123_4.out)) hb)))
        have n8_ := Aside0.mk (blk_below (g := gb124) (o := .cells #[.int .i64 0, .int .i64 0, .int .i64 0, .int .i64 0, .slice none 0 0] 34 (0, 0)) (by (with_reducible repeat (first | refine blk_drewN ?_ _ | refine blk_drew ?_ | refine blk_alloc ?_ _)); exact BK124.out) hb)
        have n9_ := Aside0.mk (below_step (by repeat (first | (with_reducible first | exact HB.out | apply below_alloc | apply pw_below_drewN | apply below_drew1 | refine below_set ?_ GE112.out | refine below_set ?_ GE119.out | refine below_set ?_ GE124.out) | exact HB.out)) hb)
        have n10_ := Aside0.mk (hbox)
        have n11_ := Aside0.mk ((by rw [hg]; exact (below_size (by repeat (first | (with_reducible first | exact HB.out | apply below_alloc | apply pw_below_drewN | apply below_drew1 | refine below_set ?_ GE112.out | refine below_set ?_ GE119.out | refine below_set ?_ GE124.out) | exact HB.out))) : w.heap.size ≤ gb125))
        have n12_ := Aside0.mk ((by rw [hg]; exact (below_size (by repeat (first | (with_reducible first | exact HB.out | apply below_alloc | apply pw_below_drewN | apply below_drew1 | refine below_set ?_ GE112.out | refine below_set ?_ GE119.out | refine below_set ?_ GE124.out) | exact HB.out))) : w.heap.size ≤ gb125))
        have n13_ := Aside0.mk ((by rw [hg]; exact Nat.ne_of_lt (blk_lt (g := gb112) (o := .cells #[.int .i64 t106, .int .i64 t107, .slice (some ad122) t108.length co23] 28 (0, 0)) (by (with_reducible repeat (first | refine blk_drewN ?_ _ | refine blk_drew ?_ | refine blk_alloc ?_ _)); exact BK112.out)) : gb112 ≠ gb125))
        have n14_ := Aside0.mk ((by rw [hg]; exact Nat.ne_of_gt (blk_lt (g := gb112) (o := .cells #[.int .i64 t106, .int .i64 t107, .slice (some ad122) t108.length co23] 28 (0, 0)) (by (with_reducible repeat (first | refine blk_drewN ?_ _ | refine blk_drew ?_ | refine blk_alloc ?_ _)); exact BK112.out)) : gb125 ≠ gb112))
        have n15_ := Aside0.mk ((by rw [hg]; exact Nat.ne_of_lt (blk_lt (g := gb119) (o := .cells #[.int .i64 t113, .int .i64 t114, .slice (some ad123) t115.length co28] 28 (0, 0)) (by (with_reducible repeat (first | refine blk_drewN ?_ _ | refine blk_drew ?_ | refine blk_alloc ?_ _)); exact BK119.out)) : gb119 ≠ gb125))
        have n16_ := Aside0.mk ((by rw [hg]; exact Nat.ne_of_gt (blk_lt (g := gb119) (o := .cells #[.int .i64 t113, .int .i64 t114, .slice (some ad123) t115.length co28] 28 (0, 0)) (by (with_reducible repeat (first | refine blk_drewN ?_ _ | refine blk_drew ?_ | refine blk_alloc ?_ _)); exact BK119.out)) : gb125 ≠ gb119))
        have n17_ := Aside0.mk ((by rw [hg]; exact Nat.ne_of_lt (blk_lt (g := gb124) (o := .cells #[.int .i64 0, .int .i64 0, .int .i64 0, .int .i64 0, .slice none 0 0] 34 (0, 0)) (by (with_reducible repeat (first | refine blk_drewN ?_ _ | refine blk_drew ?_ | refine blk_alloc ?_ _)); exact BK124.out)) : gb124 ≠ gb125))
        have n18_ := Aside0.mk ((by rw [hg]; exact Nat.ne_of_gt (blk_lt (g := gb124) (o := .cells #[.int .i64 0, .int .i64 0, .int .i64 0, .int .i64 0, .slice none 0 0] 34 (0, 0)) (by (with_reducible repeat (first | refine blk_drewN ?_ _ | refine blk_drew ?_ | refine blk_alloc ?_ _)); exact BK124.out)) : gb125 ≠ gb124))
        clear HO_113002
        clear HO_120002
        clear HL122_4
        clear HL123_4
        clear BK112
        clear BK119
        clear HR122_4
        clear HR123_4
        clear BK124
        clear HB
        have HO_113002 := n0_
        have HO_120002 := n1_
        have HL122_4 := n2_
        have HL123_4 := n3_
        have BK112 := n4_
        have BK119 := n5_
        have HR122_4 := n6_
        have HR123_4 := n7_
        have BK124 := n8_
        have HB := n9_
        have BK125 := n10_
        have GW125 := n11_
        have GE125 := n12_
        have NB112_125 := n13_
        have NB125_112 := n14_
        have NB119_125 := n15_
        have NB125_119 := n16_
        have NB124_125 := n17_
        have NB125_124 := n18_
        clear n0_ n1_ n2_ n3_ n4_ n5_ n6_ n7_ n8_ n9_ n10_ n11_ n12_ n13_ n14_ n15_ n16_ n17_ n18_
        clear hb hbox hg
        refine hK.out _ _ ⟨(blk_cell BK112.out 0).trans rfl, (blk_cell BK112.out 1).trans rfl, (blk_cell BK112.out 2).trans rfl, (blk_cell BK119.out 0).trans rfl, (blk_cell BK119.out 1).trans rfl, (blk_cell BK119.out 2).trans rfl, HS6_, HS7_, HS8_, HS9_, HS10_, HS11_, HS12_, HS13_, HS14_, HS15_⟩ (fun hHeld => ?_)
        clear hK K
        refine norm_ (a' := ?_) ?_ ?_
        rotate_left
        ·show Act.put _ (some 12) _ = _
         simp only [Act.put, z1_, z2_, z3_, i64_w, i32_w]
         rfl
        exact norm_ (by simp only [putAll, Act.put, z1_, z2_, z3_]) (hCont (gb124, gb125) _ ⟨hHeld, (by (with_reducible repeat (first | apply Kd.R_alloc | apply Kd.R_drewN | apply Kd.R_drew)); exact Kd.R_mono HL122_4.out (fun _ hk => ⟨hk.2, hk.1⟩)), (by (with_reducible repeat (first | apply Kd.R_alloc | apply Kd.R_drewN | apply Kd.R_drew)); exact HL123_4.out), (by (with_reducible repeat (first | apply Kd.S_alloc | apply Kd.S_drewN | apply Kd.S_drew)); exact Kd.S_mono HO_113002.out (fun _ hk => ⟨hk.1.1, ⟨hk.1.2, hk.2⟩⟩)), (by (with_reducible repeat (first | apply Kd.S_alloc | apply Kd.S_drewN | apply Kd.S_drew)); exact Kd.S_mono HO_120002.out (fun _ hk => ⟨hk.1.1, ⟨hk.1.2, hk.2⟩⟩)), (by (with_reducible repeat (first | refine blk_drewN ?_ _ | refine blk_drew ?_ | refine blk_alloc ?_ _)); exact BK112.out), (by (with_reducible repeat (first | refine blk_drewN ?_ _ | refine blk_drew ?_ | refine blk_alloc ?_ _)); exact BK119.out), (by (with_reducible repeat (first | refine blk_drewN ?_ _ | refine blk_drew ?_ | refine blk_alloc ?_ _)); exact BK124.out), (by (with_reducible repeat (first | refine blk_drewN ?_ _ | refine blk_drew ?_ | refine blk_alloc ?_ _)); exact BK125.out), GW124.out, GE124.out, NB112_124.out, NB124_112.out, NB119_124.out, NB124_119.out, NB125_124.out, NB124_125.out, GW125.out, GE125.out, NB112_125.out, NB125_112.out, NB119_125.out, NB125_119.out, (by repeat (first | (with_reducible first | exact HB.out | apply below_alloc | apply pw_below_drewN | apply below_drew1 | refine below_set ?_ GE112.out | refine below_set ?_ GE119.out | refine below_set ?_ GE124.out | refine below_set ?_ GE125.out) | exact HB.out))⟩)
       ·skip
        refine box_step ?hg (N := 12) ?hd (cs := #[.int .i64 0, .int .i64 0, .int .i64 0, .int .i64 0, .slice none 0 0]) (t := 34) ?hr ?_; (case hd => rfl); (case hg => rfl); (case hr => first | (go_simp; done) | (go_simp; rfl))
        intro gb125 hg w50 hbox hb
        have HS6_ := (hb.cell (World.block_lt_of_cell? _ _ (hHeld.2.2.2.2.2.2.1))).trans (hHeld.2.2.2.2.2.2.1)
        have HS7_ := (hb.cell (World.block_lt_of_cell? _ _ (hHeld.2.2.2.2.2.2.2.1))).trans (hHeld.2.2.2.2.2.2.2.1)
        have HS8_ := (hb.cell (World.block_lt_of_cell? _ _ (hHeld.2.2.2.2.2.2.2.2.1))).trans (hHeld.2.2.2.2.2.2.2.2.1)
        have HS9_ := (hb.cell (World.block_lt_of_cell? _ _ (hHeld.2.2.2.2.2.2.2.2.2.1))).trans (hHeld.2.2.2.2.2.2.2.2.2.1)
        have HS10_ := (hb.cell (World.block_lt_of_cell? _ _ (hHeld.2.2.2.2.2.2.2.2.2.2.1))).trans (hHeld.2.2.2.2.2.2.2.2.2.2.1)
        have HS11_ := (hb.cell (World.block_lt_of_cell? _ _ (hHeld.2.2.2.2.2.2.2.2.2.2.2.1))).trans (hHeld.2.2.2.2.2.2.2.2.2.2.2.1)
        have HS12_ := (hb.cell (World.block_lt_of_cell? _ _ (hHeld.2.2.2.2.2.2.2.2.2.2.2.2.1))).trans (hHeld.2.2.2.2.2.2.2.2.2.2.2.2.1)
        have HS13_ := (hb.cell (World.block_lt_of_cell? _ _ (hHeld.2.2.2.2.2.2.2.2.2.2.2.2.2.1))).trans (hHeld.2.2.2.2.2.2.2.2.2.2.2.2.2.1)
        have HS14_ := (hb.cell (World.block_lt_of_cell? _ _ (hHeld.2.2.2.2.2.2.2.2.2.2.2.2.2.2.1))).trans (hHeld.2.2.2.2.2.2.2.2.2.2.2.2.2.2.1)
        have HS15_ := (hb.cell (World.block_lt_of_cell? _ _ (hHeld.2.2.2.2.2.2.2.2.2.2.2.2.2.2.2))).trans (hHeld.2.2.2.2.2.2.2.2.2.2.2.2.2.2.2)
        have n0_ := Aside0.mk (Kd.S_below (Kd.S_elderB (by (with_reducible repeat (first | apply Kd.S_alloc | apply Kd.S_drewN | apply Kd.S_drew)); exact HO_113002.out) gb125 (Nat.le_of_eq hg.symm)) hb)
        have n1_ := Aside0.mk (Kd.S_below (Kd.S_elderB (by (with_reducible repeat (first | apply Kd.S_alloc | apply Kd.S_drewN | apply Kd.S_drew)); exact HO_120002.out) gb125 (Nat.le_of_eq hg.symm)) hb)
        have n2_ := Aside0.mk (Kd.R_below (by (with_reducible repeat (first | apply Kd.R_alloc | apply Kd.R_drewN | apply Kd.R_drew)); exact HL122_4.out) hb)
        have n3_ := Aside0.mk (Kd.R_below (by (with_reducible repeat (first | apply Kd.R_alloc | apply Kd.R_drewN | apply Kd.R_drew)); exact HL123_4.out) hb)
        have n4_ := Aside0.mk (blk_below (g := gb112) (o := .cells #[.int .i64 t106, .int .i64 t107, .slice (some ad122) t108.length co23] 28 (0, 0)) (by (with_reducible repeat (first | refine blk_drewN ?_ _ | refine blk_drew ?_ | refine blk_alloc ?_ _)); exact BK112.out) hb)
        have n5_ := Aside0.mk (blk_below (g := gb119) (o := .cells #[.int .i64 t113, .int .i64 t114, .slice (some ad123) t115.length co28] 28 (0, 0)) (by (with_reducible repeat (first | refine blk_drewN ?_ _ | refine blk_drew ?_ | refine blk_alloc ?_ _)); exact BK119.out) hb)
        (first | (with_reducible have n6_ := Aside0.mk (Kd.C_below (Kd.C_drewN HR122_4.out _) hb)) | (with_reducible have n6_ := Aside0.mk (Kd.C_below HR122_4.out hb)) | (have n6_ := Aside0.mk (Kd.C_below (by repeat (first | (with_reducible exact HR122_4.out) | (with_reducible refine Kd.C_alloc ?_ _) | (with_reducible refine Kd.C_drewN ?_ _) | (with_reducible refine Kd.C_drew ?_) | exact HR122_4.out)) hb)))
        (first | (with_reducible have n7_ := Aside0.mk (Kd.C_below (Kd.C_drewN HR123_4.out _) hb)) | (with_reducible have n7_ := Aside0.mk (Kd.C_below HR123_4.out hb)) | (have n7_ := Aside0.mk (Kd.C_below (by repeat (first | (with_reducible exact HR123_4.out) | (with_reducible refine Kd.C_alloc ?_ _) | (with_reducible refine Kd.C_drewN ?_ _) | (with_reducible refine Kd.C_drew ?_) | exact HR123_4.out)) hb)))
        have n8_ := Aside0.mk (below_step (by repeat (first | (with_reducible first | exact HB.out | apply below_alloc | apply pw_below_drewN | apply below_drew1 | refine below_set ?_ GE112.out | refine below_set ?_ GE119.out) | exact HB.out)) hb)
        have n9_ := Aside0.mk (hbox)
        have n10_ := Aside0.mk ((by rw [hg]; exact (below_size (by repeat (first | (with_reducible first | exact HB.out | apply below_alloc | apply pw_below_drewN | apply below_drew1 | refine below_set ?_ GE112.out | refine below_set ?_ GE119.out) | exact HB.out))) : w.heap.size ≤ gb125))
        have n11_ := Aside0.mk ((by rw [hg]; exact (below_size (by repeat (first | (with_reducible first | exact HB.out | apply below_alloc | apply pw_below_drewN | apply below_drew1 | refine below_set ?_ GE112.out | refine below_set ?_ GE119.out) | exact HB.out))) : w.heap.size ≤ gb125))
        have n12_ := Aside0.mk ((by rw [hg]; exact Nat.ne_of_lt (blk_lt (g := gb112) (o := .cells #[.int .i64 t106, .int .i64 t107, .slice (some ad122) t108.length co23] 28 (0, 0)) (by (with_reducible repeat (first | refine blk_drewN ?_ _ | refine blk_drew ?_ | refine blk_alloc ?_ _)); exact BK112.out)) : gb112 ≠ gb125))
        have n13_ := Aside0.mk ((by rw [hg]; exact Nat.ne_of_gt (blk_lt (g := gb112) (o := .cells #[.int .i64 t106, .int .i64 t107, .slice (some ad122) t108.length co23] 28 (0, 0)) (by (with_reducible repeat (first | refine blk_drewN ?_ _ | refine blk_drew ?_ | refine blk_alloc ?_ _)); exact BK112.out)) : gb125 ≠ gb112))
        have n14_ := Aside0.mk ((by rw [hg]; exact Nat.ne_of_lt (blk_lt (g := gb119) (o := .cells #[.int .i64 t113, .int .i64 t114, .slice (some ad123) t115.length co28] 28 (0, 0)) (by (with_reducible repeat (first | refine blk_drewN ?_ _ | refine blk_drew ?_ | refine blk_alloc ?_ _)); exact BK119.out)) : gb119 ≠ gb125))
        have n15_ := Aside0.mk ((by rw [hg]; exact Nat.ne_of_gt (blk_lt (g := gb119) (o := .cells #[.int .i64 t113, .int .i64 t114, .slice (some ad123) t115.length co28] 28 (0, 0)) (by (with_reducible repeat (first | refine blk_drewN ?_ _ | refine blk_drew ?_ | refine blk_alloc ?_ _)); exact BK119.out)) : gb125 ≠ gb119))
        clear HO_113002
        clear HO_120002
        clear HL122_4
        clear HL123_4
        clear BK112
        clear BK119
        clear HR122_4
        clear HR123_4
        clear HB
        have HO_113002 := n0_
        have HO_120002 := n1_
        have HL122_4 := n2_
        have HL123_4 := n3_
        have BK112 := n4_
        have BK119 := n5_
        have HR122_4 := n6_
        have HR123_4 := n7_
        have HB := n8_
        have BK125 := n9_
        have GW125 := n10_
        have GE125 := n11_
        have NB112_125 := n12_
        have NB125_112 := n13_
        have NB119_125 := n14_
        have NB125_119 := n15_
        clear n0_ n1_ n2_ n3_ n4_ n5_ n6_ n7_ n8_ n9_ n10_ n11_ n12_ n13_ n14_ n15_
        clear hb hbox hg
        refine hK.out _ _ ⟨(blk_cell BK112.out 0).trans rfl, (blk_cell BK112.out 1).trans rfl, (blk_cell BK112.out 2).trans rfl, (blk_cell BK119.out 0).trans rfl, (blk_cell BK119.out 1).trans rfl, (blk_cell BK119.out 2).trans rfl, HS6_, HS7_, HS8_, HS9_, HS10_, HS11_, HS12_, HS13_, HS14_, HS15_⟩ (fun hHeld => ?_)
        clear hK K
        refine norm_ (a' := ?_) ?_ ?_
        rotate_left
        ·show Act.put _ (some 12) _ = _
         simp only [Act.put, z1_, z2_, z3_, i64_w, i32_w]
         rfl
        refine one_ (i := 10) (N := some 11) #[true, true, true, true, true, true, true, true, true, true, true, true, false, false] rfl rfl (one_of HT_.out (by kernel_rfl)) (by decide) (fun K hK => ?_)
        refine box_step ?hg (N := 11) ?hd (cs := #[.int .i64 0, .int .i64 0, .int .i64 0, .int .i64 0, .slice none 0 0]) (t := 34) ?hr ?_; (case hd => rfl); (case hg => rfl); (case hr => first | (go_simp; done) | (go_simp; rfl))
        intro gb124 hg w51 hbox hb
        have HS6_ := (hb.cell (World.block_lt_of_cell? _ _ (hHeld.2.2.2.2.2.2.1))).trans (hHeld.2.2.2.2.2.2.1)
        have HS7_ := (hb.cell (World.block_lt_of_cell? _ _ (hHeld.2.2.2.2.2.2.2.1))).trans (hHeld.2.2.2.2.2.2.2.1)
        have HS8_ := (hb.cell (World.block_lt_of_cell? _ _ (hHeld.2.2.2.2.2.2.2.2.1))).trans (hHeld.2.2.2.2.2.2.2.2.1)
        have HS9_ := (hb.cell (World.block_lt_of_cell? _ _ (hHeld.2.2.2.2.2.2.2.2.2.1))).trans (hHeld.2.2.2.2.2.2.2.2.2.1)
        have HS10_ := (hb.cell (World.block_lt_of_cell? _ _ (hHeld.2.2.2.2.2.2.2.2.2.2.1))).trans (hHeld.2.2.2.2.2.2.2.2.2.2.1)
        have HS11_ := (hb.cell (World.block_lt_of_cell? _ _ (hHeld.2.2.2.2.2.2.2.2.2.2.2.1))).trans (hHeld.2.2.2.2.2.2.2.2.2.2.2.1)
        have HS12_ := (hb.cell (World.block_lt_of_cell? _ _ (hHeld.2.2.2.2.2.2.2.2.2.2.2.2.1))).trans (hHeld.2.2.2.2.2.2.2.2.2.2.2.2.1)
        have HS13_ := (hb.cell (World.block_lt_of_cell? _ _ (hHeld.2.2.2.2.2.2.2.2.2.2.2.2.2.1))).trans (hHeld.2.2.2.2.2.2.2.2.2.2.2.2.2.1)
        have HS14_ := (hb.cell (World.block_lt_of_cell? _ _ (hHeld.2.2.2.2.2.2.2.2.2.2.2.2.2.2.1))).trans (hHeld.2.2.2.2.2.2.2.2.2.2.2.2.2.2.1)
        have HS15_ := (hb.cell (World.block_lt_of_cell? _ _ (hHeld.2.2.2.2.2.2.2.2.2.2.2.2.2.2.2))).trans (hHeld.2.2.2.2.2.2.2.2.2.2.2.2.2.2.2)
        have n0_ := Aside0.mk (Kd.S_below (Kd.S_elderB (by (with_reducible repeat (first | apply Kd.S_alloc | apply Kd.S_drewN | apply Kd.S_drew)); exact HO_113002.out) gb124 (Nat.le_of_eq hg.symm)) hb)
        have n1_ := Aside0.mk (Kd.S_below (Kd.S_elderB (by (with_reducible repeat (first | apply Kd.S_alloc | apply Kd.S_drewN | apply Kd.S_drew)); exact HO_120002.out) gb124 (Nat.le_of_eq hg.symm)) hb)
        have n2_ := Aside0.mk (Kd.R_below (by (with_reducible repeat (first | apply Kd.R_alloc | apply Kd.R_drewN | apply Kd.R_drew)); exact HL122_4.out) hb)
        have n3_ := Aside0.mk (Kd.R_below (by (with_reducible repeat (first | apply Kd.R_alloc | apply Kd.R_drewN | apply Kd.R_drew)); exact HL123_4.out) hb)
        have n4_ := Aside0.mk (blk_below (g := gb112) (o := .cells #[.int .i64 t106, .int .i64 t107, .slice (some ad122) t108.length co23] 28 (0, 0)) (by (with_reducible repeat (first | refine blk_drewN ?_ _ | refine blk_drew ?_ | refine blk_alloc ?_ _)); exact BK112.out) hb)
        have n5_ := Aside0.mk (blk_below (g := gb119) (o := .cells #[.int .i64 t113, .int .i64 t114, .slice (some ad123) t115.length co28] 28 (0, 0)) (by (with_reducible repeat (first | refine blk_drewN ?_ _ | refine blk_drew ?_ | refine blk_alloc ?_ _)); exact BK119.out) hb)
        (first | (with_reducible have n6_ := Aside0.mk (Kd.C_below (Kd.C_drewN HR122_4.out _) hb)) | (with_reducible have n6_ := Aside0.mk (Kd.C_below HR122_4.out hb)) | (have n6_ := Aside0.mk (Kd.C_below (by repeat (first | (with_reducible exact HR122_4.out) | (with_reducible refine Kd.C_alloc ?_ _) | (with_reducible refine Kd.C_drewN ?_ _) | (with_reducible refine Kd.C_drew ?_) | exact HR122_4.out)) hb)))
        (first | (with_reducible have n7_ := Aside0.mk (Kd.C_below (Kd.C_drewN HR123_4.out _) hb)) | (with_reducible have n7_ := Aside0.mk (Kd.C_below HR123_4.out hb)) | (have n7_ := Aside0.mk (Kd.C_below (by repeat (first | (with_reducible exact HR123_4.out) | (with_reducible refine Kd.C_alloc ?_ _) | (with_reducible refine Kd.C_drewN ?_ _) | (with_reducible refine Kd.C_drew ?_) | exact HR123_4.out)) hb)))
        have n8_ := Aside0.mk (blk_below (g := gb125) (o := .cells #[.int .i64 0, .int .i64 0, .int .i64 0, .int .i64 0, .slice none 0 0] 34 (0, 0)) (by (with_reducible repeat (first | refine blk_drewN ?_ _ | refine blk_drew ?_ | refine blk_alloc ?_ _)); exact BK125.out) hb)
        have n9_ := Aside0.mk (below_step (by repeat (first | (with_reducible first | exact HB.out | apply below_alloc | apply pw_below_drewN | apply below_drew1 | refine below_set ?_ GE112.out | refine below_set ?_ GE119.out | refine below_set ?_ GE125.out) | exact HB.out)) hb)
        have n10_ := Aside0.mk (hbox)
        have n11_ := Aside0.mk ((by rw [hg]; exact (below_size (by repeat (first | (with_reducible first | exact HB.out | apply below_alloc | apply pw_below_drewN | apply below_drew1 | refine below_set ?_ GE112.out | refine below_set ?_ GE119.out | refine below_set ?_ GE125.out) | exact HB.out))) : w.heap.size ≤ gb124))
        have n12_ := Aside0.mk ((by rw [hg]; exact (below_size (by repeat (first | (with_reducible first | exact HB.out | apply below_alloc | apply pw_below_drewN | apply below_drew1 | refine below_set ?_ GE112.out | refine below_set ?_ GE119.out | refine below_set ?_ GE125.out) | exact HB.out))) : w.heap.size ≤ gb124))
        have n13_ := Aside0.mk ((by rw [hg]; exact Nat.ne_of_lt (blk_lt (g := gb112) (o := .cells #[.int .i64 t106, .int .i64 t107, .slice (some ad122) t108.length co23] 28 (0, 0)) (by (with_reducible repeat (first | refine blk_drewN ?_ _ | refine blk_drew ?_ | refine blk_alloc ?_ _)); exact BK112.out)) : gb112 ≠ gb124))
        have n14_ := Aside0.mk ((by rw [hg]; exact Nat.ne_of_gt (blk_lt (g := gb112) (o := .cells #[.int .i64 t106, .int .i64 t107, .slice (some ad122) t108.length co23] 28 (0, 0)) (by (with_reducible repeat (first | refine blk_drewN ?_ _ | refine blk_drew ?_ | refine blk_alloc ?_ _)); exact BK112.out)) : gb124 ≠ gb112))
        have n15_ := Aside0.mk ((by rw [hg]; exact Nat.ne_of_lt (blk_lt (g := gb119) (o := .cells #[.int .i64 t113, .int .i64 t114, .slice (some ad123) t115.length co28] 28 (0, 0)) (by (with_reducible repeat (first | refine blk_drewN ?_ _ | refine blk_drew ?_ | refine blk_alloc ?_ _)); exact BK119.out)) : gb119 ≠ gb124))
        have n16_ := Aside0.mk ((by rw [hg]; exact Nat.ne_of_gt (blk_lt (g := gb119) (o := .cells #[.int .i64 t113, .int .i64 t114, .slice (some ad123) t115.length co28] 28 (0, 0)) (by (with_reducible repeat (first | refine blk_drewN ?_ _ | refine blk_drew ?_ | refine blk_alloc ?_ _)); exact BK119.out)) : gb124 ≠ gb119))
        have n17_ := Aside0.mk ((by rw [hg]; exact Nat.ne_of_lt (blk_lt (g := gb125) (o := .cells #[.int .i64 0, .int .i64 0, .int .i64 0, .int .i64 0, .slice none 0 0] 34 (0, 0)) (by (with_reducible repeat (first | refine blk_drewN ?_ _ | refine blk_drew ?_ | refine blk_alloc ?_ _)); exact BK125.out)) : gb125 ≠ gb124))
        have n18_ := Aside0.mk ((by rw [hg]; exact Nat.ne_of_gt (blk_lt (g := gb125) (o := .cells #[.int .i64 0, .int .i64 0, .int .i64 0, .int .i64 0, .slice none 0 0] 34 (0, 0)) (by (with_reducible repeat (first | refine blk_drewN ?_ _ | refine blk_drew ?_ | refine blk_alloc ?_ _)); exact BK125.out)) : gb124 ≠ gb125))
        clear HO_113002
        clear HO_120002
        clear HL122_4
        clear HL123_4
        clear BK112
        clear BK119
        clear HR122_4
        clear HR123_4
        clear BK125
        clear HB
        have HO_113002 := n0_
        have HO_120002 := n1_
        have HL122_4 := n2_
        have HL123_4 := n3_
        have BK112 := n4_
        have BK119 := n5_
        have HR122_4 := n6_
        have HR123_4 := n7_
        have BK125 := n8_
        have HB := n9_
        have BK124 := n10_
        have GW124 := n11_
        have GE124 := n12_
        have NB112_124 := n13_
        have NB124_112 := n14_
        have NB119_124 := n15_
        have NB124_119 := n16_
        have NB125_124 := n17_
        have NB124_125 := n18_
        clear n0_ n1_ n2_ n3_ n4_ n5_ n6_ n7_ n8_ n9_ n10_ n11_ n12_ n13_ n14_ n15_ n16_ n17_ n18_
        clear hb hbox hg
        refine hK.out _ _ ⟨(blk_cell BK112.out 0).trans rfl, (blk_cell BK112.out 1).trans rfl, (blk_cell BK112.out 2).trans rfl, (blk_cell BK119.out 0).trans rfl, (blk_cell BK119.out 1).trans rfl, (blk_cell BK119.out 2).trans rfl, HS6_, HS7_, HS8_, HS9_, HS10_, HS11_, HS12_, HS13_, HS14_, HS15_⟩ (fun hHeld => ?_)
        clear hK K
        refine norm_ (a' := ?_) ?_ ?_
        rotate_left
        ·show Act.put _ (some 11) _ = _
         simp only [Act.put, z1_, z2_, z3_, i64_w, i32_w]
         rfl
        exact norm_ (by simp only [putAll, Act.put, z1_, z2_, z3_]) (hCont (gb124, gb125) _ ⟨hHeld, (by (with_reducible repeat (first | apply Kd.R_alloc | apply Kd.R_drewN | apply Kd.R_drew)); exact Kd.R_mono HL122_4.out (fun _ hk => ⟨hk.2, hk.1⟩)), (by (with_reducible repeat (first | apply Kd.R_alloc | apply Kd.R_drewN | apply Kd.R_drew)); exact HL123_4.out), (by (with_reducible repeat (first | apply Kd.S_alloc | apply Kd.S_drewN | apply Kd.S_drew)); exact Kd.S_mono HO_113002.out (fun _ hk => ⟨hk.1.1, ⟨hk.2, hk.1.2⟩⟩)), (by (with_reducible repeat (first | apply Kd.S_alloc | apply Kd.S_drewN | apply Kd.S_drew)); exact Kd.S_mono HO_120002.out (fun _ hk => ⟨hk.1.1, ⟨hk.2, hk.1.2⟩⟩)), (by (with_reducible repeat (first | refine blk_drewN ?_ _ | refine blk_drew ?_ | refine blk_alloc ?_ _)); exact BK112.out), (by (with_reducible repeat (first | refine blk_drewN ?_ _ | refine blk_drew ?_ | refine blk_alloc ?_ _)); exact BK119.out), (by (with_reducible repeat (first | refine blk_drewN ?_ _ | refine blk_drew ?_ | refine blk_alloc ?_ _)); exact BK124.out), (by (with_reducible repeat (first | refine blk_drewN ?_ _ | refine blk_drew ?_ | refine blk_alloc ?_ _)); exact BK125.out), GW124.out, GE124.out, NB112_124.out, NB124_112.out, NB119_124.out, NB124_119.out, NB125_124.out, NB124_125.out, GW125.out, GE125.out, NB112_125.out, NB125_112.out, NB119_125.out, NB125_119.out, (by repeat (first | (with_reducible first | exact HB.out | apply below_alloc | apply pw_below_drewN | apply below_drew1 | refine below_set ?_ GE112.out | refine below_set ?_ GE119.out | refine below_set ?_ GE125.out | refine below_set ?_ GE124.out) | exact HB.out))⟩)
      rintro ⟨gb124, gb125⟩ w52 ⟨hS_, h0_, h1_, h2_, h3_, h4_, h5_, h6_, h7_, h8_, h9_, h10_, h11_, h12_, h13_, h14_, h15_, h16_, h17_, h18_, h19_, h20_, h21_, h22_⟩
      have n0_ : Aside0 (Kd.R (Kd.int .i64) 3 w52 w.heap.size (fun k_ => some k_ ≠ (.slice (some ad122) t108.length co23 : Value).ownBlock ∧ some k_ ≠ (.slice (some ad123) t115.length co28 : Value).ownBlock) (.slice A122_4 ((rd_T34 t108 x10_2).f4).length c122_4) ((rd_T34 t108 x10_2).f4)) := ⟨h0_⟩
      have n1_ : Aside0 (Kd.R (Kd.int .i64) 3 w52 w.heap.size (fun k_ => some k_ ≠ (.slice (some ad122) t108.length co23 : Value).ownBlock ∧ some k_ ≠ (.slice (some ad123) t115.length co28 : Value).ownBlock) (.slice A123_4 ((rd_T34 t115 x10_2).f4).length c123_4) ((rd_T34 t115 x10_2).f4)) := ⟨h1_⟩
      have n2_ : Aside0 (Kd.S k34 34 w52 w.heap.size (fun k_ => some k_ ≠ (.slice (some ad123) t115.length co28 : Value).ownBlock ∧ k_ ≠ gb124 ∧ k_ ≠ gb125) (.slice (some ad122) t108.length co23) t108) := ⟨h2_⟩
      have n3_ : Aside0 (Kd.S k34 34 w52 w.heap.size (fun k_ => some k_ ≠ (.slice (some ad122) t108.length co23 : Value).ownBlock ∧ k_ ≠ gb124 ∧ k_ ≠ gb125) (.slice (some ad123) t115.length co28) t115) := ⟨h3_⟩
      have n4_ : Aside0 (w52.heap[gb112]? = some (.cells #[.int .i64 t106, .int .i64 t107, .slice (some ad122) t108.length co23] 28 (0, 0))) := ⟨h4_⟩
      have n5_ : Aside0 (w52.heap[gb119]? = some (.cells #[.int .i64 t113, .int .i64 t114, .slice (some ad123) t115.length co28] 28 (0, 0))) := ⟨h5_⟩
      have n6_ : Aside0 (w52.heap[gb124]? = some (.cells #[.int .i64 0, .int .i64 0, .int .i64 0, .int .i64 0, .slice none 0 0] 34 (0, 0))) := ⟨h6_⟩
      have n7_ : Aside0 (w52.heap[gb125]? = some (.cells #[.int .i64 0, .int .i64 0, .int .i64 0, .int .i64 0, .slice none 0 0] 34 (0, 0))) := ⟨h7_⟩
      have n8_ : Aside0 (w.heap.size ≤ gb124) := ⟨h8_⟩
      have n9_ : Aside0 (w.heap.size ≤ gb124) := ⟨h9_⟩
      have n10_ : Aside0 (gb112 ≠ gb124) := ⟨h10_⟩
      have n11_ : Aside0 (gb124 ≠ gb112) := ⟨h11_⟩
      have n12_ : Aside0 (gb119 ≠ gb124) := ⟨h12_⟩
      have n13_ : Aside0 (gb124 ≠ gb119) := ⟨h13_⟩
      have n14_ : Aside0 (gb125 ≠ gb124) := ⟨h14_⟩
      have n15_ : Aside0 (gb124 ≠ gb125) := ⟨h15_⟩
      have n16_ : Aside0 (w.heap.size ≤ gb125) := ⟨h16_⟩
      have n17_ : Aside0 (w.heap.size ≤ gb125) := ⟨h17_⟩
      have n18_ : Aside0 (gb112 ≠ gb125) := ⟨h18_⟩
      have n19_ : Aside0 (gb125 ≠ gb112) := ⟨h19_⟩
      have n20_ : Aside0 (gb119 ≠ gb125) := ⟨h20_⟩
      have n21_ : Aside0 (gb125 ≠ gb119) := ⟨h21_⟩
      have n22_ : Aside0 (Below w.heap.size w w52) := ⟨h22_⟩
      clear HO_113002
      clear HO_120002
      clear BK112
      clear BK119
      clear HB
      clear h0_ h1_ h2_ h3_ h4_ h5_ h6_ h7_ h8_ h9_ h10_ h11_ h12_ h13_ h14_ h15_ h16_ h17_ h18_ h19_ h20_ h21_ h22_
      have HL122_4 := n0_
      have HL123_4 := n1_
      have HO_113002 := n2_
      have HO_120002 := n3_
      have BK112 := n4_
      have BK119 := n5_
      have BK124 := n6_
      have BK125 := n7_
      have GW124 := n8_
      have GE124 := n9_
      have NB112_124 := n10_
      have NB124_112 := n11_
      have NB119_124 := n12_
      have NB124_119 := n13_
      have NB125_124 := n14_
      have NB124_125 := n15_
      have GW125 := n16_
      have GE125 := n17_
      have NB112_125 := n18_
      have NB125_112 := n19_
      have NB119_125 := n20_
      have NB125_119 := n21_
      have HB := n22_
      clear n0_ n1_ n2_ n3_ n4_ n5_ n6_ n7_ n8_ n9_ n10_ n11_ n12_ n13_ n14_ n15_ n16_ n17_ n18_ n19_ n20_ n21_ n22_
      have hHeld : w52.cell? ⟨gb112, 0, none⟩ = some (.int .i64 t106) ∧ w52.cell? ⟨gb112, 1, none⟩ = some (.int .i64 t107) ∧ w52.cell? ⟨gb112, 2, none⟩ = some (.slice (some ad122) t108.length co23) ∧ w52.cell? ⟨gb119, 0, none⟩ = some (.int .i64 t113) ∧ w52.cell? ⟨gb119, 1, none⟩ = some (.int .i64 t114) ∧ w52.cell? ⟨gb119, 2, none⟩ = some (.slice (some ad123) t115.length co28) ∧ w52.cell? (ad122.add ((x10_2).toNat * 5)) = some (.int .i64 ((rd_T34 t108 x10_2).f0)) ∧ w52.cell? ⟨(ad122.add ((x10_2).toNat * 5)).block, (ad122.add ((x10_2).toNat * 5)).off + 1, none⟩ = some (.int .i64 ((rd_T34 t108 x10_2).f1)) ∧ w52.cell? ⟨(ad122.add ((x10_2).toNat * 5)).block, (ad122.add ((x10_2).toNat * 5)).off + 2, none⟩ = some (.int .i64 ((rd_T34 t108 x10_2).f2)) ∧ w52.cell? ⟨(ad122.add ((x10_2).toNat * 5)).block, (ad122.add ((x10_2).toNat * 5)).off + 3, none⟩ = some (.int .i64 ((rd_T34 t108 x10_2).f3)) ∧ w52.cell? ⟨(ad122.add ((x10_2).toNat * 5)).block, (ad122.add ((x10_2).toNat * 5)).off + 4, none⟩ = some (.slice A122_4 ((rd_T34 t108 x10_2).f4).length c122_4) ∧ w52.cell? (ad123.add ((x10_2).toNat * 5)) = some (.int .i64 ((rd_T34 t115 x10_2).f0)) ∧ w52.cell? ⟨(ad123.add ((x10_2).toNat * 5)).block, (ad123.add ((x10_2).toNat * 5)).off + 1, none⟩ = some (.int .i64 ((rd_T34 t115 x10_2).f1)) ∧ w52.cell? ⟨(ad123.add ((x10_2).toNat * 5)).block, (ad123.add ((x10_2).toNat * 5)).off + 2, none⟩ = some (.int .i64 ((rd_T34 t115 x10_2).f2)) ∧ w52.cell? ⟨(ad123.add ((x10_2).toNat * 5)).block, (ad123.add ((x10_2).toNat * 5)).off + 3, none⟩ = some (.int .i64 ((rd_T34 t115 x10_2).f3)) ∧ w52.cell? ⟨(ad123.add ((x10_2).toNat * 5)).block, (ad123.add ((x10_2).toNat * 5)).off + 4, none⟩ = some (.slice A123_4 ((rd_T34 t115 x10_2).f4).length c123_4) := hS_
      refine norm_ (a' := ?_) ?_ ?_
      rotate_left
      ·simp only [putAll, Act.put, z1_, z2_, z3_]
       rfl
      refine one_ (i := 12) (N := none) #[true, true, true, true, true, true, true, true, true, true, true, true, true, false] rfl rfl (one_of HT_.out (by kernel_rfl)) (by decide) (fun K hK => ?_)
      have hs53 : w52.cell? ⟨gb124, 0, none⟩ = some (.int .i64 0) := (blk_cell BK124.out 0).trans rfl
      have hfs53 := blk_frozen BK124.out 0
      have hns53_0 := NB112_124.out
      have hns53_1 := NB119_124.out
      have hns53_3 := NB125_124.out
      have hms53_0 := NB124_112.out
      have hms53_1 := NB124_119.out
      have hms53_3 := NB124_125.out
      have hs54 : w52.cell? ⟨gb124, 1, none⟩ = some (.int .i64 0) := (blk_cell BK124.out 1).trans rfl
      have hfs54 := blk_frozen BK124.out 1
      have hns54_0 := NB112_124.out
      have hns54_1 := NB119_124.out
      have hns54_3 := NB125_124.out
      have hms54_0 := NB124_112.out
      have hms54_1 := NB124_119.out
      have hms54_3 := NB124_125.out
      have hs55 : w52.cell? ⟨gb124, 2, none⟩ = some (.int .i64 0) := (blk_cell BK124.out 2).trans rfl
      have hfs55 := blk_frozen BK124.out 2
      have hns55_0 := NB112_124.out
      have hns55_1 := NB119_124.out
      have hns55_3 := NB125_124.out
      have hms55_0 := NB124_112.out
      have hms55_1 := NB124_119.out
      have hms55_3 := NB124_125.out
      have hs56 : w52.cell? ⟨gb124, 3, none⟩ = some (.int .i64 0) := (blk_cell BK124.out 3).trans rfl
      have hfs56 := blk_frozen BK124.out 3
      have hns56_0 := NB112_124.out
      have hns56_1 := NB119_124.out
      have hns56_3 := NB125_124.out
      have hms56_0 := NB124_112.out
      have hms56_1 := NB124_119.out
      have hms56_3 := NB124_125.out
      have hs57 : w52.cell? ⟨gb124, 4, none⟩ = some (.slice none 0 0) := (blk_cell BK124.out 4).trans rfl
      have hfs57 := blk_frozen BK124.out 4
      have hns57_0 := NB112_124.out
      have hns57_1 := NB119_124.out
      have hns57_3 := NB125_124.out
      have hms57_0 := NB124_112.out
      have hms57_1 := NB124_119.out
      have hms57_3 := NB124_125.out
      refine skip_ (w1 := ?_) (by rfl) rfl ?_ ?_
      rotate_left
      ·go_simp
       rfl
      refine hK.out _ _ ⟨((cell_far (p := ⟨gb124, _, none⟩) NB112_124.out _).trans (((cell_far (p := ⟨gb124, _, none⟩) NB112_124.out _).trans (((cell_far (p := ⟨gb124, _, none⟩) NB112_124.out _).trans (((cell_far (p := ⟨gb124, _, none⟩) NB112_124.out _).trans (((cell_far (p := ⟨gb124, _, none⟩) NB112_124.out _).trans (hHeld.1)))))))))), ((cell_far (p := ⟨gb124, _, none⟩) NB112_124.out _).trans (((cell_far (p := ⟨gb124, _, none⟩) NB112_124.out _).trans (((cell_far (p := ⟨gb124, _, none⟩) NB112_124.out _).trans (((cell_far (p := ⟨gb124, _, none⟩) NB112_124.out _).trans (((cell_far (p := ⟨gb124, _, none⟩) NB112_124.out _).trans (hHeld.2.1)))))))))), ((cell_far (p := ⟨gb124, _, none⟩) NB112_124.out _).trans (((cell_far (p := ⟨gb124, _, none⟩) NB112_124.out _).trans (((cell_far (p := ⟨gb124, _, none⟩) NB112_124.out _).trans (((cell_far (p := ⟨gb124, _, none⟩) NB112_124.out _).trans (((cell_far (p := ⟨gb124, _, none⟩) NB112_124.out _).trans (hHeld.2.2.1)))))))))), ((cell_far (p := ⟨gb124, _, none⟩) NB119_124.out _).trans (((cell_far (p := ⟨gb124, _, none⟩) NB119_124.out _).trans (((cell_far (p := ⟨gb124, _, none⟩) NB119_124.out _).trans (((cell_far (p := ⟨gb124, _, none⟩) NB119_124.out _).trans (((cell_far (p := ⟨gb124, _, none⟩) NB119_124.out _).trans (hHeld.2.2.2.1)))))))))), ((cell_far (p := ⟨gb124, _, none⟩) NB119_124.out _).trans (((cell_far (p := ⟨gb124, _, none⟩) NB119_124.out _).trans (((cell_far (p := ⟨gb124, _, none⟩) NB119_124.out _).trans (((cell_far (p := ⟨gb124, _, none⟩) NB119_124.out _).trans (((cell_far (p := ⟨gb124, _, none⟩) NB119_124.out _).trans (hHeld.2.2.2.2.1)))))))))), ((cell_far (p := ⟨gb124, _, none⟩) NB119_124.out _).trans (((cell_far (p := ⟨gb124, _, none⟩) NB119_124.out _).trans (((cell_far (p := ⟨gb124, _, none⟩) NB119_124.out _).trans (((cell_far (p := ⟨gb124, _, none⟩) NB119_124.out _).trans (((cell_far (p := ⟨gb124, _, none⟩) NB119_124.out _).trans (hHeld.2.2.2.2.2.1)))))))))), ((cell_far (p := ⟨gb124, _, none⟩) (by first | exact Kd.own_blk (Kd.S_away HO_113002.out (fun _ hk => hk.2.1)) | (rw [add_block]; exact Kd.own_blk (Kd.S_away HO_113002.out (fun _ hk => hk.2.1))) | (show (Addr.add _ _).block ≠ _; rw [add_block]; exact Kd.own_blk (Kd.S_away HO_113002.out (fun _ hk => hk.2.1))) | (dsimp only; exact Kd.own_blk (Kd.S_away HO_113002.out (fun _ hk => hk.2.1)))) _).trans (((cell_far (p := ⟨gb124, _, none⟩) (by first | exact Kd.own_blk (Kd.S_away HO_113002.out (fun _ hk => hk.2.1)) | (rw [add_block]; exact Kd.own_blk (Kd.S_away HO_113002.out (fun _ hk => hk.2.1))) | (show (Addr.add _ _).block ≠ _; rw [add_block]; exact Kd.own_blk (Kd.S_away HO_113002.out (fun _ hk => hk.2.1))) | (dsimp only; exact Kd.own_blk (Kd.S_away HO_113002.out (fun _ hk => hk.2.1)))) _).trans (((cell_far (p := ⟨gb124, _, none⟩) (by first | exact Kd.own_blk (Kd.S_away HO_113002.out (fun _ hk => hk.2.1)) | (rw [add_block]; exact Kd.own_blk (Kd.S_away HO_113002.out (fun _ hk => hk.2.1))) | (show (Addr.add _ _).block ≠ _; rw [add_block]; exact Kd.own_blk (Kd.S_away HO_113002.out (fun _ hk => hk.2.1))) | (dsimp only; exact Kd.own_blk (Kd.S_away HO_113002.out (fun _ hk => hk.2.1)))) _).trans (((cell_far (p := ⟨gb124, _, none⟩) (by first | exact Kd.own_blk (Kd.S_away HO_113002.out (fun _ hk => hk.2.1)) | (rw [add_block]; exact Kd.own_blk (Kd.S_away HO_113002.out (fun _ hk => hk.2.1))) | (show (Addr.add _ _).block ≠ _; rw [add_block]; exact Kd.own_blk (Kd.S_away HO_113002.out (fun _ hk => hk.2.1))) | (dsimp only; exact Kd.own_blk (Kd.S_away HO_113002.out (fun _ hk => hk.2.1)))) _).trans (((cell_far (p := ⟨gb124, _, none⟩) (by first | exact Kd.own_blk (Kd.S_away HO_113002.out (fun _ hk => hk.2.1)) | (rw [add_block]; exact Kd.own_blk (Kd.S_away HO_113002.out (fun _ hk => hk.2.1))) | (show (Addr.add _ _).block ≠ _; rw [add_block]; exact Kd.own_blk (Kd.S_away HO_113002.out (fun _ hk => hk.2.1))) | (dsimp only; exact Kd.own_blk (Kd.S_away HO_113002.out (fun _ hk => hk.2.1)))) _).trans (hHeld.2.2.2.2.2.2.1)))))))))), ((cell_far (p := ⟨gb124, _, none⟩) (by first | exact Kd.own_blk (Kd.S_away HO_113002.out (fun _ hk => hk.2.1)) | (rw [add_block]; exact Kd.own_blk (Kd.S_away HO_113002.out (fun _ hk => hk.2.1))) | (show (Addr.add _ _).block ≠ _; rw [add_block]; exact Kd.own_blk (Kd.S_away HO_113002.out (fun _ hk => hk.2.1))) | (dsimp only; exact Kd.own_blk (Kd.S_away HO_113002.out (fun _ hk => hk.2.1)))) _).trans (((cell_far (p := ⟨gb124, _, none⟩) (by first | exact Kd.own_blk (Kd.S_away HO_113002.out (fun _ hk => hk.2.1)) | (rw [add_block]; exact Kd.own_blk (Kd.S_away HO_113002.out (fun _ hk => hk.2.1))) | (show (Addr.add _ _).block ≠ _; rw [add_block]; exact Kd.own_blk (Kd.S_away HO_113002.out (fun _ hk => hk.2.1))) | (dsimp only; exact Kd.own_blk (Kd.S_away HO_113002.out (fun _ hk => hk.2.1)))) _).trans (((cell_far (p := ⟨gb124, _, none⟩) (by first | exact Kd.own_blk (Kd.S_away HO_113002.out (fun _ hk => hk.2.1)) | (rw [add_block]; exact Kd.own_blk (Kd.S_away HO_113002.out (fun _ hk => hk.2.1))) | (show (Addr.add _ _).block ≠ _; rw [add_block]; exact Kd.own_blk (Kd.S_away HO_113002.out (fun _ hk => hk.2.1))) | (dsimp only; exact Kd.own_blk (Kd.S_away HO_113002.out (fun _ hk => hk.2.1)))) _).trans (((cell_far (p := ⟨gb124, _, none⟩) (by first | exact Kd.own_blk (Kd.S_away HO_113002.out (fun _ hk => hk.2.1)) | (rw [add_block]; exact Kd.own_blk (Kd.S_away HO_113002.out (fun _ hk => hk.2.1))) | (show (Addr.add _ _).block ≠ _; rw [add_block]; exact Kd.own_blk (Kd.S_away HO_113002.out (fun _ hk => hk.2.1))) | (dsimp only; exact Kd.own_blk (Kd.S_away HO_113002.out (fun _ hk => hk.2.1)))) _).trans (((cell_far (p := ⟨gb124, _, none⟩) (by first | exact Kd.own_blk (Kd.S_away HO_113002.out (fun _ hk => hk.2.1)) | (rw [add_block]; exact Kd.own_blk (Kd.S_away HO_113002.out (fun _ hk => hk.2.1))) | (show (Addr.add _ _).block ≠ _; rw [add_block]; exact Kd.own_blk (Kd.S_away HO_113002.out (fun _ hk => hk.2.1))) | (dsimp only; exact Kd.own_blk (Kd.S_away HO_113002.out (fun _ hk => hk.2.1)))) _).trans (hHeld.2.2.2.2.2.2.2.1)))))))))), ((cell_far (p := ⟨gb124, _, none⟩) (by first | exact Kd.own_blk (Kd.S_away HO_113002.out (fun _ hk => hk.2.1)) | (rw [add_block]; exact Kd.own_blk (Kd.S_away HO_113002.out (fun _ hk => hk.2.1))) | (show (Addr.add _ _).block ≠ _; rw [add_block]; exact Kd.own_blk (Kd.S_away HO_113002.out (fun _ hk => hk.2.1))) | (dsimp only; exact Kd.own_blk (Kd.S_away HO_113002.out (fun _ hk => hk.2.1)))) _).trans (((cell_far (p := ⟨gb124, _, none⟩) (by first | exact Kd.own_blk (Kd.S_away HO_113002.out (fun _ hk => hk.2.1)) | (rw [add_block]; exact Kd.own_blk (Kd.S_away HO_113002.out (fun _ hk => hk.2.1))) | (show (Addr.add _ _).block ≠ _; rw [add_block]; exact Kd.own_blk (Kd.S_away HO_113002.out (fun _ hk => hk.2.1))) | (dsimp only; exact Kd.own_blk (Kd.S_away HO_113002.out (fun _ hk => hk.2.1)))) _).trans (((cell_far (p := ⟨gb124, _, none⟩) (by first | exact Kd.own_blk (Kd.S_away HO_113002.out (fun _ hk => hk.2.1)) | (rw [add_block]; exact Kd.own_blk (Kd.S_away HO_113002.out (fun _ hk => hk.2.1))) | (show (Addr.add _ _).block ≠ _; rw [add_block]; exact Kd.own_blk (Kd.S_away HO_113002.out (fun _ hk => hk.2.1))) | (dsimp only; exact Kd.own_blk (Kd.S_away HO_113002.out (fun _ hk => hk.2.1)))) _).trans (((cell_far (p := ⟨gb124, _, none⟩) (by first | exact Kd.own_blk (Kd.S_away HO_113002.out (fun _ hk => hk.2.1)) | (rw [add_block]; exact Kd.own_blk (Kd.S_away HO_113002.out (fun _ hk => hk.2.1))) | (show (Addr.add _ _).block ≠ _; rw [add_block]; exact Kd.own_blk (Kd.S_away HO_113002.out (fun _ hk => hk.2.1))) | (dsimp only; exact Kd.own_blk (Kd.S_away HO_113002.out (fun _ hk => hk.2.1)))) _).trans (((cell_far (p := ⟨gb124, _, none⟩) (by first | exact Kd.own_blk (Kd.S_away HO_113002.out (fun _ hk => hk.2.1)) | (rw [add_block]; exact Kd.own_blk (Kd.S_away HO_113002.out (fun _ hk => hk.2.1))) | (show (Addr.add _ _).block ≠ _; rw [add_block]; exact Kd.own_blk (Kd.S_away HO_113002.out (fun _ hk => hk.2.1))) | (dsimp only; exact Kd.own_blk (Kd.S_away HO_113002.out (fun _ hk => hk.2.1)))) _).trans (hHeld.2.2.2.2.2.2.2.2.1)))))))))), ((cell_far (p := ⟨gb124, _, none⟩) (by first | exact Kd.own_blk (Kd.S_away HO_113002.out (fun _ hk => hk.2.1)) | (rw [add_block]; exact Kd.own_blk (Kd.S_away HO_113002.out (fun _ hk => hk.2.1))) | (show (Addr.add _ _).block ≠ _; rw [add_block]; exact Kd.own_blk (Kd.S_away HO_113002.out (fun _ hk => hk.2.1))) | (dsimp only; exact Kd.own_blk (Kd.S_away HO_113002.out (fun _ hk => hk.2.1)))) _).trans (((cell_far (p := ⟨gb124, _, none⟩) (by first | exact Kd.own_blk (Kd.S_away HO_113002.out (fun _ hk => hk.2.1)) | (rw [add_block]; exact Kd.own_blk (Kd.S_away HO_113002.out (fun _ hk => hk.2.1))) | (show (Addr.add _ _).block ≠ _; rw [add_block]; exact Kd.own_blk (Kd.S_away HO_113002.out (fun _ hk => hk.2.1))) | (dsimp only; exact Kd.own_blk (Kd.S_away HO_113002.out (fun _ hk => hk.2.1)))) _).trans (((cell_far (p := ⟨gb124, _, none⟩) (by first | exact Kd.own_blk (Kd.S_away HO_113002.out (fun _ hk => hk.2.1)) | (rw [add_block]; exact Kd.own_blk (Kd.S_away HO_113002.out (fun _ hk => hk.2.1))) | (show (Addr.add _ _).block ≠ _; rw [add_block]; exact Kd.own_blk (Kd.S_away HO_113002.out (fun _ hk => hk.2.1))) | (dsimp only; exact Kd.own_blk (Kd.S_away HO_113002.out (fun _ hk => hk.2.1)))) _).trans (((cell_far (p := ⟨gb124, _, none⟩) (by first | exact Kd.own_blk (Kd.S_away HO_113002.out (fun _ hk => hk.2.1)) | (rw [add_block]; exact Kd.own_blk (Kd.S_away HO_113002.out (fun _ hk => hk.2.1))) | (show (Addr.add _ _).block ≠ _; rw [add_block]; exact Kd.own_blk (Kd.S_away HO_113002.out (fun _ hk => hk.2.1))) | (dsimp only; exact Kd.own_blk (Kd.S_away HO_113002.out (fun _ hk => hk.2.1)))) _).trans (((cell_far (p := ⟨gb124, _, none⟩) (by first | exact Kd.own_blk (Kd.S_away HO_113002.out (fun _ hk => hk.2.1)) | (rw [add_block]; exact Kd.own_blk (Kd.S_away HO_113002.out (fun _ hk => hk.2.1))) | (show (Addr.add _ _).block ≠ _; rw [add_block]; exact Kd.own_blk (Kd.S_away HO_113002.out (fun _ hk => hk.2.1))) | (dsimp only; exact Kd.own_blk (Kd.S_away HO_113002.out (fun _ hk => hk.2.1)))) _).trans (hHeld.2.2.2.2.2.2.2.2.2.1)))))))))), ((cell_far (p := ⟨gb124, _, none⟩) (by first | exact Kd.own_blk (Kd.S_away HO_113002.out (fun _ hk => hk.2.1)) | (rw [add_block]; exact Kd.own_blk (Kd.S_away HO_113002.out (fun _ hk => hk.2.1))) | (show (Addr.add _ _).block ≠ _; rw [add_block]; exact Kd.own_blk (Kd.S_away HO_113002.out (fun _ hk => hk.2.1))) | (dsimp only; exact Kd.own_blk (Kd.S_away HO_113002.out (fun _ hk => hk.2.1)))) _).trans (((cell_far (p := ⟨gb124, _, none⟩) (by first | exact Kd.own_blk (Kd.S_away HO_113002.out (fun _ hk => hk.2.1)) | (rw [add_block]; exact Kd.own_blk (Kd.S_away HO_113002.out (fun _ hk => hk.2.1))) | (show (Addr.add _ _).block ≠ _; rw [add_block]; exact Kd.own_blk (Kd.S_away HO_113002.out (fun _ hk => hk.2.1))) | (dsimp only; exact Kd.own_blk (Kd.S_away HO_113002.out (fun _ hk => hk.2.1)))) _).trans (((cell_far (p := ⟨gb124, _, none⟩) (by first | exact Kd.own_blk (Kd.S_away HO_113002.out (fun _ hk => hk.2.1)) | (rw [add_block]; exact Kd.own_blk (Kd.S_away HO_113002.out (fun _ hk => hk.2.1))) | (show (Addr.add _ _).block ≠ _; rw [add_block]; exact Kd.own_blk (Kd.S_away HO_113002.out (fun _ hk => hk.2.1))) | (dsimp only; exact Kd.own_blk (Kd.S_away HO_113002.out (fun _ hk => hk.2.1)))) _).trans (((cell_far (p := ⟨gb124, _, none⟩) (by first | exact Kd.own_blk (Kd.S_away HO_113002.out (fun _ hk => hk.2.1)) | (rw [add_block]; exact Kd.own_blk (Kd.S_away HO_113002.out (fun _ hk => hk.2.1))) | (show (Addr.add _ _).block ≠ _; rw [add_block]; exact Kd.own_blk (Kd.S_away HO_113002.out (fun _ hk => hk.2.1))) | (dsimp only; exact Kd.own_blk (Kd.S_away HO_113002.out (fun _ hk => hk.2.1)))) _).trans (((cell_far (p := ⟨gb124, _, none⟩) (by first | exact Kd.own_blk (Kd.S_away HO_113002.out (fun _ hk => hk.2.1)) | (rw [add_block]; exact Kd.own_blk (Kd.S_away HO_113002.out (fun _ hk => hk.2.1))) | (show (Addr.add _ _).block ≠ _; rw [add_block]; exact Kd.own_blk (Kd.S_away HO_113002.out (fun _ hk => hk.2.1))) | (dsimp only; exact Kd.own_blk (Kd.S_away HO_113002.out (fun _ hk => hk.2.1)))) _).trans (hHeld.2.2.2.2.2.2.2.2.2.2.1)))))))))), ((cell_far (p := ⟨gb124, _, none⟩) (by first | exact Kd.own_blk (Kd.S_away HO_120002.out (fun _ hk => hk.2.1)) | (rw [add_block]; exact Kd.own_blk (Kd.S_away HO_120002.out (fun _ hk => hk.2.1))) | (show (Addr.add _ _).block ≠ _; rw [add_block]; exact Kd.own_blk (Kd.S_away HO_120002.out (fun _ hk => hk.2.1))) | (dsimp only; exact Kd.own_blk (Kd.S_away HO_120002.out (fun _ hk => hk.2.1)))) _).trans (((cell_far (p := ⟨gb124, _, none⟩) (by first | exact Kd.own_blk (Kd.S_away HO_120002.out (fun _ hk => hk.2.1)) | (rw [add_block]; exact Kd.own_blk (Kd.S_away HO_120002.out (fun _ hk => hk.2.1))) | (show (Addr.add _ _).block ≠ _; rw [add_block]; exact Kd.own_blk (Kd.S_away HO_120002.out (fun _ hk => hk.2.1))) | (dsimp only; exact Kd.own_blk (Kd.S_away HO_120002.out (fun _ hk => hk.2.1)))) _).trans (((cell_far (p := ⟨gb124, _, none⟩) (by first | exact Kd.own_blk (Kd.S_away HO_120002.out (fun _ hk => hk.2.1)) | (rw [add_block]; exact Kd.own_blk (Kd.S_away HO_120002.out (fun _ hk => hk.2.1))) | (show (Addr.add _ _).block ≠ _; rw [add_block]; exact Kd.own_blk (Kd.S_away HO_120002.out (fun _ hk => hk.2.1))) | (dsimp only; exact Kd.own_blk (Kd.S_away HO_120002.out (fun _ hk => hk.2.1)))) _).trans (((cell_far (p := ⟨gb124, _, none⟩) (by first | exact Kd.own_blk (Kd.S_away HO_120002.out (fun _ hk => hk.2.1)) | (rw [add_block]; exact Kd.own_blk (Kd.S_away HO_120002.out (fun _ hk => hk.2.1))) | (show (Addr.add _ _).block ≠ _; rw [add_block]; exact Kd.own_blk (Kd.S_away HO_120002.out (fun _ hk => hk.2.1))) | (dsimp only; exact Kd.own_blk (Kd.S_away HO_120002.out (fun _ hk => hk.2.1)))) _).trans (((cell_far (p := ⟨gb124, _, none⟩) (by first | exact Kd.own_blk (Kd.S_away HO_120002.out (fun _ hk => hk.2.1)) | (rw [add_block]; exact Kd.own_blk (Kd.S_away HO_120002.out (fun _ hk => hk.2.1))) | (show (Addr.add _ _).block ≠ _; rw [add_block]; exact Kd.own_blk (Kd.S_away HO_120002.out (fun _ hk => hk.2.1))) | (dsimp only; exact Kd.own_blk (Kd.S_away HO_120002.out (fun _ hk => hk.2.1)))) _).trans (hHeld.2.2.2.2.2.2.2.2.2.2.2.1)))))))))), ((cell_far (p := ⟨gb124, _, none⟩) (by first | exact Kd.own_blk (Kd.S_away HO_120002.out (fun _ hk => hk.2.1)) | (rw [add_block]; exact Kd.own_blk (Kd.S_away HO_120002.out (fun _ hk => hk.2.1))) | (show (Addr.add _ _).block ≠ _; rw [add_block]; exact Kd.own_blk (Kd.S_away HO_120002.out (fun _ hk => hk.2.1))) | (dsimp only; exact Kd.own_blk (Kd.S_away HO_120002.out (fun _ hk => hk.2.1)))) _).trans (((cell_far (p := ⟨gb124, _, none⟩) (by first | exact Kd.own_blk (Kd.S_away HO_120002.out (fun _ hk => hk.2.1)) | (rw [add_block]; exact Kd.own_blk (Kd.S_away HO_120002.out (fun _ hk => hk.2.1))) | (show (Addr.add _ _).block ≠ _; rw [add_block]; exact Kd.own_blk (Kd.S_away HO_120002.out (fun _ hk => hk.2.1))) | (dsimp only; exact Kd.own_blk (Kd.S_away HO_120002.out (fun _ hk => hk.2.1)))) _).trans (((cell_far (p := ⟨gb124, _, none⟩) (by first | exact Kd.own_blk (Kd.S_away HO_120002.out (fun _ hk => hk.2.1)) | (rw [add_block]; exact Kd.own_blk (Kd.S_away HO_120002.out (fun _ hk => hk.2.1))) | (show (Addr.add _ _).block ≠ _; rw [add_block]; exact Kd.own_blk (Kd.S_away HO_120002.out (fun _ hk => hk.2.1))) | (dsimp only; exact Kd.own_blk (Kd.S_away HO_120002.out (fun _ hk => hk.2.1)))) _).trans (((cell_far (p := ⟨gb124, _, none⟩) (by first | exact Kd.own_blk (Kd.S_away HO_120002.out (fun _ hk => hk.2.1)) | (rw [add_block]; exact Kd.own_blk (Kd.S_away HO_120002.out (fun _ hk => hk.2.1))) | (show (Addr.add _ _).block ≠ _; rw [add_block]; exact Kd.own_blk (Kd.S_away HO_120002.out (fun _ hk => hk.2.1))) | (dsimp only; exact Kd.own_blk (Kd.S_away HO_120002.out (fun _ hk => hk.2.1)))) _).trans (((cell_far (p := ⟨gb124, _, none⟩) (by first | exact Kd.own_blk (Kd.S_away HO_120002.out (fun _ hk => hk.2.1)) | (rw [add_block]; exact Kd.own_blk (Kd.S_away HO_120002.out (fun _ hk => hk.2.1))) | (show (Addr.add _ _).block ≠ _; rw [add_block]; exact Kd.own_blk (Kd.S_away HO_120002.out (fun _ hk => hk.2.1))) | (dsimp only; exact Kd.own_blk (Kd.S_away HO_120002.out (fun _ hk => hk.2.1)))) _).trans (hHeld.2.2.2.2.2.2.2.2.2.2.2.2.1)))))))))), ((cell_far (p := ⟨gb124, _, none⟩) (by first | exact Kd.own_blk (Kd.S_away HO_120002.out (fun _ hk => hk.2.1)) | (rw [add_block]; exact Kd.own_blk (Kd.S_away HO_120002.out (fun _ hk => hk.2.1))) | (show (Addr.add _ _).block ≠ _; rw [add_block]; exact Kd.own_blk (Kd.S_away HO_120002.out (fun _ hk => hk.2.1))) | (dsimp only; exact Kd.own_blk (Kd.S_away HO_120002.out (fun _ hk => hk.2.1)))) _).trans (((cell_far (p := ⟨gb124, _, none⟩) (by first | exact Kd.own_blk (Kd.S_away HO_120002.out (fun _ hk => hk.2.1)) | (rw [add_block]; exact Kd.own_blk (Kd.S_away HO_120002.out (fun _ hk => hk.2.1))) | (show (Addr.add _ _).block ≠ _; rw [add_block]; exact Kd.own_blk (Kd.S_away HO_120002.out (fun _ hk => hk.2.1))) | (dsimp only; exact Kd.own_blk (Kd.S_away HO_120002.out (fun _ hk => hk.2.1)))) _).trans (((cell_far (p := ⟨gb124, _, none⟩) (by first | exact Kd.own_blk (Kd.S_away HO_120002.out (fun _ hk => hk.2.1)) | (rw [add_block]; exact Kd.own_blk (Kd.S_away HO_120002.out (fun _ hk => hk.2.1))) | (show (Addr.add _ _).block ≠ _; rw [add_block]; exact Kd.own_blk (Kd.S_away HO_120002.out (fun _ hk => hk.2.1))) | (dsimp only; exact Kd.own_blk (Kd.S_away HO_120002.out (fun _ hk => hk.2.1)))) _).trans (((cell_far (p := ⟨gb124, _, none⟩) (by first | exact Kd.own_blk (Kd.S_away HO_120002.out (fun _ hk => hk.2.1)) | (rw [add_block]; exact Kd.own_blk (Kd.S_away HO_120002.out (fun _ hk => hk.2.1))) | (show (Addr.add _ _).block ≠ _; rw [add_block]; exact Kd.own_blk (Kd.S_away HO_120002.out (fun _ hk => hk.2.1))) | (dsimp only; exact Kd.own_blk (Kd.S_away HO_120002.out (fun _ hk => hk.2.1)))) _).trans (((cell_far (p := ⟨gb124, _, none⟩) (by first | exact Kd.own_blk (Kd.S_away HO_120002.out (fun _ hk => hk.2.1)) | (rw [add_block]; exact Kd.own_blk (Kd.S_away HO_120002.out (fun _ hk => hk.2.1))) | (show (Addr.add _ _).block ≠ _; rw [add_block]; exact Kd.own_blk (Kd.S_away HO_120002.out (fun _ hk => hk.2.1))) | (dsimp only; exact Kd.own_blk (Kd.S_away HO_120002.out (fun _ hk => hk.2.1)))) _).trans (hHeld.2.2.2.2.2.2.2.2.2.2.2.2.2.1)))))))))), ((cell_far (p := ⟨gb124, _, none⟩) (by first | exact Kd.own_blk (Kd.S_away HO_120002.out (fun _ hk => hk.2.1)) | (rw [add_block]; exact Kd.own_blk (Kd.S_away HO_120002.out (fun _ hk => hk.2.1))) | (show (Addr.add _ _).block ≠ _; rw [add_block]; exact Kd.own_blk (Kd.S_away HO_120002.out (fun _ hk => hk.2.1))) | (dsimp only; exact Kd.own_blk (Kd.S_away HO_120002.out (fun _ hk => hk.2.1)))) _).trans (((cell_far (p := ⟨gb124, _, none⟩) (by first | exact Kd.own_blk (Kd.S_away HO_120002.out (fun _ hk => hk.2.1)) | (rw [add_block]; exact Kd.own_blk (Kd.S_away HO_120002.out (fun _ hk => hk.2.1))) | (show (Addr.add _ _).block ≠ _; rw [add_block]; exact Kd.own_blk (Kd.S_away HO_120002.out (fun _ hk => hk.2.1))) | (dsimp only; exact Kd.own_blk (Kd.S_away HO_120002.out (fun _ hk => hk.2.1)))) _).trans (((cell_far (p := ⟨gb124, _, none⟩) (by first | exact Kd.own_blk (Kd.S_away HO_120002.out (fun _ hk => hk.2.1)) | (rw [add_block]; exact Kd.own_blk (Kd.S_away HO_120002.out (fun _ hk => hk.2.1))) | (show (Addr.add _ _).block ≠ _; rw [add_block]; exact Kd.own_blk (Kd.S_away HO_120002.out (fun _ hk => hk.2.1))) | (dsimp only; exact Kd.own_blk (Kd.S_away HO_120002.out (fun _ hk => hk.2.1)))) _).trans (((cell_far (p := ⟨gb124, _, none⟩) (by first | exact Kd.own_blk (Kd.S_away HO_120002.out (fun _ hk => hk.2.1)) | (rw [add_block]; exact Kd.own_blk (Kd.S_away HO_120002.out (fun _ hk => hk.2.1))) | (show (Addr.add _ _).block ≠ _; rw [add_block]; exact Kd.own_blk (Kd.S_away HO_120002.out (fun _ hk => hk.2.1))) | (dsimp only; exact Kd.own_blk (Kd.S_away HO_120002.out (fun _ hk => hk.2.1)))) _).trans (((cell_far (p := ⟨gb124, _, none⟩) (by first | exact Kd.own_blk (Kd.S_away HO_120002.out (fun _ hk => hk.2.1)) | (rw [add_block]; exact Kd.own_blk (Kd.S_away HO_120002.out (fun _ hk => hk.2.1))) | (show (Addr.add _ _).block ≠ _; rw [add_block]; exact Kd.own_blk (Kd.S_away HO_120002.out (fun _ hk => hk.2.1))) | (dsimp only; exact Kd.own_blk (Kd.S_away HO_120002.out (fun _ hk => hk.2.1)))) _).trans (hHeld.2.2.2.2.2.2.2.2.2.2.2.2.2.2.1)))))))))), ((cell_far (p := ⟨gb124, _, none⟩) (by first | exact Kd.own_blk (Kd.S_away HO_120002.out (fun _ hk => hk.2.1)) | (rw [add_block]; exact Kd.own_blk (Kd.S_away HO_120002.out (fun _ hk => hk.2.1))) | (show (Addr.add _ _).block ≠ _; rw [add_block]; exact Kd.own_blk (Kd.S_away HO_120002.out (fun _ hk => hk.2.1))) | (dsimp only; exact Kd.own_blk (Kd.S_away HO_120002.out (fun _ hk => hk.2.1)))) _).trans (((cell_far (p := ⟨gb124, _, none⟩) (by first | exact Kd.own_blk (Kd.S_away HO_120002.out (fun _ hk => hk.2.1)) | (rw [add_block]; exact Kd.own_blk (Kd.S_away HO_120002.out (fun _ hk => hk.2.1))) | (show (Addr.add _ _).block ≠ _; rw [add_block]; exact Kd.own_blk (Kd.S_away HO_120002.out (fun _ hk => hk.2.1))) | (dsimp only; exact Kd.own_blk (Kd.S_away HO_120002.out (fun _ hk => hk.2.1)))) _).trans (((cell_far (p := ⟨gb124, _, none⟩) (by first | exact Kd.own_blk (Kd.S_away HO_120002.out (fun _ hk => hk.2.1)) | (rw [add_block]; exact Kd.own_blk (Kd.S_away HO_120002.out (fun _ hk => hk.2.1))) | (show (Addr.add _ _).block ≠ _; rw [add_block]; exact Kd.own_blk (Kd.S_away HO_120002.out (fun _ hk => hk.2.1))) | (dsimp only; exact Kd.own_blk (Kd.S_away HO_120002.out (fun _ hk => hk.2.1)))) _).trans (((cell_far (p := ⟨gb124, _, none⟩) (by first | exact Kd.own_blk (Kd.S_away HO_120002.out (fun _ hk => hk.2.1)) | (rw [add_block]; exact Kd.own_blk (Kd.S_away HO_120002.out (fun _ hk => hk.2.1))) | (show (Addr.add _ _).block ≠ _; rw [add_block]; exact Kd.own_blk (Kd.S_away HO_120002.out (fun _ hk => hk.2.1))) | (dsimp only; exact Kd.own_blk (Kd.S_away HO_120002.out (fun _ hk => hk.2.1)))) _).trans (((cell_far (p := ⟨gb124, _, none⟩) (by first | exact Kd.own_blk (Kd.S_away HO_120002.out (fun _ hk => hk.2.1)) | (rw [add_block]; exact Kd.own_blk (Kd.S_away HO_120002.out (fun _ hk => hk.2.1))) | (show (Addr.add _ _).block ≠ _; rw [add_block]; exact Kd.own_blk (Kd.S_away HO_120002.out (fun _ hk => hk.2.1))) | (dsimp only; exact Kd.own_blk (Kd.S_away HO_120002.out (fun _ hk => hk.2.1)))) _).trans (hHeld.2.2.2.2.2.2.2.2.2.2.2.2.2.2.2))))))))))⟩ (fun hHeld => ?_)
      clear hK K
      refine one_ (i := 13) (N := none) #[true, true, true, true, true, true, true, true, true, true, true, true, true, true] rfl rfl (one_of HT_.out (by kernel_rfl)) (by decide) (fun K hK => ?_)
      have hs58 : w52.cell? ⟨gb125, 0, none⟩ = some (.int .i64 0) := (blk_cell BK125.out 0).trans rfl
      have hfs58 := blk_frozen BK125.out 0
      have hns58_0 := NB112_125.out
      have hns58_1 := NB119_125.out
      have hns58_2 := NB124_125.out
      have hms58_0 := NB125_112.out
      have hms58_1 := NB125_119.out
      have hms58_2 := NB125_124.out
      have hs59 : w52.cell? ⟨gb125, 1, none⟩ = some (.int .i64 0) := (blk_cell BK125.out 1).trans rfl
      have hfs59 := blk_frozen BK125.out 1
      have hns59_0 := NB112_125.out
      have hns59_1 := NB119_125.out
      have hns59_2 := NB124_125.out
      have hms59_0 := NB125_112.out
      have hms59_1 := NB125_119.out
      have hms59_2 := NB125_124.out
      have hs60 : w52.cell? ⟨gb125, 2, none⟩ = some (.int .i64 0) := (blk_cell BK125.out 2).trans rfl
      have hfs60 := blk_frozen BK125.out 2
      have hns60_0 := NB112_125.out
      have hns60_1 := NB119_125.out
      have hns60_2 := NB124_125.out
      have hms60_0 := NB125_112.out
      have hms60_1 := NB125_119.out
      have hms60_2 := NB125_124.out
      have hs61 : w52.cell? ⟨gb125, 3, none⟩ = some (.int .i64 0) := (blk_cell BK125.out 3).trans rfl
      have hfs61 := blk_frozen BK125.out 3
      have hns61_0 := NB112_125.out
      have hns61_1 := NB119_125.out
      have hns61_2 := NB124_125.out
      have hms61_0 := NB125_112.out
      have hms61_1 := NB125_119.out
      have hms61_2 := NB125_124.out
      have hs62 : w52.cell? ⟨gb125, 4, none⟩ = some (.slice none 0 0) := (blk_cell BK125.out 4).trans rfl
      have hfs62 := blk_frozen BK125.out 4
      have hns62_0 := NB112_125.out
      have hns62_1 := NB119_125.out
      have hns62_2 := NB124_125.out
      have hms62_0 := NB125_112.out
      have hms62_1 := NB125_119.out
      have hms62_2 := NB125_124.out
      refine skip_ (w1 := ?_) (by rfl) rfl ?_ ?_
      rotate_left
      ·go_simp
       rfl
      refine hK.out _ _ ⟨((cell_far (p := ⟨gb125, _, none⟩) NB112_125.out _).trans (((cell_far (p := ⟨gb125, _, none⟩) NB112_125.out _).trans (((cell_far (p := ⟨gb125, _, none⟩) NB112_125.out _).trans (((cell_far (p := ⟨gb125, _, none⟩) NB112_125.out _).trans (((cell_far (p := ⟨gb125, _, none⟩) NB112_125.out _).trans (hHeld.1)))))))))), ((cell_far (p := ⟨gb125, _, none⟩) NB112_125.out _).trans (((cell_far (p := ⟨gb125, _, none⟩) NB112_125.out _).trans (((cell_far (p := ⟨gb125, _, none⟩) NB112_125.out _).trans (((cell_far (p := ⟨gb125, _, none⟩) NB112_125.out _).trans (((cell_far (p := ⟨gb125, _, none⟩) NB112_125.out _).trans (hHeld.2.1)))))))))), ((cell_far (p := ⟨gb125, _, none⟩) NB112_125.out _).trans (((cell_far (p := ⟨gb125, _, none⟩) NB112_125.out _).trans (((cell_far (p := ⟨gb125, _, none⟩) NB112_125.out _).trans (((cell_far (p := ⟨gb125, _, none⟩) NB112_125.out _).trans (((cell_far (p := ⟨gb125, _, none⟩) NB112_125.out _).trans (hHeld.2.2.1)))))))))), ((cell_far (p := ⟨gb125, _, none⟩) NB119_125.out _).trans (((cell_far (p := ⟨gb125, _, none⟩) NB119_125.out _).trans (((cell_far (p := ⟨gb125, _, none⟩) NB119_125.out _).trans (((cell_far (p := ⟨gb125, _, none⟩) NB119_125.out _).trans (((cell_far (p := ⟨gb125, _, none⟩) NB119_125.out _).trans (hHeld.2.2.2.1)))))))))), ((cell_far (p := ⟨gb125, _, none⟩) NB119_125.out _).trans (((cell_far (p := ⟨gb125, _, none⟩) NB119_125.out _).trans (((cell_far (p := ⟨gb125, _, none⟩) NB119_125.out _).trans (((cell_far (p := ⟨gb125, _, none⟩) NB119_125.out _).trans (((cell_far (p := ⟨gb125, _, none⟩) NB119_125.out _).trans (hHeld.2.2.2.2.1)))))))))), ((cell_far (p := ⟨gb125, _, none⟩) NB119_125.out _).trans (((cell_far (p := ⟨gb125, _, none⟩) NB119_125.out _).trans (((cell_far (p := ⟨gb125, _, none⟩) NB119_125.out _).trans (((cell_far (p := ⟨gb125, _, none⟩) NB119_125.out _).trans (((cell_far (p := ⟨gb125, _, none⟩) NB119_125.out _).trans (hHeld.2.2.2.2.2.1)))))))))), ((cell_far (p := ⟨gb125, _, none⟩) (by first | exact Kd.own_blk (Kd.S_away HO_113002.out (fun _ hk => hk.2.2)) | (rw [add_block]; exact Kd.own_blk (Kd.S_away HO_113002.out (fun _ hk => hk.2.2))) | (show (Addr.add _ _).block ≠ _; rw [add_block]; exact Kd.own_blk (Kd.S_away HO_113002.out (fun _ hk => hk.2.2))) | (dsimp only; exact Kd.own_blk (Kd.S_away HO_113002.out (fun _ hk => hk.2.2)))) _).trans (((cell_far (p := ⟨gb125, _, none⟩) (by first | exact Kd.own_blk (Kd.S_away HO_113002.out (fun _ hk => hk.2.2)) | (rw [add_block]; exact Kd.own_blk (Kd.S_away HO_113002.out (fun _ hk => hk.2.2))) | (show (Addr.add _ _).block ≠ _; rw [add_block]; exact Kd.own_blk (Kd.S_away HO_113002.out (fun _ hk => hk.2.2))) | (dsimp only; exact Kd.own_blk (Kd.S_away HO_113002.out (fun _ hk => hk.2.2)))) _).trans (((cell_far (p := ⟨gb125, _, none⟩) (by first | exact Kd.own_blk (Kd.S_away HO_113002.out (fun _ hk => hk.2.2)) | (rw [add_block]; exact Kd.own_blk (Kd.S_away HO_113002.out (fun _ hk => hk.2.2))) | (show (Addr.add _ _).block ≠ _; rw [add_block]; exact Kd.own_blk (Kd.S_away HO_113002.out (fun _ hk => hk.2.2))) | (dsimp only; exact Kd.own_blk (Kd.S_away HO_113002.out (fun _ hk => hk.2.2)))) _).trans (((cell_far (p := ⟨gb125, _, none⟩) (by first | exact Kd.own_blk (Kd.S_away HO_113002.out (fun _ hk => hk.2.2)) | (rw [add_block]; exact Kd.own_blk (Kd.S_away HO_113002.out (fun _ hk => hk.2.2))) | (show (Addr.add _ _).block ≠ _; rw [add_block]; exact Kd.own_blk (Kd.S_away HO_113002.out (fun _ hk => hk.2.2))) | (dsimp only; exact Kd.own_blk (Kd.S_away HO_113002.out (fun _ hk => hk.2.2)))) _).trans (((cell_far (p := ⟨gb125, _, none⟩) (by first | exact Kd.own_blk (Kd.S_away HO_113002.out (fun _ hk => hk.2.2)) | (rw [add_block]; exact Kd.own_blk (Kd.S_away HO_113002.out (fun _ hk => hk.2.2))) | (show (Addr.add _ _).block ≠ _; rw [add_block]; exact Kd.own_blk (Kd.S_away HO_113002.out (fun _ hk => hk.2.2))) | (dsimp only; exact Kd.own_blk (Kd.S_away HO_113002.out (fun _ hk => hk.2.2)))) _).trans (hHeld.2.2.2.2.2.2.1)))))))))), ((cell_far (p := ⟨gb125, _, none⟩) (by first | exact Kd.own_blk (Kd.S_away HO_113002.out (fun _ hk => hk.2.2)) | (rw [add_block]; exact Kd.own_blk (Kd.S_away HO_113002.out (fun _ hk => hk.2.2))) | (show (Addr.add _ _).block ≠ _; rw [add_block]; exact Kd.own_blk (Kd.S_away HO_113002.out (fun _ hk => hk.2.2))) | (dsimp only; exact Kd.own_blk (Kd.S_away HO_113002.out (fun _ hk => hk.2.2)))) _).trans (((cell_far (p := ⟨gb125, _, none⟩) (by first | exact Kd.own_blk (Kd.S_away HO_113002.out (fun _ hk => hk.2.2)) | (rw [add_block]; exact Kd.own_blk (Kd.S_away HO_113002.out (fun _ hk => hk.2.2))) | (show (Addr.add _ _).block ≠ _; rw [add_block]; exact Kd.own_blk (Kd.S_away HO_113002.out (fun _ hk => hk.2.2))) | (dsimp only; exact Kd.own_blk (Kd.S_away HO_113002.out (fun _ hk => hk.2.2)))) _).trans (((cell_far (p := ⟨gb125, _, none⟩) (by first | exact Kd.own_blk (Kd.S_away HO_113002.out (fun _ hk => hk.2.2)) | (rw [add_block]; exact Kd.own_blk (Kd.S_away HO_113002.out (fun _ hk => hk.2.2))) | (show (Addr.add _ _).block ≠ _; rw [add_block]; exact Kd.own_blk (Kd.S_away HO_113002.out (fun _ hk => hk.2.2))) | (dsimp only; exact Kd.own_blk (Kd.S_away HO_113002.out (fun _ hk => hk.2.2)))) _).trans (((cell_far (p := ⟨gb125, _, none⟩) (by first | exact Kd.own_blk (Kd.S_away HO_113002.out (fun _ hk => hk.2.2)) | (rw [add_block]; exact Kd.own_blk (Kd.S_away HO_113002.out (fun _ hk => hk.2.2))) | (show (Addr.add _ _).block ≠ _; rw [add_block]; exact Kd.own_blk (Kd.S_away HO_113002.out (fun _ hk => hk.2.2))) | (dsimp only; exact Kd.own_blk (Kd.S_away HO_113002.out (fun _ hk => hk.2.2)))) _).trans (((cell_far (p := ⟨gb125, _, none⟩) (by first | exact Kd.own_blk (Kd.S_away HO_113002.out (fun _ hk => hk.2.2)) | (rw [add_block]; exact Kd.own_blk (Kd.S_away HO_113002.out (fun _ hk => hk.2.2))) | (show (Addr.add _ _).block ≠ _; rw [add_block]; exact Kd.own_blk (Kd.S_away HO_113002.out (fun _ hk => hk.2.2))) | (dsimp only; exact Kd.own_blk (Kd.S_away HO_113002.out (fun _ hk => hk.2.2)))) _).trans (hHeld.2.2.2.2.2.2.2.1)))))))))), ((cell_far (p := ⟨gb125, _, none⟩) (by first | exact Kd.own_blk (Kd.S_away HO_113002.out (fun _ hk => hk.2.2)) | (rw [add_block]; exact Kd.own_blk (Kd.S_away HO_113002.out (fun _ hk => hk.2.2))) | (show (Addr.add _ _).block ≠ _; rw [add_block]; exact Kd.own_blk (Kd.S_away HO_113002.out (fun _ hk => hk.2.2))) | (dsimp only; exact Kd.own_blk (Kd.S_away HO_113002.out (fun _ hk => hk.2.2)))) _).trans (((cell_far (p := ⟨gb125, _, none⟩) (by first | exact Kd.own_blk (Kd.S_away HO_113002.out (fun _ hk => hk.2.2)) | (rw [add_block]; exact Kd.own_blk (Kd.S_away HO_113002.out (fun _ hk => hk.2.2))) | (show (Addr.add _ _).block ≠ _; rw [add_block]; exact Kd.own_blk (Kd.S_away HO_113002.out (fun _ hk => hk.2.2))) | (dsimp only; exact Kd.own_blk (Kd.S_away HO_113002.out (fun _ hk => hk.2.2)))) _).trans (((cell_far (p := ⟨gb125, _, none⟩) (by first | exact Kd.own_blk (Kd.S_away HO_113002.out (fun _ hk => hk.2.2)) | (rw [add_block]; exact Kd.own_blk (Kd.S_away HO_113002.out (fun _ hk => hk.2.2))) | (show (Addr.add _ _).block ≠ _; rw [add_block]; exact Kd.own_blk (Kd.S_away HO_113002.out (fun _ hk => hk.2.2))) | (dsimp only; exact Kd.own_blk (Kd.S_away HO_113002.out (fun _ hk => hk.2.2)))) _).trans (((cell_far (p := ⟨gb125, _, none⟩) (by first | exact Kd.own_blk (Kd.S_away HO_113002.out (fun _ hk => hk.2.2)) | (rw [add_block]; exact Kd.own_blk (Kd.S_away HO_113002.out (fun _ hk => hk.2.2))) | (show (Addr.add _ _).block ≠ _; rw [add_block]; exact Kd.own_blk (Kd.S_away HO_113002.out (fun _ hk => hk.2.2))) | (dsimp only; exact Kd.own_blk (Kd.S_away HO_113002.out (fun _ hk => hk.2.2)))) _).trans (((cell_far (p := ⟨gb125, _, none⟩) (by first | exact Kd.own_blk (Kd.S_away HO_113002.out (fun _ hk => hk.2.2)) | (rw [add_block]; exact Kd.own_blk (Kd.S_away HO_113002.out (fun _ hk => hk.2.2))) | (show (Addr.add _ _).block ≠ _; rw [add_block]; exact Kd.own_blk (Kd.S_away HO_113002.out (fun _ hk => hk.2.2))) | (dsimp only; exact Kd.own_blk (Kd.S_away HO_113002.out (fun _ hk => hk.2.2)))) _).trans (hHeld.2.2.2.2.2.2.2.2.1)))))))))), ((cell_far (p := ⟨gb125, _, none⟩) (by first | exact Kd.own_blk (Kd.S_away HO_113002.out (fun _ hk => hk.2.2)) | (rw [add_block]; exact Kd.own_blk (Kd.S_away HO_113002.out (fun _ hk => hk.2.2))) | (show (Addr.add _ _).block ≠ _; rw [add_block]; exact Kd.own_blk (Kd.S_away HO_113002.out (fun _ hk => hk.2.2))) | (dsimp only; exact Kd.own_blk (Kd.S_away HO_113002.out (fun _ hk => hk.2.2)))) _).trans (((cell_far (p := ⟨gb125, _, none⟩) (by first | exact Kd.own_blk (Kd.S_away HO_113002.out (fun _ hk => hk.2.2)) | (rw [add_block]; exact Kd.own_blk (Kd.S_away HO_113002.out (fun _ hk => hk.2.2))) | (show (Addr.add _ _).block ≠ _; rw [add_block]; exact Kd.own_blk (Kd.S_away HO_113002.out (fun _ hk => hk.2.2))) | (dsimp only; exact Kd.own_blk (Kd.S_away HO_113002.out (fun _ hk => hk.2.2)))) _).trans (((cell_far (p := ⟨gb125, _, none⟩) (by first | exact Kd.own_blk (Kd.S_away HO_113002.out (fun _ hk => hk.2.2)) | (rw [add_block]; exact Kd.own_blk (Kd.S_away HO_113002.out (fun _ hk => hk.2.2))) | (show (Addr.add _ _).block ≠ _; rw [add_block]; exact Kd.own_blk (Kd.S_away HO_113002.out (fun _ hk => hk.2.2))) | (dsimp only; exact Kd.own_blk (Kd.S_away HO_113002.out (fun _ hk => hk.2.2)))) _).trans (((cell_far (p := ⟨gb125, _, none⟩) (by first | exact Kd.own_blk (Kd.S_away HO_113002.out (fun _ hk => hk.2.2)) | (rw [add_block]; exact Kd.own_blk (Kd.S_away HO_113002.out (fun _ hk => hk.2.2))) | (show (Addr.add _ _).block ≠ _; rw [add_block]; exact Kd.own_blk (Kd.S_away HO_113002.out (fun _ hk => hk.2.2))) | (dsimp only; exact Kd.own_blk (Kd.S_away HO_113002.out (fun _ hk => hk.2.2)))) _).trans (((cell_far (p := ⟨gb125, _, none⟩) (by first | exact Kd.own_blk (Kd.S_away HO_113002.out (fun _ hk => hk.2.2)) | (rw [add_block]; exact Kd.own_blk (Kd.S_away HO_113002.out (fun _ hk => hk.2.2))) | (show (Addr.add _ _).block ≠ _; rw [add_block]; exact Kd.own_blk (Kd.S_away HO_113002.out (fun _ hk => hk.2.2))) | (dsimp only; exact Kd.own_blk (Kd.S_away HO_113002.out (fun _ hk => hk.2.2)))) _).trans (hHeld.2.2.2.2.2.2.2.2.2.1)))))))))), ((cell_far (p := ⟨gb125, _, none⟩) (by first | exact Kd.own_blk (Kd.S_away HO_113002.out (fun _ hk => hk.2.2)) | (rw [add_block]; exact Kd.own_blk (Kd.S_away HO_113002.out (fun _ hk => hk.2.2))) | (show (Addr.add _ _).block ≠ _; rw [add_block]; exact Kd.own_blk (Kd.S_away HO_113002.out (fun _ hk => hk.2.2))) | (dsimp only; exact Kd.own_blk (Kd.S_away HO_113002.out (fun _ hk => hk.2.2)))) _).trans (((cell_far (p := ⟨gb125, _, none⟩) (by first | exact Kd.own_blk (Kd.S_away HO_113002.out (fun _ hk => hk.2.2)) | (rw [add_block]; exact Kd.own_blk (Kd.S_away HO_113002.out (fun _ hk => hk.2.2))) | (show (Addr.add _ _).block ≠ _; rw [add_block]; exact Kd.own_blk (Kd.S_away HO_113002.out (fun _ hk => hk.2.2))) | (dsimp only; exact Kd.own_blk (Kd.S_away HO_113002.out (fun _ hk => hk.2.2)))) _).trans (((cell_far (p := ⟨gb125, _, none⟩) (by first | exact Kd.own_blk (Kd.S_away HO_113002.out (fun _ hk => hk.2.2)) | (rw [add_block]; exact Kd.own_blk (Kd.S_away HO_113002.out (fun _ hk => hk.2.2))) | (show (Addr.add _ _).block ≠ _; rw [add_block]; exact Kd.own_blk (Kd.S_away HO_113002.out (fun _ hk => hk.2.2))) | (dsimp only; exact Kd.own_blk (Kd.S_away HO_113002.out (fun _ hk => hk.2.2)))) _).trans (((cell_far (p := ⟨gb125, _, none⟩) (by first | exact Kd.own_blk (Kd.S_away HO_113002.out (fun _ hk => hk.2.2)) | (rw [add_block]; exact Kd.own_blk (Kd.S_away HO_113002.out (fun _ hk => hk.2.2))) | (show (Addr.add _ _).block ≠ _; rw [add_block]; exact Kd.own_blk (Kd.S_away HO_113002.out (fun _ hk => hk.2.2))) | (dsimp only; exact Kd.own_blk (Kd.S_away HO_113002.out (fun _ hk => hk.2.2)))) _).trans (((cell_far (p := ⟨gb125, _, none⟩) (by first | exact Kd.own_blk (Kd.S_away HO_113002.out (fun _ hk => hk.2.2)) | (rw [add_block]; exact Kd.own_blk (Kd.S_away HO_113002.out (fun _ hk => hk.2.2))) | (show (Addr.add _ _).block ≠ _; rw [add_block]; exact Kd.own_blk (Kd.S_away HO_113002.out (fun _ hk => hk.2.2))) | (dsimp only; exact Kd.own_blk (Kd.S_away HO_113002.out (fun _ hk => hk.2.2)))) _).trans (hHeld.2.2.2.2.2.2.2.2.2.2.1)))))))))), ((cell_far (p := ⟨gb125, _, none⟩) (by first | exact Kd.own_blk (Kd.S_away HO_120002.out (fun _ hk => hk.2.2)) | (rw [add_block]; exact Kd.own_blk (Kd.S_away HO_120002.out (fun _ hk => hk.2.2))) | (show (Addr.add _ _).block ≠ _; rw [add_block]; exact Kd.own_blk (Kd.S_away HO_120002.out (fun _ hk => hk.2.2))) | (dsimp only; exact Kd.own_blk (Kd.S_away HO_120002.out (fun _ hk => hk.2.2)))) _).trans (((cell_far (p := ⟨gb125, _, none⟩) (by first | exact Kd.own_blk (Kd.S_away HO_120002.out (fun _ hk => hk.2.2)) | (rw [add_block]; exact Kd.own_blk (Kd.S_away HO_120002.out (fun _ hk => hk.2.2))) | (show (Addr.add _ _).block ≠ _; rw [add_block]; exact Kd.own_blk (Kd.S_away HO_120002.out (fun _ hk => hk.2.2))) | (dsimp only; exact Kd.own_blk (Kd.S_away HO_120002.out (fun _ hk => hk.2.2)))) _).trans (((cell_far (p := ⟨gb125, _, none⟩) (by first | exact Kd.own_blk (Kd.S_away HO_120002.out (fun _ hk => hk.2.2)) | (rw [add_block]; exact Kd.own_blk (Kd.S_away HO_120002.out (fun _ hk => hk.2.2))) | (show (Addr.add _ _).block ≠ _; rw [add_block]; exact Kd.own_blk (Kd.S_away HO_120002.out (fun _ hk => hk.2.2))) | (dsimp only; exact Kd.own_blk (Kd.S_away HO_120002.out (fun _ hk => hk.2.2)))) _).trans (((cell_far (p := ⟨gb125, _, none⟩) (by first | exact Kd.own_blk (Kd.S_away HO_120002.out (fun _ hk => hk.2.2)) | (rw [add_block]; exact Kd.own_blk (Kd.S_away HO_120002.out (fun _ hk => hk.2.2))) | (show (Addr.add _ _).block ≠ _; rw [add_block]; exact Kd.own_blk (Kd.S_away HO_120002.out (fun _ hk => hk.2.2))) | (dsimp only; exact Kd.own_blk (Kd.S_away HO_120002.out (fun _ hk => hk.2.2)))) _).trans (((cell_far (p := ⟨gb125, _, none⟩) (by first | exact Kd.own_blk (Kd.S_away HO_120002.out (fun _ hk => hk.2.2)) | (rw [add_block]; exact Kd.own_blk (Kd.S_away HO_120002.out (fun _ hk => hk.2.2))) | (show (Addr.add _ _).block ≠ _; rw [add_block]; exact Kd.own_blk (Kd.S_away HO_120002.out (fun _ hk => hk.2.2))) | (dsimp only; exact Kd.own_blk (Kd.S_away HO_120002.out (fun _ hk => hk.2.2)))) _).trans (hHeld.2.2.2.2.2.2.2.2.2.2.2.1)))))))))), ((cell_far (p := ⟨gb125, _, none⟩) (by first | exact Kd.own_blk (Kd.S_away HO_120002.out (fun _ hk => hk.2.2)) | (rw [add_block]; exact Kd.own_blk (Kd.S_away HO_120002.out (fun _ hk => hk.2.2))) | (show (Addr.add _ _).block ≠ _; rw [add_block]; exact Kd.own_blk (Kd.S_away HO_120002.out (fun _ hk => hk.2.2))) | (dsimp only; exact Kd.own_blk (Kd.S_away HO_120002.out (fun _ hk => hk.2.2)))) _).trans (((cell_far (p := ⟨gb125, _, none⟩) (by first | exact Kd.own_blk (Kd.S_away HO_120002.out (fun _ hk => hk.2.2)) | (rw [add_block]; exact Kd.own_blk (Kd.S_away HO_120002.out (fun _ hk => hk.2.2))) | (show (Addr.add _ _).block ≠ _; rw [add_block]; exact Kd.own_blk (Kd.S_away HO_120002.out (fun _ hk => hk.2.2))) | (dsimp only; exact Kd.own_blk (Kd.S_away HO_120002.out (fun _ hk => hk.2.2)))) _).trans (((cell_far (p := ⟨gb125, _, none⟩) (by first | exact Kd.own_blk (Kd.S_away HO_120002.out (fun _ hk => hk.2.2)) | (rw [add_block]; exact Kd.own_blk (Kd.S_away HO_120002.out (fun _ hk => hk.2.2))) | (show (Addr.add _ _).block ≠ _; rw [add_block]; exact Kd.own_blk (Kd.S_away HO_120002.out (fun _ hk => hk.2.2))) | (dsimp only; exact Kd.own_blk (Kd.S_away HO_120002.out (fun _ hk => hk.2.2)))) _).trans (((cell_far (p := ⟨gb125, _, none⟩) (by first | exact Kd.own_blk (Kd.S_away HO_120002.out (fun _ hk => hk.2.2)) | (rw [add_block]; exact Kd.own_blk (Kd.S_away HO_120002.out (fun _ hk => hk.2.2))) | (show (Addr.add _ _).block ≠ _; rw [add_block]; exact Kd.own_blk (Kd.S_away HO_120002.out (fun _ hk => hk.2.2))) | (dsimp only; exact Kd.own_blk (Kd.S_away HO_120002.out (fun _ hk => hk.2.2)))) _).trans (((cell_far (p := ⟨gb125, _, none⟩) (by first | exact Kd.own_blk (Kd.S_away HO_120002.out (fun _ hk => hk.2.2)) | (rw [add_block]; exact Kd.own_blk (Kd.S_away HO_120002.out (fun _ hk => hk.2.2))) | (show (Addr.add _ _).block ≠ _; rw [add_block]; exact Kd.own_blk (Kd.S_away HO_120002.out (fun _ hk => hk.2.2))) | (dsimp only; exact Kd.own_blk (Kd.S_away HO_120002.out (fun _ hk => hk.2.2)))) _).trans (hHeld.2.2.2.2.2.2.2.2.2.2.2.2.1)))))))))), ((cell_far (p := ⟨gb125, _, none⟩) (by first | exact Kd.own_blk (Kd.S_away HO_120002.out (fun _ hk => hk.2.2)) | (rw [add_block]; exact Kd.own_blk (Kd.S_away HO_120002.out (fun _ hk => hk.2.2))) | (show (Addr.add _ _).block ≠ _; rw [add_block]; exact Kd.own_blk (Kd.S_away HO_120002.out (fun _ hk => hk.2.2))) | (dsimp only; exact Kd.own_blk (Kd.S_away HO_120002.out (fun _ hk => hk.2.2)))) _).trans (((cell_far (p := ⟨gb125, _, none⟩) (by first | exact Kd.own_blk (Kd.S_away HO_120002.out (fun _ hk => hk.2.2)) | (rw [add_block]; exact Kd.own_blk (Kd.S_away HO_120002.out (fun _ hk => hk.2.2))) | (show (Addr.add _ _).block ≠ _; rw [add_block]; exact Kd.own_blk (Kd.S_away HO_120002.out (fun _ hk => hk.2.2))) | (dsimp only; exact Kd.own_blk (Kd.S_away HO_120002.out (fun _ hk => hk.2.2)))) _).trans (((cell_far (p := ⟨gb125, _, none⟩) (by first | exact Kd.own_blk (Kd.S_away HO_120002.out (fun _ hk => hk.2.2)) | (rw [add_block]; exact Kd.own_blk (Kd.S_away HO_120002.out (fun _ hk => hk.2.2))) | (show (Addr.add _ _).block ≠ _; rw [add_block]; exact Kd.own_blk (Kd.S_away HO_120002.out (fun _ hk => hk.2.2))) | (dsimp only; exact Kd.own_blk (Kd.S_away HO_120002.out (fun _ hk => hk.2.2)))) _).trans (((cell_far (p := ⟨gb125, _, none⟩) (by first | exact Kd.own_blk (Kd.S_away HO_120002.out (fun _ hk => hk.2.2)) | (rw [add_block]; exact Kd.own_blk (Kd.S_away HO_120002.out (fun _ hk => hk.2.2))) | (show (Addr.add _ _).block ≠ _; rw [add_block]; exact Kd.own_blk (Kd.S_away HO_120002.out (fun _ hk => hk.2.2))) | (dsimp only; exact Kd.own_blk (Kd.S_away HO_120002.out (fun _ hk => hk.2.2)))) _).trans (((cell_far (p := ⟨gb125, _, none⟩) (by first | exact Kd.own_blk (Kd.S_away HO_120002.out (fun _ hk => hk.2.2)) | (rw [add_block]; exact Kd.own_blk (Kd.S_away HO_120002.out (fun _ hk => hk.2.2))) | (show (Addr.add _ _).block ≠ _; rw [add_block]; exact Kd.own_blk (Kd.S_away HO_120002.out (fun _ hk => hk.2.2))) | (dsimp only; exact Kd.own_blk (Kd.S_away HO_120002.out (fun _ hk => hk.2.2)))) _).trans (hHeld.2.2.2.2.2.2.2.2.2.2.2.2.2.1)))))))))), ((cell_far (p := ⟨gb125, _, none⟩) (by first | exact Kd.own_blk (Kd.S_away HO_120002.out (fun _ hk => hk.2.2)) | (rw [add_block]; exact Kd.own_blk (Kd.S_away HO_120002.out (fun _ hk => hk.2.2))) | (show (Addr.add _ _).block ≠ _; rw [add_block]; exact Kd.own_blk (Kd.S_away HO_120002.out (fun _ hk => hk.2.2))) | (dsimp only; exact Kd.own_blk (Kd.S_away HO_120002.out (fun _ hk => hk.2.2)))) _).trans (((cell_far (p := ⟨gb125, _, none⟩) (by first | exact Kd.own_blk (Kd.S_away HO_120002.out (fun _ hk => hk.2.2)) | (rw [add_block]; exact Kd.own_blk (Kd.S_away HO_120002.out (fun _ hk => hk.2.2))) | (show (Addr.add _ _).block ≠ _; rw [add_block]; exact Kd.own_blk (Kd.S_away HO_120002.out (fun _ hk => hk.2.2))) | (dsimp only; exact Kd.own_blk (Kd.S_away HO_120002.out (fun _ hk => hk.2.2)))) _).trans (((cell_far (p := ⟨gb125, _, none⟩) (by first | exact Kd.own_blk (Kd.S_away HO_120002.out (fun _ hk => hk.2.2)) | (rw [add_block]; exact Kd.own_blk (Kd.S_away HO_120002.out (fun _ hk => hk.2.2))) | (show (Addr.add _ _).block ≠ _; rw [add_block]; exact Kd.own_blk (Kd.S_away HO_120002.out (fun _ hk => hk.2.2))) | (dsimp only; exact Kd.own_blk (Kd.S_away HO_120002.out (fun _ hk => hk.2.2)))) _).trans (((cell_far (p := ⟨gb125, _, none⟩) (by first | exact Kd.own_blk (Kd.S_away HO_120002.out (fun _ hk => hk.2.2)) | (rw [add_block]; exact Kd.own_blk (Kd.S_away HO_120002.out (fun _ hk => hk.2.2))) | (show (Addr.add _ _).block ≠ _; rw [add_block]; exact Kd.own_blk (Kd.S_away HO_120002.out (fun _ hk => hk.2.2))) | (dsimp only; exact Kd.own_blk (Kd.S_away HO_120002.out (fun _ hk => hk.2.2)))) _).trans (((cell_far (p := ⟨gb125, _, none⟩) (by first | exact Kd.own_blk (Kd.S_away HO_120002.out (fun _ hk => hk.2.2)) | (rw [add_block]; exact Kd.own_blk (Kd.S_away HO_120002.out (fun _ hk => hk.2.2))) | (show (Addr.add _ _).block ≠ _; rw [add_block]; exact Kd.own_blk (Kd.S_away HO_120002.out (fun _ hk => hk.2.2))) | (dsimp only; exact Kd.own_blk (Kd.S_away HO_120002.out (fun _ hk => hk.2.2)))) _).trans (hHeld.2.2.2.2.2.2.2.2.2.2.2.2.2.2.1)))))))))), ((cell_far (p := ⟨gb125, _, none⟩) (by first | exact Kd.own_blk (Kd.S_away HO_120002.out (fun _ hk => hk.2.2)) | (rw [add_block]; exact Kd.own_blk (Kd.S_away HO_120002.out (fun _ hk => hk.2.2))) | (show (Addr.add _ _).block ≠ _; rw [add_block]; exact Kd.own_blk (Kd.S_away HO_120002.out (fun _ hk => hk.2.2))) | (dsimp only; exact Kd.own_blk (Kd.S_away HO_120002.out (fun _ hk => hk.2.2)))) _).trans (((cell_far (p := ⟨gb125, _, none⟩) (by first | exact Kd.own_blk (Kd.S_away HO_120002.out (fun _ hk => hk.2.2)) | (rw [add_block]; exact Kd.own_blk (Kd.S_away HO_120002.out (fun _ hk => hk.2.2))) | (show (Addr.add _ _).block ≠ _; rw [add_block]; exact Kd.own_blk (Kd.S_away HO_120002.out (fun _ hk => hk.2.2))) | (dsimp only; exact Kd.own_blk (Kd.S_away HO_120002.out (fun _ hk => hk.2.2)))) _).trans (((cell_far (p := ⟨gb125, _, none⟩) (by first | exact Kd.own_blk (Kd.S_away HO_120002.out (fun _ hk => hk.2.2)) | (rw [add_block]; exact Kd.own_blk (Kd.S_away HO_120002.out (fun _ hk => hk.2.2))) | (show (Addr.add _ _).block ≠ _; rw [add_block]; exact Kd.own_blk (Kd.S_away HO_120002.out (fun _ hk => hk.2.2))) | (dsimp only; exact Kd.own_blk (Kd.S_away HO_120002.out (fun _ hk => hk.2.2)))) _).trans (((cell_far (p := ⟨gb125, _, none⟩) (by first | exact Kd.own_blk (Kd.S_away HO_120002.out (fun _ hk => hk.2.2)) | (rw [add_block]; exact Kd.own_blk (Kd.S_away HO_120002.out (fun _ hk => hk.2.2))) | (show (Addr.add _ _).block ≠ _; rw [add_block]; exact Kd.own_blk (Kd.S_away HO_120002.out (fun _ hk => hk.2.2))) | (dsimp only; exact Kd.own_blk (Kd.S_away HO_120002.out (fun _ hk => hk.2.2)))) _).trans (((cell_far (p := ⟨gb125, _, none⟩) (by first | exact Kd.own_blk (Kd.S_away HO_120002.out (fun _ hk => hk.2.2)) | (rw [add_block]; exact Kd.own_blk (Kd.S_away HO_120002.out (fun _ hk => hk.2.2))) | (show (Addr.add _ _).block ≠ _; rw [add_block]; exact Kd.own_blk (Kd.S_away HO_120002.out (fun _ hk => hk.2.2))) | (dsimp only; exact Kd.own_blk (Kd.S_away HO_120002.out (fun _ hk => hk.2.2)))) _).trans (hHeld.2.2.2.2.2.2.2.2.2.2.2.2.2.2.2))))))))))⟩ (fun hHeld => ?_)
      clear hK K
      refine done_ (done_of HT_.out (by kernel_rfl)) ?_
      have hnb63 := NB124_112.out
      have hnc63 := NB112_124.out
      have hnb64 := NB124_119.out
      have hnc64 := NB119_124.out
      have hnb65 := NB124_125.out
      have hnc65 := NB125_124.out
      have hcz66_0 : w52.cell? ⟨gb124, 0, none⟩ = some (.int .i64 0) := (blk_cell BK124.out 0).trans rfl
      have hcz66_1 : w52.cell? ⟨gb124, 1, none⟩ = some (.int .i64 0) := (blk_cell BK124.out 1).trans rfl
      have hcz66_2 : w52.cell? ⟨gb124, 2, none⟩ = some (.int .i64 0) := (blk_cell BK124.out 2).trans rfl
      have hcz66_3 : w52.cell? ⟨gb124, 3, none⟩ = some (.int .i64 0) := (blk_cell BK124.out 3).trans rfl
      have hcz66_4 : w52.cell? ⟨gb124, 4, none⟩ = some (.slice none 0 0) := (blk_cell BK124.out 4).trans rfl
      have hfz66_0 := blk_frozen BK124.out 0
      have hfz66_1 := blk_frozen BK124.out 1
      have hfz66_2 := blk_frozen BK124.out 2
      have hfz66_3 := blk_frozen BK124.out 3
      have hfz66_4 := blk_frozen BK124.out 4
      have hnb67 := NB125_112.out
      have hnc67 := NB112_125.out
      have hnb68 := NB125_119.out
      have hnc68 := NB119_125.out
      have hcz69_0 : w52.cell? ⟨gb125, 0, none⟩ = some (.int .i64 0) := (blk_cell BK125.out 0).trans rfl
      have hcz69_1 : w52.cell? ⟨gb125, 1, none⟩ = some (.int .i64 0) := (blk_cell BK125.out 1).trans rfl
      have hcz69_2 : w52.cell? ⟨gb125, 2, none⟩ = some (.int .i64 0) := (blk_cell BK125.out 2).trans rfl
      have hcz69_3 : w52.cell? ⟨gb125, 3, none⟩ = some (.int .i64 0) := (blk_cell BK125.out 3).trans rfl
      have hcz69_4 : w52.cell? ⟨gb125, 4, none⟩ = some (.slice none 0 0) := (blk_cell BK125.out 4).trans rfl
      have hfz69_0 := blk_frozen BK125.out 0
      have hfz69_1 := blk_frozen BK125.out 1
      have hfz69_2 := blk_frozen BK125.out 2
      have hfz69_3 := blk_frozen BK125.out 3
      have hfz69_4 := blk_frozen BK125.out 4
      obtain ⟨w60, hw60⟩ : ∃ w_ : World, w_ = (World.setCell (World.setCell (World.setCell (World.setCell (World.setCell (World.setCell (World.setCell (World.setCell (World.setCell (World.setCell w52 ⟨gb124, 0, none⟩ (.int .i64 ((rd_T34 t108 x10_2).f0))) ⟨gb124, 1, none⟩ (.int .i64 ((rd_T34 t108 x10_2).f1))) ⟨gb124, 2, none⟩ (.int .i64 ((rd_T34 t108 x10_2).f2))) ⟨gb124, 3, none⟩ (.int .i64 ((rd_T34 t108 x10_2).f3))) ⟨gb124, 4, none⟩ (.slice A122_4 ((rd_T34 t108 x10_2).f4).length c122_4)) ⟨gb125, 0, none⟩ (.int .i64 ((rd_T34 t115 x10_2).f0))) ⟨gb125, 1, none⟩ (.int .i64 ((rd_T34 t115 x10_2).f1))) ⟨gb125, 2, none⟩ (.int .i64 ((rd_T34 t115 x10_2).f2))) ⟨gb125, 3, none⟩ (.int .i64 ((rd_T34 t115 x10_2).f3))) ⟨gb125, 4, none⟩ (.slice A123_4 ((rd_T34 t115 x10_2).f4).length c123_4)) := ⟨_, rfl⟩
      rw [← hw60]
      have y0_ := Aside0.mk (Kd.R_far (p := ⟨gb125, 4, none⟩) (Kd.R_far (p := ⟨gb125, 3, none⟩) (Kd.R_far (p := ⟨gb125, 2, none⟩) (Kd.R_far (p := ⟨gb125, 1, none⟩) (Kd.R_far (p := ⟨gb125, 0, none⟩) (Kd.R_far (p := ⟨gb124, 4, none⟩) (Kd.R_far (p := ⟨gb124, 3, none⟩) (Kd.R_far (p := ⟨gb124, 2, none⟩) (Kd.R_far (p := ⟨gb124, 1, none⟩) (Kd.R_far (p := ⟨gb124, 0, none⟩) (Kd.R_types (Kd.R_types HL122_4.out BK124.out (by decide)) BK125.out (by decide)) (fun _ hk => hk.1.2) (.int .i64 ((rd_T34 t108 x10_2).f0))) (fun _ hk => hk.1.2) (.int .i64 ((rd_T34 t108 x10_2).f1))) (fun _ hk => hk.1.2) (.int .i64 ((rd_T34 t108 x10_2).f2))) (fun _ hk => hk.1.2) (.int .i64 ((rd_T34 t108 x10_2).f3))) (fun _ hk => hk.1.2) (.slice A122_4 ((rd_T34 t108 x10_2).f4).length c122_4)) (fun _ hk => hk.2) (.int .i64 ((rd_T34 t115 x10_2).f0))) (fun _ hk => hk.2) (.int .i64 ((rd_T34 t115 x10_2).f1))) (fun _ hk => hk.2) (.int .i64 ((rd_T34 t115 x10_2).f2))) (fun _ hk => hk.2) (.int .i64 ((rd_T34 t115 x10_2).f3))) (fun _ hk => hk.2) (.slice A123_4 ((rd_T34 t115 x10_2).f4).length c123_4))
      rw [← hw60] at y0_
      have y1_ := Aside0.mk (Kd.R_far (p := ⟨gb125, 4, none⟩) (Kd.R_far (p := ⟨gb125, 3, none⟩) (Kd.R_far (p := ⟨gb125, 2, none⟩) (Kd.R_far (p := ⟨gb125, 1, none⟩) (Kd.R_far (p := ⟨gb125, 0, none⟩) (Kd.R_far (p := ⟨gb124, 4, none⟩) (Kd.R_far (p := ⟨gb124, 3, none⟩) (Kd.R_far (p := ⟨gb124, 2, none⟩) (Kd.R_far (p := ⟨gb124, 1, none⟩) (Kd.R_far (p := ⟨gb124, 0, none⟩) (Kd.R_types (Kd.R_types HL123_4.out BK124.out (by decide)) BK125.out (by decide)) (fun _ hk => hk.1.2) (.int .i64 ((rd_T34 t108 x10_2).f0))) (fun _ hk => hk.1.2) (.int .i64 ((rd_T34 t108 x10_2).f1))) (fun _ hk => hk.1.2) (.int .i64 ((rd_T34 t108 x10_2).f2))) (fun _ hk => hk.1.2) (.int .i64 ((rd_T34 t108 x10_2).f3))) (fun _ hk => hk.1.2) (.slice A122_4 ((rd_T34 t108 x10_2).f4).length c122_4)) (fun _ hk => hk.2) (.int .i64 ((rd_T34 t115 x10_2).f0))) (fun _ hk => hk.2) (.int .i64 ((rd_T34 t115 x10_2).f1))) (fun _ hk => hk.2) (.int .i64 ((rd_T34 t115 x10_2).f2))) (fun _ hk => hk.2) (.int .i64 ((rd_T34 t115 x10_2).f3))) (fun _ hk => hk.2) (.slice A123_4 ((rd_T34 t115 x10_2).f4).length c123_4))
      rw [← hw60] at y1_
      have y2_ := Aside0.mk (Kd.S_far (p := ⟨gb125, 4, none⟩) (Kd.S_far (p := ⟨gb125, 3, none⟩) (Kd.S_far (p := ⟨gb125, 2, none⟩) (Kd.S_far (p := ⟨gb125, 1, none⟩) (Kd.S_far (p := ⟨gb125, 0, none⟩) (Kd.S_far (p := ⟨gb124, 4, none⟩) (Kd.S_far (p := ⟨gb124, 3, none⟩) (Kd.S_far (p := ⟨gb124, 2, none⟩) (Kd.S_far (p := ⟨gb124, 1, none⟩) (Kd.S_far (p := ⟨gb124, 0, none⟩) (Kd.S_mono (Kd.S_mono HO_113002.out (fun k_ hk => (⟨hk, hk.2.1⟩ : _ ∧ k_ ≠ gb124))) (fun k_ hk => (⟨hk, hk.1.2.2⟩ : _ ∧ k_ ≠ gb125))) (fun _ hk => hk.1.2) (.int .i64 ((rd_T34 t108 x10_2).f0))) (fun _ hk => hk.1.2) (.int .i64 ((rd_T34 t108 x10_2).f1))) (fun _ hk => hk.1.2) (.int .i64 ((rd_T34 t108 x10_2).f2))) (fun _ hk => hk.1.2) (.int .i64 ((rd_T34 t108 x10_2).f3))) (fun _ hk => hk.1.2) (.slice A122_4 ((rd_T34 t108 x10_2).f4).length c122_4)) (fun _ hk => hk.2) (.int .i64 ((rd_T34 t115 x10_2).f0))) (fun _ hk => hk.2) (.int .i64 ((rd_T34 t115 x10_2).f1))) (fun _ hk => hk.2) (.int .i64 ((rd_T34 t115 x10_2).f2))) (fun _ hk => hk.2) (.int .i64 ((rd_T34 t115 x10_2).f3))) (fun _ hk => hk.2) (.slice A123_4 ((rd_T34 t115 x10_2).f4).length c123_4))
      rw [← hw60] at y2_
      have y3_ := Aside0.mk (Kd.S_far (p := ⟨gb125, 4, none⟩) (Kd.S_far (p := ⟨gb125, 3, none⟩) (Kd.S_far (p := ⟨gb125, 2, none⟩) (Kd.S_far (p := ⟨gb125, 1, none⟩) (Kd.S_far (p := ⟨gb125, 0, none⟩) (Kd.S_far (p := ⟨gb124, 4, none⟩) (Kd.S_far (p := ⟨gb124, 3, none⟩) (Kd.S_far (p := ⟨gb124, 2, none⟩) (Kd.S_far (p := ⟨gb124, 1, none⟩) (Kd.S_far (p := ⟨gb124, 0, none⟩) (Kd.S_mono (Kd.S_mono HO_120002.out (fun k_ hk => (⟨hk, hk.2.1⟩ : _ ∧ k_ ≠ gb124))) (fun k_ hk => (⟨hk, hk.1.2.2⟩ : _ ∧ k_ ≠ gb125))) (fun _ hk => hk.1.2) (.int .i64 ((rd_T34 t108 x10_2).f0))) (fun _ hk => hk.1.2) (.int .i64 ((rd_T34 t108 x10_2).f1))) (fun _ hk => hk.1.2) (.int .i64 ((rd_T34 t108 x10_2).f2))) (fun _ hk => hk.1.2) (.int .i64 ((rd_T34 t108 x10_2).f3))) (fun _ hk => hk.1.2) (.slice A122_4 ((rd_T34 t108 x10_2).f4).length c122_4)) (fun _ hk => hk.2) (.int .i64 ((rd_T34 t115 x10_2).f0))) (fun _ hk => hk.2) (.int .i64 ((rd_T34 t115 x10_2).f1))) (fun _ hk => hk.2) (.int .i64 ((rd_T34 t115 x10_2).f2))) (fun _ hk => hk.2) (.int .i64 ((rd_T34 t115 x10_2).f3))) (fun _ hk => hk.2) (.slice A123_4 ((rd_T34 t115 x10_2).f4).length c123_4))
      rw [← hw60] at y3_
      have y4_ := Aside0.mk (blk_far (p := ⟨gb125, 4, none⟩) (blk_far (p := ⟨gb125, 3, none⟩) (blk_far (p := ⟨gb125, 2, none⟩) (blk_far (p := ⟨gb125, 1, none⟩) (blk_far (p := ⟨gb125, 0, none⟩) (blk_far (p := ⟨gb124, 4, none⟩) (blk_far (p := ⟨gb124, 3, none⟩) (blk_far (p := ⟨gb124, 2, none⟩) (blk_far (p := ⟨gb124, 1, none⟩) (blk_far (p := ⟨gb124, 0, none⟩) BK112.out NB112_124.out (.int .i64 ((rd_T34 t108 x10_2).f0))) NB112_124.out (.int .i64 ((rd_T34 t108 x10_2).f1))) NB112_124.out (.int .i64 ((rd_T34 t108 x10_2).f2))) NB112_124.out (.int .i64 ((rd_T34 t108 x10_2).f3))) NB112_124.out (.slice A122_4 ((rd_T34 t108 x10_2).f4).length c122_4)) NB112_125.out (.int .i64 ((rd_T34 t115 x10_2).f0))) NB112_125.out (.int .i64 ((rd_T34 t115 x10_2).f1))) NB112_125.out (.int .i64 ((rd_T34 t115 x10_2).f2))) NB112_125.out (.int .i64 ((rd_T34 t115 x10_2).f3))) NB112_125.out (.slice A123_4 ((rd_T34 t115 x10_2).f4).length c123_4))
      rw [← hw60] at y4_
      have y5_ := Aside0.mk (blk_far (p := ⟨gb125, 4, none⟩) (blk_far (p := ⟨gb125, 3, none⟩) (blk_far (p := ⟨gb125, 2, none⟩) (blk_far (p := ⟨gb125, 1, none⟩) (blk_far (p := ⟨gb125, 0, none⟩) (blk_far (p := ⟨gb124, 4, none⟩) (blk_far (p := ⟨gb124, 3, none⟩) (blk_far (p := ⟨gb124, 2, none⟩) (blk_far (p := ⟨gb124, 1, none⟩) (blk_far (p := ⟨gb124, 0, none⟩) BK119.out NB119_124.out (.int .i64 ((rd_T34 t108 x10_2).f0))) NB119_124.out (.int .i64 ((rd_T34 t108 x10_2).f1))) NB119_124.out (.int .i64 ((rd_T34 t108 x10_2).f2))) NB119_124.out (.int .i64 ((rd_T34 t108 x10_2).f3))) NB119_124.out (.slice A122_4 ((rd_T34 t108 x10_2).f4).length c122_4)) NB119_125.out (.int .i64 ((rd_T34 t115 x10_2).f0))) NB119_125.out (.int .i64 ((rd_T34 t115 x10_2).f1))) NB119_125.out (.int .i64 ((rd_T34 t115 x10_2).f2))) NB119_125.out (.int .i64 ((rd_T34 t115 x10_2).f3))) NB119_125.out (.slice A123_4 ((rd_T34 t115 x10_2).f4).length c123_4))
      rw [← hw60] at y5_
      have y6_ := Aside0.mk (blk_far (p := ⟨gb125, 4, none⟩) (blk_far (p := ⟨gb125, 3, none⟩) (blk_far (p := ⟨gb125, 2, none⟩) (blk_far (p := ⟨gb125, 1, none⟩) (blk_far (p := ⟨gb125, 0, none⟩) (blk_set (blk_set (blk_set (blk_set (blk_set BK124.out 0 (.int .i64 ((rd_T34 t108 x10_2).f0))) 1 (.int .i64 ((rd_T34 t108 x10_2).f1))) 2 (.int .i64 ((rd_T34 t108 x10_2).f2))) 3 (.int .i64 ((rd_T34 t108 x10_2).f3))) 4 (.slice A122_4 ((rd_T34 t108 x10_2).f4).length c122_4)) NB124_125.out (.int .i64 ((rd_T34 t115 x10_2).f0))) NB124_125.out (.int .i64 ((rd_T34 t115 x10_2).f1))) NB124_125.out (.int .i64 ((rd_T34 t115 x10_2).f2))) NB124_125.out (.int .i64 ((rd_T34 t115 x10_2).f3))) NB124_125.out (.slice A123_4 ((rd_T34 t115 x10_2).f4).length c123_4))
      rw [← hw60] at y6_
      have y7_ := Aside0.mk (blk_set (blk_set (blk_set (blk_set (blk_set (blk_far (p := ⟨gb124, 4, none⟩) (blk_far (p := ⟨gb124, 3, none⟩) (blk_far (p := ⟨gb124, 2, none⟩) (blk_far (p := ⟨gb124, 1, none⟩) (blk_far (p := ⟨gb124, 0, none⟩) BK125.out NB125_124.out (.int .i64 ((rd_T34 t108 x10_2).f0))) NB125_124.out (.int .i64 ((rd_T34 t108 x10_2).f1))) NB125_124.out (.int .i64 ((rd_T34 t108 x10_2).f2))) NB125_124.out (.int .i64 ((rd_T34 t108 x10_2).f3))) NB125_124.out (.slice A122_4 ((rd_T34 t108 x10_2).f4).length c122_4)) 0 (.int .i64 ((rd_T34 t115 x10_2).f0))) 1 (.int .i64 ((rd_T34 t115 x10_2).f1))) 2 (.int .i64 ((rd_T34 t115 x10_2).f2))) 3 (.int .i64 ((rd_T34 t115 x10_2).f3))) 4 (.slice A123_4 ((rd_T34 t115 x10_2).f4).length c123_4))
      rw [← hw60] at y7_
      have y8_ : Aside0 (Below w.heap.size w w60) := ⟨by rw [hw60]; repeat (first | (with_reducible exact HB.out) | refine below_set ?_ GE124.out | refine below_set ?_ GE125.out)⟩
      clear HL122_4 HL123_4 HO_113002 HO_120002 BK112 BK119 BK124 BK125 HB hw60
      have HL122_4 := y0_
      have HL123_4 := y1_
      have HO_113002 := y2_
      have HO_120002 := y3_
      have BK112 := y4_
      have BK119 := y5_
      have BK124 := y6_
      have BK125 := y7_
      have HB := y8_
      clear y0_ y1_ y2_ y3_ y4_ y5_ y6_ y7_ y8_
      have hcy124_0 : w60.cell? ⟨gb124, 0, none⟩ = some (.int .i64 ((rd_T34 t108 x10_2).f0)) := (blk_cell BK124.out 0).trans rfl
      have hfy124_0 := blk_frozen BK124.out 0
      have hcy124_1 : w60.cell? ⟨gb124, 1, none⟩ = some (.int .i64 ((rd_T34 t108 x10_2).f1)) := (blk_cell BK124.out 1).trans rfl
      have hfy124_1 := blk_frozen BK124.out 1
      have hcy124_2 : w60.cell? ⟨gb124, 2, none⟩ = some (.int .i64 ((rd_T34 t108 x10_2).f2)) := (blk_cell BK124.out 2).trans rfl
      have hfy124_2 := blk_frozen BK124.out 2
      have hcy124_3 : w60.cell? ⟨gb124, 3, none⟩ = some (.int .i64 ((rd_T34 t108 x10_2).f3)) := (blk_cell BK124.out 3).trans rfl
      have hfy124_3 := blk_frozen BK124.out 3
      have hcy124_4 : w60.cell? ⟨gb124, 4, none⟩ = some (.slice A122_4 ((rd_T34 t108 x10_2).f4).length c122_4) := (blk_cell BK124.out 4).trans rfl
      have hfy124_4 := blk_frozen BK124.out 4
      have hcy125_0 : w60.cell? ⟨gb125, 0, none⟩ = some (.int .i64 ((rd_T34 t115 x10_2).f0)) := (blk_cell BK125.out 0).trans rfl
      have hfy125_0 := blk_frozen BK125.out 0
      have hcy125_1 : w60.cell? ⟨gb125, 1, none⟩ = some (.int .i64 ((rd_T34 t115 x10_2).f1)) := (blk_cell BK125.out 1).trans rfl
      have hfy125_1 := blk_frozen BK125.out 1
      have hcy125_2 : w60.cell? ⟨gb125, 2, none⟩ = some (.int .i64 ((rd_T34 t115 x10_2).f2)) := (blk_cell BK125.out 2).trans rfl
      have hfy125_2 := blk_frozen BK125.out 2
      have hcy125_3 : w60.cell? ⟨gb125, 3, none⟩ = some (.int .i64 ((rd_T34 t115 x10_2).f3)) := (blk_cell BK125.out 3).trans rfl
      have hfy125_3 := blk_frozen BK125.out 3
      have hcy125_4 : w60.cell? ⟨gb125, 4, none⟩ = some (.slice A123_4 ((rd_T34 t115 x10_2).f4).length c123_4) := (blk_cell BK125.out 4).trans rfl
      have hfy125_4 := blk_frozen BK125.out 4
      try go_wp2_with (first | (go_at_call 25; (with_reducible refine (minuetlaw0_SameInts.calls k2 _ _ ((rd_T34 t108 x10_2).f4) _ _ ((rd_T34 t115 x10_2).f4) true _ ?side1 ?side2 ?side3 ?side4 A45.out).mono ?_); (case side1 => repeat (first | exact ((Kd.R_reads' (by (with_reducible repeat (first | apply Kd.R_alloc | apply Kd.R_drewN | apply Kd.R_drew)); exact (Kd.R_mono (Kd.R_mono (Kd.R_far (p := ⟨gb125, 3, none⟩) HL122_4.out (fun _ hk => hk.2) (.int .i64 (wrap64 (((rd_T34 t115 x10_2).f3) - ((rdOf ByteArray.empty y102 (Go.bits .and .i64 a1 3)).size : Int))))) (fun _ h_ => h_.1)) (fun _ h_ => h_.1)))).2.2) | (with_reducible refine Kd.C_alloc ?_ _) | (with_reducible refine Kd.C_drewN ?_ _) | (with_reducible refine Kd.C_drew ?_))); (case side2 => exact HC122_4.out); (case side3 => repeat (first | exact ((Kd.R_reads' (by (with_reducible repeat (first | apply Kd.R_alloc | apply Kd.R_drewN | apply Kd.R_drew)); exact (Kd.R_mono (Kd.R_mono (Kd.R_far (p := ⟨gb125, 3, none⟩) HL123_4.out (fun _ hk => hk.2) (.int .i64 (wrap64 (((rd_T34 t115 x10_2).f3) - ((rdOf ByteArray.empty y102 (Go.bits .and .i64 a1 3)).size : Int))))) (fun _ h_ => h_.1)) (fun _ h_ => h_.1)))).2.2) | (with_reducible refine Kd.C_alloc ?_ _) | (with_reducible refine Kd.C_drewN ?_ _) | (with_reducible refine Kd.C_drew ?_))); (case side4 => exact HC123_4.out); rintro e w' ⟨rfl, ⟨nd, rfl⟩⟩))
      go_roundg k2
      case measure => have := HJ14.out; have := HK2.out; omega
      case rel => exact ⟨(wrap64 (x10_2 + 1)), (by first | rfl | (simp; done) | (simp [*]; done)), H', ⟨by have := HJ14.out; have := HK2.out; omega⟩, ⟨by (with_reducible repeat (first | apply Kd.S_alloc | apply Kd.S_drewN | apply Kd.S_drew)); exact Kd.S_mono (Kd.S_far (p := ⟨gb125, 3, none⟩) HO_113002.out (fun _ hk => hk.2) (.int .i64 (wrap64 (((rd_T34 t115 x10_2).f3) - ((rdOf ByteArray.empty y102 (Go.bits .and .i64 a1 3)).size : Int))))) (fun _ hk => hk.1.1.1)⟩, ⟨by (with_reducible repeat (first | apply Kd.S_alloc | apply Kd.S_drewN | apply Kd.S_drew)); exact Kd.S_mono (Kd.S_far (p := ⟨gb125, 3, none⟩) HO_120002.out (fun _ hk => hk.2) (.int .i64 (wrap64 (((rd_T34 t115 x10_2).f3) - ((rdOf ByteArray.empty y102 (Go.bits .and .i64 a1 3)).size : Int))))) (fun _ hk => hk.1.1.1)⟩, ⟨by (with_reducible repeat (first | refine blk_drewN ?_ _ | refine blk_drew ?_ | refine blk_alloc ?_ _)); refine blk_far ?_ NB112_125.out _; (with_reducible repeat (first | refine blk_drewN ?_ _ | refine blk_drew ?_ | refine blk_alloc ?_ _)); exact BK112.out⟩, ⟨by (with_reducible repeat (first | refine blk_drewN ?_ _ | refine blk_drew ?_ | refine blk_alloc ?_ _)); refine blk_far ?_ NB119_125.out _; (with_reducible repeat (first | refine blk_drewN ?_ _ | refine blk_drew ?_ | refine blk_alloc ?_ _)); exact BK119.out⟩, ⟨by repeat (first | (with_reducible first | exact HB.out | apply below_alloc | apply pw_below_drewN | apply below_drew1 | refine below_set ?_ GE112.out | refine below_set ?_ GE119.out | refine below_set ?_ GE124.out | refine below_set ?_ GE125.out) | exact HB.out)⟩⟩
     rw [if_neg c40] at H
     have c40b0 : (((rd_T34 t108 x10_2).f1) == 0) = false := beq_eq_false_iff_ne.mpr c40
     have c40b1 : (((rd_T34 t108 x10_2).f1) != 0) = true := bne_iff_ne.mpr c40
     by_cases c70 : ((rd_T34 t108 x10_2).f0) = ((rd_T34 t115 x10_2).f0)
     rotate_left
     ·rw [if_neg c70] at H
      exact absurd H (by simp)
     rw [if_pos c70] at H
     have c70b0 : (((rd_T34 t108 x10_2).f0) == ((rd_T34 t115 x10_2).f0)) = true := beq_iff_eq.mpr c70
     have c70b1 : (((rd_T34 t108 x10_2).f0) != ((rd_T34 t115 x10_2).f0)) = false := bne_eq_false_iff_eq.mpr c70
     clear c70
     by_cases c71 : ((rd_T34 t108 x10_2).f1) = ((rd_T34 t115 x10_2).f1)
     rotate_left
     ·rw [if_neg c71] at H
      exact absurd H (by simp)
     rw [if_pos c71] at H
     have c71b0 : (((rd_T34 t108 x10_2).f1) == ((rd_T34 t115 x10_2).f1)) = true := beq_iff_eq.mpr c71
     have c71b1 : (((rd_T34 t108 x10_2).f1) != ((rd_T34 t115 x10_2).f1)) = false := bne_eq_false_iff_eq.mpr c71
     clear c71
     by_cases c72 : ((rd_T34 t108 x10_2).f2) = (wrap64 (((rd_T34 t115 x10_2).f2) - ((rdOf ByteArray.empty y102 (Go.bits .and .i64 a1 3)).size : Int)))
     rotate_left
     ·rw [if_neg c72] at H
      exact absurd H (by simp)
     rw [if_pos c72] at H
     have c72b0 : (((rd_T34 t108 x10_2).f2) == (wrap64 (((rd_T34 t115 x10_2).f2) - ((rdOf ByteArray.empty y102 (Go.bits .and .i64 a1 3)).size : Int)))) = true := beq_iff_eq.mpr c72
     have c72b1 : (((rd_T34 t108 x10_2).f2) != (wrap64 (((rd_T34 t115 x10_2).f2) - ((rdOf ByteArray.empty y102 (Go.bits .and .i64 a1 3)).size : Int)))) = false := bne_eq_false_iff_eq.mpr c72
     clear c72
     by_cases c73 : ((rd_T34 t108 x10_2).f3) = (wrap64 (((rd_T34 t115 x10_2).f3) - ((rdOf ByteArray.empty y102 (Go.bits .and .i64 a1 3)).size : Int)))
     rotate_left
     ·rw [if_neg c73] at H
      exact absurd H (by simp)
     rw [if_pos c73] at H
     have c73b0 : (((rd_T34 t108 x10_2).f3) == (wrap64 (((rd_T34 t115 x10_2).f3) - ((rdOf ByteArray.empty y102 (Go.bits .and .i64 a1 3)).size : Int)))) = true := beq_iff_eq.mpr c73
     have c73b1 : (((rd_T34 t108 x10_2).f3) != (wrap64 (((rd_T34 t115 x10_2).f3) - ((rdOf ByteArray.empty y102 (Go.bits .and .i64 a1 3)).size : Int)))) = false := bne_eq_false_iff_eq.mpr c73
     clear c73
     replace H := Option.bind_eq_some_iff.mp H
     obtain ⟨t127, A740, H⟩ := H
     replace H : (if t127 = true then (minuetlaw11_ParseBlanks.l0 k2 (rdOf ByteArray.empty y102 (Go.bits .and .i64 a1 3)) (wrap64 (x10_2 + 1)) t106 t107 t108 t113 t114 t115) else (none)) = some r := H
     have A74 := Aside0.mk A740
     clear A740
     by_cases c75 : t127 = true
     rotate_left
     ·replace c75 := Bool.eq_false_iff.mpr c75
      subst c75
      have H1 : (none) = some r := by rw [if_neg (show ¬ (false = true) by decide)] at H; exact H
      clear H
      have H := H1
      clear H1
      exact absurd H (by simp)
     subst c75
     have H1 : (minuetlaw11_ParseBlanks.l0 k2 (rdOf ByteArray.empty y102 (Go.bits .and .i64 a1 3)) (wrap64 (x10_2 + 1)) t106 t107 t108 t113 t114 t115) = some r := by rw [if_pos rfl] at H; exact H
     clear H
     have H := H1
     clear H1
     have H' := Aside0.mk H
     clear H
     have hnb76 := NB112_119.out
     have hnc76 := NB119_112.out
     have hcz77_0 : wr.cell? ⟨gb112, 0, none⟩ = some (.int .i64 t106) := (blk_cell BK112.out 0).trans rfl
     have hcz77_1 : wr.cell? ⟨gb112, 1, none⟩ = some (.int .i64 t107) := (blk_cell BK112.out 1).trans rfl
     have hcz77_2 : wr.cell? ⟨gb112, 2, none⟩ = some (.slice Ao23 t108.length co23) := (blk_cell BK112.out 2).trans rfl
     have hfz77_0 := blk_frozen BK112.out 0
     have hfz77_1 := blk_frozen BK112.out 1
     have hfz77_2 := blk_frozen BK112.out 2
     try go_wp2
     have n0_ := Aside0.mk (Kd.S_drew HO_113002.out)
     have n1_ := Aside0.mk (Kd.S_drew HO_120002.out)
     have n2_ := Aside0.mk (blk_drew BK112.out)
     have n3_ := Aside0.mk (blk_drew BK119.out)
     have n4_ := Aside0.mk (below_drew1 HB.out)
     clear HO_113002
     clear HO_120002
     clear BK112
     clear BK119
     clear HB
     have HO_113002 := n0_
     have HO_120002 := n1_
     have BK112 := n2_
     have BK119 := n3_
     have HB := n4_
     clear n0_ n1_ n2_ n3_ n4_
     have p122 : 0 ≤ (x10_2 : Int) := of_decide_eq_true (by first | (with_reducible assumption) | assumption)
     have q122 : x10_2 < (t108.length : Int) := of_decide_eq_true (by first | (with_reducible assumption) | assumption)
     obtain ⟨ad122, A122_4, c122_4, e122, hx122_0, hx122_1, hx122_2, hx122_3, hx122_4, hl122_4, hi122_4⟩ := at_T34 (Kd.S_reads' HO_113002.out).2.2 x10_2 p122 q122
     cases e122
     obtain ⟨ce122, hce122, hMe122, hcc122⟩ := Kd.S_get HO_113002.out z34 x10_2 p122 (by first | exact q122 | exact of_decide_eq_true (by first | (with_reducible assumption) | assumption) | (have e_ := (Kd.S_reads' HO_113002.out).1; omega))
     obtain ⟨ve122_4, rfl, ge122_4⟩ := k34_openM hMe122
     have hv122_4 := hcc122 4 _ rfl
     rw [add_field _ _ 4 (by omega)] at hv122_4
     replace hv122_4 := Option.some.inj (hv122_4.symm.trans hx122_4)
     rw [hv122_4] at ge122_4
     have HL122_4 := Aside0.mk (show Kd.R (Kd.int .i64) 3 _ _ _ _ ((rd_T34 t108 x10_2).f4) from ge122_4)
     clear hv122_4 ge122_4
     clear hcc122 hce122
     have HR122_4 := Aside0.mk hi122_4
     have HC122_4 := Aside0.mk hl122_4
     clear hi122_4 hl122_4
     replace p122 := eq_true p122
     replace q122 := eq_true q122
     have p123 : 0 ≤ (x10_2 : Int) := of_decide_eq_true (by first | (with_reducible assumption) | assumption)
     have q123 : x10_2 < (t115.length : Int) := of_decide_eq_true (by first | (with_reducible assumption) | assumption)
     obtain ⟨ad123, A123_4, c123_4, e123, hx123_0, hx123_1, hx123_2, hx123_3, hx123_4, hl123_4, hi123_4⟩ := at_T34 (Kd.S_reads' HO_120002.out).2.2 x10_2 p123 q123
     cases e123
     obtain ⟨ce123, hce123, hMe123, hcc123⟩ := Kd.S_get HO_120002.out z34 x10_2 p123 (by first | exact q123 | exact of_decide_eq_true (by first | (with_reducible assumption) | assumption) | (have e_ := (Kd.S_reads' HO_120002.out).1; omega))
     obtain ⟨ve123_4, rfl, ge123_4⟩ := k34_openM hMe123
     have hv123_4 := hcc123 4 _ rfl
     rw [add_field _ _ 4 (by omega)] at hv123_4
     replace hv123_4 := Option.some.inj (hv123_4.symm.trans hx123_4)
     rw [hv123_4] at ge123_4
     have HL123_4 := Aside0.mk (show Kd.R (Kd.int .i64) 3 _ _ _ _ ((rd_T34 t115 x10_2).f4) from ge123_4)
     clear hv123_4 ge123_4
     clear hcc123 hce123
     have HR123_4 := Aside0.mk hi123_4
     have HC123_4 := Aside0.mk hl123_4
     clear hi123_4 hl123_4
     replace p123 := eq_true p123
     replace q123 := eq_true q123
     refine start_ (n := 14) (S := fun w' => w'.cell? ⟨gb112, 0, none⟩ = some (.int .i64 t106) ∧ w'.cell? ⟨gb112, 1, none⟩ = some (.int .i64 t107) ∧ w'.cell? ⟨gb112, 2, none⟩ = some (.slice (some ad122) t108.length co23) ∧ w'.cell? ⟨gb119, 0, none⟩ = some (.int .i64 t113) ∧ w'.cell? ⟨gb119, 1, none⟩ = some (.int .i64 t114) ∧ w'.cell? ⟨gb119, 2, none⟩ = some (.slice (some ad123) t115.length co28) ∧ w'.cell? (ad122.add ((x10_2).toNat * 5)) = some (.int .i64 ((rd_T34 t108 x10_2).f0)) ∧ w'.cell? ⟨(ad122.add ((x10_2).toNat * 5)).block, (ad122.add ((x10_2).toNat * 5)).off + 1, none⟩ = some (.int .i64 ((rd_T34 t108 x10_2).f1)) ∧ w'.cell? ⟨(ad122.add ((x10_2).toNat * 5)).block, (ad122.add ((x10_2).toNat * 5)).off + 2, none⟩ = some (.int .i64 ((rd_T34 t108 x10_2).f2)) ∧ w'.cell? ⟨(ad122.add ((x10_2).toNat * 5)).block, (ad122.add ((x10_2).toNat * 5)).off + 3, none⟩ = some (.int .i64 ((rd_T34 t108 x10_2).f3)) ∧ w'.cell? ⟨(ad122.add ((x10_2).toNat * 5)).block, (ad122.add ((x10_2).toNat * 5)).off + 4, none⟩ = some (.slice A122_4 ((rd_T34 t108 x10_2).f4).length c122_4) ∧ w'.cell? (ad123.add ((x10_2).toNat * 5)) = some (.int .i64 ((rd_T34 t115 x10_2).f0)) ∧ w'.cell? ⟨(ad123.add ((x10_2).toNat * 5)).block, (ad123.add ((x10_2).toNat * 5)).off + 1, none⟩ = some (.int .i64 ((rd_T34 t115 x10_2).f1)) ∧ w'.cell? ⟨(ad123.add ((x10_2).toNat * 5)).block, (ad123.add ((x10_2).toNat * 5)).off + 2, none⟩ = some (.int .i64 ((rd_T34 t115 x10_2).f2)) ∧ w'.cell? ⟨(ad123.add ((x10_2).toNat * 5)).block, (ad123.add ((x10_2).toNat * 5)).off + 3, none⟩ = some (.int .i64 ((rd_T34 t115 x10_2).f3)) ∧ w'.cell? ⟨(ad123.add ((x10_2).toNat * 5)).block, (ad123.add ((x10_2).toNat * 5)).off + 4, none⟩ = some (.slice A123_4 ((rd_T34 t115 x10_2).f4).length c123_4)) (ds := []) #[false, false, false, false, false, false, false, false, false, false, false, false, false, false] (by kernel_rfl) rfl rfl ⟨(blk_cell BK112.out 0).trans rfl, (blk_cell BK112.out 1).trans rfl, (blk_cell BK112.out 2).trans rfl, (blk_cell BK119.out 0).trans rfl, (blk_cell BK119.out 1).trans rfl, (blk_cell BK119.out 2).trans rfl, hx122_0, hx122_1, hx122_2, hx122_3, hx122_4, hx123_0, hx123_1, hx123_2, hx123_3, hx123_4⟩ (fun hHeld => ?_); refine with_tabW minuetlaw11_ParseBlanks.tab13 minuetlaw11_ParseBlanks.bits13 (fun HT_ HW_ => ?_)
     generalize wr.drew = w78 at HO_113002 HO_120002 BK112 BK119 HB HL122_4 HL123_4 HR122_4 HR123_4 hx122_0 hx122_1 hx122_2 hx122_3 hx122_4 hx123_0 hx123_1 hx123_2 hx123_3 hx123_4 hHeld ⊢
     refine pure_ (i := 0) (N := some 62) (v := ?_) (a' := ?_) #[true, false, false, false, false, false, false, false, false, false, false, false, false, false] rfl rfl (any_of HT_.out (by kernel_rfl)) (fun _ _ _ h => h) (Or.inl ⟨by rfl, ?_⟩) ?_ ?_
     rotate_left
     ·intro w'
      go_simp
      with_reducible rfl
     rotate_left
     ·simp only [Act.put, z1_, z2_, z3_, i64_w, i32_w]
      rfl
     refine pure_ (i := 2) (N := some 64) (v := ?_) (a' := ?_) #[true, false, true, false, false, false, false, false, false, false, false, false, false, false] rfl rfl (any_of HT_.out (by kernel_rfl)) (fun _ _ _ h => h) (Or.inl ⟨by rfl, ?_⟩) ?_ ?_
     rotate_left
     ·intro w'
      go_simp
      with_reducible rfl
     rotate_left
     ·simp only [Act.put, z1_, z2_, z3_, i64_w, i32_w]
      rfl
     refine pure_ (i := 5) (N := some 67) (v := ?_) (a' := ?_) #[true, false, true, false, false, true, false, false, false, false, false, false, false, false] rfl rfl (any_of HT_.out (by kernel_rfl)) (fun _ _ _ h => h) (Or.inl ⟨by rfl, ?_⟩) ?_ ?_
     rotate_left
     ·intro w'
      go_simp
      with_reducible rfl
     rotate_left
     ·simp only [Act.put, z1_, z2_, z3_, i64_w, i32_w]
      rfl
     refine pure_ (i := 7) (N := some 69) (v := ?_) (a' := ?_) #[true, false, true, false, false, true, false, true, false, false, false, false, false, false] rfl rfl (any_of HT_.out (by kernel_rfl)) (fun _ _ _ h => h) (Or.inl ⟨by rfl, ?_⟩) ?_ ?_
     rotate_left
     ·intro w'
      go_simp
      with_reducible rfl
     rotate_left
     ·simp only [Act.put, z1_, z2_, z3_, i64_w, i32_w]
      rfl
     refine take_ (i := 1) (N := some 63) (v := ?_) (a' := ?_) #[true, true, true, false, false, true, false, true, false, false, false, false, false, false] rfl rfl (take_ofW HT_.out HW_.out (by kernel_rfl)) (fun _ _ _ h => h) (Or.inl ⟨by rfl, ?_⟩) hHeld ?_ ?_
     rotate_left
     ·rintro w' ⟨s0, s1, s2, s3, s4, s5, s6, s7, s8, s9, s10, s11, s12, s13, s14, s15⟩
      go_simp
      with_reducible rfl
     rotate_left
     ·simp only [Act.put, z1_, z2_, z3_, i64_w, i32_w]
      rfl
     refine pure_ (i := 3) (N := some 65) (v := ?_) (a' := ?_) #[true, true, true, true, false, true, false, true, false, false, false, false, false, false] rfl rfl (any_of HT_.out (by kernel_rfl)) (fun _ _ _ h => h) (Or.inl ⟨by rfl, ?_⟩) ?_ ?_
     rotate_left
     ·intro w'
      go_simp
      with_reducible rfl
     rotate_left
     ·simp only [Act.put, z1_, z2_, z3_, i64_w, i32_w]
      rfl
     refine take_ (i := 4) (N := some 66) (v := ?_) (a' := ?_) #[true, true, true, true, true, true, false, true, false, false, false, false, false, false] rfl rfl (take_ofW HT_.out HW_.out (by kernel_rfl)) (fun _ _ _ h => h) (Or.inl ⟨by rfl, ?_⟩) hHeld ?_ ?_
     rotate_left
     ·rintro w' ⟨s0, s1, s2, s3, s4, s5, s6, s7, s8, s9, s10, s11, s12, s13, s14, s15⟩
      go_simp
      with_reducible rfl
     rotate_left
     ·simp only [Act.put, z1_, z2_, z3_, i64_w, i32_w]
      rfl
     refine take_ (i := 6) (N := some 68) (v := ?_) (a' := ?_) #[true, true, true, true, true, true, true, true, false, false, false, false, false, false] rfl rfl (take_ofW HT_.out HW_.out (by kernel_rfl)) (fun _ _ _ h => h) (Or.inl ⟨by rfl, ?_⟩) hHeld ?_ ?_
     rotate_left
     ·rintro w' ⟨s0, s1, s2, s3, s4, s5, s6, s7, s8, s9, s10, s11, s12, s13, s14, s15⟩
      go_simp
      with_reducible rfl
     rotate_left
     ·simp only [Act.put, z1_, z2_, z3_, i64_w, i32_w]
      rfl
     refine pure_ (i := 8) (N := some 70) (v := ?_) (a' := ?_) #[true, true, true, true, true, true, true, true, true, false, false, false, false, false] rfl rfl (any_of HT_.out (by kernel_rfl)) (fun _ _ _ h => h) (Or.inl ⟨by rfl, ?_⟩) ?_ ?_
     rotate_left
     ·intro w'
      go_simp
      with_reducible rfl
     rotate_left
     ·simp only [Act.put, z1_, z2_, z3_, i64_w, i32_w]
      rfl
     refine take_ (i := 9) (N := some 71) (v := ?_) (a' := ?_) #[true, true, true, true, true, true, true, true, true, true, false, false, false, false] rfl rfl (take_ofW HT_.out HW_.out (by kernel_rfl)) (fun _ _ _ h => h) (Or.inl ⟨by rfl, ?_⟩) hHeld ?_ ?_
     rotate_left
     ·rintro w' ⟨s0, s1, s2, s3, s4, s5, s6, s7, s8, s9, s10, s11, s12, s13, s14, s15⟩
      go_simp
      with_reducible rfl
     rotate_left
     ·simp only [Act.put, z1_, z2_, z3_, i64_w, i32_w]
      rfl
     refine join_ (σ := Nat × Nat) 2 #[true, true, true, true, true, true, true, true, true, true, true, true, false, false] (fun s_ => [(11, .pointer (some ⟨s_.1, 0, none⟩)), (12, .pointer (some ⟨s_.2, 0, none⟩))]) (fun s_ w' => (w'.cell? ⟨gb112, 0, none⟩ = some (.int .i64 t106) ∧ w'.cell? ⟨gb112, 1, none⟩ = some (.int .i64 t107) ∧ w'.cell? ⟨gb112, 2, none⟩ = some (.slice (some ad122) t108.length co23) ∧ w'.cell? ⟨gb119, 0, none⟩ = some (.int .i64 t113) ∧ w'.cell? ⟨gb119, 1, none⟩ = some (.int .i64 t114) ∧ w'.cell? ⟨gb119, 2, none⟩ = some (.slice (some ad123) t115.length co28) ∧ w'.cell? (ad122.add ((x10_2).toNat * 5)) = some (.int .i64 ((rd_T34 t108 x10_2).f0)) ∧ w'.cell? ⟨(ad122.add ((x10_2).toNat * 5)).block, (ad122.add ((x10_2).toNat * 5)).off + 1, none⟩ = some (.int .i64 ((rd_T34 t108 x10_2).f1)) ∧ w'.cell? ⟨(ad122.add ((x10_2).toNat * 5)).block, (ad122.add ((x10_2).toNat * 5)).off + 2, none⟩ = some (.int .i64 ((rd_T34 t108 x10_2).f2)) ∧ w'.cell? ⟨(ad122.add ((x10_2).toNat * 5)).block, (ad122.add ((x10_2).toNat * 5)).off + 3, none⟩ = some (.int .i64 ((rd_T34 t108 x10_2).f3)) ∧ w'.cell? ⟨(ad122.add ((x10_2).toNat * 5)).block, (ad122.add ((x10_2).toNat * 5)).off + 4, none⟩ = some (.slice A122_4 ((rd_T34 t108 x10_2).f4).length c122_4) ∧ w'.cell? (ad123.add ((x10_2).toNat * 5)) = some (.int .i64 ((rd_T34 t115 x10_2).f0)) ∧ w'.cell? ⟨(ad123.add ((x10_2).toNat * 5)).block, (ad123.add ((x10_2).toNat * 5)).off + 1, none⟩ = some (.int .i64 ((rd_T34 t115 x10_2).f1)) ∧ w'.cell? ⟨(ad123.add ((x10_2).toNat * 5)).block, (ad123.add ((x10_2).toNat * 5)).off + 2, none⟩ = some (.int .i64 ((rd_T34 t115 x10_2).f2)) ∧ w'.cell? ⟨(ad123.add ((x10_2).toNat * 5)).block, (ad123.add ((x10_2).toNat * 5)).off + 3, none⟩ = some (.int .i64 ((rd_T34 t115 x10_2).f3)) ∧ w'.cell? ⟨(ad123.add ((x10_2).toNat * 5)).block, (ad123.add ((x10_2).toNat * 5)).off + 4, none⟩ = some (.slice A123_4 ((rd_T34 t115 x10_2).f4).length c123_4)) ∧ (Kd.R (Kd.int .i64) 3 w' w.heap.size (fun k_ => some k_ ≠ (.slice (some ad122) t108.length co23 : Value).ownBlock ∧ some k_ ≠ (.slice (some ad123) t115.length co28 : Value).ownBlock) (.slice A122_4 ((rd_T34 t108 x10_2).f4).length c122_4) ((rd_T34 t108 x10_2).f4)) ∧ (Kd.R (Kd.int .i64) 3 w' w.heap.size (fun k_ => some k_ ≠ (.slice (some ad122) t108.length co23 : Value).ownBlock ∧ some k_ ≠ (.slice (some ad123) t115.length co28 : Value).ownBlock) (.slice A123_4 ((rd_T34 t115 x10_2).f4).length c123_4) ((rd_T34 t115 x10_2).f4)) ∧ (Kd.S k34 34 w' w.heap.size (fun k_ => some k_ ≠ (.slice (some ad123) t115.length co28 : Value).ownBlock ∧ k_ ≠ s_.1 ∧ k_ ≠ s_.2) (.slice (some ad122) t108.length co23) t108) ∧ (Kd.S k34 34 w' w.heap.size (fun k_ => some k_ ≠ (.slice (some ad122) t108.length co23 : Value).ownBlock ∧ k_ ≠ s_.1 ∧ k_ ≠ s_.2) (.slice (some ad123) t115.length co28) t115) ∧ (w'.heap[gb112]? = some (.cells #[.int .i64 t106, .int .i64 t107, .slice (some ad122) t108.length co23] 28 (0, 0))) ∧ (w'.heap[gb119]? = some (.cells #[.int .i64 t113, .int .i64 t114, .slice (some ad123) t115.length co28] 28 (0, 0))) ∧ (w'.heap[s_.1]? = some (.cells #[.int .i64 0, .int .i64 0, .int .i64 0, .int .i64 0, .slice none 0 0] 34 (0, 0))) ∧ (w'.heap[s_.2]? = some (.cells #[.int .i64 0, .int .i64 0, .int .i64 0, .int .i64 0, .slice none 0 0] 34 (0, 0))) ∧ (w.heap.size ≤ s_.1) ∧ (w.heap.size ≤ s_.1) ∧ (gb112 ≠ s_.1) ∧ (s_.1 ≠ gb112) ∧ (gb119 ≠ s_.1) ∧ (s_.1 ≠ gb119) ∧ (s_.2 ≠ s_.1) ∧ (s_.1 ≠ s_.2) ∧ (w.heap.size ≤ s_.2) ∧ (w.heap.size ≤ s_.2) ∧ (gb112 ≠ s_.2) ∧ (s_.2 ≠ gb112) ∧ (gb119 ≠ s_.2) ∧ (s_.2 ≠ gb119) ∧ (Below w.heap.size w w')) ?_ ?_
     rotate_left
     ·intro hCont
      refine two_ (i := 10) (j := 11) (Ni := some 11) (Nj := some 12) #[true, true, true, true, true, true, true, true, true, true, true, false, false, false] #[true, true, true, true, true, true, true, true, true, true, false, true, false, false] rfl rfl rfl rfl (two_of HT_.out (by kernel_rfl)) (by decide) (by decide) (fun K hK => ?_) (fun K hK => ?_)
      ·skip
       refine box_step ?hg (N := 11) ?hd (cs := #[.int .i64 0, .int .i64 0, .int .i64 0, .int .i64 0, .slice none 0 0]) (t := 34) ?hr ?_; (case hd => rfl); (case hg => rfl); (case hr => first | (go_simp; done) | (go_simp; rfl))
       intro gb124 hg w79 hbox hb
       have HS6_ := (hb.cell (World.block_lt_of_cell? _ _ (hHeld.2.2.2.2.2.2.1))).trans (hHeld.2.2.2.2.2.2.1)
       have HS7_ := (hb.cell (World.block_lt_of_cell? _ _ (hHeld.2.2.2.2.2.2.2.1))).trans (hHeld.2.2.2.2.2.2.2.1)
       have HS8_ := (hb.cell (World.block_lt_of_cell? _ _ (hHeld.2.2.2.2.2.2.2.2.1))).trans (hHeld.2.2.2.2.2.2.2.2.1)
       have HS9_ := (hb.cell (World.block_lt_of_cell? _ _ (hHeld.2.2.2.2.2.2.2.2.2.1))).trans (hHeld.2.2.2.2.2.2.2.2.2.1)
       have HS10_ := (hb.cell (World.block_lt_of_cell? _ _ (hHeld.2.2.2.2.2.2.2.2.2.2.1))).trans (hHeld.2.2.2.2.2.2.2.2.2.2.1)
       have HS11_ := (hb.cell (World.block_lt_of_cell? _ _ (hHeld.2.2.2.2.2.2.2.2.2.2.2.1))).trans (hHeld.2.2.2.2.2.2.2.2.2.2.2.1)
       have HS12_ := (hb.cell (World.block_lt_of_cell? _ _ (hHeld.2.2.2.2.2.2.2.2.2.2.2.2.1))).trans (hHeld.2.2.2.2.2.2.2.2.2.2.2.2.1)
       have HS13_ := (hb.cell (World.block_lt_of_cell? _ _ (hHeld.2.2.2.2.2.2.2.2.2.2.2.2.2.1))).trans (hHeld.2.2.2.2.2.2.2.2.2.2.2.2.2.1)
       have HS14_ := (hb.cell (World.block_lt_of_cell? _ _ (hHeld.2.2.2.2.2.2.2.2.2.2.2.2.2.2.1))).trans (hHeld.2.2.2.2.2.2.2.2.2.2.2.2.2.2.1)
       have HS15_ := (hb.cell (World.block_lt_of_cell? _ _ (hHeld.2.2.2.2.2.2.2.2.2.2.2.2.2.2.2))).trans (hHeld.2.2.2.2.2.2.2.2.2.2.2.2.2.2.2)
       have n0_ := Aside0.mk (Kd.S_below (Kd.S_elderB (by (with_reducible repeat (first | apply Kd.S_alloc | apply Kd.S_drewN | apply Kd.S_drew)); exact HO_113002.out) gb124 (Nat.le_of_eq hg.symm)) hb)
       have n1_ := Aside0.mk (Kd.S_below (Kd.S_elderB (by (with_reducible repeat (first | apply Kd.S_alloc | apply Kd.S_drewN | apply Kd.S_drew)); exact HO_120002.out) gb124 (Nat.le_of_eq hg.symm)) hb)
       have n2_ := Aside0.mk (Kd.R_below (by (with_reducible repeat (first | apply Kd.R_alloc | apply Kd.R_drewN | apply Kd.R_drew)); exact HL122_4.out) hb)
       have n3_ := Aside0.mk (Kd.R_below (by (with_reducible repeat (first | apply Kd.R_alloc | apply Kd.R_drewN | apply Kd.R_drew)); exact HL123_4.out) hb)
       have n4_ := Aside0.mk (blk_below (g := gb112) (o := .cells #[.int .i64 t106, .int .i64 t107, .slice (some ad122) t108.length co23] 28 (0, 0)) (by (with_reducible repeat (first | refine blk_drewN ?_ _ | refine blk_drew ?_ | refine blk_alloc ?_ _)); exact BK112.out) hb)
       have n5_ := Aside0.mk (blk_below (g := gb119) (o := .cells #[.int .i64 t113, .int .i64 t114, .slice (some ad123) t115.length co28] 28 (0, 0)) (by (with_reducible repeat (first | refine blk_drewN ?_ _ | refine blk_drew ?_ | refine blk_alloc ?_ _)); exact BK119.out) hb)
       (first | (with_reducible have n6_ := Aside0.mk (Kd.C_below (Kd.C_drewN HR122_4.out _) hb)) | (with_reducible have n6_ := Aside0.mk (Kd.C_below HR122_4.out hb)) | (have n6_ := Aside0.mk (Kd.C_below (by repeat (first | (with_reducible exact HR122_4.out) | (with_reducible refine Kd.C_alloc ?_ _) | (with_reducible refine Kd.C_drewN ?_ _) | (with_reducible refine Kd.C_drew ?_) | exact HR122_4.out)) hb)))
       (first | (with_reducible have n7_ := Aside0.mk (Kd.C_below (Kd.C_drewN HR123_4.out _) hb)) | (with_reducible have n7_ := Aside0.mk (Kd.C_below HR123_4.out hb)) | (have n7_ := Aside0.mk (Kd.C_below (by repeat (first | (with_reducible exact HR123_4.out) | (with_reducible refine Kd.C_alloc ?_ _) | (with_reducible refine Kd.C_drewN ?_ _) | (with_reducible refine Kd.C_drew ?_) | exact HR123_4.out)) hb)))
       have n8_ := Aside0.mk (below_step (by repeat (first | (with_reducible first | exact HB.out | apply below_alloc | apply pw_below_drewN | apply below_drew1 | refine below_set ?_ GE112.out | refine below_set ?_ GE119.out) | exact HB.out)) hb)
       have n9_ := Aside0.mk (hbox)
       have n10_ := Aside0.mk ((by rw [hg]; exact (below_size (by repeat (first | (with_reducible first | exact HB.out | apply below_alloc | apply pw_below_drewN | apply below_drew1 | refine below_set ?_ GE112.out | refine below_set ?_ GE119.out) | exact HB.out))) : w.heap.size ≤ gb124))
       have n11_ := Aside0.mk ((by rw [hg]; exact (below_size (by repeat (first | (with_reducible first | exact HB.out | apply below_alloc | apply pw_below_drewN | apply below_drew1 | refine below_set ?_ GE112.out | refine below_set ?_ GE119.out) | exact HB.out))) : w.heap.size ≤ gb124))
       have n12_ := Aside0.mk ((by rw [hg]; exact Nat.ne_of_lt (blk_lt (g := gb112) (o := .cells #[.int .i64 t106, .int .i64 t107, .slice (some ad122) t108.length co23] 28 (0, 0)) (by (with_reducible repeat (first | refine blk_drewN ?_ _ | refine blk_drew ?_ | refine blk_alloc ?_ _)); exact BK112.out)) : gb112 ≠ gb124))
       have n13_ := Aside0.mk ((by rw [hg]; exact Nat.ne_of_gt (blk_lt (g := gb112) (o := .cells #[.int .i64 t106, .int .i64 t107, .slice (some ad122) t108.length co23] 28 (0, 0)) (by (with_reducible repeat (first | refine blk_drewN ?_ _ | refine blk_drew ?_ | refine blk_alloc ?_ _)); exact BK112.out)) : gb124 ≠ gb112))
       have n14_ := Aside0.mk ((by rw [hg]; exact Nat.ne_of_lt (blk_lt (g := gb119) (o := .cells #[.int .i64 t113, .int .i64 t114, .slice (some ad123) t115.length co28] 28 (0, 0)) (by (with_reducible repeat (first | refine blk_drewN ?_ _ | refine blk_drew ?_ | refine blk_alloc ?_ _)); exact BK119.out)) : gb119 ≠ gb124))
       have n15_ := Aside0.mk ((by rw [hg]; exact Nat.ne_of_gt (blk_lt (g := gb119) (o := .cells #[.int .i64 t113, .int .i64 t114, .slice (some ad123) t115.length co28] 28 (0, 0)) (by (with_reducible repeat (first | refine blk_drewN ?_ _ | refine blk_drew ?_ | refine blk_alloc ?_ _)); exact BK119.out)) : gb124 ≠ gb119))
       clear HO_113002
       clear HO_120002
       clear HL122_4
       clear HL123_4
       clear BK112
       clear BK119
       clear HR122_4
       clear HR123_4
       clear HB
       have HO_113002 := n0_
       have HO_120002 := n1_
       have HL122_4 := n2_
       have HL123_4 := n3_
       have BK112 := n4_
       have BK119 := n5_
       have HR122_4 := n6_
       have HR123_4 := n7_
       have HB := n8_
       have BK124 := n9_
       have GW124 := n10_
       have GE124 := n11_
       have NB112_124 := n12_
       have NB124_112 := n13_
       have NB119_124 := n14_
       have NB124_119 := n15_
       clear n0_ n1_ n2_ n3_ n4_ n5_ n6_ n7_ n8_ n9_ n10_ n11_ n12_ n13_ n14_ n15_
       clear hb hbox hg
       refine hK.out _ _ ⟨(blk_cell BK112.out 0).trans rfl, (blk_cell BK112.out 1).trans rfl, (blk_cell BK112.out 2).trans rfl, (blk_cell BK119.out 0).trans rfl, (blk_cell BK119.out 1).trans rfl, (blk_cell BK119.out 2).trans rfl, HS6_, HS7_, HS8_, HS9_, HS10_, HS11_, HS12_, HS13_, HS14_, HS15_⟩ (fun hHeld => ?_)
       clear hK K
       refine norm_ (a' := ?_) ?_ ?_
       rotate_left
       ·show Act.put _ (some 11) _ = _
        simp only [Act.put, z1_, z2_, z3_, i64_w, i32_w]
        rfl
       refine one_ (i := 11) (N := some 12) #[true, true, true, true, true, true, true, true, true, true, true, true, false, false] rfl rfl (one_of HT_.out (by kernel_rfl)) (by decide) (fun K hK => ?_)
       refine box_step ?hg (N := 12) ?hd (cs := #[.int .i64 0, .int .i64 0, .int .i64 0, .int .i64 0, .slice none 0 0]) (t := 34) ?hr ?_; (case hd => rfl); (case hg => rfl); (case hr => first | (go_simp; done) | (go_simp; rfl))
       intro gb125 hg w80 hbox hb
       have HS6_ := (hb.cell (World.block_lt_of_cell? _ _ (hHeld.2.2.2.2.2.2.1))).trans (hHeld.2.2.2.2.2.2.1)
       have HS7_ := (hb.cell (World.block_lt_of_cell? _ _ (hHeld.2.2.2.2.2.2.2.1))).trans (hHeld.2.2.2.2.2.2.2.1)
       have HS8_ := (hb.cell (World.block_lt_of_cell? _ _ (hHeld.2.2.2.2.2.2.2.2.1))).trans (hHeld.2.2.2.2.2.2.2.2.1)
       have HS9_ := (hb.cell (World.block_lt_of_cell? _ _ (hHeld.2.2.2.2.2.2.2.2.2.1))).trans (hHeld.2.2.2.2.2.2.2.2.2.1)
       have HS10_ := (hb.cell (World.block_lt_of_cell? _ _ (hHeld.2.2.2.2.2.2.2.2.2.2.1))).trans (hHeld.2.2.2.2.2.2.2.2.2.2.1)
       have HS11_ := (hb.cell (World.block_lt_of_cell? _ _ (hHeld.2.2.2.2.2.2.2.2.2.2.2.1))).trans (hHeld.2.2.2.2.2.2.2.2.2.2.2.1)
       have HS12_ := (hb.cell (World.block_lt_of_cell? _ _ (hHeld.2.2.2.2.2.2.2.2.2.2.2.2.1))).trans (hHeld.2.2.2.2.2.2.2.2.2.2.2.2.1)
       have HS13_ := (hb.cell (World.block_lt_of_cell? _ _ (hHeld.2.2.2.2.2.2.2.2.2.2.2.2.2.1))).trans (hHeld.2.2.2.2.2.2.2.2.2.2.2.2.2.1)
       have HS14_ := (hb.cell (World.block_lt_of_cell? _ _ (hHeld.2.2.2.2.2.2.2.2.2.2.2.2.2.2.1))).trans (hHeld.2.2.2.2.2.2.2.2.2.2.2.2.2.2.1)
       have HS15_ := (hb.cell (World.block_lt_of_cell? _ _ (hHeld.2.2.2.2.2.2.2.2.2.2.2.2.2.2.2))).trans (hHeld.2.2.2.2.2.2.2.2.2.2.2.2.2.2.2)
       have n0_ := Aside0.mk (Kd.S_below (Kd.S_elderB (by (with_reducible repeat (first | apply Kd.S_alloc | apply Kd.S_drewN | apply Kd.S_drew)); exact HO_113002.out) gb125 (Nat.le_of_eq hg.symm)) hb)
       have n1_ := Aside0.mk (Kd.S_below (Kd.S_elderB (by (with_reducible repeat (first | apply Kd.S_alloc | apply Kd.S_drewN | apply Kd.S_drew)); exact HO_120002.out) gb125 (Nat.le_of_eq hg.symm)) hb)
       have n2_ := Aside0.mk (Kd.R_below (by (with_reducible repeat (first | apply Kd.R_alloc | apply Kd.R_drewN | apply Kd.R_drew)); exact HL122_4.out) hb)
       have n3_ := Aside0.mk (Kd.R_below (by (with_reducible repeat (first | apply Kd.R_alloc | apply Kd.R_drewN | apply Kd.R_drew)); exact HL123_4.out) hb)
       have n4_ := Aside0.mk (blk_below (g := gb112) (o := .cells #[.int .i64 t106, .int .i64 t107, .slice (some ad122) t108.length co23] 28 (0, 0)) (by (with_reducible repeat (first | refine blk_drewN ?_ _ | refine blk_drew ?_ | refine blk_alloc ?_ _)); exact BK112.out) hb)
       have n5_ := Aside0.mk (blk_below (g := gb119) (o := .cells #[.int .i64 t113, .int .i64 t114, .slice (some ad123) t115.length co28] 28 (0, 0)) (by (with_reducible repeat (first | refine blk_drewN ?_ _ | refine blk_drew ?_ | refine blk_alloc ?_ _)); exact BK119.out) hb)
       (first | (with_reducible have n6_ := Aside0.mk (Kd.C_below (Kd.C_drewN HR122_4.out _) hb)) | (with_reducible have n6_ := Aside0.mk (Kd.C_below HR122_4.out hb)) | (have n6_ := Aside0.mk (Kd.C_below (by repeat (first | (with_reducible exact HR122_4.out) | (with_reducible refine Kd.C_alloc ?_ _) | (with_reducible refine Kd.C_drewN ?_ _) | (with_reducible refine Kd.C_drew ?_) | exact HR122_4.out)) hb)))
       (first | (with_reducible have n7_ := Aside0.mk (Kd.C_below (Kd.C_drewN HR123_4.out _) hb)) | (with_reducible have n7_ := Aside0.mk (Kd.C_below HR123_4.out hb)) | (have n7_ := Aside0.mk (Kd.C_below (by repeat (first | (with_reducible exact HR123_4.out) | (with_reducible refine Kd.C_alloc ?_ _) | (with_reducible refine Kd.C_drewN ?_ _) | (with_reducible refine Kd.C_drew ?_) | exact HR123_4.out)) hb)))
       have n8_ := Aside0.mk (blk_below (g := gb124) (o := .cells #[.int .i64 0, .int .i64 0, .int .i64 0, .int .i64 0, .slice none 0 0] 34 (0, 0)) (by (with_reducible repeat (first | refine blk_drewN ?_ _ | refine blk_drew ?_ | refine blk_alloc ?_ _)); exact BK124.out) hb)
       have n9_ := Aside0.mk (below_step (by repeat (first | (with_reducible first | exact HB.out | apply below_alloc | apply pw_below_drewN | apply below_drew1 | refine below_set ?_ GE112.out | refine below_set ?_ GE119.out | refine below_set ?_ GE124.out) | exact HB.out)) hb)
       have n10_ := Aside0.mk (hbox)
       have n11_ := Aside0.mk ((by rw [hg]; exact (below_size (by repeat (first | (with_reducible first | exact HB.out | apply below_alloc | apply pw_below_drewN | apply below_drew1 | refine below_set ?_ GE112.out | refine below_set ?_ GE119.out | refine below_set ?_ GE124.out) | exact HB.out))) : w.heap.size ≤ gb125))
       have n12_ := Aside0.mk ((by rw [hg]; exact (below_size (by repeat (first | (with_reducible first | exact HB.out | apply below_alloc | apply pw_below_drewN | apply below_drew1 | refine below_set ?_ GE112.out | refine below_set ?_ GE119.out | refine below_set ?_ GE124.out) | exact HB.out))) : w.heap.size ≤ gb125))
       have n13_ := Aside0.mk ((by rw [hg]; exact Nat.ne_of_lt (blk_lt (g := gb112) (o := .cells #[.int .i64 t106, .int .i64 t107, .slice (some ad122) t108.length co23] 28 (0, 0)) (by (with_reducible repeat (first | refine blk_drewN ?_ _ | refine blk_drew ?_ | refine blk_alloc ?_ _)); exact BK112.out)) : gb112 ≠ gb125))
       have n14_ := Aside0.mk ((by rw [hg]; exact Nat.ne_of_gt (blk_lt (g := gb112) (o := .cells #[.int .i64 t106, .int .i64 t107, .slice (some ad122) t108.length co23] 28 (0, 0)) (by (with_reducible repeat (first | refine blk_drewN ?_ _ | refine blk_drew ?_ | refine blk_alloc ?_ _)); exact BK112.out)) : gb125 ≠ gb112))
       have n15_ := Aside0.mk ((by rw [hg]; exact Nat.ne_of_lt (blk_lt (g := gb119) (o := .cells #[.int .i64 t113, .int .i64 t114, .slice (some ad123) t115.length co28] 28 (0, 0)) (by (with_reducible repeat (first | refine blk_drewN ?_ _ | refine blk_drew ?_ | refine blk_alloc ?_ _)); exact BK119.out)) : gb119 ≠ gb125))
       have n16_ := Aside0.mk ((by rw [hg]; exact Nat.ne_of_gt (blk_lt (g := gb119) (o := .cells #[.int .i64 t113, .int .i64 t114, .slice (some ad123) t115.length co28] 28 (0, 0)) (by (with_reducible repeat (first | refine blk_drewN ?_ _ | refine blk_drew ?_ | refine blk_alloc ?_ _)); exact BK119.out)) : gb125 ≠ gb119))
       have n17_ := Aside0.mk ((by rw [hg]; exact Nat.ne_of_lt (blk_lt (g := gb124) (o := .cells #[.int .i64 0, .int .i64 0, .int .i64 0, .int .i64 0, .slice none 0 0] 34 (0, 0)) (by (with_reducible repeat (first | refine blk_drewN ?_ _ | refine blk_drew ?_ | refine blk_alloc ?_ _)); exact BK124.out)) : gb124 ≠ gb125))
       have n18_ := Aside0.mk ((by rw [hg]; exact Nat.ne_of_gt (blk_lt (g := gb124) (o := .cells #[.int .i64 0, .int .i64 0, .int .i64 0, .int .i64 0, .slice none 0 0] 34 (0, 0)) (by (with_reducible repeat (first | refine blk_drewN ?_ _ | refine blk_drew ?_ | refine blk_alloc ?_ _)); exact BK124.out)) : gb125 ≠ gb124))
       clear HO_113002
       clear HO_120002
       clear HL122_4
       clear HL123_4
       clear BK112
       clear BK119
       clear HR122_4
       clear HR123_4
       clear BK124
       clear HB
       have HO_113002 := n0_
       have HO_120002 := n1_
       have HL122_4 := n2_
       have HL123_4 := n3_
       have BK112 := n4_
       have BK119 := n5_
       have HR122_4 := n6_
       have HR123_4 := n7_
       have BK124 := n8_
       have HB := n9_
       have BK125 := n10_
       have GW125 := n11_
       have GE125 := n12_
       have NB112_125 := n13_
       have NB125_112 := n14_
       have NB119_125 := n15_
       have NB125_119 := n16_
       have NB124_125 := n17_
       have NB125_124 := n18_
       clear n0_ n1_ n2_ n3_ n4_ n5_ n6_ n7_ n8_ n9_ n10_ n11_ n12_ n13_ n14_ n15_ n16_ n17_ n18_
       clear hb hbox hg
       refine hK.out _ _ ⟨(blk_cell BK112.out 0).trans rfl, (blk_cell BK112.out 1).trans rfl, (blk_cell BK112.out 2).trans rfl, (blk_cell BK119.out 0).trans rfl, (blk_cell BK119.out 1).trans rfl, (blk_cell BK119.out 2).trans rfl, HS6_, HS7_, HS8_, HS9_, HS10_, HS11_, HS12_, HS13_, HS14_, HS15_⟩ (fun hHeld => ?_)
       clear hK K
       refine norm_ (a' := ?_) ?_ ?_
       rotate_left
       ·show Act.put _ (some 12) _ = _
        simp only [Act.put, z1_, z2_, z3_, i64_w, i32_w]
        rfl
       exact norm_ (by simp only [putAll, Act.put, z1_, z2_, z3_]) (hCont (gb124, gb125) _ ⟨hHeld, (by (with_reducible repeat (first | apply Kd.R_alloc | apply Kd.R_drewN | apply Kd.R_drew)); exact Kd.R_mono HL122_4.out (fun _ hk => ⟨hk.2, hk.1⟩)), (by (with_reducible repeat (first | apply Kd.R_alloc | apply Kd.R_drewN | apply Kd.R_drew)); exact HL123_4.out), (by (with_reducible repeat (first | apply Kd.S_alloc | apply Kd.S_drewN | apply Kd.S_drew)); exact Kd.S_mono HO_113002.out (fun _ hk => ⟨hk.1.1, ⟨hk.1.2, hk.2⟩⟩)), (by (with_reducible repeat (first | apply Kd.S_alloc | apply Kd.S_drewN | apply Kd.S_drew)); exact Kd.S_mono HO_120002.out (fun _ hk => ⟨hk.1.1, ⟨hk.1.2, hk.2⟩⟩)), (by (with_reducible repeat (first | refine blk_drewN ?_ _ | refine blk_drew ?_ | refine blk_alloc ?_ _)); exact BK112.out), (by (with_reducible repeat (first | refine blk_drewN ?_ _ | refine blk_drew ?_ | refine blk_alloc ?_ _)); exact BK119.out), (by (with_reducible repeat (first | refine blk_drewN ?_ _ | refine blk_drew ?_ | refine blk_alloc ?_ _)); exact BK124.out), (by (with_reducible repeat (first | refine blk_drewN ?_ _ | refine blk_drew ?_ | refine blk_alloc ?_ _)); exact BK125.out), GW124.out, GE124.out, NB112_124.out, NB124_112.out, NB119_124.out, NB124_119.out, NB125_124.out, NB124_125.out, GW125.out, GE125.out, NB112_125.out, NB125_112.out, NB119_125.out, NB125_119.out, (by repeat (first | (with_reducible first | exact HB.out | apply below_alloc | apply pw_below_drewN | apply below_drew1 | refine below_set ?_ GE112.out | refine below_set ?_ GE119.out | refine below_set ?_ GE124.out | refine below_set ?_ GE125.out) | exact HB.out))⟩)
      ·skip
       refine box_step ?hg (N := 12) ?hd (cs := #[.int .i64 0, .int .i64 0, .int .i64 0, .int .i64 0, .slice none 0 0]) (t := 34) ?hr ?_; (case hd => rfl); (case hg => rfl); (case hr => first | (go_simp; done) | (go_simp; rfl))
       intro gb125 hg w79 hbox hb
       have HS6_ := (hb.cell (World.block_lt_of_cell? _ _ (hHeld.2.2.2.2.2.2.1))).trans (hHeld.2.2.2.2.2.2.1)
       have HS7_ := (hb.cell (World.block_lt_of_cell? _ _ (hHeld.2.2.2.2.2.2.2.1))).trans (hHeld.2.2.2.2.2.2.2.1)
       have HS8_ := (hb.cell (World.block_lt_of_cell? _ _ (hHeld.2.2.2.2.2.2.2.2.1))).trans (hHeld.2.2.2.2.2.2.2.2.1)
       have HS9_ := (hb.cell (World.block_lt_of_cell? _ _ (hHeld.2.2.2.2.2.2.2.2.2.1))).trans (hHeld.2.2.2.2.2.2.2.2.2.1)
       have HS10_ := (hb.cell (World.block_lt_of_cell? _ _ (hHeld.2.2.2.2.2.2.2.2.2.2.1))).trans (hHeld.2.2.2.2.2.2.2.2.2.2.1)
       have HS11_ := (hb.cell (World.block_lt_of_cell? _ _ (hHeld.2.2.2.2.2.2.2.2.2.2.2.1))).trans (hHeld.2.2.2.2.2.2.2.2.2.2.2.1)
       have HS12_ := (hb.cell (World.block_lt_of_cell? _ _ (hHeld.2.2.2.2.2.2.2.2.2.2.2.2.1))).trans (hHeld.2.2.2.2.2.2.2.2.2.2.2.2.1)
       have HS13_ := (hb.cell (World.block_lt_of_cell? _ _ (hHeld.2.2.2.2.2.2.2.2.2.2.2.2.2.1))).trans (hHeld.2.2.2.2.2.2.2.2.2.2.2.2.2.1)
       have HS14_ := (hb.cell (World.block_lt_of_cell? _ _ (hHeld.2.2.2.2.2.2.2.2.2.2.2.2.2.2.1))).trans (hHeld.2.2.2.2.2.2.2.2.2.2.2.2.2.2.1)
       have HS15_ := (hb.cell (World.block_lt_of_cell? _ _ (hHeld.2.2.2.2.2.2.2.2.2.2.2.2.2.2.2))).trans (hHeld.2.2.2.2.2.2.2.2.2.2.2.2.2.2.2)
       have n0_ := Aside0.mk (Kd.S_below (Kd.S_elderB (by (with_reducible repeat (first | apply Kd.S_alloc | apply Kd.S_drewN | apply Kd.S_drew)); exact HO_113002.out) gb125 (Nat.le_of_eq hg.symm)) hb)
       have n1_ := Aside0.mk (Kd.S_below (Kd.S_elderB (by (with_reducible repeat (first | apply Kd.S_alloc | apply Kd.S_drewN | apply Kd.S_drew)); exact HO_120002.out) gb125 (Nat.le_of_eq hg.symm)) hb)
       have n2_ := Aside0.mk (Kd.R_below (by (with_reducible repeat (first | apply Kd.R_alloc | apply Kd.R_drewN | apply Kd.R_drew)); exact HL122_4.out) hb)
       have n3_ := Aside0.mk (Kd.R_below (by (with_reducible repeat (first | apply Kd.R_alloc | apply Kd.R_drewN | apply Kd.R_drew)); exact HL123_4.out) hb)
       have n4_ := Aside0.mk (blk_below (g := gb112) (o := .cells #[.int .i64 t106, .int .i64 t107, .slice (some ad122) t108.length co23] 28 (0, 0)) (by (with_reducible repeat (first | refine blk_drewN ?_ _ | refine blk_drew ?_ | refine blk_alloc ?_ _)); exact BK112.out) hb)
       have n5_ := Aside0.mk (blk_below (g := gb119) (o := .cells #[.int .i64 t113, .int .i64 t114, .slice (some ad123) t115.length co28] 28 (0, 0)) (by (with_reducible repeat (first | refine blk_drewN ?_ _ | refine blk_drew ?_ | refine blk_alloc ?_ _)); exact BK119.out) hb)
       (first | (with_reducible have n6_ := Aside0.mk (Kd.C_below (Kd.C_drewN HR122_4.out _) hb)) | (with_reducible have n6_ := Aside0.mk (Kd.C_below HR122_4.out hb)) | (have n6_ := Aside0.mk (Kd.C_below (by repeat (first | (with_reducible exact HR122_4.out) | (with_reducible refine Kd.C_alloc ?_ _) | (with_reducible refine Kd.C_drewN ?_ _) | (with_reducible refine Kd.C_drew ?_) | exact HR122_4.out)) hb)))
       (first | (with_reducible have n7_ := Aside0.mk (Kd.C_below (Kd.C_drewN HR123_4.out _) hb)) | (with_reducible have n7_ := Aside0.mk (Kd.C_below HR123_4.out hb)) | (have n7_ := Aside0.mk (Kd.C_below (by repeat (first | (with_reducible exact HR123_4.out) | (with_reducible refine Kd.C_alloc ?_ _) | (with_reducible refine Kd.C_drewN ?_ _) | (with_reducible refine Kd.C_drew ?_) | exact HR123_4.out)) hb)))
       have n8_ := Aside0.mk (below_step (by repeat (first | (with_reducible first | exact HB.out | apply below_alloc | apply pw_below_drewN | apply below_drew1 | refine below_set ?_ GE112.out | refine below_set ?_ GE119.out) | exact HB.out)) hb)
       have n9_ := Aside0.mk (hbox)
       have n10_ := Aside0.mk ((by rw [hg]; exact (below_size (by repeat (first | (with_reducible first | exact HB.out | apply below_alloc | apply pw_below_drewN | apply below_drew1 | refine below_set ?_ GE112.out | refine below_set ?_ GE119.out) | exact HB.out))) : w.heap.size ≤ gb125))
       have n11_ := Aside0.mk ((by rw [hg]; exact (below_size (by repeat (first | (with_reducible first | exact HB.out | apply below_alloc | apply pw_below_drewN | apply below_drew1 | refine below_set ?_ GE112.out | refine below_set ?_ GE119.out) | exact HB.out))) : w.heap.size ≤ gb125))
       have n12_ := Aside0.mk ((by rw [hg]; exact Nat.ne_of_lt (blk_lt (g := gb112) (o := .cells #[.int .i64 t106, .int .i64 t107, .slice (some ad122) t108.length co23] 28 (0, 0)) (by (with_reducible repeat (first | refine blk_drewN ?_ _ | refine blk_drew ?_ | refine blk_alloc ?_ _)); exact BK112.out)) : gb112 ≠ gb125))
       have n13_ := Aside0.mk ((by rw [hg]; exact Nat.ne_of_gt (blk_lt (g := gb112) (o := .cells #[.int .i64 t106, .int .i64 t107, .slice (some ad122) t108.length co23] 28 (0, 0)) (by (with_reducible repeat (first | refine blk_drewN ?_ _ | refine blk_drew ?_ | refine blk_alloc ?_ _)); exact BK112.out)) : gb125 ≠ gb112))
       have n14_ := Aside0.mk ((by rw [hg]; exact Nat.ne_of_lt (blk_lt (g := gb119) (o := .cells #[.int .i64 t113, .int .i64 t114, .slice (some ad123) t115.length co28] 28 (0, 0)) (by (with_reducible repeat (first | refine blk_drewN ?_ _ | refine blk_drew ?_ | refine blk_alloc ?_ _)); exact BK119.out)) : gb119 ≠ gb125))
       have n15_ := Aside0.mk ((by rw [hg]; exact Nat.ne_of_gt (blk_lt (g := gb119) (o := .cells #[.int .i64 t113, .int .i64 t114, .slice (some ad123) t115.length co28] 28 (0, 0)) (by (with_reducible repeat (first | refine blk_drewN ?_ _ | refine blk_drew ?_ | refine blk_alloc ?_ _)); exact BK119.out)) : gb125 ≠ gb119))
       clear HO_113002
       clear HO_120002
       clear HL122_4
       clear HL123_4
       clear BK112
       clear BK119
       clear HR122_4
       clear HR123_4
       clear HB
       have HO_113002 := n0_
       have HO_120002 := n1_
       have HL122_4 := n2_
       have HL123_4 := n3_
       have BK112 := n4_
       have BK119 := n5_
       have HR122_4 := n6_
       have HR123_4 := n7_
       have HB := n8_
       have BK125 := n9_
       have GW125 := n10_
       have GE125 := n11_
       have NB112_125 := n12_
       have NB125_112 := n13_
       have NB119_125 := n14_
       have NB125_119 := n15_
       clear n0_ n1_ n2_ n3_ n4_ n5_ n6_ n7_ n8_ n9_ n10_ n11_ n12_ n13_ n14_ n15_
       clear hb hbox hg
       refine hK.out _ _ ⟨(blk_cell BK112.out 0).trans rfl, (blk_cell BK112.out 1).trans rfl, (blk_cell BK112.out 2).trans rfl, (blk_cell BK119.out 0).trans rfl, (blk_cell BK119.out 1).trans rfl, (blk_cell BK119.out 2).trans rfl, HS6_, HS7_, HS8_, HS9_, HS10_, HS11_, HS12_, HS13_, HS14_, HS15_⟩ (fun hHeld => ?_)
       clear hK K
       refine norm_ (a' := ?_) ?_ ?_
       rotate_left
       ·show Act.put _ (some 12) _ = _
        simp only [Act.put, z1_, z2_, z3_, i64_w, i32_w]
        rfl
       refine one_ (i := 10) (N := some 11) #[true, true, true, true, true, true, true, true, true, true, true, true, false, false] rfl rfl (one_of HT_.out (by kernel_rfl)) (by decide) (fun K hK => ?_)
       refine box_step ?hg (N := 11) ?hd (cs := #[.int .i64 0, .int .i64 0, .int .i64 0, .int .i64 0, .slice none 0 0]) (t := 34) ?hr ?_; (case hd => rfl); (case hg => rfl); (case hr => first | (go_simp; done) | (go_simp; rfl))
       intro gb124 hg w80 hbox hb
       have HS6_ := (hb.cell (World.block_lt_of_cell? _ _ (hHeld.2.2.2.2.2.2.1))).trans (hHeld.2.2.2.2.2.2.1)
       have HS7_ := (hb.cell (World.block_lt_of_cell? _ _ (hHeld.2.2.2.2.2.2.2.1))).trans (hHeld.2.2.2.2.2.2.2.1)
       have HS8_ := (hb.cell (World.block_lt_of_cell? _ _ (hHeld.2.2.2.2.2.2.2.2.1))).trans (hHeld.2.2.2.2.2.2.2.2.1)
       have HS9_ := (hb.cell (World.block_lt_of_cell? _ _ (hHeld.2.2.2.2.2.2.2.2.2.1))).trans (hHeld.2.2.2.2.2.2.2.2.2.1)
       have HS10_ := (hb.cell (World.block_lt_of_cell? _ _ (hHeld.2.2.2.2.2.2.2.2.2.2.1))).trans (hHeld.2.2.2.2.2.2.2.2.2.2.1)
       have HS11_ := (hb.cell (World.block_lt_of_cell? _ _ (hHeld.2.2.2.2.2.2.2.2.2.2.2.1))).trans (hHeld.2.2.2.2.2.2.2.2.2.2.2.1)
       have HS12_ := (hb.cell (World.block_lt_of_cell? _ _ (hHeld.2.2.2.2.2.2.2.2.2.2.2.2.1))).trans (hHeld.2.2.2.2.2.2.2.2.2.2.2.2.1)
       have HS13_ := (hb.cell (World.block_lt_of_cell? _ _ (hHeld.2.2.2.2.2.2.2.2.2.2.2.2.2.1))).trans (hHeld.2.2.2.2.2.2.2.2.2.2.2.2.2.1)
       have HS14_ := (hb.cell (World.block_lt_of_cell? _ _ (hHeld.2.2.2.2.2.2.2.2.2.2.2.2.2.2.1))).trans (hHeld.2.2.2.2.2.2.2.2.2.2.2.2.2.2.1)
       have HS15_ := (hb.cell (World.block_lt_of_cell? _ _ (hHeld.2.2.2.2.2.2.2.2.2.2.2.2.2.2.2))).trans (hHeld.2.2.2.2.2.2.2.2.2.2.2.2.2.2.2)
       have n0_ := Aside0.mk (Kd.S_below (Kd.S_elderB (by (with_reducible repeat (first | apply Kd.S_alloc | apply Kd.S_drewN | apply Kd.S_drew)); exact HO_113002.out) gb124 (Nat.le_of_eq hg.symm)) hb)
       have n1_ := Aside0.mk (Kd.S_below (Kd.S_elderB (by (with_reducible repeat (first | apply Kd.S_alloc | apply Kd.S_drewN | apply Kd.S_drew)); exact HO_120002.out) gb124 (Nat.le_of_eq hg.symm)) hb)
       have n2_ := Aside0.mk (Kd.R_below (by (with_reducible repeat (first | apply Kd.R_alloc | apply Kd.R_drewN | apply Kd.R_drew)); exact HL122_4.out) hb)
       have n3_ := Aside0.mk (Kd.R_below (by (with_reducible repeat (first | apply Kd.R_alloc | apply Kd.R_drewN | apply Kd.R_drew)); exact HL123_4.out) hb)
       have n4_ := Aside0.mk (blk_below (g := gb112) (o := .cells #[.int .i64 t106, .int .i64 t107, .slice (some ad122) t108.length co23] 28 (0, 0)) (by (with_reducible repeat (first | refine blk_drewN ?_ _ | refine blk_drew ?_ | refine blk_alloc ?_ _)); exact BK112.out) hb)
       have n5_ := Aside0.mk (blk_below (g := gb119) (o := .cells #[.int .i64 t113, .int .i64 t114, .slice (some ad123) t115.length co28] 28 (0, 0)) (by (with_reducible repeat (first | refine blk_drewN ?_ _ | refine blk_drew ?_ | refine blk_alloc ?_ _)); exact BK119.out) hb)
       (first | (with_reducible have n6_ := Aside0.mk (Kd.C_below (Kd.C_drewN HR122_4.out _) hb)) | (with_reducible have n6_ := Aside0.mk (Kd.C_below HR122_4.out hb)) | (have n6_ := Aside0.mk (Kd.C_below (by repeat (first | (with_reducible exact HR122_4.out) | (with_reducible refine Kd.C_alloc ?_ _) | (with_reducible refine Kd.C_drewN ?_ _) | (with_reducible refine Kd.C_drew ?_) | exact HR122_4.out)) hb)))
       (first | (with_reducible have n7_ := Aside0.mk (Kd.C_below (Kd.C_drewN HR123_4.out _) hb)) | (with_reducible have n7_ := Aside0.mk (Kd.C_below HR123_4.out hb)) | (have n7_ := Aside0.mk (Kd.C_below (by repeat (first | (with_reducible exact HR123_4.out) | (with_reducible refine Kd.C_alloc ?_ _) | (with_reducible refine Kd.C_drewN ?_ _) | (with_reducible refine Kd.C_drew ?_) | exact HR123_4.out)) hb)))
       have n8_ := Aside0.mk (blk_below (g := gb125) (o := .cells #[.int .i64 0, .int .i64 0, .int .i64 0, .int .i64 0, .slice none 0 0] 34 (0, 0)) (by (with_reducible repeat (first | refine blk_drewN ?_ _ | refine blk_drew ?_ | refine blk_alloc ?_ _)); exact BK125.out) hb)
       have n9_ := Aside0.mk (below_step (by repeat (first | (with_reducible first | exact HB.out | apply below_alloc | apply pw_below_drewN | apply below_drew1 | refine below_set ?_ GE112.out | refine below_set ?_ GE119.out | refine below_set ?_ GE125.out) | exact HB.out)) hb)
       have n10_ := Aside0.mk (hbox)
       have n11_ := Aside0.mk ((by rw [hg]; exact (below_size (by repeat (first | (with_reducible first | exact HB.out | apply below_alloc | apply pw_below_drewN | apply below_drew1 | refine below_set ?_ GE112.out | refine below_set ?_ GE119.out | refine below_set ?_ GE125.out) | exact HB.out))) : w.heap.size ≤ gb124))
       have n12_ := Aside0.mk ((by rw [hg]; exact (below_size (by repeat (first | (with_reducible first | exact HB.out | apply below_alloc | apply pw_below_drewN | apply below_drew1 | refine below_set ?_ GE112.out | refine below_set ?_ GE119.out | refine below_set ?_ GE125.out) | exact HB.out))) : w.heap.size ≤ gb124))
       have n13_ := Aside0.mk ((by rw [hg]; exact Nat.ne_of_lt (blk_lt (g := gb112) (o := .cells #[.int .i64 t106, .int .i64 t107, .slice (some ad122) t108.length co23] 28 (0, 0)) (by (with_reducible repeat (first | refine blk_drewN ?_ _ | refine blk_drew ?_ | refine blk_alloc ?_ _)); exact BK112.out)) : gb112 ≠ gb124))
       have n14_ := Aside0.mk ((by rw [hg]; exact Nat.ne_of_gt (blk_lt (g := gb112) (o := .cells #[.int .i64 t106, .int .i64 t107, .slice (some ad122) t108.length co23] 28 (0, 0)) (by (with_reducible repeat (first | refine blk_drewN ?_ _ | refine blk_drew ?_ | refine blk_alloc ?_ _)); exact BK112.out)) : gb124 ≠ gb112))
       have n15_ := Aside0.mk ((by rw [hg]; exact Nat.ne_of_lt (blk_lt (g := gb119) (o := .cells #[.int .i64 t113, .int .i64 t114, .slice (some ad123) t115.length co28] 28 (0, 0)) (by (with_reducible repeat (first | refine blk_drewN ?_ _ | refine blk_drew ?_ | refine blk_alloc ?_ _)); exact BK119.out)) : gb119 ≠ gb124))
       have n16_ := Aside0.mk ((by rw [hg]; exact Nat.ne_of_gt (blk_lt (g := gb119) (o := .cells #[.int .i64 t113, .int .i64 t114, .slice (some ad123) t115.length co28] 28 (0, 0)) (by (with_reducible repeat (first | refine blk_drewN ?_ _ | refine blk_drew ?_ | refine blk_alloc ?_ _)); exact BK119.out)) : gb124 ≠ gb119))
       have n17_ := Aside0.mk ((by rw [hg]; exact Nat.ne_of_lt (blk_lt (g := gb125) (o := .cells #[.int .i64 0, .int .i64 0, .int .i64 0, .int .i64 0, .slice none 0 0] 34 (0, 0)) (by (with_reducible repeat (first | refine blk_drewN ?_ _ | refine blk_drew ?_ | refine blk_alloc ?_ _)); exact BK125.out)) : gb125 ≠ gb124))
       have n18_ := Aside0.mk ((by rw [hg]; exact Nat.ne_of_gt (blk_lt (g := gb125) (o := .cells #[.int .i64 0, .int .i64 0, .int .i64 0, .int .i64 0, .slice none 0 0] 34 (0, 0)) (by (with_reducible repeat (first | refine blk_drewN ?_ _ | refine blk_drew ?_ | refine blk_alloc ?_ _)); exact BK125.out)) : gb124 ≠ gb125))
       clear HO_113002
       clear HO_120002
       clear HL122_4
       clear HL123_4
       clear BK112
       clear BK119
       clear HR122_4
       clear HR123_4
       clear BK125
       clear HB
       have HO_113002 := n0_
       have HO_120002 := n1_
       have HL122_4 := n2_
       have HL123_4 := n3_
       have BK112 := n4_
       have BK119 := n5_
       have HR122_4 := n6_
       have HR123_4 := n7_
       have BK125 := n8_
       have HB := n9_
       have BK124 := n10_
       have GW124 := n11_
       have GE124 := n12_
       have NB112_124 := n13_
       have NB124_112 := n14_
       have NB119_124 := n15_
       have NB124_119 := n16_
       have NB125_124 := n17_
       have NB124_125 := n18_
       clear n0_ n1_ n2_ n3_ n4_ n5_ n6_ n7_ n8_ n9_ n10_ n11_ n12_ n13_ n14_ n15_ n16_ n17_ n18_
       clear hb hbox hg
       refine hK.out _ _ ⟨(blk_cell BK112.out 0).trans rfl, (blk_cell BK112.out 1).trans rfl, (blk_cell BK112.out 2).trans rfl, (blk_cell BK119.out 0).trans rfl, (blk_cell BK119.out 1).trans rfl, (blk_cell BK119.out 2).trans rfl, HS6_, HS7_, HS8_, HS9_, HS10_, HS11_, HS12_, HS13_, HS14_, HS15_⟩ (fun hHeld => ?_)
       clear hK K
       refine norm_ (a' := ?_) ?_ ?_
       rotate_left
       ·show Act.put _ (some 11) _ = _
        simp only [Act.put, z1_, z2_, z3_, i64_w, i32_w]
        rfl
       exact norm_ (by simp only [putAll, Act.put, z1_, z2_, z3_]) (hCont (gb124, gb125) _ ⟨hHeld, (by (with_reducible repeat (first | apply Kd.R_alloc | apply Kd.R_drewN | apply Kd.R_drew)); exact Kd.R_mono HL122_4.out (fun _ hk => ⟨hk.2, hk.1⟩)), (by (with_reducible repeat (first | apply Kd.R_alloc | apply Kd.R_drewN | apply Kd.R_drew)); exact HL123_4.out), (by (with_reducible repeat (first | apply Kd.S_alloc | apply Kd.S_drewN | apply Kd.S_drew)); exact Kd.S_mono HO_113002.out (fun _ hk => ⟨hk.1.1, ⟨hk.2, hk.1.2⟩⟩)), (by (with_reducible repeat (first | apply Kd.S_alloc | apply Kd.S_drewN | apply Kd.S_drew)); exact Kd.S_mono HO_120002.out (fun _ hk => ⟨hk.1.1, ⟨hk.2, hk.1.2⟩⟩)), (by (with_reducible repeat (first | refine blk_drewN ?_ _ | refine blk_drew ?_ | refine blk_alloc ?_ _)); exact BK112.out), (by (with_reducible repeat (first | refine blk_drewN ?_ _ | refine blk_drew ?_ | refine blk_alloc ?_ _)); exact BK119.out), (by (with_reducible repeat (first | refine blk_drewN ?_ _ | refine blk_drew ?_ | refine blk_alloc ?_ _)); exact BK124.out), (by (with_reducible repeat (first | refine blk_drewN ?_ _ | refine blk_drew ?_ | refine blk_alloc ?_ _)); exact BK125.out), GW124.out, GE124.out, NB112_124.out, NB124_112.out, NB119_124.out, NB124_119.out, NB125_124.out, NB124_125.out, GW125.out, GE125.out, NB112_125.out, NB125_112.out, NB119_125.out, NB125_119.out, (by repeat (first | (with_reducible first | exact HB.out | apply below_alloc | apply pw_below_drewN | apply below_drew1 | refine below_set ?_ GE112.out | refine below_set ?_ GE119.out | refine below_set ?_ GE125.out | refine below_set ?_ GE124.out) | exact HB.out))⟩)
     rintro ⟨gb124, gb125⟩ w81 ⟨hS_, h0_, h1_, h2_, h3_, h4_, h5_, h6_, h7_, h8_, h9_, h10_, h11_, h12_, h13_, h14_, h15_, h16_, h17_, h18_, h19_, h20_, h21_, h22_⟩
     have n0_ : Aside0 (Kd.R (Kd.int .i64) 3 w81 w.heap.size (fun k_ => some k_ ≠ (.slice (some ad122) t108.length co23 : Value).ownBlock ∧ some k_ ≠ (.slice (some ad123) t115.length co28 : Value).ownBlock) (.slice A122_4 ((rd_T34 t108 x10_2).f4).length c122_4) ((rd_T34 t108 x10_2).f4)) := ⟨h0_⟩
     have n1_ : Aside0 (Kd.R (Kd.int .i64) 3 w81 w.heap.size (fun k_ => some k_ ≠ (.slice (some ad122) t108.length co23 : Value).ownBlock ∧ some k_ ≠ (.slice (some ad123) t115.length co28 : Value).ownBlock) (.slice A123_4 ((rd_T34 t115 x10_2).f4).length c123_4) ((rd_T34 t115 x10_2).f4)) := ⟨h1_⟩
     have n2_ : Aside0 (Kd.S k34 34 w81 w.heap.size (fun k_ => some k_ ≠ (.slice (some ad123) t115.length co28 : Value).ownBlock ∧ k_ ≠ gb124 ∧ k_ ≠ gb125) (.slice (some ad122) t108.length co23) t108) := ⟨h2_⟩
     have n3_ : Aside0 (Kd.S k34 34 w81 w.heap.size (fun k_ => some k_ ≠ (.slice (some ad122) t108.length co23 : Value).ownBlock ∧ k_ ≠ gb124 ∧ k_ ≠ gb125) (.slice (some ad123) t115.length co28) t115) := ⟨h3_⟩
     have n4_ : Aside0 (w81.heap[gb112]? = some (.cells #[.int .i64 t106, .int .i64 t107, .slice (some ad122) t108.length co23] 28 (0, 0))) := ⟨h4_⟩
     have n5_ : Aside0 (w81.heap[gb119]? = some (.cells #[.int .i64 t113, .int .i64 t114, .slice (some ad123) t115.length co28] 28 (0, 0))) := ⟨h5_⟩
     have n6_ : Aside0 (w81.heap[gb124]? = some (.cells #[.int .i64 0, .int .i64 0, .int .i64 0, .int .i64 0, .slice none 0 0] 34 (0, 0))) := ⟨h6_⟩
     have n7_ : Aside0 (w81.heap[gb125]? = some (.cells #[.int .i64 0, .int .i64 0, .int .i64 0, .int .i64 0, .slice none 0 0] 34 (0, 0))) := ⟨h7_⟩
     have n8_ : Aside0 (w.heap.size ≤ gb124) := ⟨h8_⟩
     have n9_ : Aside0 (w.heap.size ≤ gb124) := ⟨h9_⟩
     have n10_ : Aside0 (gb112 ≠ gb124) := ⟨h10_⟩
     have n11_ : Aside0 (gb124 ≠ gb112) := ⟨h11_⟩
     have n12_ : Aside0 (gb119 ≠ gb124) := ⟨h12_⟩
     have n13_ : Aside0 (gb124 ≠ gb119) := ⟨h13_⟩
     have n14_ : Aside0 (gb125 ≠ gb124) := ⟨h14_⟩
     have n15_ : Aside0 (gb124 ≠ gb125) := ⟨h15_⟩
     have n16_ : Aside0 (w.heap.size ≤ gb125) := ⟨h16_⟩
     have n17_ : Aside0 (w.heap.size ≤ gb125) := ⟨h17_⟩
     have n18_ : Aside0 (gb112 ≠ gb125) := ⟨h18_⟩
     have n19_ : Aside0 (gb125 ≠ gb112) := ⟨h19_⟩
     have n20_ : Aside0 (gb119 ≠ gb125) := ⟨h20_⟩
     have n21_ : Aside0 (gb125 ≠ gb119) := ⟨h21_⟩
     have n22_ : Aside0 (Below w.heap.size w w81) := ⟨h22_⟩
     clear HO_113002
     clear HO_120002
     clear BK112
     clear BK119
     clear HB
     clear h0_ h1_ h2_ h3_ h4_ h5_ h6_ h7_ h8_ h9_ h10_ h11_ h12_ h13_ h14_ h15_ h16_ h17_ h18_ h19_ h20_ h21_ h22_
     have HL122_4 := n0_
     have HL123_4 := n1_
     have HO_113002 := n2_
     have HO_120002 := n3_
     have BK112 := n4_
     have BK119 := n5_
     have BK124 := n6_
     have BK125 := n7_
     have GW124 := n8_
     have GE124 := n9_
     have NB112_124 := n10_
     have NB124_112 := n11_
     have NB119_124 := n12_
     have NB124_119 := n13_
     have NB125_124 := n14_
     have NB124_125 := n15_
     have GW125 := n16_
     have GE125 := n17_
     have NB112_125 := n18_
     have NB125_112 := n19_
     have NB119_125 := n20_
     have NB125_119 := n21_
     have HB := n22_
     clear n0_ n1_ n2_ n3_ n4_ n5_ n6_ n7_ n8_ n9_ n10_ n11_ n12_ n13_ n14_ n15_ n16_ n17_ n18_ n19_ n20_ n21_ n22_
     have hHeld : w81.cell? ⟨gb112, 0, none⟩ = some (.int .i64 t106) ∧ w81.cell? ⟨gb112, 1, none⟩ = some (.int .i64 t107) ∧ w81.cell? ⟨gb112, 2, none⟩ = some (.slice (some ad122) t108.length co23) ∧ w81.cell? ⟨gb119, 0, none⟩ = some (.int .i64 t113) ∧ w81.cell? ⟨gb119, 1, none⟩ = some (.int .i64 t114) ∧ w81.cell? ⟨gb119, 2, none⟩ = some (.slice (some ad123) t115.length co28) ∧ w81.cell? (ad122.add ((x10_2).toNat * 5)) = some (.int .i64 ((rd_T34 t108 x10_2).f0)) ∧ w81.cell? ⟨(ad122.add ((x10_2).toNat * 5)).block, (ad122.add ((x10_2).toNat * 5)).off + 1, none⟩ = some (.int .i64 ((rd_T34 t108 x10_2).f1)) ∧ w81.cell? ⟨(ad122.add ((x10_2).toNat * 5)).block, (ad122.add ((x10_2).toNat * 5)).off + 2, none⟩ = some (.int .i64 ((rd_T34 t108 x10_2).f2)) ∧ w81.cell? ⟨(ad122.add ((x10_2).toNat * 5)).block, (ad122.add ((x10_2).toNat * 5)).off + 3, none⟩ = some (.int .i64 ((rd_T34 t108 x10_2).f3)) ∧ w81.cell? ⟨(ad122.add ((x10_2).toNat * 5)).block, (ad122.add ((x10_2).toNat * 5)).off + 4, none⟩ = some (.slice A122_4 ((rd_T34 t108 x10_2).f4).length c122_4) ∧ w81.cell? (ad123.add ((x10_2).toNat * 5)) = some (.int .i64 ((rd_T34 t115 x10_2).f0)) ∧ w81.cell? ⟨(ad123.add ((x10_2).toNat * 5)).block, (ad123.add ((x10_2).toNat * 5)).off + 1, none⟩ = some (.int .i64 ((rd_T34 t115 x10_2).f1)) ∧ w81.cell? ⟨(ad123.add ((x10_2).toNat * 5)).block, (ad123.add ((x10_2).toNat * 5)).off + 2, none⟩ = some (.int .i64 ((rd_T34 t115 x10_2).f2)) ∧ w81.cell? ⟨(ad123.add ((x10_2).toNat * 5)).block, (ad123.add ((x10_2).toNat * 5)).off + 3, none⟩ = some (.int .i64 ((rd_T34 t115 x10_2).f3)) ∧ w81.cell? ⟨(ad123.add ((x10_2).toNat * 5)).block, (ad123.add ((x10_2).toNat * 5)).off + 4, none⟩ = some (.slice A123_4 ((rd_T34 t115 x10_2).f4).length c123_4) := hS_
     refine norm_ (a' := ?_) ?_ ?_
     rotate_left
     ·simp only [putAll, Act.put, z1_, z2_, z3_]
      rfl
     refine one_ (i := 12) (N := none) #[true, true, true, true, true, true, true, true, true, true, true, true, true, false] rfl rfl (one_of HT_.out (by kernel_rfl)) (by decide) (fun K hK => ?_)
     have hs82 : w81.cell? ⟨gb124, 0, none⟩ = some (.int .i64 0) := (blk_cell BK124.out 0).trans rfl
     have hfs82 := blk_frozen BK124.out 0
     have hns82_0 := NB112_124.out
     have hns82_1 := NB119_124.out
     have hns82_3 := NB125_124.out
     have hms82_0 := NB124_112.out
     have hms82_1 := NB124_119.out
     have hms82_3 := NB124_125.out
     have hs83 : w81.cell? ⟨gb124, 1, none⟩ = some (.int .i64 0) := (blk_cell BK124.out 1).trans rfl
     have hfs83 := blk_frozen BK124.out 1
     have hns83_0 := NB112_124.out
     have hns83_1 := NB119_124.out
     have hns83_3 := NB125_124.out
     have hms83_0 := NB124_112.out
     have hms83_1 := NB124_119.out
     have hms83_3 := NB124_125.out
     have hs84 : w81.cell? ⟨gb124, 2, none⟩ = some (.int .i64 0) := (blk_cell BK124.out 2).trans rfl
     have hfs84 := blk_frozen BK124.out 2
     have hns84_0 := NB112_124.out
     have hns84_1 := NB119_124.out
     have hns84_3 := NB125_124.out
     have hms84_0 := NB124_112.out
     have hms84_1 := NB124_119.out
     have hms84_3 := NB124_125.out
     have hs85 : w81.cell? ⟨gb124, 3, none⟩ = some (.int .i64 0) := (blk_cell BK124.out 3).trans rfl
     have hfs85 := blk_frozen BK124.out 3
     have hns85_0 := NB112_124.out
     have hns85_1 := NB119_124.out
     have hns85_3 := NB125_124.out
     have hms85_0 := NB124_112.out
     have hms85_1 := NB124_119.out
     have hms85_3 := NB124_125.out
     have hs86 : w81.cell? ⟨gb124, 4, none⟩ = some (.slice none 0 0) := (blk_cell BK124.out 4).trans rfl
     have hfs86 := blk_frozen BK124.out 4
     have hns86_0 := NB112_124.out
     have hns86_1 := NB119_124.out
     have hns86_3 := NB125_124.out
     have hms86_0 := NB124_112.out
     have hms86_1 := NB124_119.out
     have hms86_3 := NB124_125.out
     refine skip_ (w1 := ?_) (by rfl) rfl ?_ ?_
     rotate_left
     ·go_simp
      rfl
     refine hK.out _ _ ⟨((cell_far (p := ⟨gb124, _, none⟩) NB112_124.out _).trans (((cell_far (p := ⟨gb124, _, none⟩) NB112_124.out _).trans (((cell_far (p := ⟨gb124, _, none⟩) NB112_124.out _).trans (((cell_far (p := ⟨gb124, _, none⟩) NB112_124.out _).trans (((cell_far (p := ⟨gb124, _, none⟩) NB112_124.out _).trans (hHeld.1)))))))))), ((cell_far (p := ⟨gb124, _, none⟩) NB112_124.out _).trans (((cell_far (p := ⟨gb124, _, none⟩) NB112_124.out _).trans (((cell_far (p := ⟨gb124, _, none⟩) NB112_124.out _).trans (((cell_far (p := ⟨gb124, _, none⟩) NB112_124.out _).trans (((cell_far (p := ⟨gb124, _, none⟩) NB112_124.out _).trans (hHeld.2.1)))))))))), ((cell_far (p := ⟨gb124, _, none⟩) NB112_124.out _).trans (((cell_far (p := ⟨gb124, _, none⟩) NB112_124.out _).trans (((cell_far (p := ⟨gb124, _, none⟩) NB112_124.out _).trans (((cell_far (p := ⟨gb124, _, none⟩) NB112_124.out _).trans (((cell_far (p := ⟨gb124, _, none⟩) NB112_124.out _).trans (hHeld.2.2.1)))))))))), ((cell_far (p := ⟨gb124, _, none⟩) NB119_124.out _).trans (((cell_far (p := ⟨gb124, _, none⟩) NB119_124.out _).trans (((cell_far (p := ⟨gb124, _, none⟩) NB119_124.out _).trans (((cell_far (p := ⟨gb124, _, none⟩) NB119_124.out _).trans (((cell_far (p := ⟨gb124, _, none⟩) NB119_124.out _).trans (hHeld.2.2.2.1)))))))))), ((cell_far (p := ⟨gb124, _, none⟩) NB119_124.out _).trans (((cell_far (p := ⟨gb124, _, none⟩) NB119_124.out _).trans (((cell_far (p := ⟨gb124, _, none⟩) NB119_124.out _).trans (((cell_far (p := ⟨gb124, _, none⟩) NB119_124.out _).trans (((cell_far (p := ⟨gb124, _, none⟩) NB119_124.out _).trans (hHeld.2.2.2.2.1)))))))))), ((cell_far (p := ⟨gb124, _, none⟩) NB119_124.out _).trans (((cell_far (p := ⟨gb124, _, none⟩) NB119_124.out _).trans (((cell_far (p := ⟨gb124, _, none⟩) NB119_124.out _).trans (((cell_far (p := ⟨gb124, _, none⟩) NB119_124.out _).trans (((cell_far (p := ⟨gb124, _, none⟩) NB119_124.out _).trans (hHeld.2.2.2.2.2.1)))))))))), ((cell_far (p := ⟨gb124, _, none⟩) (by first | exact Kd.own_blk (Kd.S_away HO_113002.out (fun _ hk => hk.2.1)) | (rw [add_block]; exact Kd.own_blk (Kd.S_away HO_113002.out (fun _ hk => hk.2.1))) | (show (Addr.add _ _).block ≠ _; rw [add_block]; exact Kd.own_blk (Kd.S_away HO_113002.out (fun _ hk => hk.2.1))) | (dsimp only; exact Kd.own_blk (Kd.S_away HO_113002.out (fun _ hk => hk.2.1)))) _).trans (((cell_far (p := ⟨gb124, _, none⟩) (by first | exact Kd.own_blk (Kd.S_away HO_113002.out (fun _ hk => hk.2.1)) | (rw [add_block]; exact Kd.own_blk (Kd.S_away HO_113002.out (fun _ hk => hk.2.1))) | (show (Addr.add _ _).block ≠ _; rw [add_block]; exact Kd.own_blk (Kd.S_away HO_113002.out (fun _ hk => hk.2.1))) | (dsimp only; exact Kd.own_blk (Kd.S_away HO_113002.out (fun _ hk => hk.2.1)))) _).trans (((cell_far (p := ⟨gb124, _, none⟩) (by first | exact Kd.own_blk (Kd.S_away HO_113002.out (fun _ hk => hk.2.1)) | (rw [add_block]; exact Kd.own_blk (Kd.S_away HO_113002.out (fun _ hk => hk.2.1))) | (show (Addr.add _ _).block ≠ _; rw [add_block]; exact Kd.own_blk (Kd.S_away HO_113002.out (fun _ hk => hk.2.1))) | (dsimp only; exact Kd.own_blk (Kd.S_away HO_113002.out (fun _ hk => hk.2.1)))) _).trans (((cell_far (p := ⟨gb124, _, none⟩) (by first | exact Kd.own_blk (Kd.S_away HO_113002.out (fun _ hk => hk.2.1)) | (rw [add_block]; exact Kd.own_blk (Kd.S_away HO_113002.out (fun _ hk => hk.2.1))) | (show (Addr.add _ _).block ≠ _; rw [add_block]; exact Kd.own_blk (Kd.S_away HO_113002.out (fun _ hk => hk.2.1))) | (dsimp only; exact Kd.own_blk (Kd.S_away HO_113002.out (fun _ hk => hk.2.1)))) _).trans (((cell_far (p := ⟨gb124, _, none⟩) (by first | exact Kd.own_blk (Kd.S_away HO_113002.out (fun _ hk => hk.2.1)) | (rw [add_block]; exact Kd.own_blk (Kd.S_away HO_113002.out (fun _ hk => hk.2.1))) | (show (Addr.add _ _).block ≠ _; rw [add_block]; exact Kd.own_blk (Kd.S_away HO_113002.out (fun _ hk => hk.2.1))) | (dsimp only; exact Kd.own_blk (Kd.S_away HO_113002.out (fun _ hk => hk.2.1)))) _).trans (hHeld.2.2.2.2.2.2.1)))))))))), ((cell_far (p := ⟨gb124, _, none⟩) (by first | exact Kd.own_blk (Kd.S_away HO_113002.out (fun _ hk => hk.2.1)) | (rw [add_block]; exact Kd.own_blk (Kd.S_away HO_113002.out (fun _ hk => hk.2.1))) | (show (Addr.add _ _).block ≠ _; rw [add_block]; exact Kd.own_blk (Kd.S_away HO_113002.out (fun _ hk => hk.2.1))) | (dsimp only; exact Kd.own_blk (Kd.S_away HO_113002.out (fun _ hk => hk.2.1)))) _).trans (((cell_far (p := ⟨gb124, _, none⟩) (by first | exact Kd.own_blk (Kd.S_away HO_113002.out (fun _ hk => hk.2.1)) | (rw [add_block]; exact Kd.own_blk (Kd.S_away HO_113002.out (fun _ hk => hk.2.1))) | (show (Addr.add _ _).block ≠ _; rw [add_block]; exact Kd.own_blk (Kd.S_away HO_113002.out (fun _ hk => hk.2.1))) | (dsimp only; exact Kd.own_blk (Kd.S_away HO_113002.out (fun _ hk => hk.2.1)))) _).trans (((cell_far (p := ⟨gb124, _, none⟩) (by first | exact Kd.own_blk (Kd.S_away HO_113002.out (fun _ hk => hk.2.1)) | (rw [add_block]; exact Kd.own_blk (Kd.S_away HO_113002.out (fun _ hk => hk.2.1))) | (show (Addr.add _ _).block ≠ _; rw [add_block]; exact Kd.own_blk (Kd.S_away HO_113002.out (fun _ hk => hk.2.1))) | (dsimp only; exact Kd.own_blk (Kd.S_away HO_113002.out (fun _ hk => hk.2.1)))) _).trans (((cell_far (p := ⟨gb124, _, none⟩) (by first | exact Kd.own_blk (Kd.S_away HO_113002.out (fun _ hk => hk.2.1)) | (rw [add_block]; exact Kd.own_blk (Kd.S_away HO_113002.out (fun _ hk => hk.2.1))) | (show (Addr.add _ _).block ≠ _; rw [add_block]; exact Kd.own_blk (Kd.S_away HO_113002.out (fun _ hk => hk.2.1))) | (dsimp only; exact Kd.own_blk (Kd.S_away HO_113002.out (fun _ hk => hk.2.1)))) _).trans (((cell_far (p := ⟨gb124, _, none⟩) (by first | exact Kd.own_blk (Kd.S_away HO_113002.out (fun _ hk => hk.2.1)) | (rw [add_block]; exact Kd.own_blk (Kd.S_away HO_113002.out (fun _ hk => hk.2.1))) | (show (Addr.add _ _).block ≠ _; rw [add_block]; exact Kd.own_blk (Kd.S_away HO_113002.out (fun _ hk => hk.2.1))) | (dsimp only; exact Kd.own_blk (Kd.S_away HO_113002.out (fun _ hk => hk.2.1)))) _).trans (hHeld.2.2.2.2.2.2.2.1)))))))))), ((cell_far (p := ⟨gb124, _, none⟩) (by first | exact Kd.own_blk (Kd.S_away HO_113002.out (fun _ hk => hk.2.1)) | (rw [add_block]; exact Kd.own_blk (Kd.S_away HO_113002.out (fun _ hk => hk.2.1))) | (show (Addr.add _ _).block ≠ _; rw [add_block]; exact Kd.own_blk (Kd.S_away HO_113002.out (fun _ hk => hk.2.1))) | (dsimp only; exact Kd.own_blk (Kd.S_away HO_113002.out (fun _ hk => hk.2.1)))) _).trans (((cell_far (p := ⟨gb124, _, none⟩) (by first | exact Kd.own_blk (Kd.S_away HO_113002.out (fun _ hk => hk.2.1)) | (rw [add_block]; exact Kd.own_blk (Kd.S_away HO_113002.out (fun _ hk => hk.2.1))) | (show (Addr.add _ _).block ≠ _; rw [add_block]; exact Kd.own_blk (Kd.S_away HO_113002.out (fun _ hk => hk.2.1))) | (dsimp only; exact Kd.own_blk (Kd.S_away HO_113002.out (fun _ hk => hk.2.1)))) _).trans (((cell_far (p := ⟨gb124, _, none⟩) (by first | exact Kd.own_blk (Kd.S_away HO_113002.out (fun _ hk => hk.2.1)) | (rw [add_block]; exact Kd.own_blk (Kd.S_away HO_113002.out (fun _ hk => hk.2.1))) | (show (Addr.add _ _).block ≠ _; rw [add_block]; exact Kd.own_blk (Kd.S_away HO_113002.out (fun _ hk => hk.2.1))) | (dsimp only; exact Kd.own_blk (Kd.S_away HO_113002.out (fun _ hk => hk.2.1)))) _).trans (((cell_far (p := ⟨gb124, _, none⟩) (by first | exact Kd.own_blk (Kd.S_away HO_113002.out (fun _ hk => hk.2.1)) | (rw [add_block]; exact Kd.own_blk (Kd.S_away HO_113002.out (fun _ hk => hk.2.1))) | (show (Addr.add _ _).block ≠ _; rw [add_block]; exact Kd.own_blk (Kd.S_away HO_113002.out (fun _ hk => hk.2.1))) | (dsimp only; exact Kd.own_blk (Kd.S_away HO_113002.out (fun _ hk => hk.2.1)))) _).trans (((cell_far (p := ⟨gb124, _, none⟩) (by first | exact Kd.own_blk (Kd.S_away HO_113002.out (fun _ hk => hk.2.1)) | (rw [add_block]; exact Kd.own_blk (Kd.S_away HO_113002.out (fun _ hk => hk.2.1))) | (show (Addr.add _ _).block ≠ _; rw [add_block]; exact Kd.own_blk (Kd.S_away HO_113002.out (fun _ hk => hk.2.1))) | (dsimp only; exact Kd.own_blk (Kd.S_away HO_113002.out (fun _ hk => hk.2.1)))) _).trans (hHeld.2.2.2.2.2.2.2.2.1)))))))))), ((cell_far (p := ⟨gb124, _, none⟩) (by first | exact Kd.own_blk (Kd.S_away HO_113002.out (fun _ hk => hk.2.1)) | (rw [add_block]; exact Kd.own_blk (Kd.S_away HO_113002.out (fun _ hk => hk.2.1))) | (show (Addr.add _ _).block ≠ _; rw [add_block]; exact Kd.own_blk (Kd.S_away HO_113002.out (fun _ hk => hk.2.1))) | (dsimp only; exact Kd.own_blk (Kd.S_away HO_113002.out (fun _ hk => hk.2.1)))) _).trans (((cell_far (p := ⟨gb124, _, none⟩) (by first | exact Kd.own_blk (Kd.S_away HO_113002.out (fun _ hk => hk.2.1)) | (rw [add_block]; exact Kd.own_blk (Kd.S_away HO_113002.out (fun _ hk => hk.2.1))) | (show (Addr.add _ _).block ≠ _; rw [add_block]; exact Kd.own_blk (Kd.S_away HO_113002.out (fun _ hk => hk.2.1))) | (dsimp only; exact Kd.own_blk (Kd.S_away HO_113002.out (fun _ hk => hk.2.1)))) _).trans (((cell_far (p := ⟨gb124, _, none⟩) (by first | exact Kd.own_blk (Kd.S_away HO_113002.out (fun _ hk => hk.2.1)) | (rw [add_block]; exact Kd.own_blk (Kd.S_away HO_113002.out (fun _ hk => hk.2.1))) | (show (Addr.add _ _).block ≠ _; rw [add_block]; exact Kd.own_blk (Kd.S_away HO_113002.out (fun _ hk => hk.2.1))) | (dsimp only; exact Kd.own_blk (Kd.S_away HO_113002.out (fun _ hk => hk.2.1)))) _).trans (((cell_far (p := ⟨gb124, _, none⟩) (by first | exact Kd.own_blk (Kd.S_away HO_113002.out (fun _ hk => hk.2.1)) | (rw [add_block]; exact Kd.own_blk (Kd.S_away HO_113002.out (fun _ hk => hk.2.1))) | (show (Addr.add _ _).block ≠ _; rw [add_block]; exact Kd.own_blk (Kd.S_away HO_113002.out (fun _ hk => hk.2.1))) | (dsimp only; exact Kd.own_blk (Kd.S_away HO_113002.out (fun _ hk => hk.2.1)))) _).trans (((cell_far (p := ⟨gb124, _, none⟩) (by first | exact Kd.own_blk (Kd.S_away HO_113002.out (fun _ hk => hk.2.1)) | (rw [add_block]; exact Kd.own_blk (Kd.S_away HO_113002.out (fun _ hk => hk.2.1))) | (show (Addr.add _ _).block ≠ _; rw [add_block]; exact Kd.own_blk (Kd.S_away HO_113002.out (fun _ hk => hk.2.1))) | (dsimp only; exact Kd.own_blk (Kd.S_away HO_113002.out (fun _ hk => hk.2.1)))) _).trans (hHeld.2.2.2.2.2.2.2.2.2.1)))))))))), ((cell_far (p := ⟨gb124, _, none⟩) (by first | exact Kd.own_blk (Kd.S_away HO_113002.out (fun _ hk => hk.2.1)) | (rw [add_block]; exact Kd.own_blk (Kd.S_away HO_113002.out (fun _ hk => hk.2.1))) | (show (Addr.add _ _).block ≠ _; rw [add_block]; exact Kd.own_blk (Kd.S_away HO_113002.out (fun _ hk => hk.2.1))) | (dsimp only; exact Kd.own_blk (Kd.S_away HO_113002.out (fun _ hk => hk.2.1)))) _).trans (((cell_far (p := ⟨gb124, _, none⟩) (by first | exact Kd.own_blk (Kd.S_away HO_113002.out (fun _ hk => hk.2.1)) | (rw [add_block]; exact Kd.own_blk (Kd.S_away HO_113002.out (fun _ hk => hk.2.1))) | (show (Addr.add _ _).block ≠ _; rw [add_block]; exact Kd.own_blk (Kd.S_away HO_113002.out (fun _ hk => hk.2.1))) | (dsimp only; exact Kd.own_blk (Kd.S_away HO_113002.out (fun _ hk => hk.2.1)))) _).trans (((cell_far (p := ⟨gb124, _, none⟩) (by first | exact Kd.own_blk (Kd.S_away HO_113002.out (fun _ hk => hk.2.1)) | (rw [add_block]; exact Kd.own_blk (Kd.S_away HO_113002.out (fun _ hk => hk.2.1))) | (show (Addr.add _ _).block ≠ _; rw [add_block]; exact Kd.own_blk (Kd.S_away HO_113002.out (fun _ hk => hk.2.1))) | (dsimp only; exact Kd.own_blk (Kd.S_away HO_113002.out (fun _ hk => hk.2.1)))) _).trans (((cell_far (p := ⟨gb124, _, none⟩) (by first | exact Kd.own_blk (Kd.S_away HO_113002.out (fun _ hk => hk.2.1)) | (rw [add_block]; exact Kd.own_blk (Kd.S_away HO_113002.out (fun _ hk => hk.2.1))) | (show (Addr.add _ _).block ≠ _; rw [add_block]; exact Kd.own_blk (Kd.S_away HO_113002.out (fun _ hk => hk.2.1))) | (dsimp only; exact Kd.own_blk (Kd.S_away HO_113002.out (fun _ hk => hk.2.1)))) _).trans (((cell_far (p := ⟨gb124, _, none⟩) (by first | exact Kd.own_blk (Kd.S_away HO_113002.out (fun _ hk => hk.2.1)) | (rw [add_block]; exact Kd.own_blk (Kd.S_away HO_113002.out (fun _ hk => hk.2.1))) | (show (Addr.add _ _).block ≠ _; rw [add_block]; exact Kd.own_blk (Kd.S_away HO_113002.out (fun _ hk => hk.2.1))) | (dsimp only; exact Kd.own_blk (Kd.S_away HO_113002.out (fun _ hk => hk.2.1)))) _).trans (hHeld.2.2.2.2.2.2.2.2.2.2.1)))))))))), ((cell_far (p := ⟨gb124, _, none⟩) (by first | exact Kd.own_blk (Kd.S_away HO_120002.out (fun _ hk => hk.2.1)) | (rw [add_block]; exact Kd.own_blk (Kd.S_away HO_120002.out (fun _ hk => hk.2.1))) | (show (Addr.add _ _).block ≠ _; rw [add_block]; exact Kd.own_blk (Kd.S_away HO_120002.out (fun _ hk => hk.2.1))) | (dsimp only; exact Kd.own_blk (Kd.S_away HO_120002.out (fun _ hk => hk.2.1)))) _).trans (((cell_far (p := ⟨gb124, _, none⟩) (by first | exact Kd.own_blk (Kd.S_away HO_120002.out (fun _ hk => hk.2.1)) | (rw [add_block]; exact Kd.own_blk (Kd.S_away HO_120002.out (fun _ hk => hk.2.1))) | (show (Addr.add _ _).block ≠ _; rw [add_block]; exact Kd.own_blk (Kd.S_away HO_120002.out (fun _ hk => hk.2.1))) | (dsimp only; exact Kd.own_blk (Kd.S_away HO_120002.out (fun _ hk => hk.2.1)))) _).trans (((cell_far (p := ⟨gb124, _, none⟩) (by first | exact Kd.own_blk (Kd.S_away HO_120002.out (fun _ hk => hk.2.1)) | (rw [add_block]; exact Kd.own_blk (Kd.S_away HO_120002.out (fun _ hk => hk.2.1))) | (show (Addr.add _ _).block ≠ _; rw [add_block]; exact Kd.own_blk (Kd.S_away HO_120002.out (fun _ hk => hk.2.1))) | (dsimp only; exact Kd.own_blk (Kd.S_away HO_120002.out (fun _ hk => hk.2.1)))) _).trans (((cell_far (p := ⟨gb124, _, none⟩) (by first | exact Kd.own_blk (Kd.S_away HO_120002.out (fun _ hk => hk.2.1)) | (rw [add_block]; exact Kd.own_blk (Kd.S_away HO_120002.out (fun _ hk => hk.2.1))) | (show (Addr.add _ _).block ≠ _; rw [add_block]; exact Kd.own_blk (Kd.S_away HO_120002.out (fun _ hk => hk.2.1))) | (dsimp only; exact Kd.own_blk (Kd.S_away HO_120002.out (fun _ hk => hk.2.1)))) _).trans (((cell_far (p := ⟨gb124, _, none⟩) (by first | exact Kd.own_blk (Kd.S_away HO_120002.out (fun _ hk => hk.2.1)) | (rw [add_block]; exact Kd.own_blk (Kd.S_away HO_120002.out (fun _ hk => hk.2.1))) | (show (Addr.add _ _).block ≠ _; rw [add_block]; exact Kd.own_blk (Kd.S_away HO_120002.out (fun _ hk => hk.2.1))) | (dsimp only; exact Kd.own_blk (Kd.S_away HO_120002.out (fun _ hk => hk.2.1)))) _).trans (hHeld.2.2.2.2.2.2.2.2.2.2.2.1)))))))))), ((cell_far (p := ⟨gb124, _, none⟩) (by first | exact Kd.own_blk (Kd.S_away HO_120002.out (fun _ hk => hk.2.1)) | (rw [add_block]; exact Kd.own_blk (Kd.S_away HO_120002.out (fun _ hk => hk.2.1))) | (show (Addr.add _ _).block ≠ _; rw [add_block]; exact Kd.own_blk (Kd.S_away HO_120002.out (fun _ hk => hk.2.1))) | (dsimp only; exact Kd.own_blk (Kd.S_away HO_120002.out (fun _ hk => hk.2.1)))) _).trans (((cell_far (p := ⟨gb124, _, none⟩) (by first | exact Kd.own_blk (Kd.S_away HO_120002.out (fun _ hk => hk.2.1)) | (rw [add_block]; exact Kd.own_blk (Kd.S_away HO_120002.out (fun _ hk => hk.2.1))) | (show (Addr.add _ _).block ≠ _; rw [add_block]; exact Kd.own_blk (Kd.S_away HO_120002.out (fun _ hk => hk.2.1))) | (dsimp only; exact Kd.own_blk (Kd.S_away HO_120002.out (fun _ hk => hk.2.1)))) _).trans (((cell_far (p := ⟨gb124, _, none⟩) (by first | exact Kd.own_blk (Kd.S_away HO_120002.out (fun _ hk => hk.2.1)) | (rw [add_block]; exact Kd.own_blk (Kd.S_away HO_120002.out (fun _ hk => hk.2.1))) | (show (Addr.add _ _).block ≠ _; rw [add_block]; exact Kd.own_blk (Kd.S_away HO_120002.out (fun _ hk => hk.2.1))) | (dsimp only; exact Kd.own_blk (Kd.S_away HO_120002.out (fun _ hk => hk.2.1)))) _).trans (((cell_far (p := ⟨gb124, _, none⟩) (by first | exact Kd.own_blk (Kd.S_away HO_120002.out (fun _ hk => hk.2.1)) | (rw [add_block]; exact Kd.own_blk (Kd.S_away HO_120002.out (fun _ hk => hk.2.1))) | (show (Addr.add _ _).block ≠ _; rw [add_block]; exact Kd.own_blk (Kd.S_away HO_120002.out (fun _ hk => hk.2.1))) | (dsimp only; exact Kd.own_blk (Kd.S_away HO_120002.out (fun _ hk => hk.2.1)))) _).trans (((cell_far (p := ⟨gb124, _, none⟩) (by first | exact Kd.own_blk (Kd.S_away HO_120002.out (fun _ hk => hk.2.1)) | (rw [add_block]; exact Kd.own_blk (Kd.S_away HO_120002.out (fun _ hk => hk.2.1))) | (show (Addr.add _ _).block ≠ _; rw [add_block]; exact Kd.own_blk (Kd.S_away HO_120002.out (fun _ hk => hk.2.1))) | (dsimp only; exact Kd.own_blk (Kd.S_away HO_120002.out (fun _ hk => hk.2.1)))) _).trans (hHeld.2.2.2.2.2.2.2.2.2.2.2.2.1)))))))))), ((cell_far (p := ⟨gb124, _, none⟩) (by first | exact Kd.own_blk (Kd.S_away HO_120002.out (fun _ hk => hk.2.1)) | (rw [add_block]; exact Kd.own_blk (Kd.S_away HO_120002.out (fun _ hk => hk.2.1))) | (show (Addr.add _ _).block ≠ _; rw [add_block]; exact Kd.own_blk (Kd.S_away HO_120002.out (fun _ hk => hk.2.1))) | (dsimp only; exact Kd.own_blk (Kd.S_away HO_120002.out (fun _ hk => hk.2.1)))) _).trans (((cell_far (p := ⟨gb124, _, none⟩) (by first | exact Kd.own_blk (Kd.S_away HO_120002.out (fun _ hk => hk.2.1)) | (rw [add_block]; exact Kd.own_blk (Kd.S_away HO_120002.out (fun _ hk => hk.2.1))) | (show (Addr.add _ _).block ≠ _; rw [add_block]; exact Kd.own_blk (Kd.S_away HO_120002.out (fun _ hk => hk.2.1))) | (dsimp only; exact Kd.own_blk (Kd.S_away HO_120002.out (fun _ hk => hk.2.1)))) _).trans (((cell_far (p := ⟨gb124, _, none⟩) (by first | exact Kd.own_blk (Kd.S_away HO_120002.out (fun _ hk => hk.2.1)) | (rw [add_block]; exact Kd.own_blk (Kd.S_away HO_120002.out (fun _ hk => hk.2.1))) | (show (Addr.add _ _).block ≠ _; rw [add_block]; exact Kd.own_blk (Kd.S_away HO_120002.out (fun _ hk => hk.2.1))) | (dsimp only; exact Kd.own_blk (Kd.S_away HO_120002.out (fun _ hk => hk.2.1)))) _).trans (((cell_far (p := ⟨gb124, _, none⟩) (by first | exact Kd.own_blk (Kd.S_away HO_120002.out (fun _ hk => hk.2.1)) | (rw [add_block]; exact Kd.own_blk (Kd.S_away HO_120002.out (fun _ hk => hk.2.1))) | (show (Addr.add _ _).block ≠ _; rw [add_block]; exact Kd.own_blk (Kd.S_away HO_120002.out (fun _ hk => hk.2.1))) | (dsimp only; exact Kd.own_blk (Kd.S_away HO_120002.out (fun _ hk => hk.2.1)))) _).trans (((cell_far (p := ⟨gb124, _, none⟩) (by first | exact Kd.own_blk (Kd.S_away HO_120002.out (fun _ hk => hk.2.1)) | (rw [add_block]; exact Kd.own_blk (Kd.S_away HO_120002.out (fun _ hk => hk.2.1))) | (show (Addr.add _ _).block ≠ _; rw [add_block]; exact Kd.own_blk (Kd.S_away HO_120002.out (fun _ hk => hk.2.1))) | (dsimp only; exact Kd.own_blk (Kd.S_away HO_120002.out (fun _ hk => hk.2.1)))) _).trans (hHeld.2.2.2.2.2.2.2.2.2.2.2.2.2.1)))))))))), ((cell_far (p := ⟨gb124, _, none⟩) (by first | exact Kd.own_blk (Kd.S_away HO_120002.out (fun _ hk => hk.2.1)) | (rw [add_block]; exact Kd.own_blk (Kd.S_away HO_120002.out (fun _ hk => hk.2.1))) | (show (Addr.add _ _).block ≠ _; rw [add_block]; exact Kd.own_blk (Kd.S_away HO_120002.out (fun _ hk => hk.2.1))) | (dsimp only; exact Kd.own_blk (Kd.S_away HO_120002.out (fun _ hk => hk.2.1)))) _).trans (((cell_far (p := ⟨gb124, _, none⟩) (by first | exact Kd.own_blk (Kd.S_away HO_120002.out (fun _ hk => hk.2.1)) | (rw [add_block]; exact Kd.own_blk (Kd.S_away HO_120002.out (fun _ hk => hk.2.1))) | (show (Addr.add _ _).block ≠ _; rw [add_block]; exact Kd.own_blk (Kd.S_away HO_120002.out (fun _ hk => hk.2.1))) | (dsimp only; exact Kd.own_blk (Kd.S_away HO_120002.out (fun _ hk => hk.2.1)))) _).trans (((cell_far (p := ⟨gb124, _, none⟩) (by first | exact Kd.own_blk (Kd.S_away HO_120002.out (fun _ hk => hk.2.1)) | (rw [add_block]; exact Kd.own_blk (Kd.S_away HO_120002.out (fun _ hk => hk.2.1))) | (show (Addr.add _ _).block ≠ _; rw [add_block]; exact Kd.own_blk (Kd.S_away HO_120002.out (fun _ hk => hk.2.1))) | (dsimp only; exact Kd.own_blk (Kd.S_away HO_120002.out (fun _ hk => hk.2.1)))) _).trans (((cell_far (p := ⟨gb124, _, none⟩) (by first | exact Kd.own_blk (Kd.S_away HO_120002.out (fun _ hk => hk.2.1)) | (rw [add_block]; exact Kd.own_blk (Kd.S_away HO_120002.out (fun _ hk => hk.2.1))) | (show (Addr.add _ _).block ≠ _; rw [add_block]; exact Kd.own_blk (Kd.S_away HO_120002.out (fun _ hk => hk.2.1))) | (dsimp only; exact Kd.own_blk (Kd.S_away HO_120002.out (fun _ hk => hk.2.1)))) _).trans (((cell_far (p := ⟨gb124, _, none⟩) (by first | exact Kd.own_blk (Kd.S_away HO_120002.out (fun _ hk => hk.2.1)) | (rw [add_block]; exact Kd.own_blk (Kd.S_away HO_120002.out (fun _ hk => hk.2.1))) | (show (Addr.add _ _).block ≠ _; rw [add_block]; exact Kd.own_blk (Kd.S_away HO_120002.out (fun _ hk => hk.2.1))) | (dsimp only; exact Kd.own_blk (Kd.S_away HO_120002.out (fun _ hk => hk.2.1)))) _).trans (hHeld.2.2.2.2.2.2.2.2.2.2.2.2.2.2.1)))))))))), ((cell_far (p := ⟨gb124, _, none⟩) (by first | exact Kd.own_blk (Kd.S_away HO_120002.out (fun _ hk => hk.2.1)) | (rw [add_block]; exact Kd.own_blk (Kd.S_away HO_120002.out (fun _ hk => hk.2.1))) | (show (Addr.add _ _).block ≠ _; rw [add_block]; exact Kd.own_blk (Kd.S_away HO_120002.out (fun _ hk => hk.2.1))) | (dsimp only; exact Kd.own_blk (Kd.S_away HO_120002.out (fun _ hk => hk.2.1)))) _).trans (((cell_far (p := ⟨gb124, _, none⟩) (by first | exact Kd.own_blk (Kd.S_away HO_120002.out (fun _ hk => hk.2.1)) | (rw [add_block]; exact Kd.own_blk (Kd.S_away HO_120002.out (fun _ hk => hk.2.1))) | (show (Addr.add _ _).block ≠ _; rw [add_block]; exact Kd.own_blk (Kd.S_away HO_120002.out (fun _ hk => hk.2.1))) | (dsimp only; exact Kd.own_blk (Kd.S_away HO_120002.out (fun _ hk => hk.2.1)))) _).trans (((cell_far (p := ⟨gb124, _, none⟩) (by first | exact Kd.own_blk (Kd.S_away HO_120002.out (fun _ hk => hk.2.1)) | (rw [add_block]; exact Kd.own_blk (Kd.S_away HO_120002.out (fun _ hk => hk.2.1))) | (show (Addr.add _ _).block ≠ _; rw [add_block]; exact Kd.own_blk (Kd.S_away HO_120002.out (fun _ hk => hk.2.1))) | (dsimp only; exact Kd.own_blk (Kd.S_away HO_120002.out (fun _ hk => hk.2.1)))) _).trans (((cell_far (p := ⟨gb124, _, none⟩) (by first | exact Kd.own_blk (Kd.S_away HO_120002.out (fun _ hk => hk.2.1)) | (rw [add_block]; exact Kd.own_blk (Kd.S_away HO_120002.out (fun _ hk => hk.2.1))) | (show (Addr.add _ _).block ≠ _; rw [add_block]; exact Kd.own_blk (Kd.S_away HO_120002.out (fun _ hk => hk.2.1))) | (dsimp only; exact Kd.own_blk (Kd.S_away HO_120002.out (fun _ hk => hk.2.1)))) _).trans (((cell_far (p := ⟨gb124, _, none⟩) (by first | exact Kd.own_blk (Kd.S_away HO_120002.out (fun _ hk => hk.2.1)) | (rw [add_block]; exact Kd.own_blk (Kd.S_away HO_120002.out (fun _ hk => hk.2.1))) | (show (Addr.add _ _).block ≠ _; rw [add_block]; exact Kd.own_blk (Kd.S_away HO_120002.out (fun _ hk => hk.2.1))) | (dsimp only; exact Kd.own_blk (Kd.S_away HO_120002.out (fun _ hk => hk.2.1)))) _).trans (hHeld.2.2.2.2.2.2.2.2.2.2.2.2.2.2.2))))))))))⟩ (fun hHeld => ?_)
     clear hK K
     refine one_ (i := 13) (N := none) #[true, true, true, true, true, true, true, true, true, true, true, true, true, true] rfl rfl (one_of HT_.out (by kernel_rfl)) (by decide) (fun K hK => ?_)
     have hs87 : w81.cell? ⟨gb125, 0, none⟩ = some (.int .i64 0) := (blk_cell BK125.out 0).trans rfl
     have hfs87 := blk_frozen BK125.out 0
     have hns87_0 := NB112_125.out
     have hns87_1 := NB119_125.out
     have hns87_2 := NB124_125.out
     have hms87_0 := NB125_112.out
     have hms87_1 := NB125_119.out
     have hms87_2 := NB125_124.out
     have hs88 : w81.cell? ⟨gb125, 1, none⟩ = some (.int .i64 0) := (blk_cell BK125.out 1).trans rfl
     have hfs88 := blk_frozen BK125.out 1
     have hns88_0 := NB112_125.out
     have hns88_1 := NB119_125.out
     have hns88_2 := NB124_125.out
     have hms88_0 := NB125_112.out
     have hms88_1 := NB125_119.out
     have hms88_2 := NB125_124.out
     have hs89 : w81.cell? ⟨gb125, 2, none⟩ = some (.int .i64 0) := (blk_cell BK125.out 2).trans rfl
     have hfs89 := blk_frozen BK125.out 2
     have hns89_0 := NB112_125.out
     have hns89_1 := NB119_125.out
     have hns89_2 := NB124_125.out
     have hms89_0 := NB125_112.out
     have hms89_1 := NB125_119.out
     have hms89_2 := NB125_124.out
     have hs90 : w81.cell? ⟨gb125, 3, none⟩ = some (.int .i64 0) := (blk_cell BK125.out 3).trans rfl
     have hfs90 := blk_frozen BK125.out 3
     have hns90_0 := NB112_125.out
     have hns90_1 := NB119_125.out
     have hns90_2 := NB124_125.out
     have hms90_0 := NB125_112.out
     have hms90_1 := NB125_119.out
     have hms90_2 := NB125_124.out
     have hs91 : w81.cell? ⟨gb125, 4, none⟩ = some (.slice none 0 0) := (blk_cell BK125.out 4).trans rfl
     have hfs91 := blk_frozen BK125.out 4
     have hns91_0 := NB112_125.out
     have hns91_1 := NB119_125.out
     have hns91_2 := NB124_125.out
     have hms91_0 := NB125_112.out
     have hms91_1 := NB125_119.out
     have hms91_2 := NB125_124.out
     refine skip_ (w1 := ?_) (by rfl) rfl ?_ ?_
     rotate_left
     ·go_simp
      rfl
     refine hK.out _ _ ⟨((cell_far (p := ⟨gb125, _, none⟩) NB112_125.out _).trans (((cell_far (p := ⟨gb125, _, none⟩) NB112_125.out _).trans (((cell_far (p := ⟨gb125, _, none⟩) NB112_125.out _).trans (((cell_far (p := ⟨gb125, _, none⟩) NB112_125.out _).trans (((cell_far (p := ⟨gb125, _, none⟩) NB112_125.out _).trans (hHeld.1)))))))))), ((cell_far (p := ⟨gb125, _, none⟩) NB112_125.out _).trans (((cell_far (p := ⟨gb125, _, none⟩) NB112_125.out _).trans (((cell_far (p := ⟨gb125, _, none⟩) NB112_125.out _).trans (((cell_far (p := ⟨gb125, _, none⟩) NB112_125.out _).trans (((cell_far (p := ⟨gb125, _, none⟩) NB112_125.out _).trans (hHeld.2.1)))))))))), ((cell_far (p := ⟨gb125, _, none⟩) NB112_125.out _).trans (((cell_far (p := ⟨gb125, _, none⟩) NB112_125.out _).trans (((cell_far (p := ⟨gb125, _, none⟩) NB112_125.out _).trans (((cell_far (p := ⟨gb125, _, none⟩) NB112_125.out _).trans (((cell_far (p := ⟨gb125, _, none⟩) NB112_125.out _).trans (hHeld.2.2.1)))))))))), ((cell_far (p := ⟨gb125, _, none⟩) NB119_125.out _).trans (((cell_far (p := ⟨gb125, _, none⟩) NB119_125.out _).trans (((cell_far (p := ⟨gb125, _, none⟩) NB119_125.out _).trans (((cell_far (p := ⟨gb125, _, none⟩) NB119_125.out _).trans (((cell_far (p := ⟨gb125, _, none⟩) NB119_125.out _).trans (hHeld.2.2.2.1)))))))))), ((cell_far (p := ⟨gb125, _, none⟩) NB119_125.out _).trans (((cell_far (p := ⟨gb125, _, none⟩) NB119_125.out _).trans (((cell_far (p := ⟨gb125, _, none⟩) NB119_125.out _).trans (((cell_far (p := ⟨gb125, _, none⟩) NB119_125.out _).trans (((cell_far (p := ⟨gb125, _, none⟩) NB119_125.out _).trans (hHeld.2.2.2.2.1)))))))))), ((cell_far (p := ⟨gb125, _, none⟩) NB119_125.out _).trans (((cell_far (p := ⟨gb125, _, none⟩) NB119_125.out _).trans (((cell_far (p := ⟨gb125, _, none⟩) NB119_125.out _).trans (((cell_far (p := ⟨gb125, _, none⟩) NB119_125.out _).trans (((cell_far (p := ⟨gb125, _, none⟩) NB119_125.out _).trans (hHeld.2.2.2.2.2.1)))))))))), ((cell_far (p := ⟨gb125, _, none⟩) (by first | exact Kd.own_blk (Kd.S_away HO_113002.out (fun _ hk => hk.2.2)) | (rw [add_block]; exact Kd.own_blk (Kd.S_away HO_113002.out (fun _ hk => hk.2.2))) | (show (Addr.add _ _).block ≠ _; rw [add_block]; exact Kd.own_blk (Kd.S_away HO_113002.out (fun _ hk => hk.2.2))) | (dsimp only; exact Kd.own_blk (Kd.S_away HO_113002.out (fun _ hk => hk.2.2)))) _).trans (((cell_far (p := ⟨gb125, _, none⟩) (by first | exact Kd.own_blk (Kd.S_away HO_113002.out (fun _ hk => hk.2.2)) | (rw [add_block]; exact Kd.own_blk (Kd.S_away HO_113002.out (fun _ hk => hk.2.2))) | (show (Addr.add _ _).block ≠ _; rw [add_block]; exact Kd.own_blk (Kd.S_away HO_113002.out (fun _ hk => hk.2.2))) | (dsimp only; exact Kd.own_blk (Kd.S_away HO_113002.out (fun _ hk => hk.2.2)))) _).trans (((cell_far (p := ⟨gb125, _, none⟩) (by first | exact Kd.own_blk (Kd.S_away HO_113002.out (fun _ hk => hk.2.2)) | (rw [add_block]; exact Kd.own_blk (Kd.S_away HO_113002.out (fun _ hk => hk.2.2))) | (show (Addr.add _ _).block ≠ _; rw [add_block]; exact Kd.own_blk (Kd.S_away HO_113002.out (fun _ hk => hk.2.2))) | (dsimp only; exact Kd.own_blk (Kd.S_away HO_113002.out (fun _ hk => hk.2.2)))) _).trans (((cell_far (p := ⟨gb125, _, none⟩) (by first | exact Kd.own_blk (Kd.S_away HO_113002.out (fun _ hk => hk.2.2)) | (rw [add_block]; exact Kd.own_blk (Kd.S_away HO_113002.out (fun _ hk => hk.2.2))) | (show (Addr.add _ _).block ≠ _; rw [add_block]; exact Kd.own_blk (Kd.S_away HO_113002.out (fun _ hk => hk.2.2))) | (dsimp only; exact Kd.own_blk (Kd.S_away HO_113002.out (fun _ hk => hk.2.2)))) _).trans (((cell_far (p := ⟨gb125, _, none⟩) (by first | exact Kd.own_blk (Kd.S_away HO_113002.out (fun _ hk => hk.2.2)) | (rw [add_block]; exact Kd.own_blk (Kd.S_away HO_113002.out (fun _ hk => hk.2.2))) | (show (Addr.add _ _).block ≠ _; rw [add_block]; exact Kd.own_blk (Kd.S_away HO_113002.out (fun _ hk => hk.2.2))) | (dsimp only; exact Kd.own_blk (Kd.S_away HO_113002.out (fun _ hk => hk.2.2)))) _).trans (hHeld.2.2.2.2.2.2.1)))))))))), ((cell_far (p := ⟨gb125, _, none⟩) (by first | exact Kd.own_blk (Kd.S_away HO_113002.out (fun _ hk => hk.2.2)) | (rw [add_block]; exact Kd.own_blk (Kd.S_away HO_113002.out (fun _ hk => hk.2.2))) | (show (Addr.add _ _).block ≠ _; rw [add_block]; exact Kd.own_blk (Kd.S_away HO_113002.out (fun _ hk => hk.2.2))) | (dsimp only; exact Kd.own_blk (Kd.S_away HO_113002.out (fun _ hk => hk.2.2)))) _).trans (((cell_far (p := ⟨gb125, _, none⟩) (by first | exact Kd.own_blk (Kd.S_away HO_113002.out (fun _ hk => hk.2.2)) | (rw [add_block]; exact Kd.own_blk (Kd.S_away HO_113002.out (fun _ hk => hk.2.2))) | (show (Addr.add _ _).block ≠ _; rw [add_block]; exact Kd.own_blk (Kd.S_away HO_113002.out (fun _ hk => hk.2.2))) | (dsimp only; exact Kd.own_blk (Kd.S_away HO_113002.out (fun _ hk => hk.2.2)))) _).trans (((cell_far (p := ⟨gb125, _, none⟩) (by first | exact Kd.own_blk (Kd.S_away HO_113002.out (fun _ hk => hk.2.2)) | (rw [add_block]; exact Kd.own_blk (Kd.S_away HO_113002.out (fun _ hk => hk.2.2))) | (show (Addr.add _ _).block ≠ _; rw [add_block]; exact Kd.own_blk (Kd.S_away HO_113002.out (fun _ hk => hk.2.2))) | (dsimp only; exact Kd.own_blk (Kd.S_away HO_113002.out (fun _ hk => hk.2.2)))) _).trans (((cell_far (p := ⟨gb125, _, none⟩) (by first | exact Kd.own_blk (Kd.S_away HO_113002.out (fun _ hk => hk.2.2)) | (rw [add_block]; exact Kd.own_blk (Kd.S_away HO_113002.out (fun _ hk => hk.2.2))) | (show (Addr.add _ _).block ≠ _; rw [add_block]; exact Kd.own_blk (Kd.S_away HO_113002.out (fun _ hk => hk.2.2))) | (dsimp only; exact Kd.own_blk (Kd.S_away HO_113002.out (fun _ hk => hk.2.2)))) _).trans (((cell_far (p := ⟨gb125, _, none⟩) (by first | exact Kd.own_blk (Kd.S_away HO_113002.out (fun _ hk => hk.2.2)) | (rw [add_block]; exact Kd.own_blk (Kd.S_away HO_113002.out (fun _ hk => hk.2.2))) | (show (Addr.add _ _).block ≠ _; rw [add_block]; exact Kd.own_blk (Kd.S_away HO_113002.out (fun _ hk => hk.2.2))) | (dsimp only; exact Kd.own_blk (Kd.S_away HO_113002.out (fun _ hk => hk.2.2)))) _).trans (hHeld.2.2.2.2.2.2.2.1)))))))))), ((cell_far (p := ⟨gb125, _, none⟩) (by first | exact Kd.own_blk (Kd.S_away HO_113002.out (fun _ hk => hk.2.2)) | (rw [add_block]; exact Kd.own_blk (Kd.S_away HO_113002.out (fun _ hk => hk.2.2))) | (show (Addr.add _ _).block ≠ _; rw [add_block]; exact Kd.own_blk (Kd.S_away HO_113002.out (fun _ hk => hk.2.2))) | (dsimp only; exact Kd.own_blk (Kd.S_away HO_113002.out (fun _ hk => hk.2.2)))) _).trans (((cell_far (p := ⟨gb125, _, none⟩) (by first | exact Kd.own_blk (Kd.S_away HO_113002.out (fun _ hk => hk.2.2)) | (rw [add_block]; exact Kd.own_blk (Kd.S_away HO_113002.out (fun _ hk => hk.2.2))) | (show (Addr.add _ _).block ≠ _; rw [add_block]; exact Kd.own_blk (Kd.S_away HO_113002.out (fun _ hk => hk.2.2))) | (dsimp only; exact Kd.own_blk (Kd.S_away HO_113002.out (fun _ hk => hk.2.2)))) _).trans (((cell_far (p := ⟨gb125, _, none⟩) (by first | exact Kd.own_blk (Kd.S_away HO_113002.out (fun _ hk => hk.2.2)) | (rw [add_block]; exact Kd.own_blk (Kd.S_away HO_113002.out (fun _ hk => hk.2.2))) | (show (Addr.add _ _).block ≠ _; rw [add_block]; exact Kd.own_blk (Kd.S_away HO_113002.out (fun _ hk => hk.2.2))) | (dsimp only; exact Kd.own_blk (Kd.S_away HO_113002.out (fun _ hk => hk.2.2)))) _).trans (((cell_far (p := ⟨gb125, _, none⟩) (by first | exact Kd.own_blk (Kd.S_away HO_113002.out (fun _ hk => hk.2.2)) | (rw [add_block]; exact Kd.own_blk (Kd.S_away HO_113002.out (fun _ hk => hk.2.2))) | (show (Addr.add _ _).block ≠ _; rw [add_block]; exact Kd.own_blk (Kd.S_away HO_113002.out (fun _ hk => hk.2.2))) | (dsimp only; exact Kd.own_blk (Kd.S_away HO_113002.out (fun _ hk => hk.2.2)))) _).trans (((cell_far (p := ⟨gb125, _, none⟩) (by first | exact Kd.own_blk (Kd.S_away HO_113002.out (fun _ hk => hk.2.2)) | (rw [add_block]; exact Kd.own_blk (Kd.S_away HO_113002.out (fun _ hk => hk.2.2))) | (show (Addr.add _ _).block ≠ _; rw [add_block]; exact Kd.own_blk (Kd.S_away HO_113002.out (fun _ hk => hk.2.2))) | (dsimp only; exact Kd.own_blk (Kd.S_away HO_113002.out (fun _ hk => hk.2.2)))) _).trans (hHeld.2.2.2.2.2.2.2.2.1)))))))))), ((cell_far (p := ⟨gb125, _, none⟩) (by first | exact Kd.own_blk (Kd.S_away HO_113002.out (fun _ hk => hk.2.2)) | (rw [add_block]; exact Kd.own_blk (Kd.S_away HO_113002.out (fun _ hk => hk.2.2))) | (show (Addr.add _ _).block ≠ _; rw [add_block]; exact Kd.own_blk (Kd.S_away HO_113002.out (fun _ hk => hk.2.2))) | (dsimp only; exact Kd.own_blk (Kd.S_away HO_113002.out (fun _ hk => hk.2.2)))) _).trans (((cell_far (p := ⟨gb125, _, none⟩) (by first | exact Kd.own_blk (Kd.S_away HO_113002.out (fun _ hk => hk.2.2)) | (rw [add_block]; exact Kd.own_blk (Kd.S_away HO_113002.out (fun _ hk => hk.2.2))) | (show (Addr.add _ _).block ≠ _; rw [add_block]; exact Kd.own_blk (Kd.S_away HO_113002.out (fun _ hk => hk.2.2))) | (dsimp only; exact Kd.own_blk (Kd.S_away HO_113002.out (fun _ hk => hk.2.2)))) _).trans (((cell_far (p := ⟨gb125, _, none⟩) (by first | exact Kd.own_blk (Kd.S_away HO_113002.out (fun _ hk => hk.2.2)) | (rw [add_block]; exact Kd.own_blk (Kd.S_away HO_113002.out (fun _ hk => hk.2.2))) | (show (Addr.add _ _).block ≠ _; rw [add_block]; exact Kd.own_blk (Kd.S_away HO_113002.out (fun _ hk => hk.2.2))) | (dsimp only; exact Kd.own_blk (Kd.S_away HO_113002.out (fun _ hk => hk.2.2)))) _).trans (((cell_far (p := ⟨gb125, _, none⟩) (by first | exact Kd.own_blk (Kd.S_away HO_113002.out (fun _ hk => hk.2.2)) | (rw [add_block]; exact Kd.own_blk (Kd.S_away HO_113002.out (fun _ hk => hk.2.2))) | (show (Addr.add _ _).block ≠ _; rw [add_block]; exact Kd.own_blk (Kd.S_away HO_113002.out (fun _ hk => hk.2.2))) | (dsimp only; exact Kd.own_blk (Kd.S_away HO_113002.out (fun _ hk => hk.2.2)))) _).trans (((cell_far (p := ⟨gb125, _, none⟩) (by first | exact Kd.own_blk (Kd.S_away HO_113002.out (fun _ hk => hk.2.2)) | (rw [add_block]; exact Kd.own_blk (Kd.S_away HO_113002.out (fun _ hk => hk.2.2))) | (show (Addr.add _ _).block ≠ _; rw [add_block]; exact Kd.own_blk (Kd.S_away HO_113002.out (fun _ hk => hk.2.2))) | (dsimp only; exact Kd.own_blk (Kd.S_away HO_113002.out (fun _ hk => hk.2.2)))) _).trans (hHeld.2.2.2.2.2.2.2.2.2.1)))))))))), ((cell_far (p := ⟨gb125, _, none⟩) (by first | exact Kd.own_blk (Kd.S_away HO_113002.out (fun _ hk => hk.2.2)) | (rw [add_block]; exact Kd.own_blk (Kd.S_away HO_113002.out (fun _ hk => hk.2.2))) | (show (Addr.add _ _).block ≠ _; rw [add_block]; exact Kd.own_blk (Kd.S_away HO_113002.out (fun _ hk => hk.2.2))) | (dsimp only; exact Kd.own_blk (Kd.S_away HO_113002.out (fun _ hk => hk.2.2)))) _).trans (((cell_far (p := ⟨gb125, _, none⟩) (by first | exact Kd.own_blk (Kd.S_away HO_113002.out (fun _ hk => hk.2.2)) | (rw [add_block]; exact Kd.own_blk (Kd.S_away HO_113002.out (fun _ hk => hk.2.2))) | (show (Addr.add _ _).block ≠ _; rw [add_block]; exact Kd.own_blk (Kd.S_away HO_113002.out (fun _ hk => hk.2.2))) | (dsimp only; exact Kd.own_blk (Kd.S_away HO_113002.out (fun _ hk => hk.2.2)))) _).trans (((cell_far (p := ⟨gb125, _, none⟩) (by first | exact Kd.own_blk (Kd.S_away HO_113002.out (fun _ hk => hk.2.2)) | (rw [add_block]; exact Kd.own_blk (Kd.S_away HO_113002.out (fun _ hk => hk.2.2))) | (show (Addr.add _ _).block ≠ _; rw [add_block]; exact Kd.own_blk (Kd.S_away HO_113002.out (fun _ hk => hk.2.2))) | (dsimp only; exact Kd.own_blk (Kd.S_away HO_113002.out (fun _ hk => hk.2.2)))) _).trans (((cell_far (p := ⟨gb125, _, none⟩) (by first | exact Kd.own_blk (Kd.S_away HO_113002.out (fun _ hk => hk.2.2)) | (rw [add_block]; exact Kd.own_blk (Kd.S_away HO_113002.out (fun _ hk => hk.2.2))) | (show (Addr.add _ _).block ≠ _; rw [add_block]; exact Kd.own_blk (Kd.S_away HO_113002.out (fun _ hk => hk.2.2))) | (dsimp only; exact Kd.own_blk (Kd.S_away HO_113002.out (fun _ hk => hk.2.2)))) _).trans (((cell_far (p := ⟨gb125, _, none⟩) (by first | exact Kd.own_blk (Kd.S_away HO_113002.out (fun _ hk => hk.2.2)) | (rw [add_block]; exact Kd.own_blk (Kd.S_away HO_113002.out (fun _ hk => hk.2.2))) | (show (Addr.add _ _).block ≠ _; rw [add_block]; exact Kd.own_blk (Kd.S_away HO_113002.out (fun _ hk => hk.2.2))) | (dsimp only; exact Kd.own_blk (Kd.S_away HO_113002.out (fun _ hk => hk.2.2)))) _).trans (hHeld.2.2.2.2.2.2.2.2.2.2.1)))))))))), ((cell_far (p := ⟨gb125, _, none⟩) (by first | exact Kd.own_blk (Kd.S_away HO_120002.out (fun _ hk => hk.2.2)) | (rw [add_block]; exact Kd.own_blk (Kd.S_away HO_120002.out (fun _ hk => hk.2.2))) | (show (Addr.add _ _).block ≠ _; rw [add_block]; exact Kd.own_blk (Kd.S_away HO_120002.out (fun _ hk => hk.2.2))) | (dsimp only; exact Kd.own_blk (Kd.S_away HO_120002.out (fun _ hk => hk.2.2)))) _).trans (((cell_far (p := ⟨gb125, _, none⟩) (by first | exact Kd.own_blk (Kd.S_away HO_120002.out (fun _ hk => hk.2.2)) | (rw [add_block]; exact Kd.own_blk (Kd.S_away HO_120002.out (fun _ hk => hk.2.2))) | (show (Addr.add _ _).block ≠ _; rw [add_block]; exact Kd.own_blk (Kd.S_away HO_120002.out (fun _ hk => hk.2.2))) | (dsimp only; exact Kd.own_blk (Kd.S_away HO_120002.out (fun _ hk => hk.2.2)))) _).trans (((cell_far (p := ⟨gb125, _, none⟩) (by first | exact Kd.own_blk (Kd.S_away HO_120002.out (fun _ hk => hk.2.2)) | (rw [add_block]; exact Kd.own_blk (Kd.S_away HO_120002.out (fun _ hk => hk.2.2))) | (show (Addr.add _ _).block ≠ _; rw [add_block]; exact Kd.own_blk (Kd.S_away HO_120002.out (fun _ hk => hk.2.2))) | (dsimp only; exact Kd.own_blk (Kd.S_away HO_120002.out (fun _ hk => hk.2.2)))) _).trans (((cell_far (p := ⟨gb125, _, none⟩) (by first | exact Kd.own_blk (Kd.S_away HO_120002.out (fun _ hk => hk.2.2)) | (rw [add_block]; exact Kd.own_blk (Kd.S_away HO_120002.out (fun _ hk => hk.2.2))) | (show (Addr.add _ _).block ≠ _; rw [add_block]; exact Kd.own_blk (Kd.S_away HO_120002.out (fun _ hk => hk.2.2))) | (dsimp only; exact Kd.own_blk (Kd.S_away HO_120002.out (fun _ hk => hk.2.2)))) _).trans (((cell_far (p := ⟨gb125, _, none⟩) (by first | exact Kd.own_blk (Kd.S_away HO_120002.out (fun _ hk => hk.2.2)) | (rw [add_block]; exact Kd.own_blk (Kd.S_away HO_120002.out (fun _ hk => hk.2.2))) | (show (Addr.add _ _).block ≠ _; rw [add_block]; exact Kd.own_blk (Kd.S_away HO_120002.out (fun _ hk => hk.2.2))) | (dsimp only; exact Kd.own_blk (Kd.S_away HO_120002.out (fun _ hk => hk.2.2)))) _).trans (hHeld.2.2.2.2.2.2.2.2.2.2.2.1)))))))))), ((cell_far (p := ⟨gb125, _, none⟩) (by first | exact Kd.own_blk (Kd.S_away HO_120002.out (fun _ hk => hk.2.2)) | (rw [add_block]; exact Kd.own_blk (Kd.S_away HO_120002.out (fun _ hk => hk.2.2))) | (show (Addr.add _ _).block ≠ _; rw [add_block]; exact Kd.own_blk (Kd.S_away HO_120002.out (fun _ hk => hk.2.2))) | (dsimp only; exact Kd.own_blk (Kd.S_away HO_120002.out (fun _ hk => hk.2.2)))) _).trans (((cell_far (p := ⟨gb125, _, none⟩) (by first | exact Kd.own_blk (Kd.S_away HO_120002.out (fun _ hk => hk.2.2)) | (rw [add_block]; exact Kd.own_blk (Kd.S_away HO_120002.out (fun _ hk => hk.2.2))) | (show (Addr.add _ _).block ≠ _; rw [add_block]; exact Kd.own_blk (Kd.S_away HO_120002.out (fun _ hk => hk.2.2))) | (dsimp only; exact Kd.own_blk (Kd.S_away HO_120002.out (fun _ hk => hk.2.2)))) _).trans (((cell_far (p := ⟨gb125, _, none⟩) (by first | exact Kd.own_blk (Kd.S_away HO_120002.out (fun _ hk => hk.2.2)) | (rw [add_block]; exact Kd.own_blk (Kd.S_away HO_120002.out (fun _ hk => hk.2.2))) | (show (Addr.add _ _).block ≠ _; rw [add_block]; exact Kd.own_blk (Kd.S_away HO_120002.out (fun _ hk => hk.2.2))) | (dsimp only; exact Kd.own_blk (Kd.S_away HO_120002.out (fun _ hk => hk.2.2)))) _).trans (((cell_far (p := ⟨gb125, _, none⟩) (by first | exact Kd.own_blk (Kd.S_away HO_120002.out (fun _ hk => hk.2.2)) | (rw [add_block]; exact Kd.own_blk (Kd.S_away HO_120002.out (fun _ hk => hk.2.2))) | (show (Addr.add _ _).block ≠ _; rw [add_block]; exact Kd.own_blk (Kd.S_away HO_120002.out (fun _ hk => hk.2.2))) | (dsimp only; exact Kd.own_blk (Kd.S_away HO_120002.out (fun _ hk => hk.2.2)))) _).trans (((cell_far (p := ⟨gb125, _, none⟩) (by first | exact Kd.own_blk (Kd.S_away HO_120002.out (fun _ hk => hk.2.2)) | (rw [add_block]; exact Kd.own_blk (Kd.S_away HO_120002.out (fun _ hk => hk.2.2))) | (show (Addr.add _ _).block ≠ _; rw [add_block]; exact Kd.own_blk (Kd.S_away HO_120002.out (fun _ hk => hk.2.2))) | (dsimp only; exact Kd.own_blk (Kd.S_away HO_120002.out (fun _ hk => hk.2.2)))) _).trans (hHeld.2.2.2.2.2.2.2.2.2.2.2.2.1)))))))))), ((cell_far (p := ⟨gb125, _, none⟩) (by first | exact Kd.own_blk (Kd.S_away HO_120002.out (fun _ hk => hk.2.2)) | (rw [add_block]; exact Kd.own_blk (Kd.S_away HO_120002.out (fun _ hk => hk.2.2))) | (show (Addr.add _ _).block ≠ _; rw [add_block]; exact Kd.own_blk (Kd.S_away HO_120002.out (fun _ hk => hk.2.2))) | (dsimp only; exact Kd.own_blk (Kd.S_away HO_120002.out (fun _ hk => hk.2.2)))) _).trans (((cell_far (p := ⟨gb125, _, none⟩) (by first | exact Kd.own_blk (Kd.S_away HO_120002.out (fun _ hk => hk.2.2)) | (rw [add_block]; exact Kd.own_blk (Kd.S_away HO_120002.out (fun _ hk => hk.2.2))) | (show (Addr.add _ _).block ≠ _; rw [add_block]; exact Kd.own_blk (Kd.S_away HO_120002.out (fun _ hk => hk.2.2))) | (dsimp only; exact Kd.own_blk (Kd.S_away HO_120002.out (fun _ hk => hk.2.2)))) _).trans (((cell_far (p := ⟨gb125, _, none⟩) (by first | exact Kd.own_blk (Kd.S_away HO_120002.out (fun _ hk => hk.2.2)) | (rw [add_block]; exact Kd.own_blk (Kd.S_away HO_120002.out (fun _ hk => hk.2.2))) | (show (Addr.add _ _).block ≠ _; rw [add_block]; exact Kd.own_blk (Kd.S_away HO_120002.out (fun _ hk => hk.2.2))) | (dsimp only; exact Kd.own_blk (Kd.S_away HO_120002.out (fun _ hk => hk.2.2)))) _).trans (((cell_far (p := ⟨gb125, _, none⟩) (by first | exact Kd.own_blk (Kd.S_away HO_120002.out (fun _ hk => hk.2.2)) | (rw [add_block]; exact Kd.own_blk (Kd.S_away HO_120002.out (fun _ hk => hk.2.2))) | (show (Addr.add _ _).block ≠ _; rw [add_block]; exact Kd.own_blk (Kd.S_away HO_120002.out (fun _ hk => hk.2.2))) | (dsimp only; exact Kd.own_blk (Kd.S_away HO_120002.out (fun _ hk => hk.2.2)))) _).trans (((cell_far (p := ⟨gb125, _, none⟩) (by first | exact Kd.own_blk (Kd.S_away HO_120002.out (fun _ hk => hk.2.2)) | (rw [add_block]; exact Kd.own_blk (Kd.S_away HO_120002.out (fun _ hk => hk.2.2))) | (show (Addr.add _ _).block ≠ _; rw [add_block]; exact Kd.own_blk (Kd.S_away HO_120002.out (fun _ hk => hk.2.2))) | (dsimp only; exact Kd.own_blk (Kd.S_away HO_120002.out (fun _ hk => hk.2.2)))) _).trans (hHeld.2.2.2.2.2.2.2.2.2.2.2.2.2.1)))))))))), ((cell_far (p := ⟨gb125, _, none⟩) (by first | exact Kd.own_blk (Kd.S_away HO_120002.out (fun _ hk => hk.2.2)) | (rw [add_block]; exact Kd.own_blk (Kd.S_away HO_120002.out (fun _ hk => hk.2.2))) | (show (Addr.add _ _).block ≠ _; rw [add_block]; exact Kd.own_blk (Kd.S_away HO_120002.out (fun _ hk => hk.2.2))) | (dsimp only; exact Kd.own_blk (Kd.S_away HO_120002.out (fun _ hk => hk.2.2)))) _).trans (((cell_far (p := ⟨gb125, _, none⟩) (by first | exact Kd.own_blk (Kd.S_away HO_120002.out (fun _ hk => hk.2.2)) | (rw [add_block]; exact Kd.own_blk (Kd.S_away HO_120002.out (fun _ hk => hk.2.2))) | (show (Addr.add _ _).block ≠ _; rw [add_block]; exact Kd.own_blk (Kd.S_away HO_120002.out (fun _ hk => hk.2.2))) | (dsimp only; exact Kd.own_blk (Kd.S_away HO_120002.out (fun _ hk => hk.2.2)))) _).trans (((cell_far (p := ⟨gb125, _, none⟩) (by first | exact Kd.own_blk (Kd.S_away HO_120002.out (fun _ hk => hk.2.2)) | (rw [add_block]; exact Kd.own_blk (Kd.S_away HO_120002.out (fun _ hk => hk.2.2))) | (show (Addr.add _ _).block ≠ _; rw [add_block]; exact Kd.own_blk (Kd.S_away HO_120002.out (fun _ hk => hk.2.2))) | (dsimp only; exact Kd.own_blk (Kd.S_away HO_120002.out (fun _ hk => hk.2.2)))) _).trans (((cell_far (p := ⟨gb125, _, none⟩) (by first | exact Kd.own_blk (Kd.S_away HO_120002.out (fun _ hk => hk.2.2)) | (rw [add_block]; exact Kd.own_blk (Kd.S_away HO_120002.out (fun _ hk => hk.2.2))) | (show (Addr.add _ _).block ≠ _; rw [add_block]; exact Kd.own_blk (Kd.S_away HO_120002.out (fun _ hk => hk.2.2))) | (dsimp only; exact Kd.own_blk (Kd.S_away HO_120002.out (fun _ hk => hk.2.2)))) _).trans (((cell_far (p := ⟨gb125, _, none⟩) (by first | exact Kd.own_blk (Kd.S_away HO_120002.out (fun _ hk => hk.2.2)) | (rw [add_block]; exact Kd.own_blk (Kd.S_away HO_120002.out (fun _ hk => hk.2.2))) | (show (Addr.add _ _).block ≠ _; rw [add_block]; exact Kd.own_blk (Kd.S_away HO_120002.out (fun _ hk => hk.2.2))) | (dsimp only; exact Kd.own_blk (Kd.S_away HO_120002.out (fun _ hk => hk.2.2)))) _).trans (hHeld.2.2.2.2.2.2.2.2.2.2.2.2.2.2.1)))))))))), ((cell_far (p := ⟨gb125, _, none⟩) (by first | exact Kd.own_blk (Kd.S_away HO_120002.out (fun _ hk => hk.2.2)) | (rw [add_block]; exact Kd.own_blk (Kd.S_away HO_120002.out (fun _ hk => hk.2.2))) | (show (Addr.add _ _).block ≠ _; rw [add_block]; exact Kd.own_blk (Kd.S_away HO_120002.out (fun _ hk => hk.2.2))) | (dsimp only; exact Kd.own_blk (Kd.S_away HO_120002.out (fun _ hk => hk.2.2)))) _).trans (((cell_far (p := ⟨gb125, _, none⟩) (by first | exact Kd.own_blk (Kd.S_away HO_120002.out (fun _ hk => hk.2.2)) | (rw [add_block]; exact Kd.own_blk (Kd.S_away HO_120002.out (fun _ hk => hk.2.2))) | (show (Addr.add _ _).block ≠ _; rw [add_block]; exact Kd.own_blk (Kd.S_away HO_120002.out (fun _ hk => hk.2.2))) | (dsimp only; exact Kd.own_blk (Kd.S_away HO_120002.out (fun _ hk => hk.2.2)))) _).trans (((cell_far (p := ⟨gb125, _, none⟩) (by first | exact Kd.own_blk (Kd.S_away HO_120002.out (fun _ hk => hk.2.2)) | (rw [add_block]; exact Kd.own_blk (Kd.S_away HO_120002.out (fun _ hk => hk.2.2))) | (show (Addr.add _ _).block ≠ _; rw [add_block]; exact Kd.own_blk (Kd.S_away HO_120002.out (fun _ hk => hk.2.2))) | (dsimp only; exact Kd.own_blk (Kd.S_away HO_120002.out (fun _ hk => hk.2.2)))) _).trans (((cell_far (p := ⟨gb125, _, none⟩) (by first | exact Kd.own_blk (Kd.S_away HO_120002.out (fun _ hk => hk.2.2)) | (rw [add_block]; exact Kd.own_blk (Kd.S_away HO_120002.out (fun _ hk => hk.2.2))) | (show (Addr.add _ _).block ≠ _; rw [add_block]; exact Kd.own_blk (Kd.S_away HO_120002.out (fun _ hk => hk.2.2))) | (dsimp only; exact Kd.own_blk (Kd.S_away HO_120002.out (fun _ hk => hk.2.2)))) _).trans (((cell_far (p := ⟨gb125, _, none⟩) (by first | exact Kd.own_blk (Kd.S_away HO_120002.out (fun _ hk => hk.2.2)) | (rw [add_block]; exact Kd.own_blk (Kd.S_away HO_120002.out (fun _ hk => hk.2.2))) | (show (Addr.add _ _).block ≠ _; rw [add_block]; exact Kd.own_blk (Kd.S_away HO_120002.out (fun _ hk => hk.2.2))) | (dsimp only; exact Kd.own_blk (Kd.S_away HO_120002.out (fun _ hk => hk.2.2)))) _).trans (hHeld.2.2.2.2.2.2.2.2.2.2.2.2.2.2.2))))))))))⟩ (fun hHeld => ?_)
     clear hK K
     refine done_ (done_of HT_.out (by kernel_rfl)) ?_
     have hnb92 := NB124_112.out
     have hnc92 := NB112_124.out
     have hnb93 := NB124_119.out
     have hnc93 := NB119_124.out
     have hnb94 := NB124_125.out
     have hnc94 := NB125_124.out
     have hcz95_0 : w81.cell? ⟨gb124, 0, none⟩ = some (.int .i64 0) := (blk_cell BK124.out 0).trans rfl
     have hcz95_1 : w81.cell? ⟨gb124, 1, none⟩ = some (.int .i64 0) := (blk_cell BK124.out 1).trans rfl
     have hcz95_2 : w81.cell? ⟨gb124, 2, none⟩ = some (.int .i64 0) := (blk_cell BK124.out 2).trans rfl
     have hcz95_3 : w81.cell? ⟨gb124, 3, none⟩ = some (.int .i64 0) := (blk_cell BK124.out 3).trans rfl
     have hcz95_4 : w81.cell? ⟨gb124, 4, none⟩ = some (.slice none 0 0) := (blk_cell BK124.out 4).trans rfl
     have hfz95_0 := blk_frozen BK124.out 0
     have hfz95_1 := blk_frozen BK124.out 1
     have hfz95_2 := blk_frozen BK124.out 2
     have hfz95_3 := blk_frozen BK124.out 3
     have hfz95_4 := blk_frozen BK124.out 4
     have hnb96 := NB125_112.out
     have hnc96 := NB112_125.out
     have hnb97 := NB125_119.out
     have hnc97 := NB119_125.out
     have hcz98_0 : w81.cell? ⟨gb125, 0, none⟩ = some (.int .i64 0) := (blk_cell BK125.out 0).trans rfl
     have hcz98_1 : w81.cell? ⟨gb125, 1, none⟩ = some (.int .i64 0) := (blk_cell BK125.out 1).trans rfl
     have hcz98_2 : w81.cell? ⟨gb125, 2, none⟩ = some (.int .i64 0) := (blk_cell BK125.out 2).trans rfl
     have hcz98_3 : w81.cell? ⟨gb125, 3, none⟩ = some (.int .i64 0) := (blk_cell BK125.out 3).trans rfl
     have hcz98_4 : w81.cell? ⟨gb125, 4, none⟩ = some (.slice none 0 0) := (blk_cell BK125.out 4).trans rfl
     have hfz98_0 := blk_frozen BK125.out 0
     have hfz98_1 := blk_frozen BK125.out 1
     have hfz98_2 := blk_frozen BK125.out 2
     have hfz98_3 := blk_frozen BK125.out 3
     have hfz98_4 := blk_frozen BK125.out 4
     obtain ⟨w60, hw60⟩ : ∃ w_ : World, w_ = (World.setCell (World.setCell (World.setCell (World.setCell (World.setCell (World.setCell (World.setCell (World.setCell (World.setCell (World.setCell w81 ⟨gb124, 0, none⟩ (.int .i64 ((rd_T34 t108 x10_2).f0))) ⟨gb124, 1, none⟩ (.int .i64 ((rd_T34 t108 x10_2).f1))) ⟨gb124, 2, none⟩ (.int .i64 ((rd_T34 t108 x10_2).f2))) ⟨gb124, 3, none⟩ (.int .i64 ((rd_T34 t108 x10_2).f3))) ⟨gb124, 4, none⟩ (.slice A122_4 ((rd_T34 t108 x10_2).f4).length c122_4)) ⟨gb125, 0, none⟩ (.int .i64 ((rd_T34 t115 x10_2).f0))) ⟨gb125, 1, none⟩ (.int .i64 ((rd_T34 t115 x10_2).f1))) ⟨gb125, 2, none⟩ (.int .i64 ((rd_T34 t115 x10_2).f2))) ⟨gb125, 3, none⟩ (.int .i64 ((rd_T34 t115 x10_2).f3))) ⟨gb125, 4, none⟩ (.slice A123_4 ((rd_T34 t115 x10_2).f4).length c123_4)) := ⟨_, rfl⟩
     rw [← hw60]
     have y0_ := Aside0.mk (Kd.R_far (p := ⟨gb125, 4, none⟩) (Kd.R_far (p := ⟨gb125, 3, none⟩) (Kd.R_far (p := ⟨gb125, 2, none⟩) (Kd.R_far (p := ⟨gb125, 1, none⟩) (Kd.R_far (p := ⟨gb125, 0, none⟩) (Kd.R_far (p := ⟨gb124, 4, none⟩) (Kd.R_far (p := ⟨gb124, 3, none⟩) (Kd.R_far (p := ⟨gb124, 2, none⟩) (Kd.R_far (p := ⟨gb124, 1, none⟩) (Kd.R_far (p := ⟨gb124, 0, none⟩) (Kd.R_types (Kd.R_types HL122_4.out BK124.out (by decide)) BK125.out (by decide)) (fun _ hk => hk.1.2) (.int .i64 ((rd_T34 t108 x10_2).f0))) (fun _ hk => hk.1.2) (.int .i64 ((rd_T34 t108 x10_2).f1))) (fun _ hk => hk.1.2) (.int .i64 ((rd_T34 t108 x10_2).f2))) (fun _ hk => hk.1.2) (.int .i64 ((rd_T34 t108 x10_2).f3))) (fun _ hk => hk.1.2) (.slice A122_4 ((rd_T34 t108 x10_2).f4).length c122_4)) (fun _ hk => hk.2) (.int .i64 ((rd_T34 t115 x10_2).f0))) (fun _ hk => hk.2) (.int .i64 ((rd_T34 t115 x10_2).f1))) (fun _ hk => hk.2) (.int .i64 ((rd_T34 t115 x10_2).f2))) (fun _ hk => hk.2) (.int .i64 ((rd_T34 t115 x10_2).f3))) (fun _ hk => hk.2) (.slice A123_4 ((rd_T34 t115 x10_2).f4).length c123_4))
     rw [← hw60] at y0_
     have y1_ := Aside0.mk (Kd.R_far (p := ⟨gb125, 4, none⟩) (Kd.R_far (p := ⟨gb125, 3, none⟩) (Kd.R_far (p := ⟨gb125, 2, none⟩) (Kd.R_far (p := ⟨gb125, 1, none⟩) (Kd.R_far (p := ⟨gb125, 0, none⟩) (Kd.R_far (p := ⟨gb124, 4, none⟩) (Kd.R_far (p := ⟨gb124, 3, none⟩) (Kd.R_far (p := ⟨gb124, 2, none⟩) (Kd.R_far (p := ⟨gb124, 1, none⟩) (Kd.R_far (p := ⟨gb124, 0, none⟩) (Kd.R_types (Kd.R_types HL123_4.out BK124.out (by decide)) BK125.out (by decide)) (fun _ hk => hk.1.2) (.int .i64 ((rd_T34 t108 x10_2).f0))) (fun _ hk => hk.1.2) (.int .i64 ((rd_T34 t108 x10_2).f1))) (fun _ hk => hk.1.2) (.int .i64 ((rd_T34 t108 x10_2).f2))) (fun _ hk => hk.1.2) (.int .i64 ((rd_T34 t108 x10_2).f3))) (fun _ hk => hk.1.2) (.slice A122_4 ((rd_T34 t108 x10_2).f4).length c122_4)) (fun _ hk => hk.2) (.int .i64 ((rd_T34 t115 x10_2).f0))) (fun _ hk => hk.2) (.int .i64 ((rd_T34 t115 x10_2).f1))) (fun _ hk => hk.2) (.int .i64 ((rd_T34 t115 x10_2).f2))) (fun _ hk => hk.2) (.int .i64 ((rd_T34 t115 x10_2).f3))) (fun _ hk => hk.2) (.slice A123_4 ((rd_T34 t115 x10_2).f4).length c123_4))
     rw [← hw60] at y1_
     have y2_ := Aside0.mk (Kd.S_far (p := ⟨gb125, 4, none⟩) (Kd.S_far (p := ⟨gb125, 3, none⟩) (Kd.S_far (p := ⟨gb125, 2, none⟩) (Kd.S_far (p := ⟨gb125, 1, none⟩) (Kd.S_far (p := ⟨gb125, 0, none⟩) (Kd.S_far (p := ⟨gb124, 4, none⟩) (Kd.S_far (p := ⟨gb124, 3, none⟩) (Kd.S_far (p := ⟨gb124, 2, none⟩) (Kd.S_far (p := ⟨gb124, 1, none⟩) (Kd.S_far (p := ⟨gb124, 0, none⟩) (Kd.S_mono (Kd.S_mono HO_113002.out (fun k_ hk => (⟨hk, hk.2.1⟩ : _ ∧ k_ ≠ gb124))) (fun k_ hk => (⟨hk, hk.1.2.2⟩ : _ ∧ k_ ≠ gb125))) (fun _ hk => hk.1.2) (.int .i64 ((rd_T34 t108 x10_2).f0))) (fun _ hk => hk.1.2) (.int .i64 ((rd_T34 t108 x10_2).f1))) (fun _ hk => hk.1.2) (.int .i64 ((rd_T34 t108 x10_2).f2))) (fun _ hk => hk.1.2) (.int .i64 ((rd_T34 t108 x10_2).f3))) (fun _ hk => hk.1.2) (.slice A122_4 ((rd_T34 t108 x10_2).f4).length c122_4)) (fun _ hk => hk.2) (.int .i64 ((rd_T34 t115 x10_2).f0))) (fun _ hk => hk.2) (.int .i64 ((rd_T34 t115 x10_2).f1))) (fun _ hk => hk.2) (.int .i64 ((rd_T34 t115 x10_2).f2))) (fun _ hk => hk.2) (.int .i64 ((rd_T34 t115 x10_2).f3))) (fun _ hk => hk.2) (.slice A123_4 ((rd_T34 t115 x10_2).f4).length c123_4))
     rw [← hw60] at y2_
     have y3_ := Aside0.mk (Kd.S_far (p := ⟨gb125, 4, none⟩) (Kd.S_far (p := ⟨gb125, 3, none⟩) (Kd.S_far (p := ⟨gb125, 2, none⟩) (Kd.S_far (p := ⟨gb125, 1, none⟩) (Kd.S_far (p := ⟨gb125, 0, none⟩) (Kd.S_far (p := ⟨gb124, 4, none⟩) (Kd.S_far (p := ⟨gb124, 3, none⟩) (Kd.S_far (p := ⟨gb124, 2, none⟩) (Kd.S_far (p := ⟨gb124, 1, none⟩) (Kd.S_far (p := ⟨gb124, 0, none⟩) (Kd.S_mono (Kd.S_mono HO_120002.out (fun k_ hk => (⟨hk, hk.2.1⟩ : _ ∧ k_ ≠ gb124))) (fun k_ hk => (⟨hk, hk.1.2.2⟩ : _ ∧ k_ ≠ gb125))) (fun _ hk => hk.1.2) (.int .i64 ((rd_T34 t108 x10_2).f0))) (fun _ hk => hk.1.2) (.int .i64 ((rd_T34 t108 x10_2).f1))) (fun _ hk => hk.1.2) (.int .i64 ((rd_T34 t108 x10_2).f2))) (fun _ hk => hk.1.2) (.int .i64 ((rd_T34 t108 x10_2).f3))) (fun _ hk => hk.1.2) (.slice A122_4 ((rd_T34 t108 x10_2).f4).length c122_4)) (fun _ hk => hk.2) (.int .i64 ((rd_T34 t115 x10_2).f0))) (fun _ hk => hk.2) (.int .i64 ((rd_T34 t115 x10_2).f1))) (fun _ hk => hk.2) (.int .i64 ((rd_T34 t115 x10_2).f2))) (fun _ hk => hk.2) (.int .i64 ((rd_T34 t115 x10_2).f3))) (fun _ hk => hk.2) (.slice A123_4 ((rd_T34 t115 x10_2).f4).length c123_4))
     rw [← hw60] at y3_
     have y4_ := Aside0.mk (blk_far (p := ⟨gb125, 4, none⟩) (blk_far (p := ⟨gb125, 3, none⟩) (blk_far (p := ⟨gb125, 2, none⟩) (blk_far (p := ⟨gb125, 1, none⟩) (blk_far (p := ⟨gb125, 0, none⟩) (blk_far (p := ⟨gb124, 4, none⟩) (blk_far (p := ⟨gb124, 3, none⟩) (blk_far (p := ⟨gb124, 2, none⟩) (blk_far (p := ⟨gb124, 1, none⟩) (blk_far (p := ⟨gb124, 0, none⟩) BK112.out NB112_124.out (.int .i64 ((rd_T34 t108 x10_2).f0))) NB112_124.out (.int .i64 ((rd_T34 t108 x10_2).f1))) NB112_124.out (.int .i64 ((rd_T34 t108 x10_2).f2))) NB112_124.out (.int .i64 ((rd_T34 t108 x10_2).f3))) NB112_124.out (.slice A122_4 ((rd_T34 t108 x10_2).f4).length c122_4)) NB112_125.out (.int .i64 ((rd_T34 t115 x10_2).f0))) NB112_125.out (.int .i64 ((rd_T34 t115 x10_2).f1))) NB112_125.out (.int .i64 ((rd_T34 t115 x10_2).f2))) NB112_125.out (.int .i64 ((rd_T34 t115 x10_2).f3))) NB112_125.out (.slice A123_4 ((rd_T34 t115 x10_2).f4).length c123_4))
     rw [← hw60] at y4_
     have y5_ := Aside0.mk (blk_far (p := ⟨gb125, 4, none⟩) (blk_far (p := ⟨gb125, 3, none⟩) (blk_far (p := ⟨gb125, 2, none⟩) (blk_far (p := ⟨gb125, 1, none⟩) (blk_far (p := ⟨gb125, 0, none⟩) (blk_far (p := ⟨gb124, 4, none⟩) (blk_far (p := ⟨gb124, 3, none⟩) (blk_far (p := ⟨gb124, 2, none⟩) (blk_far (p := ⟨gb124, 1, none⟩) (blk_far (p := ⟨gb124, 0, none⟩) BK119.out NB119_124.out (.int .i64 ((rd_T34 t108 x10_2).f0))) NB119_124.out (.int .i64 ((rd_T34 t108 x10_2).f1))) NB119_124.out (.int .i64 ((rd_T34 t108 x10_2).f2))) NB119_124.out (.int .i64 ((rd_T34 t108 x10_2).f3))) NB119_124.out (.slice A122_4 ((rd_T34 t108 x10_2).f4).length c122_4)) NB119_125.out (.int .i64 ((rd_T34 t115 x10_2).f0))) NB119_125.out (.int .i64 ((rd_T34 t115 x10_2).f1))) NB119_125.out (.int .i64 ((rd_T34 t115 x10_2).f2))) NB119_125.out (.int .i64 ((rd_T34 t115 x10_2).f3))) NB119_125.out (.slice A123_4 ((rd_T34 t115 x10_2).f4).length c123_4))
     rw [← hw60] at y5_
     have y6_ := Aside0.mk (blk_far (p := ⟨gb125, 4, none⟩) (blk_far (p := ⟨gb125, 3, none⟩) (blk_far (p := ⟨gb125, 2, none⟩) (blk_far (p := ⟨gb125, 1, none⟩) (blk_far (p := ⟨gb125, 0, none⟩) (blk_set (blk_set (blk_set (blk_set (blk_set BK124.out 0 (.int .i64 ((rd_T34 t108 x10_2).f0))) 1 (.int .i64 ((rd_T34 t108 x10_2).f1))) 2 (.int .i64 ((rd_T34 t108 x10_2).f2))) 3 (.int .i64 ((rd_T34 t108 x10_2).f3))) 4 (.slice A122_4 ((rd_T34 t108 x10_2).f4).length c122_4)) NB124_125.out (.int .i64 ((rd_T34 t115 x10_2).f0))) NB124_125.out (.int .i64 ((rd_T34 t115 x10_2).f1))) NB124_125.out (.int .i64 ((rd_T34 t115 x10_2).f2))) NB124_125.out (.int .i64 ((rd_T34 t115 x10_2).f3))) NB124_125.out (.slice A123_4 ((rd_T34 t115 x10_2).f4).length c123_4))
     rw [← hw60] at y6_
     have y7_ := Aside0.mk (blk_set (blk_set (blk_set (blk_set (blk_set (blk_far (p := ⟨gb124, 4, none⟩) (blk_far (p := ⟨gb124, 3, none⟩) (blk_far (p := ⟨gb124, 2, none⟩) (blk_far (p := ⟨gb124, 1, none⟩) (blk_far (p := ⟨gb124, 0, none⟩) BK125.out NB125_124.out (.int .i64 ((rd_T34 t108 x10_2).f0))) NB125_124.out (.int .i64 ((rd_T34 t108 x10_2).f1))) NB125_124.out (.int .i64 ((rd_T34 t108 x10_2).f2))) NB125_124.out (.int .i64 ((rd_T34 t108 x10_2).f3))) NB125_124.out (.slice A122_4 ((rd_T34 t108 x10_2).f4).length c122_4)) 0 (.int .i64 ((rd_T34 t115 x10_2).f0))) 1 (.int .i64 ((rd_T34 t115 x10_2).f1))) 2 (.int .i64 ((rd_T34 t115 x10_2).f2))) 3 (.int .i64 ((rd_T34 t115 x10_2).f3))) 4 (.slice A123_4 ((rd_T34 t115 x10_2).f4).length c123_4))
     rw [← hw60] at y7_
     have y8_ : Aside0 (Below w.heap.size w w60) := ⟨by rw [hw60]; repeat (first | (with_reducible exact HB.out) | refine below_set ?_ GE124.out | refine below_set ?_ GE125.out)⟩
     clear HL122_4 HL123_4 HO_113002 HO_120002 BK112 BK119 BK124 BK125 HB hw60
     have HL122_4 := y0_
     have HL123_4 := y1_
     have HO_113002 := y2_
     have HO_120002 := y3_
     have BK112 := y4_
     have BK119 := y5_
     have BK124 := y6_
     have BK125 := y7_
     have HB := y8_
     clear y0_ y1_ y2_ y3_ y4_ y5_ y6_ y7_ y8_
     have hcy124_0 : w60.cell? ⟨gb124, 0, none⟩ = some (.int .i64 ((rd_T34 t108 x10_2).f0)) := (blk_cell BK124.out 0).trans rfl
     have hfy124_0 := blk_frozen BK124.out 0
     have hcy124_1 : w60.cell? ⟨gb124, 1, none⟩ = some (.int .i64 ((rd_T34 t108 x10_2).f1)) := (blk_cell BK124.out 1).trans rfl
     have hfy124_1 := blk_frozen BK124.out 1
     have hcy124_2 : w60.cell? ⟨gb124, 2, none⟩ = some (.int .i64 ((rd_T34 t108 x10_2).f2)) := (blk_cell BK124.out 2).trans rfl
     have hfy124_2 := blk_frozen BK124.out 2
     have hcy124_3 : w60.cell? ⟨gb124, 3, none⟩ = some (.int .i64 ((rd_T34 t108 x10_2).f3)) := (blk_cell BK124.out 3).trans rfl
     have hfy124_3 := blk_frozen BK124.out 3
     have hcy124_4 : w60.cell? ⟨gb124, 4, none⟩ = some (.slice A122_4 ((rd_T34 t108 x10_2).f4).length c122_4) := (blk_cell BK124.out 4).trans rfl
     have hfy124_4 := blk_frozen BK124.out 4
     have hcy125_0 : w60.cell? ⟨gb125, 0, none⟩ = some (.int .i64 ((rd_T34 t115 x10_2).f0)) := (blk_cell BK125.out 0).trans rfl
     have hfy125_0 := blk_frozen BK125.out 0
     have hcy125_1 : w60.cell? ⟨gb125, 1, none⟩ = some (.int .i64 ((rd_T34 t115 x10_2).f1)) := (blk_cell BK125.out 1).trans rfl
     have hfy125_1 := blk_frozen BK125.out 1
     have hcy125_2 : w60.cell? ⟨gb125, 2, none⟩ = some (.int .i64 ((rd_T34 t115 x10_2).f2)) := (blk_cell BK125.out 2).trans rfl
     have hfy125_2 := blk_frozen BK125.out 2
     have hcy125_3 : w60.cell? ⟨gb125, 3, none⟩ = some (.int .i64 ((rd_T34 t115 x10_2).f3)) := (blk_cell BK125.out 3).trans rfl
     have hfy125_3 := blk_frozen BK125.out 3
     have hcy125_4 : w60.cell? ⟨gb125, 4, none⟩ = some (.slice A123_4 ((rd_T34 t115 x10_2).f4).length c123_4) := (blk_cell BK125.out 4).trans rfl
     have hfy125_4 := blk_frozen BK125.out 4
     try go_wp2_with (first | (go_at_call 25; (with_reducible refine (minuetlaw0_SameInts.calls k2 _ _ ((rd_T34 t108 x10_2).f4) _ _ ((rd_T34 t115 x10_2).f4) true _ ?side1 ?side2 ?side3 ?side4 A74.out).mono ?_); (case side1 => repeat (first | exact ((Kd.R_reads' (by (with_reducible repeat (first | apply Kd.R_alloc | apply Kd.R_drewN | apply Kd.R_drew)); exact (Kd.R_mono (Kd.R_mono (Kd.R_far (p := ⟨gb125, 3, none⟩) (Kd.R_far (p := ⟨gb125, 2, none⟩) HL122_4.out (fun _ hk => hk.2) (.int .i64 (wrap64 (((rd_T34 t115 x10_2).f2) - ((rdOf ByteArray.empty y102 (Go.bits .and .i64 a1 3)).size : Int))))) (fun _ hk => hk.2) (.int .i64 (wrap64 (((rd_T34 t115 x10_2).f3) - ((rdOf ByteArray.empty y102 (Go.bits .and .i64 a1 3)).size : Int))))) (fun _ h_ => h_.1)) (fun _ h_ => h_.1)))).2.2) | (with_reducible refine Kd.C_alloc ?_ _) | (with_reducible refine Kd.C_drewN ?_ _) | (with_reducible refine Kd.C_drew ?_))); (case side2 => exact HC122_4.out); (case side3 => repeat (first | exact ((Kd.R_reads' (by (with_reducible repeat (first | apply Kd.R_alloc | apply Kd.R_drewN | apply Kd.R_drew)); exact (Kd.R_mono (Kd.R_mono (Kd.R_far (p := ⟨gb125, 3, none⟩) (Kd.R_far (p := ⟨gb125, 2, none⟩) HL123_4.out (fun _ hk => hk.2) (.int .i64 (wrap64 (((rd_T34 t115 x10_2).f2) - ((rdOf ByteArray.empty y102 (Go.bits .and .i64 a1 3)).size : Int))))) (fun _ hk => hk.2) (.int .i64 (wrap64 (((rd_T34 t115 x10_2).f3) - ((rdOf ByteArray.empty y102 (Go.bits .and .i64 a1 3)).size : Int))))) (fun _ h_ => h_.1)) (fun _ h_ => h_.1)))).2.2) | (with_reducible refine Kd.C_alloc ?_ _) | (with_reducible refine Kd.C_drewN ?_ _) | (with_reducible refine Kd.C_drew ?_))); (case side4 => exact HC123_4.out); rintro e w' ⟨rfl, ⟨nd, rfl⟩⟩))
     go_roundg k2
     case measure => have := HJ14.out; have := HK2.out; omega
     case rel => exact ⟨(wrap64 (x10_2 + 1)), (by first | rfl | (simp; done) | (simp [*]; done)), H', ⟨by have := HJ14.out; have := HK2.out; omega⟩, ⟨by (with_reducible repeat (first | apply Kd.S_alloc | apply Kd.S_drewN | apply Kd.S_drew)); exact Kd.S_mono (Kd.S_far (p := ⟨gb125, 3, none⟩) (Kd.S_far (p := ⟨gb125, 2, none⟩) HO_113002.out (fun _ hk => hk.2) (.int .i64 (wrap64 (((rd_T34 t115 x10_2).f2) - ((rdOf ByteArray.empty y102 (Go.bits .and .i64 a1 3)).size : Int))))) (fun _ hk => hk.2) (.int .i64 (wrap64 (((rd_T34 t115 x10_2).f3) - ((rdOf ByteArray.empty y102 (Go.bits .and .i64 a1 3)).size : Int))))) (fun _ hk => hk.1.1.1)⟩, ⟨by (with_reducible repeat (first | apply Kd.S_alloc | apply Kd.S_drewN | apply Kd.S_drew)); exact Kd.S_mono (Kd.S_far (p := ⟨gb125, 3, none⟩) (Kd.S_far (p := ⟨gb125, 2, none⟩) HO_120002.out (fun _ hk => hk.2) (.int .i64 (wrap64 (((rd_T34 t115 x10_2).f2) - ((rdOf ByteArray.empty y102 (Go.bits .and .i64 a1 3)).size : Int))))) (fun _ hk => hk.2) (.int .i64 (wrap64 (((rd_T34 t115 x10_2).f3) - ((rdOf ByteArray.empty y102 (Go.bits .and .i64 a1 3)).size : Int))))) (fun _ hk => hk.1.1.1)⟩, ⟨by (with_reducible repeat (first | refine blk_drewN ?_ _ | refine blk_drew ?_ | refine blk_alloc ?_ _)); refine blk_far ?_ NB112_125.out _; (with_reducible repeat (first | refine blk_drewN ?_ _ | refine blk_drew ?_ | refine blk_alloc ?_ _)); refine blk_far ?_ NB112_125.out _; (with_reducible repeat (first | refine blk_drewN ?_ _ | refine blk_drew ?_ | refine blk_alloc ?_ _)); exact BK112.out⟩, ⟨by (with_reducible repeat (first | refine blk_drewN ?_ _ | refine blk_drew ?_ | refine blk_alloc ?_ _)); refine blk_far ?_ NB119_125.out _; (with_reducible repeat (first | refine blk_drewN ?_ _ | refine blk_drew ?_ | refine blk_alloc ?_ _)); refine blk_far ?_ NB119_125.out _; (with_reducible repeat (first | refine blk_drewN ?_ _ | refine blk_drew ?_ | refine blk_alloc ?_ _)); exact BK119.out⟩, ⟨by repeat (first | (with_reducible first | exact HB.out | apply below_alloc | apply pw_below_drewN | apply below_drew1 | refine below_set ?_ GE112.out | refine below_set ?_ GE119.out | refine below_set ?_ GE124.out | refine below_set ?_ GE125.out) | exact HB.out)⟩⟩
/-- THE ONE PURE STATEMENT of minuetlaw11_ParseBlanks: yours. -/
def minuetlaw11_ParseBlanks.Pure : Prop := ∀ (a0 : ByteArray) (a1 : Int), a0.size ≤ 140737488351232 → (Lit.int .i64 a1).wf = true → ∃ k, minuetlaw11_ParseBlanks.f k a0 a1 = some true
theorem minuetlaw11_ParseBlanks.walk (P : minuetlaw11_ParseBlanks.Pure) (a0 : ByteArray) (a1 : Int) (w : World) (hm_ : MaxOk w) (w0 : a0.size ≤ 140737488351232) (w1 : (Lit.int .i64 a1).wf = true) :
 Calls Try.prog 11 #[.string a0, .int .i64 a1] w fun e w' => e = .returned (.bool true) ∧ Below w.heap.size w w' := by
 obtain ⟨k, h⟩ := P a0 a1 w0 w1
 refine (minuetlaw11_ParseBlanks.calls k a0 a1 true w hm_ h).mono ?_
 rintro e w' ⟨rfl, hd⟩
 exact ⟨rfl, hd⟩

end Go.Proofs.Ytehojohacombkaa.G
