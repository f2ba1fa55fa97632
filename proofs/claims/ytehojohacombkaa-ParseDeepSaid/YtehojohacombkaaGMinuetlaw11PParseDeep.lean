-- Laid by this session's own program gprint.py (wip/tools), out of the kit's print and of texts of this session. Lean checks it.
import Derived.Test.YtehojohacombkaaGx0
import Derived.Test.YtehojohacombkaaGMinuetlaw0PNum
import Derived.Test.YtehojohacombkaaGParsePParse
import Derived.Test.YtehojohacombkaaGMinuetlaw11qawake
namespace Go.Proofs.Ytehojohacombkaa.G
open Go.RowKit Go.Proofs.YtehojohacombkaaW.PrintWords Go.Proofs.YtehojohacombkaaW.PrintLast Go.Proofs.YtehojohacombkaaW.PrintMore
attribute [local go_sem] max2_int min2_int max_two min_two max_three min_three max_four min_four   -- for this text's walks alone
set_option linter.unusedVariables false
set_option linter.unusedSimpArgs false

/-! ### minuetlaw11_ParseDeep: function 8 -/
mutual
def minuetlaw11_ParseDeep.l0 : Nat → Bool → Int → ByteArray → ByteArray → Int → Option (Bool)
 | 0, _, _, _, _, _ => none
 | k + 1, x1, x5, x6, x7, x8 => if x8 < x5 then (if x1 = true then (if x6.size + 5 ≤ 9223372036854775807 then (if 1 + x7.size ≤ 9223372036854775807 then (minuetlaw11_ParseDeep.l0 k x1 x5 (x6 ++ (⟨#[123, 34, 97, 34, 58]⟩ : ByteArray)) ((⟨#[125]⟩ : ByteArray) ++ x7) (wrap64 (x8 + 1))) else (none)) else (none)) else (if x6.size + 1 ≤ 9223372036854775807 then (if 1 + x7.size ≤ 9223372036854775807 then (minuetlaw11_ParseDeep.l0 k x1 x5 (x6 ++ (⟨#[91]⟩ : ByteArray)) ((⟨#[93]⟩ : ByteArray) ++ x7) (wrap64 (x8 + 1))) else (none)) else (none))) else (if x1 = true then (if x6.size + 1 ≤ 9223372036854775807 then (minuetlaw11_ParseDeep.j1 k x5 (x6 ++ (⟨#[49]⟩ : ByteArray)) x7) else (none)) else (minuetlaw11_ParseDeep.j1 k x5 x6 x7))
def minuetlaw11_ParseDeep.j1 : Nat → Int → ByteArray → ByteArray → Option (Bool)
 | 0, _, _, _ => none
 | k + 1, x5, x6, x7 => if x6.size + x7.size ≤ 9223372036854775807 then ((parse_Parse.f (x6 ++ x7)).bind fun bt102 => (minuetlaw11_ParseDeep.l1 k x5 bt102.2.2.2 0 0 0 bt102.1 bt102.2.1 bt102.2.2.1)) else (none)
def minuetlaw11_ParseDeep.l1 : Nat → Int → Int → Int → Int → Int → Int → Int → List (S34) → Option (Bool)
 | 0, _, _, _, _, _, _, _, _ => none
 | k + 1, x5, x10, x11, x12, x13, x109000, x109001, x109002 => if x13 < (x109002.length : Int) then (if 0 ≤ x13 then (if ((rd_T34 x109002 x13).f1) = 1 then (minuetlaw11_ParseDeep.j3 k x5 x10 x11 x12 x13 ((rd_T34 x109002 x13).f1) (((rd_T34 x109002 x13).f1) == 1) x109000 x109001 x109002) else (minuetlaw11_ParseDeep.j3 k x5 x10 x11 x12 x13 ((rd_T34 x109002 x13).f1) (((rd_T34 x109002 x13).f1) == 2) x109000 x109001 x109002)) else (none)) else ((minuetlaw0_Num.f x10).bind fun t109 => (if t109 = 0 then (if x11 = (mn x5 12) then (some ((x12 == 0) == (decide (x5 ≤ 12)))) else (none)) else (none)))
def minuetlaw11_ParseDeep.j3 : Nat → Int → Int → Int → Int → Int → Int → Bool → Int → Int → List (S34) → Option (Bool)
 | 0, _, _, _, _, _, _, _, _, _, _ => none
 | k + 1, x5, x10, x11, x12, x13, x55, x56, x109000, x109001, x109002 => if x56 = true then (minuetlaw11_ParseDeep.l1 k x5 x10 (wrap64 (x11 + 1)) x12 (wrap64 (x13 + 1)) x109000 x109001 x109002) else (if x55 = 7 then (minuetlaw11_ParseDeep.l1 k x5 x10 x11 (wrap64 (x12 + 1)) (wrap64 (x13 + 1)) x109000 x109001 x109002) else (minuetlaw11_ParseDeep.l1 k x5 x10 x11 x12 (wrap64 (x13 + 1)) x109000 x109001 x109002))
end
def minuetlaw11_ParseDeep.f (k : Nat) (a0 : Int) (a1 : Bool) : Option (Bool) := (minuetlaw11_awake.f k).bind fun t101 => (if t101 = true then (minuetlaw11_ParseDeep.l0 k a1 (wrap64 (1 + (Go.bits .and .i64 a0 15))) (⟨#[]⟩ : ByteArray) (⟨#[]⟩ : ByteArray) 0) else (none))
theorem minuetlaw11_ParseDeep.mono_l : ∀ k, (∀ y0 y1 y2 y3 y4, LeO (minuetlaw11_ParseDeep.l0 k y0 y1 y2 y3 y4) (minuetlaw11_ParseDeep.l0 (k + 1) y0 y1 y2 y3 y4)) ∧ (∀ y0 y1 y2, LeO (minuetlaw11_ParseDeep.j1 k y0 y1 y2) (minuetlaw11_ParseDeep.j1 (k + 1) y0 y1 y2)) ∧ (∀ y0 y1 y2 y3 y4 y5 y6 y7, LeO (minuetlaw11_ParseDeep.l1 k y0 y1 y2 y3 y4 y5 y6 y7) (minuetlaw11_ParseDeep.l1 (k + 1) y0 y1 y2 y3 y4 y5 y6 y7)) ∧ (∀ y0 y1 y2 y3 y4 y5 y6 y7 y8 y9, LeO (minuetlaw11_ParseDeep.j3 k y0 y1 y2 y3 y4 y5 y6 y7 y8 y9) (minuetlaw11_ParseDeep.j3 (k + 1) y0 y1 y2 y3 y4 y5 y6 y7 y8 y9))
 | 0 => ⟨fun _ _ _ _ _ r h => by simp [minuetlaw11_ParseDeep.l0] at h, fun _ _ _ r h => by simp [minuetlaw11_ParseDeep.j1] at h, fun _ _ _ _ _ _ _ _ r h => by simp [minuetlaw11_ParseDeep.l1] at h, fun _ _ _ _ _ _ _ _ _ _ r h => by simp [minuetlaw11_ParseDeep.j3] at h⟩
 | k + 1 => by
  obtain ⟨ih0, ih1, ih2, ih3⟩ := minuetlaw11_ParseDeep.mono_l k
  refine ⟨?_, ?_, ?_, ?_⟩
  · intro y0 y1 y2 y3 y4
    unfold minuetlaw11_ParseDeep.l0
    repeat' first
    | (with_reducible exact ih0 _ _ _ _ _)
    | (with_reducible exact ih1 _ _ _)
    | (with_reducible exact ih2 _ _ _ _ _ _ _ _)
    | (with_reducible exact ih3 _ _ _ _ _ _ _ _ _ _)
    | (with_reducible exact minuetlaw11_awake.mono _)
    | (with_reducible exact LeO.refl _)
    | (with_reducible exact LeO.none _)
    | (with_reducible refine LeO.ite ?_ ?_)
    | (with_reducible refine LeO.bind ?_ (fun _ => ?_))
    | exact ih0 _ _ _ _ _
    | exact ih1 _ _ _
    | exact ih2 _ _ _ _ _ _ _ _
    | exact ih3 _ _ _ _ _ _ _ _ _ _
    | exact minuetlaw11_awake.mono _
    | exact LeO.none _
    | refine LeO.ite ?_ ?_
    | refine LeO.bind ?_ (fun _ => ?_)
  · intro y0 y1 y2
    unfold minuetlaw11_ParseDeep.j1
    repeat' first
    | (with_reducible exact ih0 _ _ _ _ _)
    | (with_reducible exact ih1 _ _ _)
    | (with_reducible exact ih2 _ _ _ _ _ _ _ _)
    | (with_reducible exact ih3 _ _ _ _ _ _ _ _ _ _)
    | (with_reducible exact minuetlaw11_awake.mono _)
    | (with_reducible exact LeO.refl _)
    | (with_reducible exact LeO.none _)
    | (with_reducible refine LeO.ite ?_ ?_)
    | (with_reducible refine LeO.bind ?_ (fun _ => ?_))
    | exact ih0 _ _ _ _ _
    | exact ih1 _ _ _
    | exact ih2 _ _ _ _ _ _ _ _
    | exact ih3 _ _ _ _ _ _ _ _ _ _
    | exact minuetlaw11_awake.mono _
    | exact LeO.none _
    | refine LeO.ite ?_ ?_
    | refine LeO.bind ?_ (fun _ => ?_)
  · intro y0 y1 y2 y3 y4 y5 y6 y7
    unfold minuetlaw11_ParseDeep.l1
    repeat' first
    | (with_reducible exact ih0 _ _ _ _ _)
    | (with_reducible exact ih1 _ _ _)
    | (with_reducible exact ih2 _ _ _ _ _ _ _ _)
    | (with_reducible exact ih3 _ _ _ _ _ _ _ _ _ _)
    | (with_reducible exact minuetlaw11_awake.mono _)
    | (with_reducible exact LeO.refl _)
    | (with_reducible exact LeO.none _)
    | (with_reducible refine LeO.ite ?_ ?_)
    | (with_reducible refine LeO.bind ?_ (fun _ => ?_))
    | exact ih0 _ _ _ _ _
    | exact ih1 _ _ _
    | exact ih2 _ _ _ _ _ _ _ _
    | exact ih3 _ _ _ _ _ _ _ _ _ _
    | exact minuetlaw11_awake.mono _
    | exact LeO.none _
    | refine LeO.ite ?_ ?_
    | refine LeO.bind ?_ (fun _ => ?_)
  · intro y0 y1 y2 y3 y4 y5 y6 y7 y8 y9
    unfold minuetlaw11_ParseDeep.j3
    repeat' first
    | (with_reducible exact ih0 _ _ _ _ _)
    | (with_reducible exact ih1 _ _ _)
    | (with_reducible exact ih2 _ _ _ _ _ _ _ _)
    | (with_reducible exact ih3 _ _ _ _ _ _ _ _ _ _)
    | (with_reducible exact minuetlaw11_awake.mono _)
    | (with_reducible exact LeO.refl _)
    | (with_reducible exact LeO.none _)
    | (with_reducible refine LeO.ite ?_ ?_)
    | (with_reducible refine LeO.bind ?_ (fun _ => ?_))
    | exact ih0 _ _ _ _ _
    | exact ih1 _ _ _
    | exact ih2 _ _ _ _ _ _ _ _
    | exact ih3 _ _ _ _ _ _ _ _ _ _
    | exact minuetlaw11_awake.mono _
    | exact LeO.none _
    | refine LeO.ite ?_ ?_
    | refine LeO.bind ?_ (fun _ => ?_)
theorem minuetlaw11_ParseDeep.mono : ∀ a0 a1 k, LeO (minuetlaw11_ParseDeep.f k a0 a1) (minuetlaw11_ParseDeep.f (k + 1) a0 a1) := by
 intro a0 a1 k
 obtain ⟨ih0, ih1, ih2, ih3⟩ := minuetlaw11_ParseDeep.mono_l k
 unfold minuetlaw11_ParseDeep.f
 repeat' first
  | (with_reducible exact ih0 _ _ _ _ _)
  | (with_reducible exact ih1 _ _ _)
  | (with_reducible exact ih2 _ _ _ _ _ _ _ _)
  | (with_reducible exact ih3 _ _ _ _ _ _ _ _ _ _)
  | (with_reducible exact minuetlaw11_awake.mono _)
  | (with_reducible exact LeO.refl _)
  | (with_reducible exact LeO.none _)
  | (with_reducible refine LeO.ite ?_ ?_)
  | (with_reducible refine LeO.bind ?_ (fun _ => ?_))
  | exact ih0 _ _ _ _ _
  | exact ih1 _ _ _
  | exact ih2 _ _ _ _ _ _ _ _
  | exact ih3 _ _ _ _ _ _ _ _ _ _
  | exact minuetlaw11_awake.mono _
  | exact LeO.none _
  | refine LeO.ite ?_ ?_
  | refine LeO.bind ?_ (fun _ => ?_)
set_option maxHeartbeats 8000000 in
set_option maxRecDepth 100000 in
theorem minuetlaw11_ParseDeep.calls (k : Nat) (a0 : Int) (a1 : Bool) (r : Bool) (w : World) (hm_ : MaxOk w) (h : minuetlaw11_ParseDeep.f k a0 a1 = some r) :
 Calls Try.prog 8 #[.int .i64 a0, .bool a1] w fun e w' => e = .returned (.bool r) ∧ Below w.heap.size w w' := by
 have HM_ := Aside0.mk hm_
 clear hm_
 have hu28 := Try.underlying28
 have HB := Aside0.mk (Below.refl w.heap.size w)
 have H : ((minuetlaw11_awake.f k).bind fun t101 => (if t101 = true then (minuetlaw11_ParseDeep.l0 k a1 (wrap64 (1 + (Go.bits .and .i64 a0 15))) (⟨#[]⟩ : ByteArray) (⟨#[]⟩ : ByteArray) 0) else (none))) = some r := h
 clear h
 replace H := Option.bind_eq_some_iff.mp H
 obtain ⟨t101, A30, H⟩ := H
 replace H : (if t101 = true then (minuetlaw11_ParseDeep.l0 k a1 (wrap64 (1 + (Go.bits .and .i64 a0 15))) (⟨#[]⟩ : ByteArray) (⟨#[]⟩ : ByteArray) 0) else (none)) = some r := H
 have A3 := Aside0.mk A30
 clear A30
 by_cases c4 : t101 = true
 · subst c4
   have H1 : (minuetlaw11_ParseDeep.l0 k a1 (wrap64 (1 + (Go.bits .and .i64 a0 15))) (⟨#[]⟩ : ByteArray) (⟨#[]⟩ : ByteArray) 0) = some r := by rw [if_pos rfl] at H; exact H
   clear H
   have H := H1
   clear H1
   have H' := Aside0.mk H
   clear H
   go_enter Try.func8, Try.ntmps8
   go_wp2_with (first | ((with_reducible refine gate_callee (f := 19) rfl ?_); refine goesL_ (some 14) rfl rfl Try.func19 (by kernel_rfl) rfl #[] rfl (by (try simp only [List.map_toArray, List.map_cons, List.map_nil]); first | done | rfl | (simp only [List.length_drop, List.length_take]; rfl)) ?_; (with_reducible refine (minuetlaw11_awake.calls k  true _ (MaxOk.of HM_.out (by repeat (first | (with_reducible first | exact HB.out | apply below_alloc | apply pw_below_drewN | apply below_drew1 | refine below_set ?_ GE108.out) | exact HB.out))) A3.out).mono ?_); rintro e w5 ⟨rfl, hb⟩; refine ⟨_, rfl, ?_⟩; have n0_ := Aside0.mk (below_step (by repeat (first | (with_reducible first | exact HB.out | apply below_alloc | apply pw_below_drewN | apply below_drew1) | exact HB.out)) hb); clear HB; have HB := n0_; clear n0_; (try clear hb); (try clear hb2); (try clear hk); (try clear hi)))
   go_loopg [6, 7, 8] k (fun kq v6 v7 v8 w' => ∃ (x6_1 : ByteArray) (x7_1 : ByteArray) (x8_1 : Int), v6 = .string x6_1 ∧ v7 = .string x7_1 ∧ v8 = .int .i64 x8_1 ∧ Aside0 (minuetlaw11_ParseDeep.l0 kq a1 (wrap64 (1 + (Go.bits .and .i64 a0 15))) x6_1 x7_1 x8_1 = some r) ∧ Aside0 (kq ≤ k) ∧ Aside0 (Below w.heap.size w w'))
   case atStart => exact ⟨((⟨#[]⟩ : ByteArray)), ((⟨#[]⟩ : ByteArray)), (0), (by first | rfl | (simp; done) | (simp [*]; done)), (by first | rfl | (simp; done) | (simp [*]; done)), (by first | rfl | (simp; done) | (simp [*]; done)), H', ⟨Nat.le_refl _⟩, ⟨by repeat (first | (with_reducible first | exact HB.out | apply below_alloc | apply pw_below_drewN | apply below_drew1) | exact HB.out)⟩⟩
   case round =>
    clear H'
    try clear c1
    try clear p2
    try clear c4
    obtain ⟨x6_1, x7_1, x8_1, rfl, rfl, rfl, HA, HK1, HB⟩ := hrel
    cases gk with
    | zero => exact absurd HA.out (by simp [minuetlaw11_ParseDeep.l0])
    | succ k1 =>
     have H := HA.out
     clear HA
     simp only [minuetlaw11_ParseDeep.l0] at H
     by_cases c6 : x8_1 < (wrap64 (1 + (Go.bits .and .i64 a0 15)))
     · rw [if_pos c6] at H
       have c6b0 : decide (x8_1 < (wrap64 (1 + (Go.bits .and .i64 a0 15)))) = true := decide_eq_true c6
       clear c6
       by_cases c7 : a1 = true
       · subst c7
         have H1 : (if x6_1.size + 5 ≤ 9223372036854775807 then (if 1 + x7_1.size ≤ 9223372036854775807 then (minuetlaw11_ParseDeep.l0 k1 true (wrap64 (1 + (Go.bits .and .i64 a0 15))) (x6_1 ++ (⟨#[123, 34, 97, 34, 58]⟩ : ByteArray)) ((⟨#[125]⟩ : ByteArray) ++ x7_1) (wrap64 (x8_1 + 1))) else (none)) else (none)) = some r := by rw [if_pos rfl] at H; exact H
         clear H
         have H := H1
         clear H1
         by_cases c8 : x6_1.size + 5 ≤ 9223372036854775807
         · rw [if_pos c8] at H
           have c8b0 := eq_true c8
           have c8b1 : decide (x6_1.size + 5 ≤ 9223372036854775807) = true := decide_eq_true c8
           try have c8b2 : (9223372036854775807 < x6_1.size + 5) = False := eq_false (Nat.not_lt.2 c8)
           by_cases c9 : 1 + x7_1.size ≤ 9223372036854775807
           · rw [if_pos c9] at H
             have c9b0 := eq_true c9
             have c9b1 : decide (1 + x7_1.size ≤ 9223372036854775807) = true := decide_eq_true c9
             try have c9b2 : (9223372036854775807 < 1 + x7_1.size) = False := eq_false (Nat.not_lt.2 c9)
             have H' := Aside0.mk H
             clear H
             go_wp2
             go_roundg k1
             case measure => have := HK1.out; omega
             case rel => exact ⟨(x6_1 ++ (⟨#[123, 34, 97, 34, 58]⟩ : ByteArray)), ((⟨#[125]⟩ : ByteArray) ++ x7_1), (wrap64 (x8_1 + 1)), (by first | rfl | (simp; done) | (simp [*]; done)), (by first | rfl | (simp; done) | (simp [*]; done)), (by first | rfl | (simp; done) | (simp [*]; done)), H', ⟨by have := HK1.out; omega⟩, ⟨by repeat (first | (with_reducible first | exact HB.out | apply below_alloc | apply pw_below_drewN | apply below_drew1) | exact HB.out)⟩⟩
           · rw [if_neg c9] at H
             exact absurd H (by simp)
         · rw [if_neg c8] at H
           exact absurd H (by simp)
       · replace c7 := Bool.eq_false_iff.mpr c7
         subst c7
         have H1 : (if x6_1.size + 1 ≤ 9223372036854775807 then (if 1 + x7_1.size ≤ 9223372036854775807 then (minuetlaw11_ParseDeep.l0 k1 false (wrap64 (1 + (Go.bits .and .i64 a0 15))) (x6_1 ++ (⟨#[91]⟩ : ByteArray)) ((⟨#[93]⟩ : ByteArray) ++ x7_1) (wrap64 (x8_1 + 1))) else (none)) else (none)) = some r := by rw [if_neg (show ¬ (false = true) by decide)] at H; exact H
         clear H
         have H := H1
         clear H1
         by_cases c10 : x6_1.size + 1 ≤ 9223372036854775807
         · rw [if_pos c10] at H
           have c10b0 := eq_true c10
           have c10b1 : decide (x6_1.size + 1 ≤ 9223372036854775807) = true := decide_eq_true c10
           try have c10b2 : (9223372036854775807 < x6_1.size + 1) = False := eq_false (Nat.not_lt.2 c10)
           by_cases c11 : 1 + x7_1.size ≤ 9223372036854775807
           · rw [if_pos c11] at H
             have c11b0 := eq_true c11
             have c11b1 : decide (1 + x7_1.size ≤ 9223372036854775807) = true := decide_eq_true c11
             try have c11b2 : (9223372036854775807 < 1 + x7_1.size) = False := eq_false (Nat.not_lt.2 c11)
             have H' := Aside0.mk H
             clear H
             go_wp2
             go_roundg k1
             case measure => have := HK1.out; omega
             case rel => exact ⟨(x6_1 ++ (⟨#[91]⟩ : ByteArray)), ((⟨#[93]⟩ : ByteArray) ++ x7_1), (wrap64 (x8_1 + 1)), (by first | rfl | (simp; done) | (simp [*]; done)), (by first | rfl | (simp; done) | (simp [*]; done)), (by first | rfl | (simp; done) | (simp [*]; done)), H', ⟨by have := HK1.out; omega⟩, ⟨by repeat (first | (with_reducible first | exact HB.out | apply below_alloc | apply pw_below_drewN | apply below_drew1) | exact HB.out)⟩⟩
           · rw [if_neg c11] at H
             exact absurd H (by simp)
         · rw [if_neg c10] at H
           exact absurd H (by simp)
     · rw [if_neg c6] at H
       have c6b0 : decide (x8_1 < (wrap64 (1 + (Go.bits .and .i64 a0 15)))) = false := decide_eq_false c6
       clear c6
       have HC12 := Aside0.mk H
       clear H
       go_upto_if 33 with (fail)
       go_cut [6] (fun v6 wc => ∃ (kq : Nat) (x6_11 : ByteArray), v6 = .string x6_11 ∧ Aside0 (minuetlaw11_ParseDeep.j1 kq (wrap64 (1 + (Go.bits .and .i64 a0 15))) x6_11 x7_1 = some r) ∧ Aside0 (kq ≤ k1) ∧ Aside0 (Below w.heap.size w wc))
       case first =>
        have H := HC12.out
        clear HC12
        by_cases c13 : a1 = true
        · subst c13
          have H1 : (if x6_1.size + 1 ≤ 9223372036854775807 then (minuetlaw11_ParseDeep.j1 k1 (wrap64 (1 + (Go.bits .and .i64 a0 15))) (x6_1 ++ (⟨#[49]⟩ : ByteArray)) x7_1) else (none)) = some r := by rw [if_pos rfl] at H; exact H
          clear H
          have H := H1
          clear H1
          by_cases c14 : x6_1.size + 1 ≤ 9223372036854775807
          · rw [if_pos c14] at H
            have c14b0 := eq_true c14
            have c14b1 : decide (x6_1.size + 1 ≤ 9223372036854775807) = true := decide_eq_true c14
            try have c14b2 : (9223372036854775807 < x6_1.size + 1) = False := eq_false (Nat.not_lt.2 c14)
            have H' := Aside0.mk H
            clear H
            go_wp2
            go_meet
            case rel => exact ⟨_, (x6_1 ++ (⟨#[49]⟩ : ByteArray)), (by first | rfl | (simp; done) | (simp [*]; done)), H', ⟨by have := HK1.out; first | omega | exact Nat.le_refl _⟩, ⟨by repeat (first | (with_reducible first | exact HB.out | apply below_alloc | apply pw_below_drewN | apply below_drew1) | exact HB.out)⟩⟩
          · rw [if_neg c14] at H
            exact absurd H (by simp)
        · replace c13 := Bool.eq_false_iff.mpr c13
          subst c13
          have H1 : (minuetlaw11_ParseDeep.j1 k1 (wrap64 (1 + (Go.bits .and .i64 a0 15))) x6_1 x7_1) = some r := by rw [if_neg (show ¬ (false = true) by decide)] at H; exact H
          clear H
          have H := H1
          clear H1
          have H' := Aside0.mk H
          clear H
          go_wp2
          go_meet
          case rel => exact ⟨_, (x6_1), (by first | rfl | (simp; done) | (simp [*]; done)), H', ⟨by have := HK1.out; first | omega | exact Nat.le_refl _⟩, ⟨by repeat (first | (with_reducible first | exact HB.out | apply below_alloc | apply pw_below_drewN | apply below_drew1) | exact HB.out)⟩⟩
       case rest =>
        clear HC12
        try clear c1
        try clear p2
        try clear c4
        try clear c6
        try clear c6b0
        try clear p6
        try clear c7
        try clear c8
        try clear c8b0
        try clear c8b1
        try clear c8b2
        try clear c9
        try clear c9b0
        try clear c9b1
        try clear c9b2
        try clear c10
        try clear c10b0
        try clear c10b1
        try clear c10b2
        try clear c11
        try clear c11b0
        try clear c11b1
        try clear c11b2
        try clear c13
        try clear c14
        try clear c14b0
        try clear c14b1
        try clear c14b2
        try clear p2
        obtain ⟨kq, x6_11, rfl, HA, HJ11, HB⟩ := hcut
        cases kq with
        | zero => exact absurd HA.out (by simp [minuetlaw11_ParseDeep.j1])
        | succ kj11 =>
         have H := HA.out
         clear HA
         simp only [minuetlaw11_ParseDeep.j1] at H
         by_cases c15 : x6_11.size + x7_1.size ≤ 9223372036854775807
         · rw [if_pos c15] at H
           have c15b0 := eq_true c15
           have c15b1 : decide (x6_11.size + x7_1.size ≤ 9223372036854775807) = true := decide_eq_true c15
           try have c15b2 : (9223372036854775807 < x6_11.size + x7_1.size) = False := eq_false (Nat.not_lt.2 c15)
           replace H := Option.bind_eq_some_iff.mp H
           obtain ⟨⟨t102, t103, t104, t107⟩, A160, H⟩ := H
           replace H : (minuetlaw11_ParseDeep.l1 kj11 (wrap64 (1 + (Go.bits .and .i64 a0 15))) t107 0 0 0 t102 t103 t104) = some r := H
           have A16 := Aside0.mk A160
           clear A160
           have H' := Aside0.mk H
           clear H
           go_wp2_with (first | ((with_reducible refine gate_callee (f := 14) rfl ?_); refine goesL_ (some 40) rfl rfl Try.func14 (by kernel_rfl) rfl #[.string (x6_11 ++ x7_1)] rfl (by (try simp only [List.map_toArray, List.map_cons, List.map_nil]); first | done | rfl | (simp only [List.length_drop, List.length_take]; rfl)) ?_; (with_reducible refine (parse_Parse.calls (x6_11 ++ x7_1) t102 t103 t104 t107 _ (MaxOk.of HM_.out (by repeat (first | (with_reducible first | exact HB.out | apply below_alloc | apply pw_below_drewN | apply below_drew1 | refine below_set ?_ GE108.out) | exact HB.out))) A16.out).mono ?_); rintro e w17 ⟨v105, rfl, ho0, hb⟩; refine ⟨_, rfl, ?_⟩; have n0_ := Aside0.mk (Kd.S_lower ho0 (below_size (by repeat (first | (with_reducible first | exact HB.out | apply below_alloc | apply pw_below_drewN | apply below_drew1) | exact HB.out)))); have n1_ := Aside0.mk (below_step (by repeat (first | (with_reducible first | exact HB.out | apply below_alloc | apply pw_below_drewN | apply below_drew1) | exact HB.out)) hb); clear HB; have HO106 := n0_; have HB := n1_; clear n0_ n1_; (try clear hb); (try clear hb2); (try clear hk); (try clear hi); (try clear ho0)) | ((with_reducible refine gate_dst (N := 9) rfl ?_); (try (refine gate_guard (by rfl) ?_; dsimp only)); refine box_event ?hg (N := 9) ?hd (cs := #[.int .i64 0, .int .i64 0, .slice none 0 0]) (t := 28) ?hr ?_; (case hd => rfl); (case hg => rfl); (case hr => first | (go_simp; done) | (go_simp; rfl)); intro gb108 hg w18 hbox hb; have n0_ := Aside0.mk (Kd.S_below (by (with_reducible repeat (first | apply Kd.S_alloc | apply Kd.S_drewN | apply Kd.S_drew)); exact HO106.out) hb); have n1_ := Aside0.mk (below_step (by repeat (first | (with_reducible first | exact HB.out | apply below_alloc | apply pw_below_drewN | apply below_drew1) | exact HB.out)) hb); have n2_ := Aside0.mk (hbox); have n3_ := Aside0.mk ((by rw [hg]; exact (below_size (by repeat (first | (with_reducible first | exact HB.out | apply below_alloc | apply pw_below_drewN | apply below_drew1) | exact HB.out))) : w.heap.size ≤ gb108)); have n4_ := Aside0.mk ((by rw [hg]; exact (below_size (by repeat (first | (with_reducible first | exact HB.out | apply below_alloc | apply pw_below_drewN | apply below_drew1) | exact HB.out))) : w.heap.size ≤ gb108)); clear HO106; clear HB; have HO106 := n0_; have HB := n1_; have BK108 := n2_; have GW108 := n3_; have GE108 := n4_; clear n0_ n1_ n2_ n3_ n4_; clear hb hbox hg; have hcz19_0 : w18.cell? ⟨gb108, 0, none⟩ = some (.int .i64 0) := (blk_cell BK108.out 0).trans rfl; have hcz19_1 : w18.cell? ⟨gb108, 1, none⟩ = some (.int .i64 0) := (blk_cell BK108.out 1).trans rfl; have hcz19_2 : w18.cell? ⟨gb108, 2, none⟩ = some (.slice none 0 0) := (blk_cell BK108.out 2).trans rfl; have hfz19_0 := blk_frozen BK108.out 0; have hfz19_1 := blk_frozen BK108.out 1; have hfz19_2 := blk_frozen BK108.out 2; obtain ⟨Ao20, co20, eo20⟩ := Kd.S_slice HO106.out; subst eo20))
           go_loopg [11, 12, 13] kj11 (fun kq v11 v12 v13 w' => ∃ (x11_3 : Int) (x12_3 : Int) (x13_3 : Int), v11 = .int .i64 x11_3 ∧ v12 = .int .i64 x12_3 ∧ v13 = .int .i64 x13_3 ∧ Aside0 (minuetlaw11_ParseDeep.l1 kq (wrap64 (1 + (Go.bits .and .i64 a0 15))) t107 x11_3 x12_3 x13_3 t102 t103 t104 = some r) ∧ Aside0 (kq ≤ kj11) ∧ Aside0 (Kd.S k34 34 w' w.heap.size (fun _ => True) (.slice Ao20 t104.length co20) t104) ∧ Aside0 (w'.heap[gb108]? = some (.cells #[.int .i64 t102, .int .i64 t103, (.slice Ao20 t104.length co20)] 28 (0, 0))) ∧ Aside0 (Below w.heap.size w w'))
           case atStart => exact ⟨(0), (0), (0), (by first | rfl | (simp; done) | (simp [*]; done)), (by first | rfl | (simp; done) | (simp [*]; done)), (by first | rfl | (simp; done) | (simp [*]; done)), H', ⟨Nat.le_refl _⟩, ⟨by (with_reducible repeat (first | apply Kd.S_alloc | apply Kd.S_drewN | apply Kd.S_drew)); exact Kd.S_mono (Kd.S_far (p := ⟨gb108, 2, none⟩) (Kd.S_far (p := ⟨gb108, 1, none⟩) (Kd.S_far (p := ⟨gb108, 0, none⟩) (Kd.S_types HO106.out BK108.out (by decide)) (fun _ hk => hk.2) (.int .i64 t102)) (fun _ hk => hk.2) (.int .i64 t103)) (fun _ hk => hk.2) (.slice Ao20 t104.length co20)) (fun _ hk => trivial)⟩, ⟨by (with_reducible repeat (first | refine blk_drewN ?_ _ | refine blk_drew ?_ | refine blk_alloc ?_ _)); refine blk_put (cs := #[.int .i64 t102, .int .i64 t103, .slice none 0 0]) ?_ 2 _ rfl; (with_reducible repeat (first | refine blk_drewN ?_ _ | refine blk_drew ?_ | refine blk_alloc ?_ _)); refine blk_put (cs := #[.int .i64 t102, .int .i64 0, .slice none 0 0]) ?_ 1 _ rfl; (with_reducible repeat (first | refine blk_drewN ?_ _ | refine blk_drew ?_ | refine blk_alloc ?_ _)); refine blk_put (cs := #[.int .i64 0, .int .i64 0, .slice none 0 0]) ?_ 0 _ rfl; (with_reducible repeat (first | refine blk_drewN ?_ _ | refine blk_drew ?_ | refine blk_alloc ?_ _)); exact BK108.out⟩, ⟨by repeat (first | (with_reducible first | exact HB.out | apply below_alloc | apply pw_below_drewN | apply below_drew1 | refine below_set ?_ GE108.out) | exact HB.out)⟩⟩
           case round =>
            clear H'
            try clear c1
            try clear p2
            try clear c4
            try clear c6
            try clear c6b0
            try clear p6
            try clear c7
            try clear c8
            try clear c8b0
            try clear c8b1
            try clear c8b2
            try clear c9
            try clear c9b0
            try clear c9b1
            try clear c9b2
            try clear c10
            try clear c10b0
            try clear c10b1
            try clear c10b2
            try clear c11
            try clear c11b0
            try clear c11b1
            try clear c11b2
            try clear c13
            try clear c14
            try clear c14b0
            try clear c14b1
            try clear c14b2
            try clear c15
            try clear c15b0
            try clear c15b1
            try clear c15b2
            try clear c19
            try clear hcz19_0
            try clear hcz19_1
            try clear hcz19_2
            try clear hfz19_0
            try clear hfz19_1
            try clear hfz19_2
            try clear p2
            try clear p6
            obtain ⟨x11_3, x12_3, x13_3, rfl, rfl, rfl, HA, HK3, HO_109002, BK108, HB⟩ := hrel
            cases gk with
            | zero => exact absurd HA.out (by simp [minuetlaw11_ParseDeep.l1])
            | succ k3 =>
             have H := HA.out
             clear HA
             simp only [minuetlaw11_ParseDeep.l1] at H
             by_cases c21 : x13_3 < (t104.length : Int)
             · rw [if_pos c21] at H
               have c21b0 : decide (x13_3 < (t104.length : Int)) = true := decide_eq_true c21
               clear c21
               by_cases c22 : 0 ≤ x13_3
               · rw [if_pos c22] at H
                 have c22b0 : decide (0 ≤ x13_3) = true := decide_eq_true c22
                 clear c22
                 have HC23 := Aside0.mk H
                 clear H
                 have hcz24_0 : wr.cell? ⟨gb108, 0, none⟩ = some (.int .i64 t102) := (blk_cell BK108.out 0).trans rfl
                 have hcz24_1 : wr.cell? ⟨gb108, 1, none⟩ = some (.int .i64 t103) := (blk_cell BK108.out 1).trans rfl
                 have hcz24_2 : wr.cell? ⟨gb108, 2, none⟩ = some (.slice Ao20 t104.length co20) := (blk_cell BK108.out 2).trans rfl
                 have hfz24_0 := blk_frozen BK108.out 0
                 have hfz24_1 := blk_frozen BK108.out 1
                 have hfz24_2 := blk_frozen BK108.out 2
                 have p110 : 0 ≤ (x13_3 : Int) := of_decide_eq_true (by first | (with_reducible assumption) | assumption)
                 have q110 : x13_3 < (t104.length : Int) := of_decide_eq_true (by first | (with_reducible assumption) | assumption)
                 obtain ⟨ad110, A110_4, c110_4, e110, hx110_0, hx110_1, hx110_2, hx110_3, hx110_4, hl110_4, hi110_4⟩ := at_T34 (Kd.S_reads' HO_109002.out).2.2 x13_3 p110 q110
                 cases e110
                 obtain ⟨ce110, hce110, hMe110, hcc110⟩ := Kd.S_get HO_109002.out z34 x13_3 p110 (by first | exact q110 | exact of_decide_eq_true (by first | (with_reducible assumption) | assumption) | (have e_ := (Kd.S_reads' HO_109002.out).1; omega))
                 obtain ⟨ve110_4, rfl, ge110_4⟩ := k34_openM hMe110
                 have hv110_4 := hcc110 4 _ rfl
                 rw [add_field _ _ 4 (by omega)] at hv110_4
                 replace hv110_4 := Option.some.inj (hv110_4.symm.trans hx110_4)
                 rw [hv110_4] at ge110_4
                 have HL110_4 := Aside0.mk (show Kd.R (Kd.int .i64) 3 _ _ _ _ ((rd_T34 t104 x13_3).f4) from ge110_4)
                 clear hv110_4 ge110_4
                 clear hcc110 hce110
                 have HR110_4 := Aside0.mk hi110_4
                 have HC110_4 := Aside0.mk hl110_4
                 clear hi110_4 hl110_4
                 replace p110 := eq_true p110
                 replace q110 := eq_true q110
                 go_upto_if 56 with (fail)
                 go_cut [56] (fun v56 wc => ∃ (kq : Nat) (x56_22 : Bool), v56 = .bool x56_22 ∧ Aside0 (minuetlaw11_ParseDeep.j3 kq (wrap64 (1 + (Go.bits .and .i64 a0 15))) t107 x11_3 x12_3 x13_3 ((rd_T34 t104 x13_3).f1) x56_22 t102 t103 t104 = some r) ∧ Aside0 (kq ≤ k3) ∧ Aside0 (Kd.S k34 34 wc w.heap.size (fun _ => True) (.slice (some ad110) t104.length co20) t104) ∧ Aside0 (wc.heap[gb108]? = some (.cells #[.int .i64 t102, .int .i64 t103, (.slice (some ad110) t104.length co20)] 28 (0, 0))) ∧ Aside0 (Kd.C (Kd.int .i64) wc A110_4 ((rd_T34 t104 x13_3).f4).length ((rd_T34 t104 x13_3).f4)) ∧ Aside0 (Below w.heap.size w wc))
                 case first =>
                  have H := HC23.out
                  clear HC23
                  by_cases c25 : ((rd_T34 t104 x13_3).f1) = 1
                  · rw [if_pos c25] at H
                    have c25b0 : (((rd_T34 t104 x13_3).f1) == 1) = true := beq_iff_eq.mpr c25
                    have c25b1 : (((rd_T34 t104 x13_3).f1) != 1) = false := bne_eq_false_iff_eq.mpr c25
                    clear c25
                    (first | rw [c25b0] | (simp only [i64_w, i32_w]; rw [c25b0]) | skip)
                    have H' := Aside0.mk H
                    clear H
                    go_wp2
                    go_meet
                    case rel => exact ⟨_, ((((rd_T34 t104 x13_3).f1) == 1)), (by first | rfl | (simp; done) | (simp [*]; done)), H', ⟨by have := HK1.out; have := HJ11.out; have := HK3.out; first | omega | exact Nat.le_refl _⟩, ⟨by (with_reducible repeat (first | apply Kd.S_alloc | apply Kd.S_drewN | apply Kd.S_drew)); exact HO_109002.out⟩, ⟨by (with_reducible repeat (first | refine blk_drewN ?_ _ | refine blk_drew ?_ | refine blk_alloc ?_ _)); exact BK108.out⟩, ⟨by repeat (first | (with_reducible exact HR110_4.out) | (with_reducible refine Kd.C_alloc ?_ _) | (with_reducible refine Kd.C_drewN ?_ _) | (with_reducible refine Kd.C_drew ?_) | exact HR110_4.out)⟩, ⟨by repeat (first | (with_reducible first | exact HB.out | apply below_alloc | apply pw_below_drewN | apply below_drew1 | refine below_set ?_ GE108.out) | exact HB.out)⟩⟩
                  · rw [if_neg c25] at H
                    have c25b0 : (((rd_T34 t104 x13_3).f1) == 1) = false := beq_eq_false_iff_ne.mpr c25
                    have c25b1 : (((rd_T34 t104 x13_3).f1) != 1) = true := bne_iff_ne.mpr c25
                    (first | rw [c25b0] | (simp only [i64_w, i32_w]; rw [c25b0]) | skip)
                    have H' := Aside0.mk H
                    clear H
                    go_wp2
                    go_meet
                    case rel => exact ⟨_, ((((rd_T34 t104 x13_3).f1) == 2)), (by first | rfl | (simp; done) | (simp [*]; done)), H', ⟨by have := HK1.out; have := HJ11.out; have := HK3.out; first | omega | exact Nat.le_refl _⟩, ⟨by (with_reducible repeat (first | apply Kd.S_alloc | apply Kd.S_drewN | apply Kd.S_drew)); exact HO_109002.out⟩, ⟨by (with_reducible repeat (first | refine blk_drewN ?_ _ | refine blk_drew ?_ | refine blk_alloc ?_ _)); exact BK108.out⟩, ⟨by repeat (first | (with_reducible exact HR110_4.out) | (with_reducible refine Kd.C_alloc ?_ _) | (with_reducible refine Kd.C_drewN ?_ _) | (with_reducible refine Kd.C_drew ?_) | exact HR110_4.out)⟩, ⟨by repeat (first | (with_reducible first | exact HB.out | apply below_alloc | apply pw_below_drewN | apply below_drew1 | refine below_set ?_ GE108.out) | exact HB.out)⟩⟩
                 case rest =>
                  clear HC23
                  try clear c1
                  try clear p1
                  try clear q1
                  try clear hx1
                  try clear c2
                  try clear p2
                  try clear c4
                  try clear c6
                  try clear c6b0
                  try clear p6
                  try clear c7
                  try clear c8
                  try clear c8b0
                  try clear c8b1
                  try clear c8b2
                  try clear c9
                  try clear c9b0
                  try clear c9b1
                  try clear c9b2
                  try clear c10
                  try clear c10b0
                  try clear c10b1
                  try clear c10b2
                  try clear c11
                  try clear c11b0
                  try clear c11b1
                  try clear c11b2
                  try clear p11
                  try clear q11
                  try clear hx11
                  try clear c13
                  try clear c14
                  try clear c14b0
                  try clear c14b1
                  try clear c14b2
                  try clear c15
                  try clear c15b0
                  try clear c15b1
                  try clear c15b2
                  try clear c19
                  try clear c21
                  try clear c21b0
                  try clear c22
                  try clear c22b0
                  try clear c25
                  try clear c25b0
                  try clear c25b1
                  try clear hcz19_0
                  try clear hcz19_1
                  try clear hcz19_2
                  try clear hcz24_0
                  try clear hcz24_1
                  try clear hcz24_2
                  try clear hfz19_0
                  try clear hfz19_1
                  try clear hfz19_2
                  try clear hfz24_0
                  try clear hfz24_1
                  try clear hfz24_2
                  try clear hx110_0
                  try clear hx110_1
                  try clear hx110_2
                  try clear hx110_3
                  try clear hx110_4
                  try clear p110
                  try clear p2
                  try clear p6
                  try clear q110
                  obtain ⟨kq, x56_22, rfl, HA, HJ22, HO_109002, BK108, HR110_4, HB⟩ := hcut
                  cases kq with
                  | zero => exact absurd HA.out (by simp [minuetlaw11_ParseDeep.j3])
                  | succ kj22 =>
                   have H := HA.out
                   clear HA
                   simp only [minuetlaw11_ParseDeep.j3] at H
                   by_cases c26 : x56_22 = true
                   · subst c26
                     have H1 : (minuetlaw11_ParseDeep.l1 kj22 (wrap64 (1 + (Go.bits .and .i64 a0 15))) t107 (wrap64 (x11_3 + 1)) x12_3 (wrap64 (x13_3 + 1)) t102 t103 t104) = some r := by rw [if_pos rfl] at H; exact H
                     clear H
                     have H := H1
                     clear H1
                     have H' := Aside0.mk H
                     clear H
                     go_wp2
                     go_roundg kj22
                     case measure => have := HK1.out; have := HJ11.out; have := HK3.out; have := HJ22.out; omega
                     case rel => exact ⟨(wrap64 (x11_3 + 1)), (x12_3), (wrap64 (x13_3 + 1)), (by first | rfl | (simp; done) | (simp [*]; done)), (by first | rfl | (simp; done) | (simp [*]; done)), (by first | rfl | (simp; done) | (simp [*]; done)), H', ⟨by have := HK1.out; have := HJ11.out; have := HK3.out; have := HJ22.out; omega⟩, ⟨by (with_reducible repeat (first | apply Kd.S_alloc | apply Kd.S_drewN | apply Kd.S_drew)); exact HO_109002.out⟩, ⟨by (with_reducible repeat (first | refine blk_drewN ?_ _ | refine blk_drew ?_ | refine blk_alloc ?_ _)); exact BK108.out⟩, ⟨by repeat (first | (with_reducible first | exact HB.out | apply below_alloc | apply pw_below_drewN | apply below_drew1 | refine below_set ?_ GE108.out) | exact HB.out)⟩⟩
                   · replace c26 := Bool.eq_false_iff.mpr c26
                     subst c26
                     have H1 : (if ((rd_T34 t104 x13_3).f1) = 7 then (minuetlaw11_ParseDeep.l1 kj22 (wrap64 (1 + (Go.bits .and .i64 a0 15))) t107 x11_3 (wrap64 (x12_3 + 1)) (wrap64 (x13_3 + 1)) t102 t103 t104) else (minuetlaw11_ParseDeep.l1 kj22 (wrap64 (1 + (Go.bits .and .i64 a0 15))) t107 x11_3 x12_3 (wrap64 (x13_3 + 1)) t102 t103 t104)) = some r := by rw [if_neg (show ¬ (false = true) by decide)] at H; exact H
                     clear H
                     have H := H1
                     clear H1
                     by_cases c27 : ((rd_T34 t104 x13_3).f1) = 7
                     · rw [if_pos c27] at H
                       have c27b0 : (((rd_T34 t104 x13_3).f1) == 7) = true := beq_iff_eq.mpr c27
                       have c27b1 : (((rd_T34 t104 x13_3).f1) != 7) = false := bne_eq_false_iff_eq.mpr c27
                       clear c27
                       have H' := Aside0.mk H
                       clear H
                       go_wp2
                       go_roundg kj22
                       case measure => have := HK1.out; have := HJ11.out; have := HK3.out; have := HJ22.out; omega
                       case rel => exact ⟨(x11_3), (wrap64 (x12_3 + 1)), (wrap64 (x13_3 + 1)), (by first | rfl | (simp; done) | (simp [*]; done)), (by first | rfl | (simp; done) | (simp [*]; done)), (by first | rfl | (simp; done) | (simp [*]; done)), H', ⟨by have := HK1.out; have := HJ11.out; have := HK3.out; have := HJ22.out; omega⟩, ⟨by (with_reducible repeat (first | apply Kd.S_alloc | apply Kd.S_drewN | apply Kd.S_drew)); exact HO_109002.out⟩, ⟨by (with_reducible repeat (first | refine blk_drewN ?_ _ | refine blk_drew ?_ | refine blk_alloc ?_ _)); exact BK108.out⟩, ⟨by repeat (first | (with_reducible first | exact HB.out | apply below_alloc | apply pw_below_drewN | apply below_drew1 | refine below_set ?_ GE108.out) | exact HB.out)⟩⟩
                     · rw [if_neg c27] at H
                       have c27b0 : (((rd_T34 t104 x13_3).f1) == 7) = false := beq_eq_false_iff_ne.mpr c27
                       have c27b1 : (((rd_T34 t104 x13_3).f1) != 7) = true := bne_iff_ne.mpr c27
                       have H' := Aside0.mk H
                       clear H
                       go_wp2
                       go_roundg kj22
                       case measure => have := HK1.out; have := HJ11.out; have := HK3.out; have := HJ22.out; omega
                       case rel => exact ⟨(x11_3), (x12_3), (wrap64 (x13_3 + 1)), (by first | rfl | (simp; done) | (simp [*]; done)), (by first | rfl | (simp; done) | (simp [*]; done)), (by first | rfl | (simp; done) | (simp [*]; done)), H', ⟨by have := HK1.out; have := HJ11.out; have := HK3.out; have := HJ22.out; omega⟩, ⟨by (with_reducible repeat (first | apply Kd.S_alloc | apply Kd.S_drewN | apply Kd.S_drew)); exact HO_109002.out⟩, ⟨by (with_reducible repeat (first | refine blk_drewN ?_ _ | refine blk_drew ?_ | refine blk_alloc ?_ _)); exact BK108.out⟩, ⟨by repeat (first | (with_reducible first | exact HB.out | apply below_alloc | apply pw_below_drewN | apply below_drew1 | refine below_set ?_ GE108.out) | exact HB.out)⟩⟩
               · rw [if_neg c22] at H
                 exact absurd H (by simp)
             · rw [if_neg c21] at H
               have c21b0 : decide (x13_3 < (t104.length : Int)) = false := decide_eq_false c21
               clear c21
               replace H := Option.bind_eq_some_iff.mp H
               obtain ⟨t109, A280, H⟩ := H
               replace H : (if t109 = 0 then (if x11_3 = (mn (wrap64 (1 + (Go.bits .and .i64 a0 15))) 12) then (some ((x12_3 == 0) == (decide ((wrap64 (1 + (Go.bits .and .i64 a0 15))) ≤ 12)))) else (none)) else (none)) = some r := H
               have A28 := Aside0.mk A280
               clear A280
               by_cases c29 : t109 = 0
               · rw [if_pos c29] at H
                 have c29b0 : (t109 == 0) = true := beq_iff_eq.mpr c29
                 have c29b1 : (t109 != 0) = false := bne_eq_false_iff_eq.mpr c29
                 clear c29
                 obtain ⟨ji30, hji30⟩ : ∃ j_ : Int, (mn (wrap64 (1 + (Go.bits .and .i64 a0 15))) 12) = j_ := ⟨_, rfl⟩
                 replace H : (if x11_3 = (ji30) then (some ((x12_3 == 0) == (decide ((wrap64 (1 + (Go.bits .and .i64 a0 15))) ≤ 12)))) else (none)) = some r := by first | (rw [hji30] at H; exact H) | (simp only [hji30] at H ⊢; exact H)
                 (try rw [hji30] at A28)
                 have hji30_ : (if 12 < (wrap64 (1 + (Go.bits .and .i64 a0 15))) then 12 else (wrap64 (1 + (Go.bits .and .i64 a0 15)))) = ji30 := hji30
                 by_cases c31 : x11_3 = (ji30)
                 · rw [if_pos c31] at H
                   have c31b0 : (x11_3 == (ji30)) = true := beq_iff_eq.mpr c31
                   have c31b1 : (x11_3 != (ji30)) = false := bne_eq_false_iff_eq.mpr c31
                   clear c31
                   obtain rfl := Option.some.inj H
                   have hcz32_0 : wr.cell? ⟨gb108, 0, none⟩ = some (.int .i64 t102) := (blk_cell BK108.out 0).trans rfl
                   have hcz32_1 : wr.cell? ⟨gb108, 1, none⟩ = some (.int .i64 t103) := (blk_cell BK108.out 1).trans rfl
                   have hcz32_2 : wr.cell? ⟨gb108, 2, none⟩ = some (.slice Ao20 t104.length co20) := (blk_cell BK108.out 2).trans rfl
                   have hfz32_0 := blk_frozen BK108.out 0
                   have hfz32_1 := blk_frozen BK108.out 1
                   have hfz32_2 := blk_frozen BK108.out 2
                   go_wp2_with (first | ((with_reducible refine gate_callee (f := 15) rfl ?_); refine goesL_ (some 66) rfl rfl Try.func15 (by kernel_rfl) rfl #[.int .i64 t107] rfl (by (try simp only [List.map_toArray, List.map_cons, List.map_nil]); first | done | rfl | (simp only [List.length_drop, List.length_take]; rfl)) ?_; (with_reducible refine (minuetlaw0_Num.calls t107 t109 _ A28.out).mono ?_); rintro e w' ⟨rfl, ⟨nd, rfl⟩⟩; refine ⟨_, rfl, ?_⟩))
                   go_ret
                   exact ⟨by first | rfl | (simp [errW_none, errW_some] <;> rfl) | (simp only [← hji30]; first | rfl | (simp [errW_none, errW_some] <;> rfl)) | (simp [*, errW_none, errW_some] <;> rfl), by repeat (first | (with_reducible first | exact HB.out | apply below_alloc | apply pw_below_drewN | apply below_drew1 | refine below_set ?_ GE108.out) | exact HB.out)⟩
                 · rw [if_neg c31] at H
                   exact absurd H (by simp)
               · rw [if_neg c29] at H
                 exact absurd H (by simp)
         · rw [if_neg c15] at H
           exact absurd H (by simp)
 · replace c4 := Bool.eq_false_iff.mpr c4
   subst c4
   have H1 : (none) = some r := by rw [if_neg (show ¬ (false = true) by decide)] at H; exact H
   clear H
   have H := H1
   clear H1
   exact absurd H (by simp)

/-- THE ONE PURE STATEMENT of minuetlaw11_ParseDeep: yours. -/
def minuetlaw11_ParseDeep.Pure : Prop := ∀ (a0 : Int) (a1 : Bool), (Lit.int .i64 a0).wf = true → ∃ k, minuetlaw11_ParseDeep.f k a0 a1 = some true
theorem minuetlaw11_ParseDeep.walk (P : minuetlaw11_ParseDeep.Pure) (a0 : Int) (a1 : Bool) (w : World) (hm_ : MaxOk w) (w0 : (Lit.int .i64 a0).wf = true) :
 Calls Try.prog 8 #[.int .i64 a0, .bool a1] w fun e w' => e = .returned (.bool true) ∧ Below w.heap.size w w' := by
 obtain ⟨k, h⟩ := P a0 a1 w0
 refine (minuetlaw11_ParseDeep.calls k a0 a1 true w hm_ h).mono ?_
 rintro e w' ⟨rfl, hd⟩
 exact ⟨rfl, hd⟩

end Go.Proofs.Ytehojohacombkaa.G
