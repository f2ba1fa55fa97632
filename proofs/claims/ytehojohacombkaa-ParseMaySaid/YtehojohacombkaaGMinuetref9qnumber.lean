-- Laid by this session's own program gprint.py (wip/tools), out of the kit's print and of texts of this session. Lean checks it.
import Derived.Test.YtehojohacombkaaGx0
import Derived.Test.YtehojohacombkaaGMinuetref9qdigit
import Derived.Test.YtehojohacombkaaGMinuetref9qdigits
namespace Go.Proofs.Ytehojohacombkaa.G
open Go.RowKit Go.Proofs.YtehojohacombkaaW.PrintWords Go.Proofs.YtehojohacombkaaW.PrintLast Go.Proofs.YtehojohacombkaaW.PrintMore
attribute [local go_sem] max2_int min2_int max_two min_two max_three min_three max_four min_four   -- for this text's walks alone
set_option linter.unusedVariables false
set_option linter.unusedSimpArgs false

/-! ### minuetref9_number: function 67 -/
mutual
def minuetref9_number.j0 : Nat → ByteArray → Int → Int → Option (Int)
 | 0, _, _, _ => none
 | k + 1, x0, x1, x5 => if x5 ≥ (x0.size : Int) then (minuetref9_number.j1 k x0 x1 x5 true) else (if 0 ≤ x5 then (if x5 < (x0.size : Int) then ((minuetref9_digit.f (bt x0 x5)).bind fun t101 => (minuetref9_number.j1 k x0 x1 x5 (!t101))) else (none)) else (none))
def minuetref9_number.j1 : Nat → ByteArray → Int → Int → Bool → Option (Int)
 | 0, _, _, _, _ => none
 | k + 1, x0, x1, x5, x25 => if x25 = true then (some x1) else (if 0 ≤ x5 then (if x5 < (x0.size : Int) then (if (bt x0 x5) = 48 then (minuetref9_number.j2 k x0 (wrap64 (x5 + 1))) else ((minuetref9_digits.f k x0 x5).bind fun t102 => (minuetref9_number.j2 k x0 t102))) else (none)) else (none))
def minuetref9_number.j2 : Nat → ByteArray → Int → Option (Int)
 | 0, _, _ => none
 | k + 1, x0, x6 => if (wrap64 (x6 + 1)) < (x0.size : Int) then (if 0 ≤ x6 then (if x6 < (x0.size : Int) then (if (bt x0 x6) = 46 then (if 0 ≤ (wrap64 (x6 + 1)) then ((minuetref9_digit.f (bt x0 (wrap64 (x6 + 1)))).bind fun t103 => (minuetref9_number.j3 k x0 x6 t103)) else (none)) else (minuetref9_number.j3 k x0 x6 false)) else (none)) else (none)) else (minuetref9_number.j3 k x0 x6 false)
def minuetref9_number.j3 : Nat → ByteArray → Int → Bool → Option (Int)
 | 0, _, _, _ => none
 | k + 1, x0, x6, x53 => if x53 = true then ((minuetref9_digits.f k x0 (wrap64 (x6 + 1))).bind fun t104 => (minuetref9_number.j4 k x0 t104)) else (minuetref9_number.j4 k x0 x6)
def minuetref9_number.j4 : Nat → ByteArray → Int → Option (Int)
 | 0, _, _ => none
 | k + 1, x0, x6 => if x6 < (x0.size : Int) then (if 0 ≤ x6 then (if (bt x0 x6) = 101 then (minuetref9_number.j5 k x0 x6 true) else (minuetref9_number.j5 k x0 x6 ((bt x0 x6) == 69))) else (none)) else (minuetref9_number.j5 k x0 x6 false)
def minuetref9_number.j5 : Nat → ByteArray → Int → Bool → Option (Int)
 | 0, _, _, _ => none
 | k + 1, x0, x6, x73 => if x73 = true then (if (wrap64 (x6 + 1)) < (x0.size : Int) then (if 0 ≤ (wrap64 (x6 + 1)) then (if (bt x0 (wrap64 (x6 + 1))) = 43 then (minuetref9_number.j6 k x0 x6 (wrap64 (x6 + 1)) true) else (minuetref9_number.j6 k x0 x6 (wrap64 (x6 + 1)) ((bt x0 (wrap64 (x6 + 1))) == 45))) else (none)) else (minuetref9_number.j6 k x0 x6 (wrap64 (x6 + 1)) false)) else (some x6)
def minuetref9_number.j6 : Nat → ByteArray → Int → Int → Bool → Option (Int)
 | 0, _, _, _, _ => none
 | k + 1, x0, x6, x7, x91 => if x91 = true then (minuetref9_number.j7 k x0 x6 (wrap64 (x7 + 1))) else (minuetref9_number.j7 k x0 x6 x7)
def minuetref9_number.j7 : Nat → ByteArray → Int → Int → Option (Int)
 | 0, _, _, _ => none
 | k + 1, x0, x6, x7 => if x7 < (x0.size : Int) then (if 0 ≤ x7 then ((minuetref9_digit.f (bt x0 x7)).bind fun t105 => (if t105 = true then ((minuetref9_digits.f k x0 x7).bind fun t106 => (some t106)) else (some x6))) else (none)) else (some x6)
end
def minuetref9_number.f (k : Nat) (a0 : ByteArray) (a1 : Int) : Option (Int) := if 0 ≤ a1 then (if a1 < (a0.size : Int) then (if (bt a0 a1) = 45 then (minuetref9_number.j0 k a0 a1 (wrap64 (a1 + 1))) else (minuetref9_number.j0 k a0 a1 a1)) else (none)) else (none)
theorem minuetref9_number.mono_l : ∀ k, (∀ y0 y1 y2, LeO (minuetref9_number.j0 k y0 y1 y2) (minuetref9_number.j0 (k + 1) y0 y1 y2)) ∧ (∀ y0 y1 y2 y3, LeO (minuetref9_number.j1 k y0 y1 y2 y3) (minuetref9_number.j1 (k + 1) y0 y1 y2 y3)) ∧ (∀ y0 y1, LeO (minuetref9_number.j2 k y0 y1) (minuetref9_number.j2 (k + 1) y0 y1)) ∧ (∀ y0 y1 y2, LeO (minuetref9_number.j3 k y0 y1 y2) (minuetref9_number.j3 (k + 1) y0 y1 y2)) ∧ (∀ y0 y1, LeO (minuetref9_number.j4 k y0 y1) (minuetref9_number.j4 (k + 1) y0 y1)) ∧ (∀ y0 y1 y2, LeO (minuetref9_number.j5 k y0 y1 y2) (minuetref9_number.j5 (k + 1) y0 y1 y2)) ∧ (∀ y0 y1 y2 y3, LeO (minuetref9_number.j6 k y0 y1 y2 y3) (minuetref9_number.j6 (k + 1) y0 y1 y2 y3)) ∧ (∀ y0 y1 y2, LeO (minuetref9_number.j7 k y0 y1 y2) (minuetref9_number.j7 (k + 1) y0 y1 y2))
 | 0 => ⟨fun _ _ _ r h => by simp [minuetref9_number.j0] at h, fun _ _ _ _ r h => by simp [minuetref9_number.j1] at h, fun _ _ r h => by simp [minuetref9_number.j2] at h, fun _ _ _ r h => by simp [minuetref9_number.j3] at h, fun _ _ r h => by simp [minuetref9_number.j4] at h, fun _ _ _ r h => by simp [minuetref9_number.j5] at h, fun _ _ _ _ r h => by simp [minuetref9_number.j6] at h, fun _ _ _ r h => by simp [minuetref9_number.j7] at h⟩
 | k + 1 => by
  obtain ⟨ih0, ih1, ih2, ih3, ih4, ih5, ih6, ih7⟩ := minuetref9_number.mono_l k
  refine ⟨?_, ?_, ?_, ?_, ?_, ?_, ?_, ?_⟩
  · intro y0 y1 y2
    unfold minuetref9_number.j0
    repeat' first
    | (with_reducible exact ih0 _ _ _)
    | (with_reducible exact ih1 _ _ _ _)
    | (with_reducible exact ih2 _ _)
    | (with_reducible exact ih3 _ _ _)
    | (with_reducible exact ih4 _ _)
    | (with_reducible exact ih5 _ _ _)
    | (with_reducible exact ih6 _ _ _ _)
    | (with_reducible exact ih7 _ _ _)
    | (with_reducible exact minuetref9_digits.mono _ _ _)
    | (with_reducible exact LeO.refl _)
    | (with_reducible exact LeO.none _)
    | (with_reducible refine LeO.ite ?_ ?_)
    | (with_reducible refine LeO.bind ?_ (fun _ => ?_))
    | exact ih0 _ _ _
    | exact ih1 _ _ _ _
    | exact ih2 _ _
    | exact ih3 _ _ _
    | exact ih4 _ _
    | exact ih5 _ _ _
    | exact ih6 _ _ _ _
    | exact ih7 _ _ _
    | exact minuetref9_digits.mono _ _ _
    | exact LeO.none _
    | refine LeO.ite ?_ ?_
    | refine LeO.bind ?_ (fun _ => ?_)
  · intro y0 y1 y2 y3
    unfold minuetref9_number.j1
    repeat' first
    | (with_reducible exact ih0 _ _ _)
    | (with_reducible exact ih1 _ _ _ _)
    | (with_reducible exact ih2 _ _)
    | (with_reducible exact ih3 _ _ _)
    | (with_reducible exact ih4 _ _)
    | (with_reducible exact ih5 _ _ _)
    | (with_reducible exact ih6 _ _ _ _)
    | (with_reducible exact ih7 _ _ _)
    | (with_reducible exact minuetref9_digits.mono _ _ _)
    | (with_reducible exact LeO.refl _)
    | (with_reducible exact LeO.none _)
    | (with_reducible refine LeO.ite ?_ ?_)
    | (with_reducible refine LeO.bind ?_ (fun _ => ?_))
    | exact ih0 _ _ _
    | exact ih1 _ _ _ _
    | exact ih2 _ _
    | exact ih3 _ _ _
    | exact ih4 _ _
    | exact ih5 _ _ _
    | exact ih6 _ _ _ _
    | exact ih7 _ _ _
    | exact minuetref9_digits.mono _ _ _
    | exact LeO.none _
    | refine LeO.ite ?_ ?_
    | refine LeO.bind ?_ (fun _ => ?_)
  · intro y0 y1
    unfold minuetref9_number.j2
    repeat' first
    | (with_reducible exact ih0 _ _ _)
    | (with_reducible exact ih1 _ _ _ _)
    | (with_reducible exact ih2 _ _)
    | (with_reducible exact ih3 _ _ _)
    | (with_reducible exact ih4 _ _)
    | (with_reducible exact ih5 _ _ _)
    | (with_reducible exact ih6 _ _ _ _)
    | (with_reducible exact ih7 _ _ _)
    | (with_reducible exact minuetref9_digits.mono _ _ _)
    | (with_reducible exact LeO.refl _)
    | (with_reducible exact LeO.none _)
    | (with_reducible refine LeO.ite ?_ ?_)
    | (with_reducible refine LeO.bind ?_ (fun _ => ?_))
    | exact ih0 _ _ _
    | exact ih1 _ _ _ _
    | exact ih2 _ _
    | exact ih3 _ _ _
    | exact ih4 _ _
    | exact ih5 _ _ _
    | exact ih6 _ _ _ _
    | exact ih7 _ _ _
    | exact minuetref9_digits.mono _ _ _
    | exact LeO.none _
    | refine LeO.ite ?_ ?_
    | refine LeO.bind ?_ (fun _ => ?_)
  · intro y0 y1 y2
    unfold minuetref9_number.j3
    repeat' first
    | (with_reducible exact ih0 _ _ _)
    | (with_reducible exact ih1 _ _ _ _)
    | (with_reducible exact ih2 _ _)
    | (with_reducible exact ih3 _ _ _)
    | (with_reducible exact ih4 _ _)
    | (with_reducible exact ih5 _ _ _)
    | (with_reducible exact ih6 _ _ _ _)
    | (with_reducible exact ih7 _ _ _)
    | (with_reducible exact minuetref9_digits.mono _ _ _)
    | (with_reducible exact LeO.refl _)
    | (with_reducible exact LeO.none _)
    | (with_reducible refine LeO.ite ?_ ?_)
    | (with_reducible refine LeO.bind ?_ (fun _ => ?_))
    | exact ih0 _ _ _
    | exact ih1 _ _ _ _
    | exact ih2 _ _
    | exact ih3 _ _ _
    | exact ih4 _ _
    | exact ih5 _ _ _
    | exact ih6 _ _ _ _
    | exact ih7 _ _ _
    | exact minuetref9_digits.mono _ _ _
    | exact LeO.none _
    | refine LeO.ite ?_ ?_
    | refine LeO.bind ?_ (fun _ => ?_)
  · intro y0 y1
    unfold minuetref9_number.j4
    repeat' first
    | (with_reducible exact ih0 _ _ _)
    | (with_reducible exact ih1 _ _ _ _)
    | (with_reducible exact ih2 _ _)
    | (with_reducible exact ih3 _ _ _)
    | (with_reducible exact ih4 _ _)
    | (with_reducible exact ih5 _ _ _)
    | (with_reducible exact ih6 _ _ _ _)
    | (with_reducible exact ih7 _ _ _)
    | (with_reducible exact minuetref9_digits.mono _ _ _)
    | (with_reducible exact LeO.refl _)
    | (with_reducible exact LeO.none _)
    | (with_reducible refine LeO.ite ?_ ?_)
    | (with_reducible refine LeO.bind ?_ (fun _ => ?_))
    | exact ih0 _ _ _
    | exact ih1 _ _ _ _
    | exact ih2 _ _
    | exact ih3 _ _ _
    | exact ih4 _ _
    | exact ih5 _ _ _
    | exact ih6 _ _ _ _
    | exact ih7 _ _ _
    | exact minuetref9_digits.mono _ _ _
    | exact LeO.none _
    | refine LeO.ite ?_ ?_
    | refine LeO.bind ?_ (fun _ => ?_)
  · intro y0 y1 y2
    unfold minuetref9_number.j5
    repeat' first
    | (with_reducible exact ih0 _ _ _)
    | (with_reducible exact ih1 _ _ _ _)
    | (with_reducible exact ih2 _ _)
    | (with_reducible exact ih3 _ _ _)
    | (with_reducible exact ih4 _ _)
    | (with_reducible exact ih5 _ _ _)
    | (with_reducible exact ih6 _ _ _ _)
    | (with_reducible exact ih7 _ _ _)
    | (with_reducible exact minuetref9_digits.mono _ _ _)
    | (with_reducible exact LeO.refl _)
    | (with_reducible exact LeO.none _)
    | (with_reducible refine LeO.ite ?_ ?_)
    | (with_reducible refine LeO.bind ?_ (fun _ => ?_))
    | exact ih0 _ _ _
    | exact ih1 _ _ _ _
    | exact ih2 _ _
    | exact ih3 _ _ _
    | exact ih4 _ _
    | exact ih5 _ _ _
    | exact ih6 _ _ _ _
    | exact ih7 _ _ _
    | exact minuetref9_digits.mono _ _ _
    | exact LeO.none _
    | refine LeO.ite ?_ ?_
    | refine LeO.bind ?_ (fun _ => ?_)
  · intro y0 y1 y2 y3
    unfold minuetref9_number.j6
    repeat' first
    | (with_reducible exact ih0 _ _ _)
    | (with_reducible exact ih1 _ _ _ _)
    | (with_reducible exact ih2 _ _)
    | (with_reducible exact ih3 _ _ _)
    | (with_reducible exact ih4 _ _)
    | (with_reducible exact ih5 _ _ _)
    | (with_reducible exact ih6 _ _ _ _)
    | (with_reducible exact ih7 _ _ _)
    | (with_reducible exact minuetref9_digits.mono _ _ _)
    | (with_reducible exact LeO.refl _)
    | (with_reducible exact LeO.none _)
    | (with_reducible refine LeO.ite ?_ ?_)
    | (with_reducible refine LeO.bind ?_ (fun _ => ?_))
    | exact ih0 _ _ _
    | exact ih1 _ _ _ _
    | exact ih2 _ _
    | exact ih3 _ _ _
    | exact ih4 _ _
    | exact ih5 _ _ _
    | exact ih6 _ _ _ _
    | exact ih7 _ _ _
    | exact minuetref9_digits.mono _ _ _
    | exact LeO.none _
    | refine LeO.ite ?_ ?_
    | refine LeO.bind ?_ (fun _ => ?_)
  · intro y0 y1 y2
    unfold minuetref9_number.j7
    repeat' first
    | (with_reducible exact ih0 _ _ _)
    | (with_reducible exact ih1 _ _ _ _)
    | (with_reducible exact ih2 _ _)
    | (with_reducible exact ih3 _ _ _)
    | (with_reducible exact ih4 _ _)
    | (with_reducible exact ih5 _ _ _)
    | (with_reducible exact ih6 _ _ _ _)
    | (with_reducible exact ih7 _ _ _)
    | (with_reducible exact minuetref9_digits.mono _ _ _)
    | (with_reducible exact LeO.refl _)
    | (with_reducible exact LeO.none _)
    | (with_reducible refine LeO.ite ?_ ?_)
    | (with_reducible refine LeO.bind ?_ (fun _ => ?_))
    | exact ih0 _ _ _
    | exact ih1 _ _ _ _
    | exact ih2 _ _
    | exact ih3 _ _ _
    | exact ih4 _ _
    | exact ih5 _ _ _
    | exact ih6 _ _ _ _
    | exact ih7 _ _ _
    | exact minuetref9_digits.mono _ _ _
    | exact LeO.none _
    | refine LeO.ite ?_ ?_
    | refine LeO.bind ?_ (fun _ => ?_)
theorem minuetref9_number.mono : ∀ a0 a1 k, LeO (minuetref9_number.f k a0 a1) (minuetref9_number.f (k + 1) a0 a1) := by
 intro a0 a1 k
 obtain ⟨ih0, ih1, ih2, ih3, ih4, ih5, ih6, ih7⟩ := minuetref9_number.mono_l k
 unfold minuetref9_number.f
 repeat' first
  | (with_reducible exact ih0 _ _ _)
  | (with_reducible exact ih1 _ _ _ _)
  | (with_reducible exact ih2 _ _)
  | (with_reducible exact ih3 _ _ _)
  | (with_reducible exact ih4 _ _)
  | (with_reducible exact ih5 _ _ _)
  | (with_reducible exact ih6 _ _ _ _)
  | (with_reducible exact ih7 _ _ _)
  | (with_reducible exact minuetref9_digits.mono _ _ _)
  | (with_reducible exact LeO.refl _)
  | (with_reducible exact LeO.none _)
  | (with_reducible refine LeO.ite ?_ ?_)
  | (with_reducible refine LeO.bind ?_ (fun _ => ?_))
  | exact ih0 _ _ _
  | exact ih1 _ _ _ _
  | exact ih2 _ _
  | exact ih3 _ _ _
  | exact ih4 _ _
  | exact ih5 _ _ _
  | exact ih6 _ _ _ _
  | exact ih7 _ _ _
  | exact minuetref9_digits.mono _ _ _
  | exact LeO.none _
  | refine LeO.ite ?_ ?_
  | refine LeO.bind ?_ (fun _ => ?_)
set_option maxHeartbeats 8000000 in
set_option maxRecDepth 100000 in
theorem minuetref9_number.calls (k : Nat) (a0 : ByteArray) (a1 : Int) (r : Int) (w : World) (h : minuetref9_number.f k a0 a1 = some r) :
 Calls Try.prog 67 #[.string a0, .int .i64 a1] w fun e w' => e = .returned (.int .i64 r) ∧ Drawn0 w w' := by
 have H : (if 0 ≤ a1 then (if a1 < (a0.size : Int) then (if (bt a0 a1) = 45 then (minuetref9_number.j0 k a0 a1 (wrap64 (a1 + 1))) else (minuetref9_number.j0 k a0 a1 a1)) else (none)) else (none)) = some r := h
 clear h
 by_cases c3 : 0 ≤ a1
 · rw [if_pos c3] at H
   have c3b0 : decide (0 ≤ a1) = true := decide_eq_true c3
   clear c3
   by_cases c4 : a1 < (a0.size : Int)
   · rw [if_pos c4] at H
     have c4b0 : decide (a1 < (a0.size : Int)) = true := decide_eq_true c4
     clear c4
     have HC6 := Aside0.mk H
     clear H
     have p5 : 0 ≤ (a1 : Int) := of_decide_eq_true (by first | (with_reducible assumption) | assumption)
     have q5 : a1 < (a0.size : Int) := of_decide_eq_true (by first | (with_reducible assumption) | assumption)
     have hx5 := bt_at a0 a1
     replace p5 := eq_true p5
     replace q5 := eq_true q5
     go_enter Try.func67, Try.ntmps67
     go_upto_if 12 with (fail)
     go_cut [5] (fun v5 wc => ∃ (kq : Nat) (x5_5 : Int), v5 = .int .i64 x5_5 ∧ Aside0 (minuetref9_number.j0 kq a0 a1 x5_5 = some r) ∧ Aside0 (kq ≤ k) ∧ Drawn0 w wc)
     case first =>
      have H := HC6.out
      clear HC6
      by_cases c7 : (bt a0 a1) = 45
      · rw [if_pos c7] at H
        have c7b0 : ((bt a0 a1) == 45) = true := beq_iff_eq.mpr c7
        have c7b1 : ((bt a0 a1) != 45) = false := bne_eq_false_iff_eq.mpr c7
        clear c7
        (first | rw [c7b0] | (simp only [i64_w, i32_w]; rw [c7b0]) | skip)
        have H' := Aside0.mk H
        clear H
        go_wp2
        go_meet
        case rel => exact ⟨_, (wrap64 (a1 + 1)), (by first | rfl | (simp; done) | (simp [*]; done)), H', ⟨by first | omega | exact Nat.le_refl _⟩, by repeat (first | exact Drawn0.refl _ | apply Drawn0.step)⟩
      · rw [if_neg c7] at H
        have c7b0 : ((bt a0 a1) == 45) = false := beq_eq_false_iff_ne.mpr c7
        have c7b1 : ((bt a0 a1) != 45) = true := bne_iff_ne.mpr c7
        (first | rw [c7b0] | (simp only [i64_w, i32_w]; rw [c7b0]) | skip)
        have H' := Aside0.mk H
        clear H
        go_wp2
        go_meet
        case rel => exact ⟨_, (a1), (by first | rfl | (simp; done) | (simp [*]; done)), H', ⟨by first | omega | exact Nat.le_refl _⟩, by repeat (first | exact Drawn0.refl _ | apply Drawn0.step)⟩
     case rest =>
      clear HC6
      try clear p2
      try clear c3
      try clear c3b0
      try clear c4
      try clear c4b0
      try clear p5
      try clear q5
      try clear hx5
      try clear c6
      try clear p6
      try clear c7
      try clear c7b0
      try clear c7b1
      try clear p5
      try clear q5
      obtain ⟨kq, x5_5, rfl, HA, HJ5, ⟨mc5, rfl⟩⟩ := hcut
      cases kq with
      | zero => exact absurd HA.out (by simp [minuetref9_number.j0])
      | succ kj5 =>
       have H := HA.out
       clear HA
       simp only [minuetref9_number.j0] at H
       have HC8 := Aside0.mk H
       clear H
       go_upto_region 4 with (fail)
       go_cut [25] (fun v25 wc => ∃ (kq : Nat) (x25_7 : Bool), v25 = .bool x25_7 ∧ Aside0 (minuetref9_number.j1 kq a0 a1 x5_5 x25_7 = some r) ∧ Aside0 (kq ≤ kj5) ∧ Drawn0 w wc)
       case first =>
        have H := HC8.out
        clear HC8
        by_cases c9 : x5_5 ≥ (a0.size : Int)
        · rw [if_pos c9] at H
          have c9b0 : decide ((a0.size : Int) ≤ x5_5) = true := decide_eq_true c9
          clear c9
          (first | rw [c9b0] | (simp only [i64_w, i32_w]; rw [c9b0]) | skip)
          have H' := Aside0.mk H
          clear H
          go_wp2
          go_meet
          case rel => exact ⟨_, (true), (by first | rfl | (simp; done) | (simp [*]; done)), H', ⟨by have := HJ5.out; first | omega | exact Nat.le_refl _⟩, by repeat (first | exact Drawn0.refl _ | apply Drawn0.step)⟩
        · rw [if_neg c9] at H
          have c9b0 : decide ((a0.size : Int) ≤ x5_5) = false := decide_eq_false c9
          clear c9
          (first | rw [c9b0] | (simp only [i64_w, i32_w]; rw [c9b0]) | skip)
          by_cases c10 : 0 ≤ x5_5
          · rw [if_pos c10] at H
            have c10b0 : decide (0 ≤ x5_5) = true := decide_eq_true c10
            clear c10
            by_cases c11 : x5_5 < (a0.size : Int)
            · rw [if_pos c11] at H
              have c11b0 : decide (x5_5 < (a0.size : Int)) = true := decide_eq_true c11
              clear c11
              replace H := Option.bind_eq_some_iff.mp H
              obtain ⟨t101, A130, H⟩ := H
              replace H : (minuetref9_number.j1 kj5 a0 a1 x5_5 (!t101)) = some r := H
              have A13 := Aside0.mk A130
              clear A130
              have H' := Aside0.mk H
              clear H
              have p12 : 0 ≤ (x5_5 : Int) := of_decide_eq_true (by first | (with_reducible assumption) | assumption)
              have q12 : x5_5 < (a0.size : Int) := of_decide_eq_true (by first | (with_reducible assumption) | assumption)
              have hx12 := bt_at a0 x5_5
              replace p12 := eq_true p12
              replace q12 := eq_true q12
              go_wp2_with (first | (go_at_call 70; (with_reducible refine (minuetref9_digit.calls (bt a0 x5_5) t101 _ A13.out).mono ?_); rintro e w' ⟨rfl, ⟨nd, rfl⟩⟩))
              go_meet
              case rel => exact ⟨_, (!t101), (by first | rfl | (simp; done) | (simp [*]; done)), H', ⟨by have := HJ5.out; first | omega | exact Nat.le_refl _⟩, by repeat (first | exact Drawn0.refl _ | apply Drawn0.step)⟩
            · rw [if_neg c11] at H
              exact absurd H (by simp)
          · rw [if_neg c10] at H
            exact absurd H (by simp)
       case rest =>
        clear HC8
        try clear c1
        try clear p1
        try clear q1
        try clear hx1
        try clear p2
        try clear c3
        try clear c3b0
        try clear c4
        try clear c4b0
        try clear c5
        try clear p5
        try clear q5
        try clear hx5
        try clear c6
        try clear p6
        try clear c7
        try clear c7b0
        try clear c7b1
        try clear c9
        try clear c9b0
        try clear c10
        try clear c10b0
        try clear c11
        try clear c11b0
        try clear p12
        try clear q12
        try clear hx12
        try clear p12
        try clear p2
        try clear p5
        try clear p6
        try clear q12
        try clear q5
        obtain ⟨kq, x25_7, rfl, HA, HJ7, ⟨mc7, rfl⟩⟩ := hcut
        cases kq with
        | zero => exact absurd HA.out (by simp [minuetref9_number.j1])
        | succ kj7 =>
         have H := HA.out
         clear HA
         simp only [minuetref9_number.j1] at H
         by_cases c14 : x25_7 = true
         · subst c14
           have H1 : (some a1) = some r := by rw [if_pos rfl] at H; exact H
           clear H
           have H := H1
           clear H1
           obtain rfl := Option.some.inj H
           go_wp2
           go_ret
           exact ⟨by first | rfl | (simp; done) | (simp [*]; done), by repeat (first | exact Drawn0.refl _ | apply Drawn0.step)⟩
         · replace c14 := Bool.eq_false_iff.mpr c14
           subst c14
           have H1 : (if 0 ≤ x5_5 then (if x5_5 < (a0.size : Int) then (if (bt a0 x5_5) = 48 then (minuetref9_number.j2 kj7 a0 (wrap64 (x5_5 + 1))) else ((minuetref9_digits.f kj7 a0 x5_5).bind fun t102 => (minuetref9_number.j2 kj7 a0 t102))) else (none)) else (none)) = some r := by rw [if_neg (show ¬ (false = true) by decide)] at H; exact H
           clear H
           have H := H1
           clear H1
           by_cases c15 : 0 ≤ x5_5
           · rw [if_pos c15] at H
             have c15b0 : decide (0 ≤ x5_5) = true := decide_eq_true c15
             clear c15
             by_cases c16 : x5_5 < (a0.size : Int)
             · rw [if_pos c16] at H
               have c16b0 : decide (x5_5 < (a0.size : Int)) = true := decide_eq_true c16
               clear c16
               have HC18 := Aside0.mk H
               clear H
               have p17 : 0 ≤ (x5_5 : Int) := of_decide_eq_true (by first | (with_reducible assumption) | assumption)
               have q17 : x5_5 < (a0.size : Int) := of_decide_eq_true (by first | (with_reducible assumption) | assumption)
               have hx17 := bt_at a0 x5_5
               replace p17 := eq_true p17
               replace q17 := eq_true q17
               go_upto_if 32 with (fail)
               go_cut [6] (fun v6 wc => ∃ (kq : Nat) (x6_17 : Int), v6 = .int .i64 x6_17 ∧ Aside0 (minuetref9_number.j2 kq a0 x6_17 = some r) ∧ Aside0 (kq ≤ kj7) ∧ Drawn0 w wc)
               case first =>
                have H := HC18.out
                clear HC18
                by_cases c19 : (bt a0 x5_5) = 48
                · rw [if_pos c19] at H
                  have c19b0 : ((bt a0 x5_5) == 48) = true := beq_iff_eq.mpr c19
                  have c19b1 : ((bt a0 x5_5) != 48) = false := bne_eq_false_iff_eq.mpr c19
                  clear c19
                  (first | rw [c19b0] | (simp only [i64_w, i32_w]; rw [c19b0]) | skip)
                  have H' := Aside0.mk H
                  clear H
                  go_wp2
                  go_meet
                  case rel => exact ⟨_, (wrap64 (x5_5 + 1)), (by first | rfl | (simp; done) | (simp [*]; done)), H', ⟨by have := HJ5.out; have := HJ7.out; first | omega | exact Nat.le_refl _⟩, by repeat (first | exact Drawn0.refl _ | apply Drawn0.step)⟩
                · rw [if_neg c19] at H
                  have c19b0 : ((bt a0 x5_5) == 48) = false := beq_eq_false_iff_ne.mpr c19
                  have c19b1 : ((bt a0 x5_5) != 48) = true := bne_iff_ne.mpr c19
                  (first | rw [c19b0] | (simp only [i64_w, i32_w]; rw [c19b0]) | skip)
                  replace H := Option.bind_eq_some_iff.mp H
                  obtain ⟨t102, A200, H⟩ := H
                  replace H : (minuetref9_number.j2 kj7 a0 t102) = some r := H
                  have A20 := Aside0.mk A200
                  clear A200
                  have H' := Aside0.mk H
                  clear H
                  go_wp2_with (first | ((with_reducible refine gate_callee (f := 71) rfl ?_); refine goesL_ (some 35) rfl rfl Try.func71 (by kernel_rfl) rfl #[.string a0, .int .i64 x5_5] rfl (by (try simp only [List.map_toArray, List.map_cons, List.map_nil]); first | done | rfl | (simp only [List.length_drop, List.length_take]; rfl)) ?_; (with_reducible refine (minuetref9_digits.calls kj7 a0 x5_5 t102 _ A20.out).mono ?_); rintro e w' ⟨rfl, ⟨nd, rfl⟩⟩; refine ⟨_, rfl, ?_⟩))
                  go_meet
                  case rel => exact ⟨_, (t102), (by first | rfl | (simp; done) | (simp [*]; done)), H', ⟨by have := HJ5.out; have := HJ7.out; first | omega | exact Nat.le_refl _⟩, by repeat (first | exact Drawn0.refl _ | apply Drawn0.step)⟩
               case rest =>
                clear HC18
                try clear c1
                try clear p1
                try clear q1
                try clear hx1
                try clear p2
                try clear c3
                try clear c3b0
                try clear c4
                try clear c4b0
                try clear c5
                try clear p5
                try clear q5
                try clear hx5
                try clear c6
                try clear p6
                try clear c7
                try clear c7b0
                try clear c7b1
                try clear c9
                try clear c9b0
                try clear c10
                try clear c10b0
                try clear c11
                try clear c11b0
                try clear p12
                try clear q12
                try clear hx12
                try clear c14
                try clear c15
                try clear c15b0
                try clear c16
                try clear c16b0
                try clear p17
                try clear q17
                try clear hx17
                try clear c19
                try clear c19b0
                try clear c19b1
                try clear p1
                try clear p12
                try clear p17
                try clear p2
                try clear p5
                try clear p6
                try clear q1
                try clear q12
                try clear q17
                try clear q5
                obtain ⟨kq, x6_17, rfl, HA, HJ17, ⟨mc17, rfl⟩⟩ := hcut
                cases kq with
                | zero => exact absurd HA.out (by simp [minuetref9_number.j2])
                | succ kj17 =>
                 have H := HA.out
                 clear HA
                 simp only [minuetref9_number.j2] at H
                 have HC21 := Aside0.mk H
                 clear H
                 go_upto_region 9 with (fail)
                 go_cut [53] (fun v53 wc => ∃ (kq : Nat) (x53_20 : Bool), v53 = .bool x53_20 ∧ Aside0 (minuetref9_number.j3 kq a0 x6_17 x53_20 = some r) ∧ Aside0 (kq ≤ kj17) ∧ Drawn0 w wc)
                 case first =>
                  have H := HC21.out
                  clear HC21
                  by_cases c22 : (wrap64 (x6_17 + 1)) < (a0.size : Int)
                  · rw [if_pos c22] at H
                    have c22b0 : decide ((wrap64 (x6_17 + 1)) < (a0.size : Int)) = true := decide_eq_true c22
                    clear c22
                    (first | rw [c22b0] | (simp only [i64_w, i32_w]; rw [c22b0]) | skip)
                    by_cases c23 : 0 ≤ x6_17
                    · rw [if_pos c23] at H
                      have c23b0 : decide (0 ≤ x6_17) = true := decide_eq_true c23
                      clear c23
                      by_cases c24 : x6_17 < (a0.size : Int)
                      · rw [if_pos c24] at H
                        have c24b0 : decide (x6_17 < (a0.size : Int)) = true := decide_eq_true c24
                        clear c24
                        by_cases c26 : (bt a0 x6_17) = 46
                        · rw [if_pos c26] at H
                          have c26b0 : ((bt a0 x6_17) == 46) = true := beq_iff_eq.mpr c26
                          have c26b1 : ((bt a0 x6_17) != 46) = false := bne_eq_false_iff_eq.mpr c26
                          clear c26
                          obtain ⟨ji27, hji27⟩ : ∃ j_ : Int, (wrap64 (x6_17 + 1)) = j_ := ⟨_, rfl⟩
                          replace H : (if 0 ≤ (ji27) then ((minuetref9_digit.f (bt a0 (ji27))).bind fun t103 => (minuetref9_number.j3 kj17 a0 x6_17 t103)) else (none)) = some r := by first | (rw [hji27] at H; exact H) | (simp only [hji27] at H ⊢; exact H)
                          (try rw [hji27] at c22b0)
                          have hji27w : (IntKind.i64.wrap (x6_17 + 1)) = ji27 := (i64_w _).trans hji27
                          by_cases c28 : 0 ≤ (ji27)
                          · rw [if_pos c28] at H
                            have c28b0 : decide (0 ≤ (ji27)) = true := decide_eq_true c28
                            clear c28
                            replace H := Option.bind_eq_some_iff.mp H
                            obtain ⟨t103, A300, H⟩ := H
                            replace H : (minuetref9_number.j3 kj17 a0 x6_17 t103) = some r := H
                            have A30 := Aside0.mk A300
                            clear A300
                            have H' := Aside0.mk H
                            clear H
                            have p25 : 0 ≤ (x6_17 : Int) := of_decide_eq_true (by first | (with_reducible assumption) | assumption)
                            have q25 : x6_17 < (a0.size : Int) := of_decide_eq_true (by first | (with_reducible assumption) | assumption)
                            have hx25 := bt_at a0 x6_17
                            replace p25 := eq_true p25
                            replace q25 := eq_true q25
                            have p29 : 0 ≤ ((ji27) : Int) := of_decide_eq_true (by first | (with_reducible assumption) | assumption)
                            have q29 : (ji27) < (a0.size : Int) := of_decide_eq_true (by first | (with_reducible assumption) | assumption)
                            have hx29 := bt_at a0 (ji27)
                            replace p29 := eq_true p29
                            replace q29 := eq_true q29
                            go_wp2_with (first | (go_at_call 70; (with_reducible refine (minuetref9_digit.calls (bt a0 (ji27)) t103 _ A30.out).mono ?_); rintro e w' ⟨rfl, ⟨nd, rfl⟩⟩))
                            go_meet
                            case rel => exact ⟨_, (t103), (by first | rfl | (simp; done) | (simp [*]; done)), (by first | exact H' | (rw [hji27]; exact H')), ⟨by have := HJ5.out; have := HJ7.out; have := HJ17.out; first | omega | exact Nat.le_refl _⟩, by repeat (first | exact Drawn0.refl _ | apply Drawn0.step)⟩
                          · rw [if_neg c28] at H
                            exact absurd H (by simp)
                        · rw [if_neg c26] at H
                          have c26b0 : ((bt a0 x6_17) == 46) = false := beq_eq_false_iff_ne.mpr c26
                          have c26b1 : ((bt a0 x6_17) != 46) = true := bne_iff_ne.mpr c26
                          have H' := Aside0.mk H
                          clear H
                          have p25 : 0 ≤ (x6_17 : Int) := of_decide_eq_true (by first | (with_reducible assumption) | assumption)
                          have q25 : x6_17 < (a0.size : Int) := of_decide_eq_true (by first | (with_reducible assumption) | assumption)
                          have hx25 := bt_at a0 x6_17
                          replace p25 := eq_true p25
                          replace q25 := eq_true q25
                          go_wp2
                          go_meet
                          case rel => exact ⟨_, (false), (by first | rfl | (simp; done) | (simp [*]; done)), (by first | exact H' | (rw [hji27]; exact H')), ⟨by have := HJ5.out; have := HJ7.out; have := HJ17.out; first | omega | exact Nat.le_refl _⟩, by repeat (first | exact Drawn0.refl _ | apply Drawn0.step)⟩
                      · rw [if_neg c24] at H
                        exact absurd H (by simp)
                    · rw [if_neg c23] at H
                      exact absurd H (by simp)
                  · rw [if_neg c22] at H
                    have c22b0 : decide ((wrap64 (x6_17 + 1)) < (a0.size : Int)) = false := decide_eq_false c22
                    clear c22
                    (first | rw [c22b0] | (simp only [i64_w, i32_w]; rw [c22b0]) | skip)
                    have H' := Aside0.mk H
                    clear H
                    go_wp2
                    go_meet
                    case rel => exact ⟨_, (false), (by first | rfl | (simp; done) | (simp [*]; done)), H', ⟨by have := HJ5.out; have := HJ7.out; have := HJ17.out; first | omega | exact Nat.le_refl _⟩, by repeat (first | exact Drawn0.refl _ | apply Drawn0.step)⟩
                 case rest =>
                  clear HC21
                  try clear c1
                  try clear p1
                  try clear q1
                  try clear hx1
                  try clear c2
                  try clear p2
                  try clear q2
                  try clear hx2
                  try clear c3
                  try clear c3b0
                  try clear c4
                  try clear c4b0
                  try clear c5
                  try clear p5
                  try clear q5
                  try clear hx5
                  try clear c6
                  try clear p6
                  try clear c7
                  try clear c7b0
                  try clear c7b1
                  try clear c9
                  try clear c9b0
                  try clear c10
                  try clear c10b0
                  try clear c11
                  try clear c11b0
                  try clear p12
                  try clear q12
                  try clear hx12
                  try clear c14
                  try clear c15
                  try clear c15b0
                  try clear c16
                  try clear c16b0
                  try clear c17
                  try clear p17
                  try clear q17
                  try clear hx17
                  try clear c19
                  try clear c19b0
                  try clear c19b1
                  try clear c22
                  try clear c22b0
                  try clear c23
                  try clear c23b0
                  try clear c24
                  try clear c24b0
                  try clear p25
                  try clear q25
                  try clear hx25
                  try clear c26
                  try clear c26b0
                  try clear c26b1
                  try clear c28
                  try clear c28b0
                  try clear p29
                  try clear q29
                  try clear hx29
                  try clear p1
                  try clear p12
                  try clear p17
                  try clear p2
                  try clear p25
                  try clear p29
                  try clear p5
                  try clear p6
                  try clear q1
                  try clear q12
                  try clear q17
                  try clear q25
                  try clear q29
                  try clear q5
                  obtain ⟨kq, x53_20, rfl, HA, HJ20, ⟨mc20, rfl⟩⟩ := hcut
                  cases kq with
                  | zero => exact absurd HA.out (by simp [minuetref9_number.j3])
                  | succ kj20 =>
                   have H := HA.out
                   clear HA
                   simp only [minuetref9_number.j3] at H
                   have HC31 := Aside0.mk H
                   clear H
                   go_upto_if 53 with (fail)
                   go_cut [6] (fun v6 wc => ∃ (kq : Nat) (x6_30 : Int), v6 = .int .i64 x6_30 ∧ Aside0 (minuetref9_number.j4 kq a0 x6_30 = some r) ∧ Aside0 (kq ≤ kj20) ∧ Drawn0 w wc)
                   case first =>
                    have H := HC31.out
                    clear HC31
                    by_cases c32 : x53_20 = true
                    · subst c32
                      have H1 : ((minuetref9_digits.f kj20 a0 (wrap64 (x6_17 + 1))).bind fun t104 => (minuetref9_number.j4 kj20 a0 t104)) = some r := by rw [if_pos rfl] at H; exact H
                      clear H
                      have H := H1
                      clear H1
                      replace H := Option.bind_eq_some_iff.mp H
                      obtain ⟨t104, A330, H⟩ := H
                      replace H : (minuetref9_number.j4 kj20 a0 t104) = some r := H
                      have A33 := Aside0.mk A330
                      clear A330
                      have H' := Aside0.mk H
                      clear H
                      go_wp2_with (first | ((with_reducible refine gate_callee (f := 71) rfl ?_); refine goesL_ (some 57) rfl rfl Try.func71 (by kernel_rfl) rfl #[.string a0, .int .i64 (wrap64 (x6_17 + 1))] rfl (by (try simp only [List.map_toArray, List.map_cons, List.map_nil]); first | done | rfl | (simp only [List.length_drop, List.length_take]; rfl)) ?_; (with_reducible refine (minuetref9_digits.calls kj20 a0 (wrap64 (x6_17 + 1)) t104 _ A33.out).mono ?_); rintro e w' ⟨rfl, ⟨nd, rfl⟩⟩; refine ⟨_, rfl, ?_⟩))
                      go_meet
                      case rel => exact ⟨_, (t104), (by first | rfl | (simp; done) | (simp [*]; done)), H', ⟨by have := HJ5.out; have := HJ7.out; have := HJ17.out; have := HJ20.out; first | omega | exact Nat.le_refl _⟩, by repeat (first | exact Drawn0.refl _ | apply Drawn0.step)⟩
                    · replace c32 := Bool.eq_false_iff.mpr c32
                      subst c32
                      have H1 : (minuetref9_number.j4 kj20 a0 x6_17) = some r := by rw [if_neg (show ¬ (false = true) by decide)] at H; exact H
                      clear H
                      have H := H1
                      clear H1
                      have H' := Aside0.mk H
                      clear H
                      go_wp2
                      go_meet
                      case rel => exact ⟨_, (x6_17), (by first | rfl | (simp; done) | (simp [*]; done)), H', ⟨by have := HJ5.out; have := HJ7.out; have := HJ17.out; have := HJ20.out; first | omega | exact Nat.le_refl _⟩, by repeat (first | exact Drawn0.refl _ | apply Drawn0.step)⟩
                   case rest =>
                    clear HC31
                    try clear c1
                    try clear p1
                    try clear q1
                    try clear hx1
                    try clear c2
                    try clear p2
                    try clear q2
                    try clear hx2
                    try clear c3
                    try clear c3b0
                    try clear c4
                    try clear c4b0
                    try clear c5
                    try clear p5
                    try clear q5
                    try clear hx5
                    try clear c6
                    try clear p6
                    try clear c7
                    try clear c7b0
                    try clear c7b1
                    try clear c9
                    try clear c9b0
                    try clear c10
                    try clear c10b0
                    try clear c11
                    try clear c11b0
                    try clear p12
                    try clear q12
                    try clear hx12
                    try clear c14
                    try clear c15
                    try clear c15b0
                    try clear c16
                    try clear c16b0
                    try clear c17
                    try clear p17
                    try clear q17
                    try clear hx17
                    try clear c19
                    try clear c19b0
                    try clear c19b1
                    try clear c20
                    try clear c22
                    try clear c22b0
                    try clear c23
                    try clear c23b0
                    try clear c24
                    try clear c24b0
                    try clear p25
                    try clear q25
                    try clear hx25
                    try clear c26
                    try clear c26b0
                    try clear c26b1
                    try clear c28
                    try clear c28b0
                    try clear p29
                    try clear q29
                    try clear hx29
                    try clear c32
                    try clear p1
                    try clear p12
                    try clear p17
                    try clear p2
                    try clear p25
                    try clear p29
                    try clear p5
                    try clear p6
                    try clear q1
                    try clear q12
                    try clear q17
                    try clear q2
                    try clear q25
                    try clear q29
                    try clear q5
                    obtain ⟨kq, x6_30, rfl, HA, HJ30, ⟨mc30, rfl⟩⟩ := hcut
                    cases kq with
                    | zero => exact absurd HA.out (by simp [minuetref9_number.j4])
                    | succ kj30 =>
                     have H := HA.out
                     clear HA
                     simp only [minuetref9_number.j4] at H
                     have HC34 := Aside0.mk H
                     clear H
                     go_upto_region 11 with (fail)
                     go_cut [73] (fun v73 wc => ∃ (kq : Nat) (x73_33 : Bool), v73 = .bool x73_33 ∧ Aside0 (minuetref9_number.j5 kq a0 x6_30 x73_33 = some r) ∧ Aside0 (kq ≤ kj30) ∧ Drawn0 w wc)
                     case first =>
                      have H := HC34.out
                      clear HC34
                      by_cases c35 : x6_30 < (a0.size : Int)
                      · rw [if_pos c35] at H
                        have c35b0 : decide (x6_30 < (a0.size : Int)) = true := decide_eq_true c35
                        clear c35
                        (first | rw [c35b0] | (simp only [i64_w, i32_w]; rw [c35b0]) | skip)
                        by_cases c36 : 0 ≤ x6_30
                        · rw [if_pos c36] at H
                          have c36b0 : decide (0 ≤ x6_30) = true := decide_eq_true c36
                          clear c36
                          by_cases c38 : (bt a0 x6_30) = 101
                          · rw [if_pos c38] at H
                            have c38b0 : ((bt a0 x6_30) == 101) = true := beq_iff_eq.mpr c38
                            have c38b1 : ((bt a0 x6_30) != 101) = false := bne_eq_false_iff_eq.mpr c38
                            clear c38
                            have H' := Aside0.mk H
                            clear H
                            have p37 : 0 ≤ (x6_30 : Int) := of_decide_eq_true (by first | (with_reducible assumption) | assumption)
                            have q37 : x6_30 < (a0.size : Int) := of_decide_eq_true (by first | (with_reducible assumption) | assumption)
                            have hx37 := bt_at a0 x6_30
                            replace p37 := eq_true p37
                            replace q37 := eq_true q37
                            go_wp2
                            go_meet
                            case rel => exact ⟨_, (true), (by first | rfl | (simp; done) | (simp [*]; done)), H', ⟨by have := HJ5.out; have := HJ7.out; have := HJ17.out; have := HJ20.out; have := HJ30.out; first | omega | exact Nat.le_refl _⟩, by repeat (first | exact Drawn0.refl _ | apply Drawn0.step)⟩
                          · rw [if_neg c38] at H
                            have c38b0 : ((bt a0 x6_30) == 101) = false := beq_eq_false_iff_ne.mpr c38
                            have c38b1 : ((bt a0 x6_30) != 101) = true := bne_iff_ne.mpr c38
                            have H' := Aside0.mk H
                            clear H
                            have p37 : 0 ≤ (x6_30 : Int) := of_decide_eq_true (by first | (with_reducible assumption) | assumption)
                            have q37 : x6_30 < (a0.size : Int) := of_decide_eq_true (by first | (with_reducible assumption) | assumption)
                            have hx37 := bt_at a0 x6_30
                            replace p37 := eq_true p37
                            replace q37 := eq_true q37
                            have p39 : 0 ≤ (x6_30 : Int) := of_decide_eq_true (by first | (with_reducible assumption) | assumption)
                            have q39 : x6_30 < (a0.size : Int) := of_decide_eq_true (by first | (with_reducible assumption) | assumption)
                            have hx39 := bt_at a0 x6_30
                            replace p39 := eq_true p39
                            replace q39 := eq_true q39
                            go_wp2
                            go_meet
                            case rel => exact ⟨_, (((bt a0 x6_30) == 69)), (by first | rfl | (simp; done) | (simp [*]; done)), H', ⟨by have := HJ5.out; have := HJ7.out; have := HJ17.out; have := HJ20.out; have := HJ30.out; first | omega | exact Nat.le_refl _⟩, by repeat (first | exact Drawn0.refl _ | apply Drawn0.step)⟩
                        · rw [if_neg c36] at H
                          exact absurd H (by simp)
                      · rw [if_neg c35] at H
                        have c35b0 : decide (x6_30 < (a0.size : Int)) = false := decide_eq_false c35
                        clear c35
                        (first | rw [c35b0] | (simp only [i64_w, i32_w]; rw [c35b0]) | skip)
                        have H' := Aside0.mk H
                        clear H
                        go_wp2
                        go_meet
                        case rel => exact ⟨_, (false), (by first | rfl | (simp; done) | (simp [*]; done)), H', ⟨by have := HJ5.out; have := HJ7.out; have := HJ17.out; have := HJ20.out; have := HJ30.out; first | omega | exact Nat.le_refl _⟩, by repeat (first | exact Drawn0.refl _ | apply Drawn0.step)⟩
                     case rest =>
                      clear HC34
                      try clear c1
                      try clear p1
                      try clear q1
                      try clear hx1
                      try clear c2
                      try clear p2
                      try clear q2
                      try clear hx2
                      try clear c3
                      try clear c3b0
                      try clear p3
                      try clear q3
                      try clear hx3
                      try clear c4
                      try clear c4b0
                      try clear c5
                      try clear p5
                      try clear q5
                      try clear hx5
                      try clear c6
                      try clear p6
                      try clear c7
                      try clear c7b0
                      try clear c7b1
                      try clear c9
                      try clear c9b0
                      try clear c10
                      try clear c10b0
                      try clear c11
                      try clear c11b0
                      try clear p12
                      try clear q12
                      try clear hx12
                      try clear c14
                      try clear c15
                      try clear c15b0
                      try clear c16
                      try clear c16b0
                      try clear c17
                      try clear p17
                      try clear q17
                      try clear hx17
                      try clear c19
                      try clear c19b0
                      try clear c19b1
                      try clear c20
                      try clear c22
                      try clear c22b0
                      try clear c23
                      try clear c23b0
                      try clear c24
                      try clear c24b0
                      try clear p25
                      try clear q25
                      try clear hx25
                      try clear c26
                      try clear c26b0
                      try clear c26b1
                      try clear c28
                      try clear c28b0
                      try clear p29
                      try clear q29
                      try clear hx29
                      try clear c30
                      try clear c32
                      try clear c35
                      try clear c35b0
                      try clear c36
                      try clear c36b0
                      try clear p37
                      try clear q37
                      try clear hx37
                      try clear c38
                      try clear c38b0
                      try clear c38b1
                      try clear p39
                      try clear q39
                      try clear hx39
                      try clear p1
                      try clear p12
                      try clear p17
                      try clear p2
                      try clear p25
                      try clear p29
                      try clear p37
                      try clear p39
                      try clear p5
                      try clear p6
                      try clear q1
                      try clear q12
                      try clear q17
                      try clear q2
                      try clear q25
                      try clear q29
                      try clear q37
                      try clear q39
                      try clear q5
                      obtain ⟨kq, x73_33, rfl, HA, HJ33, ⟨mc33, rfl⟩⟩ := hcut
                      cases kq with
                      | zero => exact absurd HA.out (by simp [minuetref9_number.j5])
                      | succ kj33 =>
                       have H := HA.out
                       clear HA
                       simp only [minuetref9_number.j5] at H
                       by_cases c40 : x73_33 = true
                       · subst c40
                         have H1 : (if (wrap64 (x6_30 + 1)) < (a0.size : Int) then (if 0 ≤ (wrap64 (x6_30 + 1)) then (if (bt a0 (wrap64 (x6_30 + 1))) = 43 then (minuetref9_number.j6 kj33 a0 x6_30 (wrap64 (x6_30 + 1)) true) else (minuetref9_number.j6 kj33 a0 x6_30 (wrap64 (x6_30 + 1)) ((bt a0 (wrap64 (x6_30 + 1))) == 45))) else (none)) else (minuetref9_number.j6 kj33 a0 x6_30 (wrap64 (x6_30 + 1)) false)) = some r := by rw [if_pos rfl] at H; exact H
                         clear H
                         have H := H1
                         clear H1
                         have HC41 := Aside0.mk H
                         clear H
                         go_upto_region 13 with (fail)
                         go_cut [91] (fun v91 wc => ∃ (kq : Nat) (x91_40 : Bool), v91 = .bool x91_40 ∧ Aside0 (minuetref9_number.j6 kq a0 x6_30 (wrap64 (x6_30 + 1)) x91_40 = some r) ∧ Aside0 (kq ≤ kj33) ∧ Drawn0 w wc)
                         case first =>
                          have H := HC41.out
                          clear HC41
                          by_cases c42 : (wrap64 (x6_30 + 1)) < (a0.size : Int)
                          · rw [if_pos c42] at H
                            have c42b0 : decide ((wrap64 (x6_30 + 1)) < (a0.size : Int)) = true := decide_eq_true c42
                            clear c42
                            (first | rw [c42b0] | (simp only [i64_w, i32_w]; rw [c42b0]) | skip)
                            obtain ⟨ji43, hji43⟩ : ∃ j_ : Int, (wrap64 (x6_30 + 1)) = j_ := ⟨_, rfl⟩
                            replace H : (if 0 ≤ (ji43) then (if (bt a0 (ji43)) = 43 then (minuetref9_number.j6 kj33 a0 x6_30 ji43 true) else (minuetref9_number.j6 kj33 a0 x6_30 ji43 ((bt a0 (ji43)) == 45))) else (none)) = some r := by first | (rw [hji43] at H; exact H) | (simp only [hji43] at H ⊢; exact H)
                            (try rw [hji43] at c42b0)
                            have hji43w : (IntKind.i64.wrap (x6_30 + 1)) = ji43 := (i64_w _).trans hji43
                            by_cases c44 : 0 ≤ (ji43)
                            · rw [if_pos c44] at H
                              have c44b0 : decide (0 ≤ (ji43)) = true := decide_eq_true c44
                              clear c44
                              by_cases c46 : (bt a0 (ji43)) = 43
                              · rw [if_pos c46] at H
                                have c46b0 : ((bt a0 (ji43)) == 43) = true := beq_iff_eq.mpr c46
                                have c46b1 : ((bt a0 (ji43)) != 43) = false := bne_eq_false_iff_eq.mpr c46
                                clear c46
                                have H' := Aside0.mk H
                                clear H
                                have p45 : 0 ≤ ((ji43) : Int) := of_decide_eq_true (by first | (with_reducible assumption) | assumption)
                                have q45 : (ji43) < (a0.size : Int) := of_decide_eq_true (by first | (with_reducible assumption) | assumption)
                                have hx45 := bt_at a0 (ji43)
                                replace p45 := eq_true p45
                                replace q45 := eq_true q45
                                go_wp2
                                go_meet
                                case rel => exact ⟨_, (true), (by first | rfl | (simp; done) | (simp [*]; done)), (by first | exact H' | (rw [hji43]; exact H')), ⟨by have := HJ5.out; have := HJ7.out; have := HJ17.out; have := HJ20.out; have := HJ30.out; have := HJ33.out; first | omega | exact Nat.le_refl _⟩, by repeat (first | exact Drawn0.refl _ | apply Drawn0.step)⟩
                              · rw [if_neg c46] at H
                                have c46b0 : ((bt a0 (ji43)) == 43) = false := beq_eq_false_iff_ne.mpr c46
                                have c46b1 : ((bt a0 (ji43)) != 43) = true := bne_iff_ne.mpr c46
                                have H' := Aside0.mk H
                                clear H
                                have p45 : 0 ≤ ((ji43) : Int) := of_decide_eq_true (by first | (with_reducible assumption) | assumption)
                                have q45 : (ji43) < (a0.size : Int) := of_decide_eq_true (by first | (with_reducible assumption) | assumption)
                                have hx45 := bt_at a0 (ji43)
                                replace p45 := eq_true p45
                                replace q45 := eq_true q45
                                have p47 : 0 ≤ ((ji43) : Int) := of_decide_eq_true (by first | (with_reducible assumption) | assumption)
                                have q47 : (ji43) < (a0.size : Int) := of_decide_eq_true (by first | (with_reducible assumption) | assumption)
                                have hx47 := bt_at a0 (ji43)
                                replace p47 := eq_true p47
                                replace q47 := eq_true q47
                                go_wp2
                                go_meet
                                case rel => exact ⟨_, (((bt a0 (ji43)) == 45)), (by first | rfl | (simp; done) | (simp only [← hji43] <;> (first | rfl | simp)) | (simp [*]; done)), (by first | exact H' | (rw [hji43]; exact H')), ⟨by have := HJ5.out; have := HJ7.out; have := HJ17.out; have := HJ20.out; have := HJ30.out; have := HJ33.out; first | omega | exact Nat.le_refl _⟩, by repeat (first | exact Drawn0.refl _ | apply Drawn0.step)⟩
                            · rw [if_neg c44] at H
                              exact absurd H (by simp)
                          · rw [if_neg c42] at H
                            have c42b0 : decide ((wrap64 (x6_30 + 1)) < (a0.size : Int)) = false := decide_eq_false c42
                            clear c42
                            (first | rw [c42b0] | (simp only [i64_w, i32_w]; rw [c42b0]) | skip)
                            have H' := Aside0.mk H
                            clear H
                            go_wp2
                            go_meet
                            case rel => exact ⟨_, (false), (by first | rfl | (simp; done) | (simp [*]; done)), (by first | exact H' | (rw [hji43]; exact H')), ⟨by have := HJ5.out; have := HJ7.out; have := HJ17.out; have := HJ20.out; have := HJ30.out; have := HJ33.out; first | omega | exact Nat.le_refl _⟩, by repeat (first | exact Drawn0.refl _ | apply Drawn0.step)⟩
                         case rest =>
                          clear HC41
                          try clear c1
                          try clear p1
                          try clear q1
                          try clear hx1
                          try clear c2
                          try clear p2
                          try clear q2
                          try clear hx2
                          try clear c3
                          try clear c3b0
                          try clear p3
                          try clear q3
                          try clear hx3
                          try clear c4
                          try clear c4b0
                          try clear p4
                          try clear q4
                          try clear hx4
                          try clear c5
                          try clear p5
                          try clear q5
                          try clear hx5
                          try clear c6
                          try clear p6
                          try clear c7
                          try clear c7b0
                          try clear c7b1
                          try clear c9
                          try clear c9b0
                          try clear c10
                          try clear c10b0
                          try clear c11
                          try clear c11b0
                          try clear p12
                          try clear q12
                          try clear hx12
                          try clear c14
                          try clear c15
                          try clear c15b0
                          try clear c16
                          try clear c16b0
                          try clear c17
                          try clear p17
                          try clear q17
                          try clear hx17
                          try clear c19
                          try clear c19b0
                          try clear c19b1
                          try clear c20
                          try clear c22
                          try clear c22b0
                          try clear c23
                          try clear c23b0
                          try clear c24
                          try clear c24b0
                          try clear p25
                          try clear q25
                          try clear hx25
                          try clear c26
                          try clear c26b0
                          try clear c26b1
                          try clear c28
                          try clear c28b0
                          try clear p29
                          try clear q29
                          try clear hx29
                          try clear c30
                          try clear c32
                          try clear c33
                          try clear c35
                          try clear c35b0
                          try clear c36
                          try clear c36b0
                          try clear p37
                          try clear q37
                          try clear hx37
                          try clear c38
                          try clear c38b0
                          try clear c38b1
                          try clear p39
                          try clear q39
                          try clear hx39
                          try clear c40
                          try clear c42
                          try clear c42b0
                          try clear c44
                          try clear c44b0
                          try clear p45
                          try clear q45
                          try clear hx45
                          try clear c46
                          try clear c46b0
                          try clear c46b1
                          try clear p47
                          try clear q47
                          try clear hx47
                          try clear p1
                          try clear p12
                          try clear p17
                          try clear p2
                          try clear p25
                          try clear p29
                          try clear p3
                          try clear p37
                          try clear p39
                          try clear p45
                          try clear p47
                          try clear p5
                          try clear p6
                          try clear q1
                          try clear q12
                          try clear q17
                          try clear q2
                          try clear q25
                          try clear q29
                          try clear q3
                          try clear q37
                          try clear q39
                          try clear q45
                          try clear q47
                          try clear q5
                          obtain ⟨kq, x91_40, rfl, HA, HJ40, ⟨mc40, rfl⟩⟩ := hcut
                          cases kq with
                          | zero => exact absurd HA.out (by simp [minuetref9_number.j6])
                          | succ kj40 =>
                           have H := HA.out
                           clear HA
                           simp only [minuetref9_number.j6] at H
                           have HC48 := Aside0.mk H
                           clear H
                           go_upto_if 91 with (fail)
                           go_cut [7] (fun v7 wc => ∃ (kq : Nat) (x7_47 : Int), v7 = .int .i64 x7_47 ∧ Aside0 (minuetref9_number.j7 kq a0 x6_30 x7_47 = some r) ∧ Aside0 (kq ≤ kj40) ∧ Drawn0 w wc)
                           case first =>
                            have H := HC48.out
                            clear HC48
                            by_cases c49 : x91_40 = true
                            · subst c49
                              have H1 : (minuetref9_number.j7 kj40 a0 x6_30 (wrap64 ((wrap64 (x6_30 + 1)) + 1))) = some r := by rw [if_pos rfl] at H; exact H
                              clear H
                              have H := H1
                              clear H1
                              have H' := Aside0.mk H
                              clear H
                              go_wp2
                              go_meet
                              case rel => exact ⟨_, (wrap64 ((wrap64 (x6_30 + 1)) + 1)), (by first | rfl | (simp; done) | (simp [*]; done)), H', ⟨by have := HJ5.out; have := HJ7.out; have := HJ17.out; have := HJ20.out; have := HJ30.out; have := HJ33.out; have := HJ40.out; first | omega | exact Nat.le_refl _⟩, by repeat (first | exact Drawn0.refl _ | apply Drawn0.step)⟩
                            · replace c49 := Bool.eq_false_iff.mpr c49
                              subst c49
                              have H1 : (minuetref9_number.j7 kj40 a0 x6_30 (wrap64 (x6_30 + 1))) = some r := by rw [if_neg (show ¬ (false = true) by decide)] at H; exact H
                              clear H
                              have H := H1
                              clear H1
                              have H' := Aside0.mk H
                              clear H
                              go_wp2
                              go_meet
                              case rel => exact ⟨_, ((wrap64 (x6_30 + 1))), (by first | rfl | (simp; done) | (simp [*]; done)), H', ⟨by have := HJ5.out; have := HJ7.out; have := HJ17.out; have := HJ20.out; have := HJ30.out; have := HJ33.out; have := HJ40.out; first | omega | exact Nat.le_refl _⟩, by repeat (first | exact Drawn0.refl _ | apply Drawn0.step)⟩
                           case rest =>
                            clear HC48
                            try clear c1
                            try clear p1
                            try clear q1
                            try clear hx1
                            try clear c2
                            try clear p2
                            try clear q2
                            try clear hx2
                            try clear c3
                            try clear c3b0
                            try clear p3
                            try clear q3
                            try clear hx3
                            try clear c4
                            try clear c4b0
                            try clear p4
                            try clear q4
                            try clear hx4
                            try clear c5
                            try clear p5
                            try clear q5
                            try clear hx5
                            try clear c6
                            try clear p6
                            try clear c7
                            try clear c7b0
                            try clear c7b1
                            try clear c9
                            try clear c9b0
                            try clear c10
                            try clear c10b0
                            try clear c11
                            try clear c11b0
                            try clear p12
                            try clear q12
                            try clear hx12
                            try clear c14
                            try clear c15
                            try clear c15b0
                            try clear c16
                            try clear c16b0
                            try clear c17
                            try clear p17
                            try clear q17
                            try clear hx17
                            try clear c19
                            try clear c19b0
                            try clear c19b1
                            try clear c20
                            try clear c22
                            try clear c22b0
                            try clear c23
                            try clear c23b0
                            try clear c24
                            try clear c24b0
                            try clear p25
                            try clear q25
                            try clear hx25
                            try clear c26
                            try clear c26b0
                            try clear c26b1
                            try clear c28
                            try clear c28b0
                            try clear p29
                            try clear q29
                            try clear hx29
                            try clear c30
                            try clear c32
                            try clear c33
                            try clear c35
                            try clear c35b0
                            try clear c36
                            try clear c36b0
                            try clear p37
                            try clear q37
                            try clear hx37
                            try clear c38
                            try clear c38b0
                            try clear c38b1
                            try clear p39
                            try clear q39
                            try clear hx39
                            try clear c40
                            try clear c42
                            try clear c42b0
                            try clear c44
                            try clear c44b0
                            try clear p45
                            try clear q45
                            try clear hx45
                            try clear c46
                            try clear c46b0
                            try clear c46b1
                            try clear p47
                            try clear q47
                            try clear hx47
                            try clear c49
                            try clear p1
                            try clear p12
                            try clear p17
                            try clear p2
                            try clear p25
                            try clear p29
                            try clear p3
                            try clear p37
                            try clear p39
                            try clear p4
                            try clear p45
                            try clear p47
                            try clear p5
                            try clear p6
                            try clear q1
                            try clear q12
                            try clear q17
                            try clear q2
                            try clear q25
                            try clear q29
                            try clear q3
                            try clear q37
                            try clear q39
                            try clear q4
                            try clear q45
                            try clear q47
                            try clear q5
                            obtain ⟨kq, x7_47, rfl, HA, HJ47, ⟨mc47, rfl⟩⟩ := hcut
                            cases kq with
                            | zero => exact absurd HA.out (by simp [minuetref9_number.j7])
                            | succ kj47 =>
                             have H := HA.out
                             clear HA
                             simp only [minuetref9_number.j7] at H
                             by_cases c50 : x7_47 < (a0.size : Int)
                             · rw [if_pos c50] at H
                               have c50b0 : decide (x7_47 < (a0.size : Int)) = true := decide_eq_true c50
                               clear c50
                               by_cases c51 : 0 ≤ x7_47
                               · rw [if_pos c51] at H
                                 have c51b0 : decide (0 ≤ x7_47) = true := decide_eq_true c51
                                 clear c51
                                 replace H := Option.bind_eq_some_iff.mp H
                                 obtain ⟨t105, A530, H⟩ := H
                                 replace H : (if t105 = true then ((minuetref9_digits.f kj47 a0 x7_47).bind fun t106 => (some t106)) else (some x6_30)) = some r := H
                                 have A53 := Aside0.mk A530
                                 clear A530
                                 by_cases c54 : t105 = true
                                 · subst c54
                                   have H1 : ((minuetref9_digits.f kj47 a0 x7_47).bind fun t106 => (some t106)) = some r := by rw [if_pos rfl] at H; exact H
                                   clear H
                                   have H := H1
                                   clear H1
                                   replace H := Option.bind_eq_some_iff.mp H
                                   obtain ⟨t106, A550, H⟩ := H
                                   replace H : (some t106) = some r := H
                                   have A55 := Aside0.mk A550
                                   clear A550
                                   obtain rfl := Option.some.inj H
                                   have p52 : 0 ≤ (x7_47 : Int) := of_decide_eq_true (by first | (with_reducible assumption) | assumption)
                                   have q52 : x7_47 < (a0.size : Int) := of_decide_eq_true (by first | (with_reducible assumption) | assumption)
                                   have hx52 := bt_at a0 x7_47
                                   replace p52 := eq_true p52
                                   replace q52 := eq_true q52
                                   go_wp2_with (first | (go_at_call 70; (with_reducible refine (minuetref9_digit.calls (bt a0 x7_47) true _ A53.out).mono ?_); rintro e w' ⟨rfl, ⟨nd, rfl⟩⟩) | ((with_reducible refine gate_callee (f := 71) rfl ?_); refine goesL_ (some 106) rfl rfl Try.func71 (by kernel_rfl) rfl #[.string a0, .int .i64 x7_47] rfl (by (try simp only [List.map_toArray, List.map_cons, List.map_nil]); first | done | rfl | (simp only [List.length_drop, List.length_take]; rfl)) ?_; (with_reducible refine (minuetref9_digits.calls kj47 a0 x7_47 t106 _ A55.out).mono ?_); rintro e w' ⟨rfl, ⟨nd, rfl⟩⟩; refine ⟨_, rfl, ?_⟩))
                                   go_ret
                                   exact ⟨by first | rfl | (simp; done) | (simp [*]; done), by repeat (first | exact Drawn0.refl _ | apply Drawn0.step)⟩
                                 · replace c54 := Bool.eq_false_iff.mpr c54
                                   subst c54
                                   have H1 : (some x6_30) = some r := by rw [if_neg (show ¬ (false = true) by decide)] at H; exact H
                                   clear H
                                   have H := H1
                                   clear H1
                                   obtain rfl := Option.some.inj H
                                   have p52 : 0 ≤ (x7_47 : Int) := of_decide_eq_true (by first | (with_reducible assumption) | assumption)
                                   have q52 : x7_47 < (a0.size : Int) := of_decide_eq_true (by first | (with_reducible assumption) | assumption)
                                   have hx52 := bt_at a0 x7_47
                                   replace p52 := eq_true p52
                                   replace q52 := eq_true q52
                                   go_wp2_with (first | (go_at_call 70; (with_reducible refine (minuetref9_digit.calls (bt a0 x7_47) false _ A53.out).mono ?_); rintro e w' ⟨rfl, ⟨nd, rfl⟩⟩))
                                   go_ret
                                   exact ⟨by first | rfl | (simp; done) | (simp [*]; done), by repeat (first | exact Drawn0.refl _ | apply Drawn0.step)⟩
                               · rw [if_neg c51] at H
                                 exact absurd H (by simp)
                             · rw [if_neg c50] at H
                               have c50b0 : decide (x7_47 < (a0.size : Int)) = false := decide_eq_false c50
                               clear c50
                               obtain rfl := Option.some.inj H
                               go_wp2
                               go_ret
                               exact ⟨by first | rfl | (simp; done) | (simp [*]; done), by repeat (first | exact Drawn0.refl _ | apply Drawn0.step)⟩
                       · replace c40 := Bool.eq_false_iff.mpr c40
                         subst c40
                         have H1 : (some x6_30) = some r := by rw [if_neg (show ¬ (false = true) by decide)] at H; exact H
                         clear H
                         have H := H1
                         clear H1
                         obtain rfl := Option.some.inj H
                         go_wp2
                         go_ret
                         exact ⟨by first | rfl | (simp; done) | (simp [*]; done), by repeat (first | exact Drawn0.refl _ | apply Drawn0.step)⟩
             · rw [if_neg c16] at H
               exact absurd H (by simp)
           · rw [if_neg c15] at H
             exact absurd H (by simp)
   · rw [if_neg c4] at H
     exact absurd H (by simp)
 · rw [if_neg c3] at H
   exact absurd H (by simp)

end Go.Proofs.Ytehojohacombkaa.G
