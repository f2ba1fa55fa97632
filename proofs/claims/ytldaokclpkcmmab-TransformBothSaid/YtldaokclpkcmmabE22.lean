/- The reference's Between comes to the same. -/
import Derived.Test.YtldaokclpkcmmabE20
import Derived.Test.YtldaokclpkcmmabGMinuetref1PBetween
namespace Go.Proofs.Ytldaokclpkcmmab.Pl
open Go.RowKit Go.Proofs.Ytldaokclpkcmmab.G Go.Proofs.YtldaokclpkcmmabW.PrintWords Go.Proofs.YtldaokclpkcmmabW.PrintLast Go.Proofs.YtldaokclpkcmmabW.PrintMore
set_option linter.unusedVariables false
set_option linter.unusedSimpArgs false
theorem bt_nat (s : ByteArray) (i : Nat) (h : i < s.size) : bt s (i : Int) = ((s.data.toList.getD i 0).toNat : Int) := by
  unfold bt
  rw [dif_pos (show ((i : Int)).toNat < s.size by rw [Int.toNat_natCast]; exact h)]
  simp only [Int.toNat_natCast]
  rw [edit_Between.at_byte s i h]
theorem bt_iff (s t : ByteArray) (i j : Nat) (hi : i < s.size) (hj : j < t.size) : bt s (i : Int) = bt t (j : Int) ↔ s.data.toList.getD i 0 = t.data.toList.getD j 0 := by
  rw [bt_nat s i hi, bt_nat t j hj, Int.ofNat_inj, UInt8.toNat_inj]
theorem rb_l0 (s t : ByteArray) (hs : s.size ≤ 4096) {r : List Cm × Int} (h : Ev (fun k => minuetref1_Between.j2 k s t (ahd s t : Int) 0) r) : ∀ (g i : Nat), i + g = min s.size t.size → edit_Between.alk (edit_Between.same1 s t) g i = ahd s t → Ev (fun k => minuetref1_Between.l0 k s t (i : Int) 0) r := by
  intro g
  induction g with
  | zero =>
    intro i e ha
    refine Ev.step (fun k => by rw [minuetref1_Between.l0]) ?_
    rw [edit_Between.alk] at ha
    subst ha
    by_cases c1 : ((ahd s t : Nat) : Int) < (s.size : Int)
    · simp only [if_pos c1, if_neg (show ¬ ((ahd s t : Nat) : Int) < (t.size : Int) by omega)]; exact h
    · simp only [if_neg c1]; exact h
  | succ g ih =>
    intro i e ha
    have b1 : i < s.size := by omega
    have b2 : i < t.size := by omega
    refine Ev.step (fun k => by rw [minuetref1_Between.l0]) ?_
    simp only [if_pos (show (i : Int) < (s.size : Int) by omega), if_pos (show (i : Int) < (t.size : Int) by omega), if_pos (nat_nonneg i)]
    rw [edit_Between.alk] at ha
    by_cases c : edit_Between.same1 s t i = true
    · rw [if_pos c] at ha
      have := (bt_iff s t i i b1 b2).2 (of_decide_eq_true c)
      simp only [if_pos this]
      rw [show wrap64 ((i : Int) + 1) = ((i + 1 : Nat) : Int) by rw [w64 (by omega) (by omega)]; omega]
      exact ih (i + 1) (by omega) ha
    · rw [if_neg c] at ha
      have : ¬ bt s (i : Int) = bt t (i : Int) := fun hh => c (decide_eq_true ((bt_iff s t i i b1 b2).1 hh))
      simp only [if_neg this]
      rw [ha]; exact h
theorem tail_getD (s : ByteArray) (n j : Nat) (h : n + j < s.size) : (tailOf s n).data.toList.getD ((tailOf s n).size - 1 - j) 0 = s.data.toList.getD (s.size - 1 - j) 0 := by
  show (bl (tailOf s n)).getD _ 0 = (bl s).getD _ 0
  rw [tail_size s n (by omega)]
  have e : bl (tailOf s n) = (bl s).drop n := by unfold tailOf; rw [bl_ext, List.take_of_length_le (by rw [List.length_drop, bl_len]; omega)]
  rw [e, List.getD_eq_getElem?_getD, List.getD_eq_getElem?_getD, List.getElem?_drop]
  congr 2; omega
theorem rb_l1 (s t : ByteArray) (hs : s.size ≤ 4096) (ht : t.size ≤ 4096) {r : List Cm × Int} (h : Ev (fun k => minuetref1_Between.j4 k s t (ahd s t : Int) (bhd s t : Int)) r) : ∀ (g j : Nat), j + g = min (s.size - ahd s t) (t.size - ahd s t) → edit_Between.alk (edit_Between.same2 (tailOf s (ahd s t)) (tailOf t (ahd s t))) g j = bhd s t → Ev (fun k => minuetref1_Between.l1 k s t (ahd s t : Int) (j : Int)) r := by
  have hn := ahd_le s t
  intro g
  induction g with
  | zero =>
    intro j e ha
    refine Ev.step (fun k => by rw [minuetref1_Between.l1]) ?_
    rw [show wrap64 ((s.size : Int) - (ahd s t : Int)) = (s.size : Int) - (ahd s t : Int) from w64 (by omega) (by omega), show wrap64 ((t.size : Int) - (ahd s t : Int)) = (t.size : Int) - (ahd s t : Int) from w64 (by omega) (by omega)]
    rw [edit_Between.alk] at ha
    by_cases c1 : (j : Int) < (s.size : Int) - (ahd s t : Int)
    · simp only [if_pos c1, if_neg (show ¬ (j : Int) < (t.size : Int) - (ahd s t : Int) by omega)]; rw [ha]; exact h
    · simp only [if_neg c1]; rw [ha]; exact h
  | succ g ih =>
    intro j e ha
    have b1 : ahd s t + j < s.size := by omega
    have b2 : ahd s t + j < t.size := by omega
    refine Ev.step (fun k => by rw [minuetref1_Between.l1]) ?_
    rw [show wrap64 ((s.size : Int) - (ahd s t : Int)) = (s.size : Int) - (ahd s t : Int) from w64 (by omega) (by omega), show wrap64 ((t.size : Int) - (ahd s t : Int)) = (t.size : Int) - (ahd s t : Int) from w64 (by omega) (by omega), show wrap64 ((s.size : Int) - 1) = (s.size : Int) - 1 from w64 (by omega) (by omega), show wrap64 ((t.size : Int) - 1) = (t.size : Int) - 1 from w64 (by omega) (by omega),
      show wrap64 ((s.size : Int) - 1 - (j : Int)) = ((s.size - 1 - j : Nat) : Int) by rw [w64 (by omega) (by omega)]; omega, show wrap64 ((t.size : Int) - 1 - (j : Int)) = ((t.size - 1 - j : Nat) : Int) by rw [w64 (by omega) (by omega)]; omega]
    simp only [if_pos (show (j : Int) < (s.size : Int) - (ahd s t : Int) by omega), if_pos (show (j : Int) < (t.size : Int) - (ahd s t : Int) by omega), if_pos (nat_nonneg _), if_pos (show ((s.size - 1 - j : Nat) : Int) < (s.size : Int) by omega), if_pos (show ((t.size - 1 - j : Nat) : Int) < (t.size : Int) by omega)]
    rw [edit_Between.alk] at ha
    have hk := bt_iff s t (s.size - 1 - j) (t.size - 1 - j) (by omega) (by omega)
    rw [← tail_getD s (ahd s t) j b1, ← tail_getD t (ahd s t) j b2] at hk
    by_cases c : edit_Between.same2 (tailOf s (ahd s t)) (tailOf t (ahd s t)) j = true
    · rw [if_pos c] at ha
      simp only [if_pos (hk.2 (of_decide_eq_true c))]
      rw [show wrap64 ((j : Int) + 1) = ((j + 1 : Nat) : Int) by rw [w64 (by omega) (by omega)]; omega]
      exact ih (j + 1) (by omega) ha
    · rw [if_neg c] at ha
      simp only [if_neg (fun hh => c (decide_eq_true (hk.1 hh)))]
      rw [ha]; exact h
theorem rBetween_ev (s t : ByteArray) : Ev (fun k => minuetref1_Between.f k s t) (btM s t) := by
  have bad : ¬ (s.size ≤ 4096 ∧ t.size ≤ 4096) → Ev (fun k => minuetref1_Between.j0 k s t true) (btM s t) := by
    intro h
    refine Ev.step (fun k => by rw [minuetref1_Between.j0]) ?_
    rw [btM_err h]
    simp only [if_true]; exact Ev.now _
  refine Ev.congr (fun k => by rw [minuetref1_Between.f]) ?_
  by_cases h0 : (s.size : Int) > 4096
  · simp only [if_pos h0]; exact bad (by omega)
  · simp only [if_neg h0]
    by_cases h1 : (t.size : Int) > 4096
    · rw [decide_eq_true h1]; exact bad (by omega)
    · rw [decide_eq_false h1]
      have hs : s.size ≤ 4096 := by omega
      have ht : t.size ≤ 4096 := by omega
      have hn := ahd_le s t; have hb := bhd_le s t; have hp := put_size s t
      rw [btM_ok ⟨hs, ht⟩]
      refine Ev.step (fun k => by rw [minuetref1_Between.j0]) ?_
      simp only [Bool.false_eq_true, if_false]
      refine rb_l0 s t hs ?_ (min s.size t.size) 0 (by omega) rfl
      refine Ev.step (fun k => by rw [minuetref1_Between.j2]) ?_
      refine rb_l1 s t hs ht ?_ (min (s.size - ahd s t) (t.size - ahd s t)) 0 (by omega) (by unfold bhd edit_Between.behind; rw [tail_size s _ hn.1, tail_size t _ hn.2])
      refine Ev.step (fun k => by rw [minuetref1_Between.j4]) ?_
      rw [show wrap64 ((t.size : Int) - (bhd s t : Int)) = ((t.size - bhd s t : Nat) : Int) by rw [w64 (by omega) (by omega)]; omega, show wrap64 ((s.size : Int) - (ahd s t : Int)) = (s.size : Int) - (ahd s t : Int) from w64 (by omega) (by omega), show wrap64 ((s.size : Int) - (ahd s t : Int) - (bhd s t : Int)) = (s.size : Int) - (ahd s t : Int) - (bhd s t : Int) from w64 (by omega) (by omega)]
      simp only [if_pos (nat_nonneg _), if_pos (show ((ahd s t : Nat) : Int) ≤ ((t.size - bhd s t : Nat) : Int) by omega), if_pos (show ((t.size - bhd s t : Nat) : Int) ≤ (t.size : Int) by omega), Int.toNat_natCast]
      exact r4 (by omega) (by omega) (by omega) (by rw [show (t.extract (ahd s t) (t.size - bhd s t)) = putOf s t from rfl]; omega) (Ev.now _)
end Go.Proofs.Ytldaokclpkcmmab.Pl
