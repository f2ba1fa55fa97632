/- What is alike ahead and behind: as much as may be, and the same told the other way. -/
import Derived.Test.YtgbajaljfbgilaaE0
namespace Go.Proofs.Ytgbajaljfbgilaa.Pl
open Go.RowKit Go.Proofs.Ytgbajaljfbgilaa.G Go.Proofs.YtgbajaljfbgilaaW.PrintWords Go.Proofs.YtgbajaljfbgilaaW.PrintLast Go.Proofs.YtgbajaljfbgilaaW.PrintMore
set_option linter.unusedVariables false
set_option linter.unusedSimpArgs false
theorem alk_stop (same : Nat → Bool) (m : Nat) : ∀ i, edit_Between.alk same m i < i + m → same (edit_Between.alk same m i) = false := by
  induction m with
  | zero => intro i h; simp [edit_Between.alk] at h
  | succ m ih =>
    intro i h
    rw [edit_Between.alk] at h ⊢
    by_cases c : same i = true
    · rw [if_pos c] at h ⊢; exact ih (i + 1) (by omega)
    · rw [if_neg c]; exact Bool.eq_false_iff.mpr c
theorem alk_all (same : Nat → Bool) (m : Nat) : ∀ i j, i ≤ j → j < edit_Between.alk same m i → same j = true := by
  induction m with
  | zero => intro i j h1 h2; simp [edit_Between.alk] at h2; omega
  | succ m ih =>
    intro i j h1 h2
    rw [edit_Between.alk] at h2
    by_cases c : same i = true
    · rw [if_pos c] at h2
      by_cases e : i = j
      · rw [← e]; exact c
      · exact ih (i + 1) j (by omega) h2
    · rw [if_neg c] at h2; omega
theorem alk_congr {f g : Nat → Bool} (h : ∀ i, f i = g i) (m : Nat) : ∀ i, edit_Between.alk f m i = edit_Between.alk g m i := by
  have : f = g := funext h
  rw [this]; intro i; rfl
theorem ahd_comm (s t : ByteArray) : ahd s t = ahd t s := by
  unfold ahd edit_Between.ahead
  rw [Nat.min_comm]
  exact alk_congr (fun i => by unfold edit_Between.same1; rw [Bool.eq_iff_iff]; simp only [decide_eq_true_eq]; exact eq_comm) _ 0
theorem bhd_comm (s t : ByteArray) : bhd s t = bhd t s := by
  unfold bhd edit_Between.behind
  rw [ahd_comm t s, Nat.min_comm]
  exact alk_congr (fun i => by unfold edit_Between.same2; rw [Bool.eq_iff_iff]; simp only [decide_eq_true_eq]; exact eq_comm) _ 0
/-- Byte by byte. -/
def by_ (s : ByteArray) (i : Nat) : UInt8 := (bl s).getD i 0
theorem ahd_same (s t : ByteArray) (i : Nat) (h : i < ahd s t) : by_ s i = by_ t i := by
  have := alk_all (edit_Between.same1 s t) (min s.size t.size) 0 i (Nat.zero_le _) h
  exact of_decide_eq_true this
theorem ahd_stop (s t : ByteArray) (h1 : ahd s t < s.size) (h2 : ahd s t < t.size) : by_ s (ahd s t) ≠ by_ t (ahd s t) := by
  have := alk_stop (edit_Between.same1 s t) (min s.size t.size) 0 (by show ahd s t < _; omega)
  exact of_decide_eq_false this
theorem bl_tail (s : ByteArray) (n : Nat) : bl (tailOf s n) = (bl s).drop n := by
  unfold tailOf; rw [bl_ext, List.take_of_length_le (by rw [List.length_drop, bl_len]; omega)]
theorem by_tail (s : ByteArray) (n j : Nat) (h : n + j < s.size) : (tailOf s n).data.toList.getD ((tailOf s n).size - 1 - j) 0 = by_ s (s.size - 1 - j) := by
  show (bl (tailOf s n)).getD _ 0 = (bl s).getD _ 0
  rw [tail_size s n (by omega), bl_tail, List.getD_eq_getElem?_getD, List.getD_eq_getElem?_getD, List.getElem?_drop]
  congr 2; omega
theorem bhd_same (s t : ByteArray) (j : Nat) (h : j < bhd s t) : by_ s (s.size - 1 - j) = by_ t (t.size - 1 - j) := by
  have hb := bhd_le s t
  have := alk_all (edit_Between.same2 (tailOf s (ahd s t)) (tailOf t (ahd s t))) _ 0 j (Nat.zero_le _) h
  have := of_decide_eq_true this
  rw [by_tail s _ j (by omega), by_tail t _ j (by omega)] at this
  exact this
theorem bhd_stop (s t : ByteArray) (h1 : ahd s t + bhd s t < s.size) (h2 : ahd s t + bhd s t < t.size) : by_ s (s.size - 1 - bhd s t) ≠ by_ t (t.size - 1 - bhd s t) := by
  have ha := ahd_le s t
  have := alk_stop (edit_Between.same2 (tailOf s (ahd s t)) (tailOf t (ahd s t))) (min (tailOf s (ahd s t)).size (tailOf t (ahd s t)).size) 0 (by show bhd s t < _; rw [tail_size s _ ha.1, tail_size t _ ha.2]; omega)
  have := of_decide_eq_false this
  rw [show edit_Between.alk (edit_Between.same2 (tailOf s (ahd s t)) (tailOf t (ahd s t))) (min (tailOf s (ahd s t)).size (tailOf t (ahd s t)).size) 0 = bhd s t from rfl, by_tail s _ _ h1, by_tail t _ _ h2] at this
  exact this
theorem by_ext {x y : List UInt8} (hl : x.length = y.length) (h : ∀ i, i < x.length → x.getD i 0 = y.getD i 0) : x = y := by
  refine List.ext_getElem hl (fun i h1 h2 => ?_)
  have := h i h1
  rw [List.getD_eq_getElem?_getD, List.getD_eq_getElem?_getD, List.getElem?_eq_getElem h1, List.getElem?_eq_getElem h2] at this
  exact this
theorem take_same (s t : ByteArray) : (bl s).take (ahd s t) = (bl t).take (ahd s t) := by
  have ha := ahd_le s t
  refine by_ext (by rw [List.length_take, List.length_take, bl_len, bl_len]; omega) (fun i h => ?_)
  rw [List.length_take, bl_len] at h
  rw [List.getD_eq_getElem?_getD, List.getD_eq_getElem?_getD, List.getElem?_take_of_lt (by omega), List.getElem?_take_of_lt (by omega), ← List.getD_eq_getElem?_getD, ← List.getD_eq_getElem?_getD]
  exact ahd_same s t i (by omega)
theorem drop_same (s t : ByteArray) : (bl s).drop (s.size - bhd s t) = (bl t).drop (t.size - bhd s t) := by
  have hb := bhd_le s t
  refine by_ext (by rw [List.length_drop, List.length_drop, bl_len, bl_len]; omega) (fun i h => ?_)
  rw [List.length_drop, bl_len] at h
  rw [List.getD_eq_getElem?_getD, List.getD_eq_getElem?_getD, List.getElem?_drop, List.getElem?_drop, ← List.getD_eq_getElem?_getD, ← List.getD_eq_getElem?_getD]
  have := bhd_same s t (bhd s t - 1 - i) (by omega)
  unfold by_ at this
  rw [show s.size - 1 - (bhd s t - 1 - i) = s.size - bhd s t + i by omega, show t.size - 1 - (bhd s t - 1 - i) = t.size - bhd s t + i by omega] at this
  exact this
end Go.Proofs.Ytgbajaljfbgilaa.Pl
