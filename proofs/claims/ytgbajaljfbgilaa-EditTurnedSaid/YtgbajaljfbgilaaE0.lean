/- The model of edits made: four pieces; what Make and Between come to. No function of the program in sight. -/
import Derived.Test.YtgbajaljfbgilaaM6a
import Derived.Test.YtgbajaljfbgilaaGEditPBetween
namespace Go.Proofs.Ytgbajaljfbgilaa.Pl
open Go.RowKit Go.Proofs.Ytgbajaljfbgilaa.G Go.Proofs.YtgbajaljfbgilaaW.PrintWords Go.Proofs.YtgbajaljfbgilaaW.PrintLast Go.Proofs.YtgbajaljfbgilaaW.PrintMore
set_option linter.unusedVariables false
set_option linter.unusedSimpArgs false
def raw4 (a : Int) (p : ByteArray) (c b : Int) : List Cm := [⟨0, a, ⟨#[]⟩⟩, ⟨1, 0, p⟩, ⟨2, c, ⟨#[]⟩⟩, ⟨0, b, ⟨#[]⟩⟩]
def mk4 (a : Int) (p : ByteArray) (c b : Int) : List Cm := norm (raw4 a p c b)
theorem raw4_good {a : Int} {p : ByteArray} {c b : Int} (ha : 0 ≤ a) (hc : 0 ≤ c) (hb : 0 ≤ b) : ∀ x ∈ raw4 a p c b, good x := by
  intro x hx
  simp only [raw4, List.mem_cons, List.not_mem_nil, or_false] at hx
  have e0 : (⟨#[]⟩ : ByteArray).size = 0 := rfl
  rcases hx with rfl | rfl | rfl | rfl
  · exact ⟨ha, by simp, by simp, fun _ => e0⟩
  · exact ⟨by simp, by simp, by simp, by simp⟩
  · exact ⟨hc, by simp, by simp, fun _ => e0⟩
  · exact ⟨hb, by simp, by simp, fun _ => e0⟩
theorem raw4_froms {a : Int} {p : ByteArray} {c b : Int} : froms (raw4 a p c b) = a + c + b := by simp [raw4, froms]; omega
theorem raw4_tos {a : Int} {p : ByteArray} {c b : Int} : tos (raw4 a p c b) = a + (p.size : Int) + b := by
  have e0 : (⟨#[]⟩ : ByteArray).size = 0 := rfl
  simp [raw4, tos, sz, e0]; omega
theorem raw4_tot {a : Int} {p : ByteArray} {c b : Int} : tot (raw4 a p c b) = a + (p.size : Int) + c + b := by
  have e0 : (⟨#[]⟩ : ByteArray).size = 0 := rfl
  simp [raw4, tot, sz, e0]; omega
/-! Make -/
def isThere (s : ByteArray) (at_ cut : Int) : Bool := decide (s.size ≤ 4096) && (decide (0 ≤ at_) && (decide (at_ ≤ (s.size : Int)) && (decide (0 ≤ cut) && decide (cut ≤ (s.size : Int) - at_))))
def mkM (s : ByteArray) (at_ cut : Int) (p : ByteArray) : List Cm × Int :=
  if isThere s at_ cut = true then (if p.size ≤ 300 ∧ (s.size : Int) - cut + (p.size : Int) ≤ 300 then (mk4 at_ p cut ((s.size : Int) - at_ - cut), 0) else ([], 801)) else ([], 800)
theorem isThere_iff (s : ByteArray) (at_ cut : Int) : isThere s at_ cut = true ↔ s.size ≤ 4096 ∧ 0 ≤ at_ ∧ at_ ≤ (s.size : Int) ∧ 0 ≤ cut ∧ cut ≤ (s.size : Int) - at_ := by
  simp [isThere]
/-! Between -/
def ahd (s t : ByteArray) : Nat := edit_Between.ahead s t
def tailOf (s : ByteArray) (n : Nat) : ByteArray := s.extract n s.size
def bhd (s t : ByteArray) : Nat := edit_Between.behind (tailOf s (ahd s t)) (tailOf t (ahd s t))
def putOf (s t : ByteArray) : ByteArray := t.extract (ahd s t) (t.size - bhd s t)
def btM (s t : ByteArray) : List Cm × Int :=
  if s.size ≤ 4096 ∧ t.size ≤ 4096 then (mk4 (ahd s t) (putOf s t) ((s.size : Int) - (ahd s t : Int) - (bhd s t : Int)) (bhd s t), 0) else ([], 800)
theorem ahd_le (s t : ByteArray) : ahd s t ≤ s.size ∧ ahd s t ≤ t.size := by
  have := edit_Between.alk_le (edit_Between.same1 s t) (min s.size t.size) 0
  have a := Nat.min_le_left s.size t.size; have b := Nat.min_le_right s.size t.size
  unfold ahd edit_Between.ahead; omega
theorem tail_size (s : ByteArray) (n : Nat) (h : n ≤ s.size) : (tailOf s n).size = s.size - n := by unfold tailOf; rw [ByteArray.size_extract]; omega
theorem bhd_le (s t : ByteArray) : bhd s t + ahd s t ≤ s.size ∧ bhd s t + ahd s t ≤ t.size := by
  have h := ahd_le s t
  have := edit_Between.alk_le (edit_Between.same2 (tailOf s (ahd s t)) (tailOf t (ahd s t))) (min (tailOf s (ahd s t)).size (tailOf t (ahd s t)).size) 0
  have a := Nat.min_le_left (tailOf s (ahd s t)).size (tailOf t (ahd s t)).size; have b := Nat.min_le_right (tailOf s (ahd s t)).size (tailOf t (ahd s t)).size
  rw [tail_size s _ h.1, tail_size t _ h.2] at a b this
  unfold bhd edit_Between.behind
  rw [tail_size s _ h.1, tail_size t _ h.2]
  omega
theorem put_size (s t : ByteArray) : (putOf s t).size = t.size - bhd s t - ahd s t := by
  have h := bhd_le s t
  unfold putOf; rw [ByteArray.size_extract]; omega
theorem put_eq (s t : ByteArray) : (tailOf t (ahd s t)).extract 0 ((tailOf t (ahd s t)).size - bhd s t) = putOf s t := by
  have h := bhd_le s t; have h2 := ahd_le s t
  apply bl_inj
  rw [bl_ext, tail_size t _ h2.2]
  unfold putOf tailOf
  rw [bl_ext, bl_ext, List.drop_zero, Nat.sub_zero, List.take_take]
  generalize ahd s t = a at h h2 ⊢
  generalize bhd s t = b at h ⊢
  rw [show min (t.size - a - b) (t.size - a) = t.size - b - a by omega]
theorem btM_ok {s t : ByteArray} (h : s.size ≤ 4096 ∧ t.size ≤ 4096) : btM s t = (mk4 (ahd s t) (putOf s t) ((s.size : Int) - (ahd s t : Int) - (bhd s t : Int)) (bhd s t), 0) := if_pos h
theorem btM_err {s t : ByteArray} (h : ¬ (s.size ≤ 4096 ∧ t.size ≤ 4096)) : btM s t = ([], 800) := if_neg h
end Go.Proofs.Ytgbajaljfbgilaa.Pl
