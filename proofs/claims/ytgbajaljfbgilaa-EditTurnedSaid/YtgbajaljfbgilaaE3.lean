/- Package edit is awake; long texts. -/
import Derived.Test.YtgbajaljfbgilaaE1
import Derived.Test.YtgbajaljfbgilaaGMinuetlaw8qawake
import Derived.Test.YtgbajaljfbgilaaGMinuetlaw8qlong
namespace Go.Proofs.Ytgbajaljfbgilaa.Pl
open Go.RowKit Go.Proofs.Ytgbajaljfbgilaa.G Go.Proofs.YtgbajaljfbgilaaW.PrintWords Go.Proofs.YtgbajaljfbgilaaW.PrintLast Go.Proofs.YtgbajaljfbgilaaW.PrintMore
set_option linter.unusedVariables false
set_option linter.unusedSimpArgs false
theorem nums_size (xs : List Int) : (strOfNums xs).size = xs.length := by
  unfold strOfNums
  show (List.toArray _).size = _
  simp
theorem long_l0 (n : Nat) (hn : n ≤ 281474976710656) : ∀ (g i : Nat) (xs : List Int), i + g = n → xs.length = n → ∃ b, b.size = n ∧ Ev (fun k => minuetlaw8_long.l0 k (n : Int) xs (i : Int)) b := by
  intro g
  induction g with
  | zero =>
    intro i xs e hl
    refine ⟨strOfNums xs, by rw [nums_size]; exact hl, Ev.step (fun k => by rw [minuetlaw8_long.l0]) ?_⟩
    simp only [if_neg (show ¬ (i : Int) < (n : Int) by omega)]
    exact Ev.now _
  | succ g ih =>
    intro i xs e hl
    obtain ⟨b, hb, h⟩ := ih (i + 1) (xs.set i 97) (by omega) (by rw [List.length_set]; exact hl)
    refine ⟨b, hb, Ev.step (fun k => by rw [minuetlaw8_long.l0]) ?_⟩
    simp only [if_pos (show (i : Int) < (n : Int) by omega), if_pos (nat_nonneg i), if_pos (show (i : Int) < (xs.length : Int) by omega), Int.toNat_natCast]
    rw [show wrap64 ((i : Int) + 1) = ((i + 1 : Nat) : Int) by rw [w64 (by omega) (by omega)]; omega]
    exact h
theorem long_ev (n : Int) (h0 : 0 ≤ n) (h1 : n ≤ 281474976710656) : ∃ b : ByteArray, (b.size : Int) = n ∧ Ev (fun k => minuetlaw8_long.f k n) b := by
  obtain ⟨m, rfl⟩ : ∃ m : Nat, n = (m : Int) := ⟨n.toNat, by omega⟩
  obtain ⟨b, hb, h⟩ := long_l0 m (by omega) m 0 (List.replicate m 0) (by omega) (by simp)
  refine ⟨b, by rw [hb], Ev.congr (fun k => by rw [minuetlaw8_long.f]) ?_⟩
  simp only [if_pos h0, Int.toNat_natCast, if_pos (show m ≤ 281474976710656 by omega)]
  exact h
theorem awake8 : Ev (fun k => minuetlaw8_awake.f k) true := by
  have n1 : mkM (⟨#[97, 98, 99, 100, 101, 102]⟩ : ByteArray) 2 3 (⟨#[120, 121]⟩ : ByteArray) = ([(⟨0, 2, ⟨#[]⟩⟩ : Cm), ⟨1, 0, ⟨#[120, 121]⟩⟩, ⟨2, 3, ⟨#[]⟩⟩, ⟨0, 1, ⟨#[]⟩⟩], 0) := by rfl
  have n2 : btM (⟨#[97, 98, 99, 100, 101, 102]⟩ : ByteArray) (⟨#[97, 98, 120, 121, 102]⟩ : ByteArray) = ([(⟨0, 2, ⟨#[]⟩⟩ : Cm), ⟨1, 0, ⟨#[120, 121]⟩⟩, ⟨2, 3, ⟨#[]⟩⟩, ⟨0, 1, ⟨#[]⟩⟩], 0) := by rfl
  have n3 : mkM (⟨#[97, 98, 99]⟩ : ByteArray) 2 2 (⟨#[]⟩ : ByteArray) = ([], 800) := by rfl
  obtain ⟨b, hb, hl⟩ := long_ev 300 (by omega) (by omega)
  have n4 : mkM (⟨#[97, 98, 99]⟩ : ByteArray) 0 0 b = ([], 801) := by
    unfold mkM
    rw [if_pos (by rfl), if_neg]
    have : (⟨#[97, 98, 99]⟩ : ByteArray).size = 3 := rfl
    rw [this]; omega
  refine Ev.congr (fun k => by rw [minuetlaw8_awake.f]) ?_
  refine Ev.bind (Make_ev _ _ _ _ (by decide)) ?_
  refine Ev.bind (Between_ev _ _) ?_
  refine Ev.bind (Make_ev _ _ _ _ (by decide)) ?_
  refine Ev.bind hl ?_
  refine Ev.bind (Make_ev _ _ _ _ (by omega)) ?_
  rw [n1, n2, n3, n4]
  simp only [Option.bind_some]
  refine Ev.bind (Same_refl _ (by simp)) ?_
  simp only [if_true, num_eq, Option.bind_some]
  refine Ev.bind (Same_refl _ (by simp)) ?_
  simp only [if_true, num_eq, Option.bind_some]
  exact Ev.now _
end Go.Proofs.Ytgbajaljfbgilaa.Pl
