/- The reference's Decimal of a small number: digits, no nought ahead of another. -/
import Derived.Test.YtnhkdpcncjkmlaaLn
import Derived.Test.YtnhkdpcncjkmlaaGMinuetref0PDecimal
namespace Go.Proofs.Ytnhkdpcncjkmlaa.Pl
open Go.RowKit Go.Proofs.Ytnhkdpcncjkmlaa.G Go.Proofs.Ytnhkdpcncjkmlaa.Lx Go.Proofs.YtnhkdpcncjkmlaaW.PrintWords Go.Proofs.YtnhkdpcncjkmlaaW.PrintLast
set_option linter.unusedVariables false
set_option linter.unusedSimpArgs false
def okL (L : List Int) : Prop := L ≠ [] ∧ (∀ a ∈ L, 48 ≤ a ∧ a ≤ 57) ∧ (L.head? = some 48 → L.length = 1) ∧ L.length ≤ 20
theorem u64_id {x : Int} (h0 : 0 ≤ x) (h1 : x < 9223372036854775808) : IntKind.u64.wrap x = x := by
  simp only [IntKind.wrap, IntKind.signed, IntKind.bits]; first | omega | (simp; omega)
theorem dig_eq {x : Int} (h0 : 0 ≤ x) : (IntKind.u64.wrap (48 + Int.tmod x 10)) % 256 = 48 + x % 10 := by
  rw [Int.tmod_eq_emod_of_nonneg h0, u64_id (by omega) (by omega)]; omega
theorem div_eq {x : Int} (h0 : 0 ≤ x) (h1 : x < 9223372036854775808) : IntKind.u64.wrap (Int.tdiv x 10) = x / 10 := by
  rw [Int.tdiv_eq_ediv_of_nonneg h0, u64_id (by omega) (by omega)]
theorem dec_l0 (x0 : Int) (hx : 0 ≤ x0) : ∀ (m : Nat) (x : Int) (acc : List Int), 0 ≤ x → x < 10 ^ m → m ≤ 18 → m + acc.length ≤ 20 → (∀ a ∈ acc, 48 ≤ a ∧ a ≤ 57) → (x = 0 → acc ≠ [] ∧ acc.head? ≠ some 48) →
    ∃ L, Ev (fun k => minuetref0_Decimal.l0 k x0 x acc) (strOfNums L) ∧ okL L := by
  intro m
  induction m with
  | zero =>
    intro x acc h0 h1 _ h2 h3 h4
    have e : x = 0 := by have : (10 : Int) ^ 0 = 1 := rfl; omega
    subst e
    obtain ⟨n1, n2⟩ := h4 rfl
    refine ⟨acc, ?_, n1, h3, fun h => absurd h n2, by omega⟩
    refine Ev.step (fun k => by rw [minuetref0_Decimal.l0]) ?_
    have : ¬ ((acc.length : Int) = 0) := by intro h; exact n1 (List.eq_nil_of_length_eq_zero (by omega))
    simp only [if_neg (show ¬ ((0 : Int) > 0) by omega), if_neg this, if_neg (show ¬ x0 < 0 by omega)]
    exact Ev.now _
  | succ m ih =>
    intro x acc h0 h1 hm h2 h3 h4
    by_cases hp : x > 0
    · have hb : x < 9223372036854775808 := by
        have : (10 : Int) ^ (m + 1) ≤ 10 ^ 18 := by exact_mod_cast Nat.pow_le_pow_right (by omega) hm
        have e : (10 : Int) ^ 18 = 1000000000000000000 := by decide
        omega
      have hd : x / 10 < 10 ^ m := by rw [Int.pow_succ] at h1; omega
      obtain ⟨L, k1, k2⟩ := ih (x / 10) ((48 + x % 10) :: acc) (by omega) hd (by omega) (by simp only [List.length_cons]; omega)
        (by intro a ha; simp only [List.mem_cons] at ha; rcases ha with rfl | ha; · omega
            · exact h3 a ha)
        (by intro e; refine ⟨by simp, ?_⟩; simp only [List.head?_cons, ne_eq, Option.some.injEq]; omega)
      refine ⟨L, ?_, k2⟩
      refine Ev.step (fun k => by rw [minuetref0_Decimal.l0]) ?_
      simp only [if_pos hp, opt_some, dig_eq h0, div_eq h0 hb, List.singleton_append, List.length_singleton]
      simp only [if_pos (show 1 + acc.length < 140737488355328 by omega)]
      exact k1
    · have e : x = 0 := by omega
      subst e
      obtain ⟨n1, n2⟩ := h4 rfl
      refine ⟨acc, ?_, n1, h3, fun h => absurd h n2, by omega⟩
      refine Ev.step (fun k => by rw [minuetref0_Decimal.l0]) ?_
      have : ¬ ((acc.length : Int) = 0) := by intro h; exact n1 (List.eq_nil_of_length_eq_zero (by omega))
      simp only [if_neg (show ¬ ((0 : Int) > 0) by omega), if_neg this, if_neg (show ¬ x0 < 0 by omega)]
      exact Ev.now _
theorem byt_nums (L : List Int) : byt (strOfNums L) = L.map fun n => UInt8.ofNat n.toNat := by simp [byt, strOfNums]
set_option maxRecDepth 100000 in
theorem digit_fin : ∀ i : Fin 58, 48 ≤ i.val → isD (UInt8.ofNat i.val) = true ∧ (UInt8.ofNat i.val = 48 → i.val = 48) := by decide +kernel
theorem digit_int {a : Int} (h : 48 ≤ a ∧ a ≤ 57) : isD (UInt8.ofNat a.toNat) = true ∧ (UInt8.ofNat a.toNat = 48 → a = 48) := by
  have := digit_fin ⟨a.toNat, by omega⟩ (by show 48 ≤ a.toNat; omega)
  refine ⟨this.1, fun h => ?_⟩
  have := this.2 h
  simp only at this; omega
theorem okL_whole {L : List Int} (h : okL L) : whole (byt (strOfNums L)) ∧ (strOfNums L).size ≤ 20 := by
  obtain ⟨h1, h2, h3, h4⟩ := h
  have hlen : (byt (strOfNums L)).length = L.length := by rw [byt_nums]; simp
  refine ⟨⟨⟨?_, ?_⟩, ?_⟩, ?_⟩
  · intro e; rw [e] at hlen; exact h1 (List.eq_nil_of_length_eq_zero hlen.symm)
  · intro b hb
    rw [byt_nums] at hb
    obtain ⟨a, ha, rfl⟩ := List.mem_map.1 hb
    exact (digit_int (h2 a ha)).1
  · intro e
    rw [hlen]
    refine h3 ?_
    cases L with
    | nil => exact absurd rfl h1
    | cons a L =>
      rw [byt_nums] at e
      simp only [List.map_cons, List.head?_cons, Option.some.injEq] at e ⊢
      exact (digit_int (h2 a (by simp))).2 e
  · rw [← byt_len, hlen]; exact h4
theorem Decimal_ev (n : Int) (h0 : 0 ≤ n) (h1 : n < 1048576) : ∃ s, Ev (fun k => minuetref0_Decimal.f k n) s ∧ whole (byt s) ∧ s.size ≤ 20 := by
  have key : ∃ L, Ev (fun k => minuetref0_Decimal.l0 k n n ([] : List Int)) (strOfNums L) ∧ okL L := by
    by_cases e : n = 0
    · subst e
      refine ⟨[48], ?_, by simp, by intro a ha; simp only [List.mem_singleton] at ha; omega, fun _ => rfl, by simp⟩
      refine Ev.step (fun k => by rw [minuetref0_Decimal.l0]) ?_
      simp only [if_neg (show ¬ ((0 : Int) > 0) by omega), List.length_nil, opt_some, dig_eq (Int.le_refl 0), div_eq (Int.le_refl 0) (by omega), List.append_nil, List.length_singleton]
      simp only [if_pos (show ((0 : Nat) : Int) = 0 from rfl), if_pos (show 1 + 0 < 140737488355328 by omega)]
      refine Ev.step (fun k => by rw [minuetref0_Decimal.l0]) ?_
      exact Ev.now _
    · exact dec_l0 n h0 7 n [] h0 (by have : (10 : Int) ^ 7 = 10000000 := by decide
                                      omega) (by omega) (by simp) (by simp) (fun h => absurd h e)
  obtain ⟨L, k1, k2⟩ := key
  refine ⟨strOfNums L, ?_, okL_whole k2⟩
  refine Ev.congr (fun k => by rw [minuetref0_Decimal.f]) ?_
  simp only [if_neg (show ¬ n < 0 by omega), u64_id h0 (by omega)]
  refine Ev.step (fun k => by rw [minuetref0_Decimal.j0]) ?_
  exact k1
end Go.Proofs.Ytnhkdpcncjkmlaa.Pl
