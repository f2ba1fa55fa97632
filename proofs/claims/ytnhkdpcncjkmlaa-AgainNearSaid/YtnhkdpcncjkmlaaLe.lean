/- Decimal: how many digits. Rows of numbers within brackets, and their tokens. -/
import Derived.Test.YtnhkdpcncjkmlaaLd
import Derived.Test.YtnhkdpcncjkmlaaAb
namespace Go.Proofs.Ytnhkdpcncjkmlaa.Pl
open Go.RowKit Go.Proofs.Ytnhkdpcncjkmlaa.G Go.Proofs.Ytnhkdpcncjkmlaa.Lx Go.Proofs.YtnhkdpcncjkmlaaW.PrintWords Go.Proofs.YtnhkdpcncjkmlaaW.PrintLast
set_option linter.unusedVariables false
set_option linter.unusedSimpArgs false
theorem dec2 (x0 : Int) (hx : 0 ≤ x0) : ∀ (m : Nat) (x : Int) (acc : List Int), 0 ≤ x → x < 10 ^ m → m ≤ 18 → m + acc.length ≤ 20 → (∀ a ∈ acc, 48 ≤ a ∧ a ≤ 57) → (x = 0 → acc ≠ [] ∧ acc.head? ≠ some 48) →
    ∃ L, Ev (fun k => minuetref0_Decimal.l0 k x0 x acc) (strOfNums L) ∧ okL L ∧ acc.length ≤ L.length ∧ L.length ≤ m + acc.length ∧ (∀ j : Nat, (10 : Int) ^ j ≤ x → j + 1 + acc.length ≤ L.length) := by
  intro m
  induction m with
  | zero =>
    intro x acc h0 h1 _ h2 h3 h4
    have e : x = 0 := by have : (10 : Int) ^ 0 = 1 := rfl; omega
    subst e
    obtain ⟨n1, n2⟩ := h4 rfl
    refine ⟨acc, ?_, ⟨n1, h3, fun h => absurd h n2, by omega⟩, Nat.le_refl _, by omega, fun j hj => ?_⟩
    · refine Ev.step (fun k => by rw [minuetref0_Decimal.l0]) ?_
      have : ¬ ((acc.length : Int) = 0) := by intro h; exact n1 (List.eq_nil_of_length_eq_zero (by omega))
      simp only [if_neg (show ¬ ((0 : Int) > 0) by omega), if_neg this, if_neg (show ¬ x0 < 0 by omega)]
      exact Ev.now _
    · have : (0 : Int) < 10 ^ j := Int.pow_pos (by decide)
      omega
  | succ m ih =>
    intro x acc h0 h1 hm h2 h3 h4
    by_cases hp : x > 0
    · have hb : x < 9223372036854775808 := by
        have : (10 : Int) ^ (m + 1) ≤ 10 ^ 18 := by exact_mod_cast Nat.pow_le_pow_right (by omega) hm
        have e : (10 : Int) ^ 18 = 1000000000000000000 := by decide
        omega
      have hd : x / 10 < 10 ^ m := by rw [Int.pow_succ] at h1; omega
      obtain ⟨L, k1, k2, k3, k4, k5⟩ := ih (x / 10) ((48 + x % 10) :: acc) (by omega) hd (by omega) (by simp only [List.length_cons]; omega)
        (by intro a ha; simp only [List.mem_cons] at ha; rcases ha with rfl | ha; · omega
            · exact h3 a ha)
        (by intro e; refine ⟨by simp, ?_⟩; simp only [List.head?_cons, ne_eq, Option.some.injEq]; omega)
      simp only [List.length_cons] at k3 k4 k5
      refine ⟨L, ?_, k2, by omega, by omega, fun j hj => ?_⟩
      · refine Ev.step (fun k => by rw [minuetref0_Decimal.l0]) ?_
        simp only [if_pos hp, opt_some, dig_eq h0, div_eq h0 hb, List.singleton_append, List.length_singleton]
        simp only [if_pos (show 1 + acc.length < 140737488355328 by omega)]
        exact k1
      · cases j with
        | zero => omega
        | succ j =>
          have := k5 j (by rw [Int.pow_succ] at hj; omega)
          omega
    · have e : x = 0 := by omega
      subst e
      obtain ⟨n1, n2⟩ := h4 rfl
      refine ⟨acc, ?_, ⟨n1, h3, fun h => absurd h n2, by omega⟩, Nat.le_refl _, by omega, fun j hj => ?_⟩
      · refine Ev.step (fun k => by rw [minuetref0_Decimal.l0]) ?_
        have : ¬ ((acc.length : Int) = 0) := by intro h; exact n1 (List.eq_nil_of_length_eq_zero (by omega))
        simp only [if_neg (show ¬ ((0 : Int) > 0) by omega), if_neg this, if_neg (show ¬ x0 < 0 by omega)]
        exact Ev.now _
      · have : (0 : Int) < 10 ^ j := Int.pow_pos (by decide)
        omega
theorem nums_size (L : List Int) : (strOfNums L).size = L.length := by rw [← byt_len, byt_nums]; simp
theorem Decimal2 (n : Int) (h0 : 0 ≤ n) (h1 : n < 1048576) : ∃ s, Ev (fun k => minuetref0_Decimal.f k n) s ∧ whole (byt s) ∧ s.size ≤ 20 ∧ (n < 10000 → s.size ≤ 4) ∧ (10000 ≤ n → 5 ≤ s.size) := by
  have key : ∃ L, Ev (fun k => minuetref0_Decimal.l0 k n n ([] : List Int)) (strOfNums L) ∧ okL L ∧ (n < 10000 → L.length ≤ 4) ∧ (10000 ≤ n → 5 ≤ L.length) := by
    by_cases e : n = 0
    · subst e
      refine ⟨[48], ?_, ⟨by simp, by intro a ha; simp only [List.mem_singleton] at ha; omega, fun _ => rfl, by simp⟩, fun _ => by simp, fun h => by omega⟩
      refine Ev.step (fun k => by rw [minuetref0_Decimal.l0]) ?_
      simp only [if_neg (show ¬ ((0 : Int) > 0) by omega), List.length_nil, opt_some, dig_eq (Int.le_refl 0), div_eq (Int.le_refl 0) (by omega), List.append_nil, List.length_singleton]
      simp only [if_pos (show ((0 : Nat) : Int) = 0 from rfl), if_pos (show 1 + 0 < 140737488355328 by omega)]
      refine Ev.step (fun k => by rw [minuetref0_Decimal.l0]) ?_
      exact Ev.now _
    · by_cases h4 : n < 10000
      · obtain ⟨L, a1, a2, a3, a4, a5⟩ := dec2 n h0 4 n [] h0 (by have : (10 : Int) ^ 4 = 10000 := by decide
                                                                  omega) (by omega) (by simp) (by simp) (fun h => absurd h e)
        exact ⟨L, a1, a2, fun _ => by simpa using a4, fun h => by omega⟩
      · obtain ⟨L, a1, a2, a3, a4, a5⟩ := dec2 n h0 7 n [] h0 (by have : (10 : Int) ^ 7 = 10000000 := by decide
                                                                  omega) (by omega) (by simp) (by simp) (fun h => absurd h e)
        refine ⟨L, a1, a2, fun h => absurd h h4, fun h => ?_⟩
        have := a5 4 (by have : (10 : Int) ^ 4 = 10000 := by decide
                         omega)
        simpa using this
  obtain ⟨L, k1, k2, k3, k4⟩ := key
  have hz := nums_size L
  refine ⟨strOfNums L, ?_, (okL_whole k2).1, (okL_whole k2).2, fun h => by have := k3 h; omega, fun h => by have := k4 h; omega⟩
  refine Ev.congr (fun k => by rw [minuetref0_Decimal.f]) ?_
  simp only [if_neg (show ¬ n < 0 by omega), u64_id h0 (by omega)]
  refine Ev.step (fun k => by rw [minuetref0_Decimal.j0]) ?_
  exact k1
/-! ### numbers with signs between -/
def tx (c : UInt8) : List (List UInt8) → List UInt8
  | [] => [93]
  | W :: Ws => c :: (W ++ tx 44 Ws)
def px (c : UInt8) : List (List UInt8) → List UInt8
  | [] => [c]
  | W :: Ws => c :: (W ++ px 44 Ws)
def nt (c : Int) (i : Nat) : List (List UInt8) → List Tk
  | [] => [⟨3, (i : Int), (i : Int) + 1⟩]
  | W :: Ws => ⟨c, (i : Int), (i : Int) + 1⟩ :: ⟨7, (i : Int) + 1, (i : Int) + 1 + (W.length : Int)⟩ :: nt 5 (i + 1 + W.length) Ws
theorem tx_app (c : UInt8) (A : List (List UInt8)) (W : List UInt8) (B : List (List UInt8)) : tx c (A ++ W :: B) = px c A ++ (W ++ tx 44 B) := by
  induction A generalizing c with
  | nil => rfl
  | cons X A ih => simp only [List.cons_append, tx, px, ih, List.append_assoc]
theorem px_app (c : UInt8) (A : List (List UInt8)) (W : List UInt8) : px c (A ++ [W]) = px c A ++ (W ++ [44]) := by
  induction A generalizing c with
  | nil => rfl
  | cons X A ih => simp only [List.cons_append, px, ih, List.append_assoc]
theorem px_len (c : UInt8) (n : Nat) (A : List (List UInt8)) (h : ∀ X ∈ A, X.length ≤ n) : (px c A).length ≤ 1 + (n + 1) * A.length := by
  induction A generalizing c with
  | nil => simp [px]
  | cons X A ih =>
    have h1 := h X (by simp); have h2 := ih 44 (fun Y hY => h Y (by simp [hY]))
    simp only [px, List.length_cons, List.length_append, Nat.mul_add, Nat.mul_one]; omega
theorem tx_head (Ws : List (List UInt8)) : at_ isD (tx 44 Ws) 0 = false ∧ at_ (fun b => b == 46) (tx 44 Ws) 0 = false ∧ at_ (fun b => b == 101 || b == 69) (tx 44 Ws) 0 = false := by
  cases Ws with
  | nil => exact ⟨rfl, rfl, rfl⟩
  | cons W Ws => exact ⟨rfl, rfl, rfl⟩
theorem tk_whole {W R : List UInt8} (hW : whole W) (h1 : at_ isD R 0 = false) (h2 : at_ (fun b => b == 46) R 0 = false) (h3 : at_ (fun b => b == 101 || b == 69) R 0 = false) : tk (W ++ R) = (7, W.length) := by
  have hd := digs_at R hW.1
  have hl : 0 < W.length := by have := hW.1.1; cases W with | nil => exact absurd rfl this | cons _ _ => simp
  have e1 : nWhole (W ++ R) 0 = W.length := by
    have := nWhole_of (A := []) hW h1
    simpa using this
  have e2 : nPart (W ++ R) W.length = W.length := nPart_none h2
  have e3 : nPow (W ++ R) W.length = W.length := nPow_none h3
  cases W with
  | nil => simp at hl
  | cons a W =>
    obtain ⟨k1, k2, k3, k4, k5, k6⟩ := digit_byte a (hW.1.2 a (by simp))
    have em : at_ (fun x => x == 45) (a :: W ++ R) 0 = false := k6
    have hn : num (a :: W ++ R) = (a :: W).length := by
      unfold num
      simp only [em, Bool.false_eq_true, if_false, if_pos hd, e1, e2, e3]
    rw [show a :: W ++ R = a :: (W ++ R) from rfl] at hn ⊢
    rw [tk, k1]
    simp only
    rw [k2, if_neg (by simp), if_neg (by simpa using k3), if_neg (by simpa using k4), k5, if_neg (by simp), hn, if_neg (by simp)]
theorem tks_tx : ∀ (Ws : List (List UInt8)) (c : UInt8) (k : Int) (n i : Nat), sign c = some k → (∀ W ∈ Ws, whole W) → (tx c Ws).length ≤ n → (Ws = [] → True) → tks n i (tx c Ws) = nt k i Ws := by
  intro Ws
  induction Ws with
  | nil =>
    intro c k n i hc _ hn _
    cases n with
    | zero => simp [tx] at hn
    | succ n =>
      have t1 : tk ([93] : List UInt8) = (3, 1) := by rw [tk]; rfl
      simp only [tx, tks, t1, List.drop_succ_cons, List.drop_zero, tks_nil, nt]
      simp
  | cons W Ws ih =>
    intro c k n i hc hW hn _
    simp only [tx, List.length_cons, List.length_append] at hn
    obtain ⟨n, rfl⟩ : ∃ m, n = m + 1 + 1 := ⟨n - 2, by
      have : 0 < (tx 44 Ws).length := by cases Ws <;> simp [tx]
      omega⟩
    have t0 : tk (c :: (W ++ tx 44 Ws)) = (k, 1) := by rw [tk, hc]
    have hw0 : 0 < W.length := by
      have := (hW W (by simp)).1.1
      cases W with
      | nil => exact absurd rfl this
      | cons _ _ => simp
    obtain ⟨q1, q2, q3⟩ := tx_head Ws
    have t1 := tk_whole (hW W (by simp)) q1 q2 q3
    simp only [tx]
    rw [tks, t0]
    simp only [List.drop_succ_cons, List.drop_zero]
    obtain ⟨b, r, hb⟩ : ∃ b r, W ++ tx 44 Ws = b :: r := by
      cases h : W ++ tx 44 Ws with
      | nil => exfalso; have := congrArg List.length h; simp at this; exact (hW W (by simp)).1.1 this.1
      | cons b r => exact ⟨b, r, rfl⟩
    rw [hb, tks, ← hb, t1]
    simp only [List.drop_left]
    have := ih 44 5 n (i + 1 + W.length) rfl (fun X hX => hW X (by simp [hX])) (by omega) (fun _ => trivial)
    rw [this]
    simp only [nt, List.cons.injEq, Go.Proofs.Ytnhkdpcncjkmlaa.G.S34.mk.injEq, true_and, and_true]
    omega
/-- The tokens ahead of a number. -/
def pk (c : Int) (i : Nat) : List (List UInt8) → List Tk
  | [] => [⟨c, (i : Int), (i : Int) + 1⟩]
  | W :: Ws => ⟨c, (i : Int), (i : Int) + 1⟩ :: ⟨7, (i : Int) + 1, (i : Int) + 1 + (W.length : Int)⟩ :: pk 5 (i + 1 + W.length) Ws
theorem pk_len (c : Int) (i : Nat) (A : List (List UInt8)) : (pk c i A).length = 1 + 2 * A.length := by
  induction A generalizing c i with
  | nil => rfl
  | cons X A ih => simp only [pk, List.length_cons, ih]; omega
theorem nt_app (c : Int) (i : Nat) (A : List (List UInt8)) : ∃ p : Nat, ∀ (W : List UInt8) (B : List (List UInt8)), nt c i (A ++ W :: B) = pk c i A ++ (⟨7, (p : Int), (p : Int) + (W.length : Int)⟩ : Tk) :: nt 5 (p + W.length) B := by
  induction A generalizing c i with
  | nil => exact ⟨i + 1, fun W B => by simp only [List.nil_append, nt, pk, List.cons_append]; simp⟩
  | cons X A ih =>
    obtain ⟨p, hp⟩ := ih 5 (i + 1 + X.length)
    exact ⟨p, fun W B => by simp only [List.cons_append, nt, pk, hp]⟩
theorem nt_mv (c : Int) (i d : Nat) (B : List (List UInt8)) : nt c (i + d) B = (nt c i B).map (mv (d : Int)) := by
  induction B generalizing c i with
  | nil => simp only [nt, List.map_cons, List.map_nil, mv, List.cons.injEq, Go.Proofs.Ytnhkdpcncjkmlaa.G.S34.mk.injEq, true_and, and_true]; omega
  | cons X A ih =>
    simp only [nt, List.map_cons, mv, List.cons.injEq, Go.Proofs.Ytnhkdpcncjkmlaa.G.S34.mk.injEq, true_and]
    refine ⟨by omega, by omega, ?_⟩
    rw [show i + d + 1 + X.length = i + 1 + X.length + d by omega]
    exact ih _ _
theorem nt_len (c : Int) (i : Nat) (B : List (List UInt8)) : (nt c i B).length = 1 + 2 * B.length := by
  induction B generalizing c i with
  | nil => rfl
  | cons X A ih => simp only [nt, List.length_cons, ih]; omega
/-! ### two rows alike but for one -/
theorem near_ah {x y P u v : List Tk} {t t' : Tk} (ex : x = P ++ t :: u) (ey : y = P ++ t' :: v) (ht : t ≠ t') : ∀ (g i n : Nat), i + g = P.length → g < n → ah n x y i = g := by
  intro g
  induction g with
  | zero =>
    intro i n hi hn
    cases n with
    | zero => omega
    | succ n =>
      have r1 : rd_T34 x (i : Int) = t := by rw [ex, show i = P.length + 0 by omega, rd_right]; rfl
      have r2 : rd_T34 y (i : Int) = t' := by rw [ey, show i = P.length + 0 by omega, rd_right]; rfl
      rw [ah, r1, r2, if_neg (fun h => ht (sq_iff.1 h))]
  | succ g ih =>
    intro i n hi hn
    cases n with
    | zero => omega
    | succ n =>
      have r1 : rd_T34 x (i : Int) = rd_T34 P (i : Int) := by rw [ex]; exact rd_left (by omega)
      have r2 : rd_T34 y (i : Int) = rd_T34 P (i : Int) := by rw [ey]; exact rd_left (by omega)
      rw [ah, r1, r2, if_pos (sq_iff.2 rfl), ih (i + 1) n (by omega) (by omega)]
theorem near_bh {x y P u : List Tk} {t t' : Tk} {d : Int} (ex : x = P ++ t :: u) (ey : y = P ++ t' :: u.map (mv d)) (ht : mv d t ≠ t') : ∀ (g j n : Nat), j + g = u.length → g < n → bh n d x y j = g := by
  have lx : x.length = P.length + (u.length + 1) := by rw [ex]; simp
  have ly : y.length = P.length + (u.length + 1) := by rw [ey]; simp
  intro g
  induction g with
  | zero =>
    intro j n hj hn
    cases n with
    | zero => omega
    | succ n =>
      have r1 : rd_T34 x ((x.length - 1 - j : Nat) : Int) = t := by rw [lx, show P.length + (u.length + 1) - 1 - j = P.length + 0 by omega, ex, rd_right]; rfl
      have r2 : rd_T34 y ((y.length - 1 - j : Nat) : Int) = t' := by rw [ly, show P.length + (u.length + 1) - 1 - j = P.length + 0 by omega, ey, rd_right]; rfl
      rw [bh, r1, r2, if_neg (fun h => ht (sm_iff.1 h))]
  | succ g ih =>
    intro j n hj hn
    cases n with
    | zero => omega
    | succ n =>
      have r1 : rd_T34 x ((x.length - 1 - j : Nat) : Int) = rd_T34 u (g : Int) := by
        rw [lx, show P.length + (u.length + 1) - 1 - j = P.length + (1 + g) by omega, ex, rd_right, show t :: u = [t] ++ u from rfl, show 1 + g = [t].length + g from rfl, rd_right]
      have r2 : rd_T34 y ((y.length - 1 - j : Nat) : Int) = mv d (rd_T34 u (g : Int)) := by
        rw [ly, show P.length + (u.length + 1) - 1 - j = P.length + (1 + g) by omega, ey, rd_right, show t' :: u.map (mv d) = [t'] ++ u.map (mv d) from rfl, show 1 + g = [t'].length + g from rfl, rd_right, rd_map (mv d) (by omega)]
      rw [bh, r1, r2, if_pos (sm_iff.2 rfl), ih (j + 1) n (by omega) (by omega)]
/-- A number of a row grows. -/
theorem near (A : List (List UInt8)) (W V : List UInt8) (B : List (List UInt8)) (hA : ∀ X ∈ A, whole X) (hB : ∀ X ∈ B, whole X) (hW : whole W) (hV : whole V) (hl : W.length < V.length) :
    (toks (tx 91 (A ++ V :: B))).length = (toks (tx 91 (A ++ W :: B))).length ∧ (toks (tx 91 (A ++ W :: B))).length = 2 * A.length + 2 * B.length + 3 ∧
    agN (toks (tx 91 (A ++ W :: B))) (toks (tx 91 (A ++ V :: B))) = 1 + 2 * A.length ∧
    bhN ((V.length : Int) - (W.length : Int)) (toks (tx 91 (A ++ W :: B))) (toks (tx 91 (A ++ V :: B))) = 1 + 2 * B.length := by
  have mem : ∀ (Z : List UInt8), whole Z → ∀ X ∈ A ++ Z :: B, whole X := by
    intro Z hZ X hX
    simp only [List.mem_append, List.mem_cons] at hX
    rcases hX with h | rfl | h
    · exact hA X h
    · exact hZ
    · exact hB X h
  obtain ⟨p, hp⟩ := nt_app 2 0 A
  have t1 : toks (tx 91 (A ++ W :: B)) = pk 2 0 A ++ (⟨7, (p : Int), (p : Int) + (W.length : Int)⟩ : Tk) :: nt 5 (p + W.length) B := by
    rw [← hp]; exact tks_tx _ 91 2 _ 0 rfl (mem W hW) (Nat.le_refl _) (fun _ => trivial)
  have t2 : toks (tx 91 (A ++ V :: B)) = pk 2 0 A ++ (⟨7, (p : Int), (p : Int) + (V.length : Int)⟩ : Tk) :: (nt 5 (p + W.length) B).map (mv ((V.length : Int) - (W.length : Int))) := by
    have := nt_mv 5 (p + W.length) (V.length - W.length) B
    rw [show p + W.length + (V.length - W.length) = p + V.length by omega, show ((V.length - W.length : Nat) : Int) = (V.length : Int) - (W.length : Int) by omega] at this
    rw [← this, ← hp]; exact tks_tx _ 91 2 _ 0 rfl (mem V hV) (Nat.le_refl _) (fun _ => trivial)
  have hn := nt_len 5 (p + W.length) B
  have hk := pk_len 2 0 A
  generalize toks (tx 91 (A ++ W :: B)) = x at t1
  generalize toks (tx 91 (A ++ V :: B)) = y at t2
  generalize nt 5 (p + W.length) B = u at t1 t2 hn
  generalize pk 2 0 A = P at t1 t2 hk
  have lx : x.length = P.length + (u.length + 1) := by rw [t1]; simp
  have ly : y.length = P.length + (u.length + 1) := by rw [t2]; simp
  have a1 : agN x y = P.length := by
    unfold agN
    refine near_ah t1 t2 (fun h => ?_) P.length 0 _ (by omega) (by omega)
    have := congrArg (fun t : Tk => t.f2) h
    simp only at this; omega
  have a2 : bhN ((V.length : Int) - (W.length : Int)) x y = u.length := by
    unfold bhN
    rw [a1]
    refine near_bh t1 t2 (fun h => ?_) u.length 0 _ (by omega) (by omega)
    have := congrArg (fun t : Tk => t.f1) h
    simp only [mv] at this; omega
  refine ⟨by omega, by omega, by omega, by omega⟩
end Go.Proofs.Ytnhkdpcncjkmlaa.Pl
