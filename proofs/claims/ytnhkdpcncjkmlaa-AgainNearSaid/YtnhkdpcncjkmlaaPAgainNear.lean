/- The plain law AgainNear. -/
import Derived.Test.YtnhkdpcncjkmlaaLe
import Derived.Test.YtnhkdpcncjkmlaaGMinuetlaw10PAgainNear
namespace Go.Proofs.Ytnhkdpcncjkmlaa.Pl
open Go.RowKit Go.Proofs.Ytnhkdpcncjkmlaa.G Go.Proofs.Ytnhkdpcncjkmlaa.Lx Go.Proofs.YtnhkdpcncjkmlaaW.PrintWords Go.Proofs.YtnhkdpcncjkmlaaW.PrintLast Go.Proofs.YtnhkdpcncjkmlaaW.PrintMore
set_option linter.unusedVariables false
set_option linter.unusedSimpArgs false
theorem and_mask (a : Int) (m : Nat) (hm : m < 4611686018427387904) : 0 ≤ Go.bits .and .i64 a (m : Int) ∧ Go.bits .and .i64 a (m : Int) ≤ (m : Int) := by
  have h1 : ∀ x y : BitVec 64, y.toNat = m → (x &&& y).toNat ≤ m := by
    intro x y hy; rw [BitVec.toNat_and, hy]; exact Nat.and_le_right
  have h2 := h1 (BitVec.ofInt 64 a) (BitVec.ofInt 64 (m : Int)) (by rw [BitVec.ofInt_natCast, BitVec.toNat_ofNat]; exact Nat.mod_eq_of_lt (by omega))
  have h3 : Go.bits .and .i64 a (m : Int) = IntKind.i64.wrap ((BitVec.ofInt 64 a &&& BitVec.ofInt 64 (m : Int)).toNat : Int) := rfl
  rw [h3, IntKind.wrap_i64]
  omega
/-- The texts of the numbers. -/
structure Dec (xs : List Int) (D : Nat → ByteArray) : Prop where
  ev : ∀ i : Nat, Ev (fun k => minuetref0_Decimal.f k (Go.bits .and .i64 (rd xs (i : Int)) 4095)) (D i)
  wh : ∀ i, whole (byt (D i))
  sz : ∀ i, (D i).size ≤ 4
theorem dec_get (xs : List Int) : ∃ D, Dec xs D := by
  have h : ∀ i : Nat, ∃ s, Ev (fun k => minuetref0_Decimal.f k (Go.bits .and .i64 (rd xs (i : Int)) 4095)) s ∧ whole (byt s) ∧ s.size ≤ 4 := by
    intro i
    have d0 : 0 ≤ Go.bits .and .i64 (rd xs (i : Int)) 4095 := (and_mask _ 4095 (by decide)).1
    have d1 : Go.bits .and .i64 (rd xs (i : Int)) 4095 ≤ 4095 := (and_mask _ 4095 (by decide)).2
    obtain ⟨s, h1, h2, h3, h4, h5⟩ := Decimal2 (Go.bits .and .i64 (rd xs (i : Int)) 4095) d0 (by omega)
    exact ⟨s, h1, h2, h4 (by omega)⟩
  obtain ⟨D, hD⟩ := Classical.axiomOfChoice h
  exact ⟨D, fun i => (hD i).1, fun i => (hD i).2.1, fun i => (hD i).2.2⟩
/-- The first so many texts. -/
def fst (D : Nat → ByteArray) (i : Nat) : List (List UInt8) := (List.range i).map fun j => byt (D j)
theorem fst_succ (D : Nat → ByteArray) (i : Nat) : fst D (i + 1) = fst D i ++ [byt (D i)] := by simp [fst, List.range_succ]
theorem fst_len (D : Nat → ByteArray) (i : Nat) : (fst D i).length = i := by simp [fst]
theorem fst_mem {xs : List Int} {D : Nat → ByteArray} (hD : Dec xs D) {i : Nat} : ∀ X ∈ fst D i, whole X ∧ X.length ≤ 4 := by
  intro X hX
  simp only [fst, List.mem_map] at hX
  obtain ⟨j, _, rfl⟩ := hX
  exact ⟨hD.wh j, by rw [byt_len]; exact hD.sz j⟩
theorem fst_px_len {xs : List Int} {D : Nat → ByteArray} (hD : Dec xs D) (i : Nat) : (px 91 (fst D i)).length ≤ 1 + 5 * i := by
  have := px_len 91 4 (fst D i) (fun X hX => (fst_mem hD X hX).2)
  rw [fst_len] at this; exact this
def Inv (D : Nat → ByteArray) (q : Nat) (i : Nat) (x7 : ByteArray) (x8 x9 : Int) : Prop :=
  ((i = 0 ∧ byt x7 = [91]) ∨ (0 < i ∧ byt x7 ++ [44] = px 91 (fst D i))) ∧ (q < i → x8 = ((px 91 (fst D q)).length : Int) ∧ x9 = ((D q).size : Int))
theorem inv_size {xs : List Int} {D : Nat → ByteArray} (hD : Dec xs D) {q i : Nat} {x7 : ByteArray} {x8 x9 : Int} (h : Inv D q i x7 x8 x9) : x7.size ≤ 1 + 5 * i := by
  rcases h.1 with ⟨h0, h1⟩ | ⟨h0, h1⟩
  · rw [← byt_len, h1]; simp
  · have := congrArg List.length h1
    rw [List.length_append, byt_len] at this
    have := fst_px_len hD i
    simp at *; omega
/-- One more round. -/
theorem inv_step {D : Nat → ByteArray} {q i : Nat} {x7 z : ByteArray} {x8 x9 : Int} (h : Inv D q i x7 x8 x9) (hz : byt z = px 91 (fst D i)) :
    (i = q → Inv D q (i + 1) (z ++ D i) (z.size : Int) ((D i).size : Int)) ∧ (i ≠ q → Inv D q (i + 1) (z ++ D i) x8 x9) := by
  have e : byt (z ++ D i) ++ [44] = px 91 (fst D (i + 1)) := by rw [byt_cat, hz, fst_succ, px_app, List.append_assoc]
  refine ⟨fun hq => ⟨.inr ⟨by omega, e⟩, fun _ => ?_⟩, fun hq => ⟨.inr ⟨by omega, e⟩, fun hlt => h.2 (by omega)⟩⟩
  subst hq
  exact ⟨by rw [← hz, byt_len], rfl⟩
theorem px_end : ∀ (c : UInt8) (A : List (List UInt8)), A ≠ [] → ∃ z, px c A = z ++ [44] ∧ tx c A = z ++ [93] := by
  intro c A
  induction A generalizing c with
  | nil => intro h; exact absurd rfl h
  | cons X A ih =>
    intro _
    cases A with
    | nil => exact ⟨c :: X, by simp [px], by simp [tx]⟩
    | cons Y A =>
      obtain ⟨z, h1, h2⟩ := ih 44 (by simp)
      exact ⟨c :: (X ++ z), by rw [px, h1]; simp, by rw [tx, h2]; simp⟩
theorem fst_split (D : Nat → ByteArray) (m q : Nat) (hq : q < m) : ∃ B, fst D m = fst D q ++ byt (D q) :: B ∧ B.length = m - q - 1 ∧ ∀ X ∈ B, X ∈ fst D m := by
  refine ⟨(fst D m).drop (q + 1), ?_, by rw [List.length_drop, fst_len]; omega, fun X hX => List.mem_of_mem_drop hX⟩
  have e1 : (fst D m).take q = fst D q := by
    unfold fst; rw [← List.map_take, List.take_range, Nat.min_eq_left (by omega)]
  have e2 : (fst D m).drop q = byt (D q) :: (fst D m).drop (q + 1) := by
    rw [List.drop_eq_getElem_cons (by rw [fst_len]; exact hq)]
    congr 1
    simp [fst]
  rw [← e1, ← e2, List.take_append_drop]
theorem near_end {xs : List Int} {D : Nat → ByteArray} (hD : Dec xs D) (x2 : Int) (m q : Nat) (hm : m ≤ 20) (hq : q < m) (i : Int) {x7 : ByteArray} {x8 x9 : Int} (h : Inv D q m x7 x8 x9) :
    Ev (fun k => minuetlaw10_AgainNear.j1 k xs x2 x7 x8 x9 (q : Int) i false) true := by
  have hsz := inv_size hD h
  obtain ⟨h8, h9⟩ := h.2 hq
  have e1 : byt x7 ++ [44] = px 91 (fst D m) := by
    rcases h.1 with ⟨h0, _⟩ | ⟨_, h1⟩
    · omega
    · exact h1
  obtain ⟨B, hB, hBl, hBm⟩ := fst_split D m q hq
  have hne : fst D m ≠ [] := by intro h0; have := fst_len D m; rw [h0, List.length_nil] at this; omega
  obtain ⟨z, z1, z2⟩ := px_end 91 (fst D m) hne
  rw [z1] at e1
  have e2 := List.append_cancel_right e1
  have et : byt (x7 ++ (⟨#[93]⟩ : ByteArray)) = tx 91 (fst D q ++ byt (D q) :: B) := by
    rw [byt_cat, e2, ← hB, z2, show byt (⟨#[93]⟩ : ByteArray) = [93] from rfl]
  have hs : (x7 ++ (⟨#[93]⟩ : ByteArray)).size = x7.size + 1 := ByteArray.size_append
  have d0 : 0 ≤ Go.bits .and .i64 x2 4095 := (and_mask _ 4095 (by decide)).1
  have d1 : Go.bits .and .i64 x2 4095 ≤ 4095 := (and_mask _ 4095 (by decide)).2
  have w0 : wrap64 (Go.bits .and .i64 x2 4095 + 10000) = Go.bits .and .i64 x2 4095 + 10000 := w64 (by omega) (by omega)
  obtain ⟨V, v1, v2, v3, _, v5⟩ := Decimal2 (Go.bits .and .i64 x2 4095 + 10000) (by omega) (by omega)
  have v6 := v5 (by omega)
  refine Ev.step (fun k => by rw [minuetlaw10_AgainNear.j1]) ?_
  simp only [Bool.false_eq_true, if_false, if_pos (show x7.size + 1 ≤ 9223372036854775807 by omega), w0]
  rw [tok_ev (show (x7 ++ (⟨#[93]⟩ : ByteArray)).size ≤ 300 by omega)]
  simp only [opt_some]
  refine Ev.bind v1 ?_
  generalize x7 ++ (⟨#[93]⟩ : ByteArray) = s at et hs
  have hD4 := hD.sz q
  have hlen : s.size = (px 91 (fst D q)).length + ((D q).size + (tx 44 B).length) := by
    rw [← byt_len, et, tx_app, List.length_append, List.length_append, byt_len]
  have hp : agP s (toks (byt s)) x8 x9 V := ⟨by omega, rfl, by omega, by omega, by omega, by omega, by omega⟩
  have eu : byt (edS s x8 x9 V) = tx 91 (fst D q ++ byt V :: B) := by
    rw [byt_edS, et, tx_app, tx_app, h8, h9, Int.toNat_natCast, List.take_left]
    rw [show (((px 91 (fst D q)).length : Int) + ((D q).size : Int)).toNat = (px 91 (fst D q) ++ byt (D q)).length by rw [List.length_append, byt_len]; omega]
    rw [← List.append_assoc (px 91 (fst D q)), List.drop_left, List.append_assoc]
  have hu : (edS s x8 x9 V).size ≤ 300 := by
    rw [edS_size hp.2.2.1 hp.2.2.2.1 hp.2.2.2.2.1 hp.2.2.2.2.2.1]; omega
  refine Ev.bind (Again_ok hp hu) ?_
  obtain ⟨n1, n2, n3, n4⟩ := near (fst D q) (byt (D q)) (byt V) B (fun X hX => (fst_mem hD X hX).1) (fun X hX => (fst_mem hD X (hBm X hX)).1) (hD.wh q) v2 (by rw [byt_len, byt_len]; omega)
  rw [byt_len, byt_len] at n4
  rw [eu, et, h9]
  simp only [num_eq, opt_some, if_true]
  rw [fst_len] at n2 n3
  have w1 : wrap64 (2 * (q : Int)) = 2 * (q : Int) := w64 (by omega) (by omega)
  have w2 : wrap64 (1 + 2 * (q : Int)) = 1 + 2 * (q : Int) := w64 (by omega) (by omega)
  rw [n1, n3, n4, n2, w1, w2]
  clear w1 w2 w0
  have p1 : ((1 + 2 * q : Nat) : Int) = 1 + 2 * (q : Int) := by omega
  simp only [if_true, if_pos p1]
  have w3 : wrap64 (((2 * q + 2 * B.length + 3 : Nat) : Int) - ((1 + 2 * q : Nat) : Int)) = ((2 * B.length + 2 : Nat) : Int) := by rw [w64 (by omega) (by omega)]; omega
  rw [w3]
  clear w3
  have w4 : wrap64 (((2 * B.length + 2 : Nat) : Int) - 1) = ((1 + 2 * B.length : Nat) : Int) := by rw [w64 (by omega) (by omega)]; omega
  rw [w4]
  simp only [beq_self_eq_true]
  exact Ev.now _
theorem near_l0 {xs : List Int} {D : Nat → ByteArray} (hD : Dec xs D) (hx : xs.length ≤ 140737488351232) (x2 : Int) (m q : Nat) (hm : m = min xs.length 20) (hq : q < m) : ∀ (g i : Nat), i + g = m → ∀ (x7 : ByteArray) (x8 x9 : Int), Inv D q i x7 x8 x9 →
    Ev (fun k => minuetlaw10_AgainNear.l0 k xs x2 x7 x8 x9 (q : Int) (i : Int)) true := by
  intro g
  induction g with
  | zero =>
    intro i hi x7 x8 x9 h
    have e : i = m := by omega
    subst e
    have fin := near_end hD x2 i q (by omega) hq (i : Int) h
    refine Ev.step (fun k => by rw [minuetlaw10_AgainNear.l0]) ?_
    refine Ev_ite (fun h1 => ?_) (fun h1 => fin)
    rw [decide_eq_false (show ¬ (i : Int) < 20 by omega)]
    exact fin
  | succ g ih =>
    intro i hi x7 x8 x9 h
    have hsz := inv_size hD h
    have h4 := hD.sz i
    have w0 : wrap64 ((i : Int) + 1) = ((i + 1 : Nat) : Int) := by rw [w64 (by omega) (by omega)]; omega
    have b1 : (i : Int) < (xs.length : Int) := by omega
    have b2 : (0 : Int) ≤ (i : Int) := by omega
    refine Ev.step (fun k => by rw [minuetlaw10_AgainNear.l0]) ?_
    simp only [if_pos b1]
    rw [decide_eq_true (show (i : Int) < 20 by omega)]
    refine Ev.step (fun k => by rw [minuetlaw10_AgainNear.j1]) ?_
    simp only [if_true, if_pos b1, if_pos b2, w0]
    refine Ev_ite (fun c => ?_) (fun c => ?_)
    · have hz : byt (x7 ++ (⟨#[44]⟩ : ByteArray)) = px 91 (fst D i) := by
        rcases h.1 with ⟨h0, _⟩ | ⟨_, h1⟩
        · omega
        · rw [byt_cat]; exact h1
      have hs : (x7 ++ (⟨#[44]⟩ : ByteArray)).size = x7.size + 1 := ByteArray.size_append
      obtain ⟨s1, s2⟩ := inv_step h hz
      simp only [if_pos (show x7.size + 1 ≤ 9223372036854775807 by omega)]
      refine Ev.bind (hD.ev i) ?_
      simp only [if_pos (show (x7 ++ (⟨#[44]⟩ : ByteArray)).size + (D i).size ≤ 9223372036854775807 by omega)]
      refine Ev_ite (fun e => ?_) (fun e => ?_)
      · exact ih (i + 1) (by omega) _ _ _ (s1 (by omega))
      · exact ih (i + 1) (by omega) _ _ _ (s2 (by omega))
    · have hz : byt x7 = px 91 (fst D i) := by
        rcases h.1 with ⟨h0, h1⟩ | ⟨h0, _⟩
        · rw [h0, h1]; rfl
        · omega
      obtain ⟨s1, s2⟩ := inv_step h hz
      refine Ev.bind (hD.ev i) ?_
      simp only [if_pos (show x7.size + (D i).size ≤ 9223372036854775807 by omega)]
      refine Ev_ite (fun e => ?_) (fun e => ?_)
      · exact ih (i + 1) (by omega) _ _ _ (s1 (by omega))
      · exact ih (i + 1) (by omega) _ _ _ (s2 (by omega))
theorem AgainNear_pure (xs : List Int) (a1 a2 : Int) (_h2 : ∀ x ∈ xs, (Lit.int .i64 x).wf = true) (h1 : xs.length * 8 ≤ 140737488351232) (_h3 : (Lit.int .i64 a1).wf = true) (_h4 : (Lit.int .i64 a2).wf = true) : ∃ k, minuetlaw10_AgainNear.f k xs a1 a2 = some true := by
  refine Ev.rounds (Ev.congr (fun k => by rw [minuetlaw10_AgainNear.f]) ?_)
  refine Ev.bind awake10_ev ?_
  simp only [if_true]
  refine Ev_ite (fun _ => Ev.now _) (fun hl => ?_)
  have em : mn (xs.length : Int) 20 = ((min xs.length 20 : Nat) : Int) := mn_nat xs.length 20
  rw [em]
  obtain ⟨m, hm⟩ : ∃ m, min xs.length 20 = m := ⟨_, rfl⟩
  rw [hm]
  have m0 : 0 < m ∧ m ≤ 20 := by omega
  obtain ⟨q0, q1, q2⟩ := umodN a1 (m : Int) (by omega) (by omega)
  simp only [if_neg (show ¬ ((m : Nat) : Int) = 0 by omega), q2]
  clear q2
  generalize Int.tmod (IntKind.u64.wrap a1) (m : Int) = q at q0 q1
  obtain ⟨q, rfl⟩ := Int.eq_ofNat_of_zero_le q0
  obtain ⟨D, hD⟩ := dec_get xs
  exact near_l0 hD (by omega) a2 m q hm.symm (by omega) m 0 (by omega) _ 0 0 ⟨.inl ⟨rfl, rfl⟩, fun h => by omega⟩
end Go.Proofs.Ytnhkdpcncjkmlaa.Pl
