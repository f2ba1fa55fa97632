/- The plain law TransformCuts: no program in sight but the printed function. -/
import Derived.Test.YtldaokclpkcmmabT4
import Derived.Test.YtldaokclpkcmmabT5
import Derived.Test.YtldaokclpkcmmabM6r
import Derived.Test.YtldaokclpkcmmabE21
import Derived.Test.YtldaokclpkcmmabGMinuetlaw5PTransformCuts
namespace Go.Proofs.Ytldaokclpkcmmab.Pl
open Go.RowKit Go.Proofs.Ytldaokclpkcmmab.G Go.Proofs.YtldaokclpkcmmabW.PrintWords Go.Proofs.YtldaokclpkcmmabW.PrintLast Go.Proofs.YtldaokclpkcmmabW.PrintMore
set_option linter.unusedVariables false
set_option linter.unusedSimpArgs false
/-- Is a byte kept by an edit that cuts p bytes from x on? -/
def kb (x p : Int) (i : Nat) : Bool := decide ((i : Int) < x ∨ x + p ≤ (i : Int))
def uK (x p : Int) (i : Nat) : Un := .inr (kb x p i)
theorem rep_range (x p : Int) (v : Bool) (a m : Nat) (h : ∀ i, a ≤ i → i < a + m → kb x p i = v) : List.replicate m (.inr v) = (List.range' a m).map (uK x p) := by
  refine (List.eq_replicate_iff.2 ⟨by simp, fun b hb => ?_⟩).symm
  obtain ⟨i, hi, rfl⟩ := List.mem_map.1 hb
  rw [List.mem_range'_1] at hi
  unfold uK; rw [h i hi.1 hi.2]
theorem cut_range {x p : Int} {n : Nat} (hx : 0 ≤ x) (hp : 0 ≤ p) (h : x + p ≤ (n : Int)) :
    List.replicate p.toNat (.inr false) ++ List.replicate ((n : Int) - x - p).toNat (.inr true) = (List.range' x.toNat (n - x.toNat)).map (uK x p) := by
  rw [rep_range x p false x.toNat p.toNat (fun i h1 h2 => decide_eq_false (by omega)), rep_range x p true (x.toNat + p.toNat) ((n : Int) - x - p).toNat (fun i h1 h2 => decide_eq_true (by omega)), ← List.map_append]
  congr 1
  have := @List.range'_append_1 x.toNat p.toNat ((n : Int) - x - p).toNat
  rw [this]; congr 1; omega
def WL (n : Nat) (s : List UInt8) (put : List UInt8) (x p y q : Int) : Nat → Nat → List UInt8
  | 0, _ => []
  | d + 1, z => (if (z : Int) = y then put else []) ++ ((if z < n ∧ kb x p z = true ∧ kb y q z = true then [s.getD z 0] else []) ++ WL n s put x p y q d (z + 1))
theorem mu_step {n : Nat} {s : List UInt8} (hs : s.length = n) (x p y q : Int) (z : Nat) (hz : z ≤ n) :
    mu true ((List.range' z (n - z)).map (uK x p)) ((List.range' z (n - z)).map (uK y q)) (s.drop z) = (if z < n ∧ kb x p z = true ∧ kb y q z = true then [s.getD z 0] else []) ++ mu true ((List.range' (z + 1) (n - (z + 1))).map (uK x p)) ((List.range' (z + 1) (n - (z + 1))).map (uK y q)) (s.drop (z + 1)) := by
  by_cases h : z < n
  · rw [show n - z = (n - (z + 1)) + 1 by omega, List.range'_succ, List.map_cons, List.map_cons]
    unfold uK
    rw [mu_rr, List.drop_drop, Nat.add_comm z 1, Nat.add_comm 1 z]
    congr 1
    have e : (s.drop z).take 1 = [s.getD z 0] := by
      rw [List.drop_eq_getElem_cons (show z < s.length by omega), List.take_succ_cons, List.take_zero, List.getD_eq_getElem?_getD, List.getElem?_eq_getElem (show z < s.length by omega)]
      rfl
    rw [e]
    by_cases k : kb x p z = true ∧ kb y q z = true
    · rw [if_pos (by rw [k.1, k.2]; rfl), if_pos ⟨h, k⟩]
    · rw [if_neg (by simpa using k), if_neg (fun hh => k hh.2)]
  · rw [show n - z = 0 by omega, show n - (z + 1) = 0 by omega, if_neg (fun hh => h hh.1)]
    simp only [List.range'_zero, List.map_nil, mu_nil]; rfl
theorem mu_W {n : Nat} {s : List UInt8} (hs : s.length = n) (put : List UInt8) (x p y q : Int) : ∀ (d z : Nat), z + d = n + 1 → y < (z : Int) →
    mu true ((List.range' z (n - z)).map (uK x p)) ((List.range' z (n - z)).map (uK y q)) (s.drop z) = WL n s put x p y q d z := by
  intro d
  induction d with
  | zero =>
    intro z h hy
    rw [show n - z = 0 by omega]
    simp only [List.range'_zero, List.map_nil, mu_nil, WL]
  | succ d ih =>
    intro z h hy
    rw [mu_step hs x p y q z (by omega), ih (z + 1) (by omega) (by omega), WL, if_neg (show ¬ (z : Int) = y by omega), List.nil_append]
theorem mu_W0 {n : Nat} {s : List UInt8} (hs : s.length = n) (put : ByteArray) (x p y q : Int) (hq : 0 ≤ q) (hyn : y ≤ (n : Int)) : ∀ (d z : Nat), z + d = n + 1 → (z : Int) ≤ y →
    mu true ((List.range' z (n - z)).map (uK x p)) ((List.range' z (y.toNat - z)).map (uK y q) ++ (us (pt put) ++ (List.range' y.toNat (n - y.toNat)).map (uK y q))) (s.drop z) = WL n s (bl put) x p y q d z := by
  have nop : ∀ z m, noP ((List.range' z m).map (uK x p)) := by
    intro z m q' B' e
    cases m with
    | zero => simp at e
    | succ m => rw [List.range'_succ, List.map_cons] at e; injection e with e1 _; cases e1
  intro d
  induction d with
  | zero => intro z h hz; omega
  | succ d ih =>
    intro z h hz
    by_cases e : (z : Int) = y
    · have ez : y.toNat = z := by omega
      rw [ez, Nat.sub_self, List.range'_zero, List.map_nil, List.nil_append, mu_tr _ _ _ _ _ (.inr (nop _ _)), mu_step hs x p y q z (by omega), mu_W hs (bl put) x p y q d (z + 1) (by omega) (by omega), WL, if_pos e]
    · rw [show y.toNat - z = (y.toNat - (z + 1)) + 1 by omega, List.range'_succ, List.map_cons, List.cons_append]
      have hlt : z < n := by omega
      rw [show n - z = (n - (z + 1)) + 1 by omega, List.range'_succ, List.map_cons]
      unfold uK
      rw [mu_rr, List.drop_drop]
      have := ih (z + 1) (by omega) (by omega)
      unfold uK at this
      rw [this, WL, if_neg e, List.nil_append]
      congr 1
      have e : (s.drop z).take 1 = [s.getD z 0] := by
        rw [List.drop_eq_getElem_cons (show z < s.length by omega), List.take_succ_cons, List.take_zero, List.getD_eq_getElem?_getD, List.getElem?_eq_getElem (show z < s.length by omega)]
        rfl
      rw [e]
      by_cases k : kb x p z = true ∧ kb y q z = true
      · rw [if_pos (by rw [k.1, k.2]; rfl), if_pos ⟨hlt, k⟩]
      · rw [if_neg (by simpa using k), if_neg (fun hh => k hh.2)]
/-- Two edits of a short text, the one a cut, the other a cut and a put: what the one does behind the other. -/
theorem cuts_two {s put : ByteArray} {x y p q : Int} (hs : s.size ≤ 150) (hP : put.size ≤ 50) (hx : 0 ≤ x ∧ x ≤ (s.size : Int)) (hy : 0 ≤ y ∧ y ≤ (s.size : Int)) (hp : 0 ≤ p ∧ p ≤ (s.size : Int) - x) (hq : 0 ≤ q ∧ q ≤ (s.size : Int) - y) :
    mkM s x p ⟨#[]⟩ = (mk4 x ⟨#[]⟩ p ((s.size : Int) - x - p), 0) ∧ mkM s y q put = (mk4 y put q ((s.size : Int) - y - q), 0) ∧
    ∃ c c' t u, trM true (mk4 x ⟨#[]⟩ p ((s.size : Int) - x - p)) (mk4 y put q ((s.size : Int) - y - q)) = (c, c', 0) ∧ apM s (mk4 y put q ((s.size : Int) - y - q)) = (t, 0) ∧ apM t c = (u, 0) ∧
      bl u = WL s.size (bl s) (bl put) x p y q (s.size + 1) 0 := by
  have z0 : (⟨#[]⟩ : ByteArray).size = 0 := rfl
  have k1 : mkM s x p ⟨#[]⟩ = (mk4 x ⟨#[]⟩ p ((s.size : Int) - x - p), 0) := by
    unfold mkM; rw [if_pos ((isThere_iff _ _ _).2 ⟨by omega, hx.1, hx.2, by omega, by omega⟩), if_pos ⟨by omega, by omega⟩]
  have k2 : mkM s y q put = (mk4 y put q ((s.size : Int) - y - q), 0) := by
    unfold mkM; rw [if_pos ((isThere_iff _ _ _).2 ⟨by omega, hy.1, hy.2, by omega, by omega⟩), if_pos ⟨by omega, by omega⟩]
  refine ⟨k1, k2, ?_⟩
  have ma := mk4_may (a := x) (p := ⟨#[]⟩) (c := p) (b := (s.size : Int) - x - p) hx.1 (by omega) (by omega) (by omega) (by omega)
  have mb := mk4_may (a := y) (p := put) (c := q) (b := (s.size : Int) - y - q) hy.1 (by omega) (by omega) (by omega) (by omega)
  have fa := mk4_froms (a := x) (p := ⟨#[]⟩) (c := p) (b := (s.size : Int) - x - p) hx.1 (by omega) (by omega)
  have fb := mk4_froms (a := y) (p := put) (c := q) (b := (s.size : Int) - y - q) hy.1 (by omega) (by omega)
  have ta := mk4_tos (a := x) (p := ⟨#[]⟩) (c := p) (b := (s.size : Int) - x - p) hx.1 (by omega) (by omega)
  have tb := mk4_tos (a := y) (p := put) (c := q) (b := (s.size : Int) - y - q) hy.1 (by omega) (by omega)
  have la := mk4_four x ⟨#[]⟩ p ((s.size : Int) - x - p)
  have lb := mk4_four y put q ((s.size : Int) - y - q)
  have ua := us_mk4 (a := x) (p := ⟨#[]⟩) (c := p) (b := (s.size : Int) - x - p) hx.1 (by omega) (by omega)
  have ub := us_mk4 (a := y) (p := put) (c := q) (b := (s.size : Int) - y - q) hy.1 (by omega) (by omega)
  rw [show us (pt ⟨#[]⟩) = [] from rfl, List.nil_append, cut_range hx.1 hp.1 (by omega), rep_range x p true 0 x.toNat (fun i h1 h2 => decide_eq_true (by omega)), ← List.map_append] at ua
  rw [cut_range hy.1 hq.1 (by omega), rep_range y q true 0 y.toNat (fun i h1 h2 => decide_eq_true (by omega))] at ub
  have er := @List.range'_append_1 0 x.toNat (s.size - x.toNat)
  rw [Nat.zero_add, show x.toNat + (s.size - x.toNat) = s.size by omega] at er
  rw [er] at ua
  generalize mk4 x ⟨#[]⟩ p ((s.size : Int) - x - p) = a at *
  generalize mk4 y put q ((s.size : Int) - y - q) = b at *
  obtain ⟨a1, a2, a3⟩ := may_bounds ma
  obtain ⟨b1, b2, b3⟩ := may_bounds mb
  have pa := psz_to a2; have pb := psz_to b2
  obtain ⟨c, c', e, mc, mq, fc, fq, hu⟩ := trM_mu (f := true) ma mb (by omega) (by omega) (by omega) (by omega)
  obtain ⟨u1, u2⟩ := hu (bl s) (by rw [bl_len]; omega)
  have lt : ((bs (ap (bl s) b)).size : Int) = tos b := by rw [bs_size]; exact ap_len b2 (bl s) (by rw [bl_len]; omega)
  refine ⟨c, c', bs (ap (bl s) b), bs (mu true (us a) (us b) (bl s)), e, apM_ok mb (by omega), ?_, ?_⟩
  · rw [apM_ok mc (by omega), bl_bs, u1]
  · have := mu_W0 (n := s.size) (s := bl s) (bl_len s) put x p y q hq.1 hy.2 (s.size + 1) 0 (by omega) (by omega)
    rw [bl_bs, ua, ub, ← this]
    simp only [Nat.sub_zero, List.drop_zero]
theorem WL_len (n : Nat) (s put : List UInt8) (x p y q : Int) : ∀ d z : Nat, (WL n s put x p y q d z).length ≤ d * (put.length + 1) := by
  intro d
  induction d with
  | zero => intro z; simp [WL]
  | succ d ih =>
    intro z
    have := ih (z + 1)
    rw [WL, List.length_append, List.length_append, Nat.succ_mul]
    have h1 : (if (z : Int) = y then put else []).length ≤ put.length := by split <;> simp
    have h2 : (if z < n ∧ kb x p z = true ∧ kb y q z = true then [s.getD z 0] else []).length ≤ 1 := by split <;> simp
    omega
theorem Cuts_l0 {s put u : ByteArray} {x y p q : Int} (hs : s.size ≤ 150) (hP : put.size ≤ 50) (hx : 0 ≤ x ∧ x ≤ (s.size : Int)) (hy : 0 ≤ y ∧ y ≤ (s.size : Int)) (hp : 0 ≤ p ∧ p ≤ (s.size : Int) - x) (hq : 0 ≤ q ∧ q ≤ (s.size : Int) - y) (hul : u.size ≤ 10000) :
    ∀ (d z : Nat) (want : ByteArray), z + d = s.size + 1 → bl u = bl want ++ WL s.size (bl s) (bl put) x p y q d z → Ev (fun k => minuetlaw5_TransformCuts.l0 k s put x y p q 0 0 0 0 u 0 want (z : Int)) true := by
  have w2 : wrap64 (x + p) = x + p := w64 (by omega) (by omega)
  have w3 : wrap64 (y + q) = y + q := w64 (by omega) (by omega)
  intro d
  induction d with
  | zero =>
    intro z want h e
    refine Ev.step (fun k => by rw [minuetlaw5_TransformCuts.l0]) ?_
    have e2 : u = want := bl_inj (by rw [e, WL, List.append_nil])
    simp only [if_neg (show ¬ (z : Int) ≤ (s.size : Int) by omega), num_eq, Option.bind_some, if_true, e2, beq_self_eq_true]
    exact Ev.now _
  | succ d ih =>
    intro z want h e
    have w1 : wrap64 ((z : Int) + 1) = (z : Int) + 1 := w64 (by omega) (by omega)
    have t1 : ((z : Int)).toNat = z := Int.toNat_natCast z
    have t2 : ((z : Int) + 1).toNat = z + 1 := Int.toNat_natCast (z + 1)
    have hw : want.size ≤ 10000 := by
      have := congrArg List.length e
      rw [List.length_append, bl_len, bl_len] at this; omega
    have L : ∀ w' : ByteArray, bl w' = bl want ++ ((if (z : Int) = y then bl put else []) ++ (if z < s.size ∧ kb x p z = true ∧ kb y q z = true then [(bl s).getD z 0] else [])) → Ev (fun k => minuetlaw5_TransformCuts.l0 k s put x y p q 0 0 0 0 u 0 w' ((z : Int) + 1)) true := by
      intro w' hw'
      have := ih (z + 1) w' (by omega) (by rw [e, hw', WL]; simp only [List.append_assoc])
      rwa [Int.natCast_add] at this
    have hcut : z < s.size → bl (s.extract z (z + 1)) = [(bl s).getD z 0] := by
      intro hz
      rw [bl_ext, Nat.add_sub_cancel_left, List.drop_eq_getElem_cons (show z < (bl s).length by rw [bl_len]; exact hz), List.take_succ_cons, List.take_zero, List.getD_eq_getElem?_getD, List.getElem?_eq_getElem (show z < (bl s).length by rw [bl_len]; exact hz)]
      rfl
    refine Ev.step (fun k => by rw [minuetlaw5_TransformCuts.l0]) ?_
    clear ih e
    repeat' (with_reducible refine Ev_ite (fun _ => ?_) (fun _ => ?_))
    all_goals (simp only [w1, w2, w3, t1, t2] at *; clear w1 w2 w3)
    all_goals first
      | (exfalso; clear L hcut; omega)
      | (exfalso; clear L hcut; simp only [ByteArray.size_append, ByteArray.size_extract] at *; omega)
      | (refine L _ ?_; rw [if_pos (by assumption), if_pos ⟨by omega, decide_eq_true (by omega), decide_eq_true (by omega)⟩, bl_app, bl_app, hcut (by omega), List.append_assoc]; done)
      | (refine L _ ?_; rw [if_neg (by assumption), if_pos ⟨by omega, decide_eq_true (by omega), decide_eq_true (by omega)⟩, bl_app, hcut (by omega), List.nil_append]; done)
      | (refine L _ ?_; rw [if_pos (by assumption), if_neg (fun hh => by have h1 := of_decide_eq_true hh.2.1; have h2 := of_decide_eq_true hh.2.2; have h3 := hh.1; omega), bl_app, List.append_nil]; done)
      | (refine L _ ?_; rw [if_neg (by assumption), if_neg (fun hh => by have h1 := of_decide_eq_true hh.2.1; have h2 := of_decide_eq_true hh.2.2; have h3 := hh.1; omega), List.append_nil, List.append_nil]; done)
theorem TransformCuts_pure (s : ByteArray) (i k j m : Int) (put : ByteArray) (_hs : s.size ≤ 140737488351232) (_h1 : (Lit.int .i64 i).wf = true) (_h2 : (Lit.int .i64 k).wf = true) (_h3 : (Lit.int .i64 j).wf = true) (_h4 : (Lit.int .i64 m).wf = true) (_hp : put.size ≤ 140737488351232) : ∃ k_, minuetlaw5_TransformCuts.f k_ s i k j m put = some true := by
  refine Ev.rounds (Ev.congr (fun k_ => by rw [minuetlaw5_TransformCuts.f]) (Ev.bind awake5 ?_))
  simp only [if_true]
  have out : Ev (fun k_ => minuetlaw5_TransformCuts.j0 k_ s i k j m put true) true := by
    refine Ev.step (fun k_ => by rw [minuetlaw5_TransformCuts.j0]) ?_
    simp only [if_true]; exact Ev.now _
  by_cases hs : (s.size : Int) > 150
  · simp only [if_pos hs]; exact out
  simp only [if_neg hs]
  by_cases hP : (put.size : Int) > 50
  · rw [decide_eq_true hP]; exact out
  rw [decide_eq_false hP]
  refine Ev.step (fun k_ => by rw [minuetlaw5_TransformCuts.j0]) ?_
  simp only [Bool.false_eq_true, if_false, if_neg (u64_ne (s.size : Int) (by omega) (by omega))]
  have hx := modix i (s.size : Int) (by omega) (by omega)
  have hy := modix j (s.size : Int) (by omega) (by omega)
  generalize wrap64 (Int.tmod (IntKind.u64.wrap i) (IntKind.u64.wrap (wrap64 ((s.size : Int) + 1)))) = x at hx ⊢
  generalize wrap64 (Int.tmod (IntKind.u64.wrap j) (IntKind.u64.wrap (wrap64 ((s.size : Int) + 1)))) = y at hy ⊢
  rw [show wrap64 ((s.size : Int) - x) = (s.size : Int) - x from w64 (by omega) (by omega), show wrap64 ((s.size : Int) - y) = (s.size : Int) - y from w64 (by omega) (by omega)]
  simp only [if_neg (u64_ne ((s.size : Int) - x) (by omega) (by omega)), if_neg (u64_ne ((s.size : Int) - y) (by omega) (by omega))]
  have hp := modix k ((s.size : Int) - x) (by omega) (by omega)
  have hq := modix m ((s.size : Int) - y) (by omega) (by omega)
  generalize wrap64 (Int.tmod (IntKind.u64.wrap k) (IntKind.u64.wrap (wrap64 ((s.size : Int) - x + 1)))) = p at hp ⊢
  generalize wrap64 (Int.tmod (IntKind.u64.wrap m) (IntKind.u64.wrap (wrap64 ((s.size : Int) - y + 1)))) = q at hq ⊢
  obtain ⟨k1, k2, c, c', t, u, e1, e2, e3, hu⟩ := cuts_two (s := s) (put := put) (by omega) (by omega) hx hy hp hq
  refine Ev.bind (rMake_ev s x p _ (by decide)) ?_
  rw [k1]
  refine Ev.bind (rMake_ev s y q put (by omega)) ?_
  rw [k2]
  refine Ev.bind (Transform_ev _ _ true) ?_
  rw [e1]
  refine Ev.bind (rApply_ev s _) ?_
  rw [e2]
  refine Ev.bind (rApply_ev t c) ?_
  rw [e3]
  have hul : u.size ≤ 10000 := by
    have h1 := WL_len s.size (bl s) (bl put) x p y q (s.size + 1) 0
    rw [← hu, bl_len, bl_len] at h1
    have h2 : (s.size + 1) * (put.size + 1) ≤ 151 * 51 := Nat.mul_le_mul (by omega) (by omega)
    omega
  exact Cuts_l0 (by omega) (by omega) hx hy hp hq hul (s.size + 1) 0 (⟨#[]⟩ : ByteArray) (by omega) (by rw [bl_nil, List.nil_append]; exact hu)
end Go.Proofs.Ytldaokclpkcmmab.Pl
