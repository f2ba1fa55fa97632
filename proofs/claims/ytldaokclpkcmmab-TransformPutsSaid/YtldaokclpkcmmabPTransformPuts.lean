/- The plain law TransformPuts: no program in sight but the printed function. -/
import Derived.Test.YtldaokclpkcmmabT4
import Derived.Test.YtldaokclpkcmmabT5
import Derived.Test.YtldaokclpkcmmabM6r
import Derived.Test.YtldaokclpkcmmabE21
import Derived.Test.YtldaokclpkcmmabGMinuetlaw5PTransformPuts
namespace Go.Proofs.Ytldaokclpkcmmab.Pl
open Go.RowKit Go.Proofs.Ytldaokclpkcmmab.G Go.Proofs.YtldaokclpkcmmabW.PrintWords Go.Proofs.YtldaokclpkcmmabW.PrintLast Go.Proofs.YtldaokclpkcmmabW.PrintMore
set_option linter.unusedVariables false
set_option linter.unusedSimpArgs false
/-- Two edits that only put, of a short text: what each does behind the other one. -/
theorem puts_two {f : Bool} {s P Q : ByteArray} {x y : Int} (hs : s.size ≤ 200) (hP : P.size ≤ 50) (hQ : Q.size ≤ 50) (hx : 0 ≤ x ∧ x ≤ (s.size : Int)) (hy : 0 ≤ y ∧ y ≤ (s.size : Int)) :
    mkM s x 0 P = (mk4 x P 0 ((s.size : Int) - x - 0), 0) ∧ mkM s y 0 Q = (mk4 y Q 0 ((s.size : Int) - y - 0), 0) ∧
    ∃ p q t v u, trM f (mk4 x P 0 ((s.size : Int) - x - 0)) (mk4 y Q 0 ((s.size : Int) - y - 0)) = (p, q, 0) ∧ apM s (mk4 y Q 0 ((s.size : Int) - y - 0)) = (t, 0) ∧ apM t p = (u, 0) ∧ apM s (mk4 x P 0 ((s.size : Int) - x - 0)) = (v, 0) ∧ apM v q = (u, 0) ∧
      bl u = mu f (List.replicate x.toNat (.inr true) ++ (us (pt P) ++ List.replicate (s.size - x.toNat) (.inr true))) (List.replicate y.toNat (.inr true) ++ (us (pt Q) ++ List.replicate (s.size - y.toNat) (.inr true))) (bl s) := by
  have k1 : mkM s x 0 P = (mk4 x P 0 ((s.size : Int) - x - 0), 0) := by
    unfold mkM; rw [if_pos ((isThere_iff _ _ _).2 ⟨by omega, hx.1, hx.2, by omega, by omega⟩), if_pos ⟨by omega, by omega⟩]
  have k2 : mkM s y 0 Q = (mk4 y Q 0 ((s.size : Int) - y - 0), 0) := by
    unfold mkM; rw [if_pos ((isThere_iff _ _ _).2 ⟨by omega, hy.1, hy.2, by omega, by omega⟩), if_pos ⟨by omega, by omega⟩]
  refine ⟨k1, k2, ?_⟩
  have ma := mk4_may (a := x) (p := P) (c := 0) (b := (s.size : Int) - x - 0) hx.1 (by omega) (by omega) (by omega) (by omega)
  have mb := mk4_may (a := y) (p := Q) (c := 0) (b := (s.size : Int) - y - 0) hy.1 (by omega) (by omega) (by omega) (by omega)
  have fa := mk4_froms (a := x) (p := P) (c := 0) (b := (s.size : Int) - x - 0) hx.1 (by omega) (by omega)
  have fb := mk4_froms (a := y) (p := Q) (c := 0) (b := (s.size : Int) - y - 0) hy.1 (by omega) (by omega)
  have ta := mk4_tos (a := x) (p := P) (c := 0) (b := (s.size : Int) - x - 0) hx.1 (by omega) (by omega)
  have tb := mk4_tos (a := y) (p := Q) (c := 0) (b := (s.size : Int) - y - 0) hy.1 (by omega) (by omega)
  have la := mk4_four x P 0 ((s.size : Int) - x - 0)
  have lb := mk4_four y Q 0 ((s.size : Int) - y - 0)
  have ua := us_mk4 (a := x) (p := P) (c := 0) (b := (s.size : Int) - x - 0) hx.1 (by omega) (by omega)
  have ub := us_mk4 (a := y) (p := Q) (c := 0) (b := (s.size : Int) - y - 0) hy.1 (by omega) (by omega)
  rw [Int.toNat_zero, List.replicate_zero, List.nil_append, show ((s.size : Int) - x - 0).toNat = s.size - x.toNat by omega] at ua
  rw [Int.toNat_zero, List.replicate_zero, List.nil_append, show ((s.size : Int) - y - 0).toNat = s.size - y.toNat by omega] at ub
  generalize mk4 x P 0 ((s.size : Int) - x - 0) = a at *
  generalize mk4 y Q 0 ((s.size : Int) - y - 0) = b at *
  obtain ⟨a1, a2, a3⟩ := may_bounds ma
  obtain ⟨b1, b2, b3⟩ := may_bounds mb
  have pa := psz_to a2; have pb := psz_to b2
  obtain ⟨p, q, e, mp, mq, fp, fq, hu⟩ := trM_mu (f := f) ma mb (by omega) (by omega) (by omega) (by omega)
  obtain ⟨u1, u2⟩ := hu (bl s) (by rw [bl_len]; omega)
  have lt : ((bs (ap (bl s) b)).size : Int) = tos b := by rw [bs_size]; exact ap_len b2 (bl s) (by rw [bl_len]; omega)
  have lv : ((bs (ap (bl s) a)).size : Int) = tos a := by rw [bs_size]; exact ap_len a2 (bl s) (by rw [bl_len]; omega)
  refine ⟨p, q, bs (ap (bl s) b), bs (ap (bl s) a), bs (mu f (us a) (us b) (bl s)), e, apM_ok mb (by omega), ?_, apM_ok ma (by omega), ?_, ?_⟩
  · rw [apM_ok mp (by omega), bl_bs, u1]
  · rw [apM_ok mq (by omega), bl_bs, u2]
  · rw [bl_bs, ua, ub]
theorem TransformPuts_pure (s : ByteArray) (i j : Int) (f : Bool) (_hs : s.size ≤ 140737488351232) (_h1 : (Lit.int .i64 i).wf = true) (_h2 : (Lit.int .i64 j).wf = true) : ∃ k, minuetlaw5_TransformPuts.f k s i j f = some true := by
  refine Ev.rounds (Ev.congr (fun k => by rw [minuetlaw5_TransformPuts.f]) (Ev.bind awake5 ?_))
  simp only [if_true]
  by_cases hs : (s.size : Int) > 200
  · simp only [if_pos hs]; exact Ev.now _
  simp only [if_neg hs, if_neg (u64_ne (s.size : Int) (by omega) (by omega))]
  have hx := modix i (s.size : Int) (by omega) (by omega)
  have hy := modix j (s.size : Int) (by omega) (by omega)
  rw [show wrap64 (Int.tmod (IntKind.u64.wrap i) (IntKind.u64.wrap (wrap64 ((s.size : Int) + 1)))) = at_U s i from rfl] at hx
  rw [show wrap64 (Int.tmod (IntKind.u64.wrap j) (IntKind.u64.wrap (wrap64 ((s.size : Int) + 1)))) = at_U s j from rfl] at hy
  generalize at_U s i = x at hx ⊢
  generalize at_U s j = y at hy ⊢
  obtain ⟨k1, k2, p, q, t, v, u, e1, e2, e3, e4, e5, hu⟩ := puts_two (f := f) (s := s) (P := ⟨#[65, 65]⟩) (Q := ⟨#[66]⟩) (by omega) (by decide) (by decide) hx hy
  have z1 : (⟨#[65, 65]⟩ : ByteArray).size = 2 := rfl
  have z2 : (⟨#[66]⟩ : ByteArray).size = 1 := rfl
  refine Ev.bind (rMake_ev s x 0 _ (by decide)) ?_
  rw [k1]
  refine Ev.bind (rMake_ev s y 0 _ (by decide)) ?_
  rw [k2]
  refine Ev.bind (Transform_ev _ _ f) ?_
  rw [e1]
  refine Ev.bind (rApply_ev s _) ?_
  rw [e2]
  refine Ev.bind (rApply_ev t p) ?_
  rw [e3]
  refine Ev.bind (rApply_ev s _) ?_
  rw [e4]
  refine Ev.bind (rApply_ev v q) ?_
  rw [e5]
  simp only [num_eq, Option.bind_some, if_true]
  have w1 : (x < y ∨ (x = y ∧ f = true)) → u = (((s.extract 0 x.toNat ++ (⟨#[65, 65]⟩ : ByteArray)) ++ s.extract x.toNat y.toNat) ++ (⟨#[66]⟩ : ByteArray)) ++ s.extract y.toNat s.size := by
    intro h
    apply bl_inj
    rw [hu, mu_two f _ _ x.toNat y.toNat s.size (bl s) (by omega) (by omega) (by rcases h with h | h; exact .inl (by omega); exact .inr h.2)]
    simp only [bl_app, bl_ext, List.drop_zero, Nat.sub_zero, List.append_assoc]
  have w2 : (y < x ∨ (x = y ∧ f = false)) → u = (((s.extract 0 y.toNat ++ (⟨#[66]⟩ : ByteArray)) ++ s.extract y.toNat x.toNat) ++ (⟨#[65, 65]⟩ : ByteArray)) ++ s.extract x.toNat s.size := by
    intro h
    apply bl_inj
    rw [hu, mu_two' f _ _ x.toNat y.toNat s.size (bl s) (by omega) (by omega) (by rcases h with h | h; exact .inl (by omega); exact .inr h.2)]
    simp only [bl_app, bl_ext, List.drop_zero, Nat.sub_zero, List.append_assoc]
  clear hu e1 e2 e3 e4 e5 k1 k2
  repeat' (refine Ev_ite (fun _ => ?_) (fun _ => ?_))
  all_goals first
    | (exfalso; simp only [ByteArray.size_append, ByteArray.size_extract, z1, z2] at *; omega)
    | (rw [w1 (by first | exact .inl (by omega) | exact .inr ⟨by omega, by assumption⟩)] at *; simp only [beq_self_eq_true]; exact Ev.now _)
    | (rw [w2 (by first | exact .inl (by omega) | exact .inr ⟨by omega, by simpa using ‹¬ f = true›⟩)] at *; simp only [beq_self_eq_true]; exact Ev.now _)
    | (exact absurd (congrArg ByteArray.toList (w1 (by first | exact .inl (by omega) | exact .inr ⟨by omega, by assumption⟩))) (by assumption))
    | (exact absurd (congrArg ByteArray.toList (w2 (by first | exact .inl (by omega) | exact .inr ⟨by omega, by simpa using ‹¬ f = true›⟩))) (by assumption))
end Go.Proofs.Ytldaokclpkcmmab.Pl
