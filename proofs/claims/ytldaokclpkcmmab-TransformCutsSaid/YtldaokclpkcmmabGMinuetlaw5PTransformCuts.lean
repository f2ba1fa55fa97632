-- Laid by this session's own program gprint.py (wip/tools), out of the kit's print and of texts of this session. Lean checks it.
import Derived.Test.YtldaokclpkcmmabGx0
import Derived.Test.YtldaokclpkcmmabGTransformPTransform
import Derived.Test.YtldaokclpkcmmabGZ3
import Derived.Test.YtldaokclpkcmmabGMinuetlaw5qawake
import Derived.Test.YtldaokclpkcmmabGMinuetref1PMake
import Derived.Test.YtldaokclpkcmmabGMinuetref1PApply
namespace Go.Proofs.Ytldaokclpkcmmab.G
open Go.RowKit Go.Proofs.YtldaokclpkcmmabW.PrintWords Go.Proofs.YtldaokclpkcmmabW.PrintLast Go.Proofs.YtldaokclpkcmmabW.PrintMore
attribute [local go_sem] max2_int min2_int max_two min_two max_three min_three max_four min_four   -- for this text's walks alone
set_option linter.unusedVariables false
set_option linter.unusedSimpArgs false

/-! ### minuetlaw5_TransformCuts: function 7 -/
mutual
def minuetlaw5_TransformCuts.j0 : Nat → ByteArray → Int → Int → Int → Int → ByteArray → Bool → Option (Bool)
 | 0, _, _, _, _, _, _, _ => none
 | k + 1, x0, x1, x2, x3, x4, x5, x39 => if x39 = true then (some true) else (if (IntKind.u64.wrap (wrap64 ((x0.size : Int) + 1))) = 0 then (none) else (if (IntKind.u64.wrap (wrap64 ((wrap64 ((x0.size : Int) - (wrap64 (Int.tmod (IntKind.u64.wrap (x1)) (IntKind.u64.wrap (wrap64 ((x0.size : Int) + 1))))))) + 1))) = 0 then (none) else (if (IntKind.u64.wrap (wrap64 ((wrap64 ((x0.size : Int) - (wrap64 (Int.tmod (IntKind.u64.wrap (x3)) (IntKind.u64.wrap (wrap64 ((x0.size : Int) + 1))))))) + 1))) = 0 then (none) else ((minuetref1_Make.f k x0 (wrap64 (Int.tmod (IntKind.u64.wrap (x1)) (IntKind.u64.wrap (wrap64 ((x0.size : Int) + 1))))) (wrap64 (Int.tmod (IntKind.u64.wrap (x2)) (IntKind.u64.wrap (wrap64 ((wrap64 ((x0.size : Int) - (wrap64 (Int.tmod (IntKind.u64.wrap (x1)) (IntKind.u64.wrap (wrap64 ((x0.size : Int) + 1))))))) + 1))))) (⟨#[]⟩ : ByteArray)).bind fun bt102 => ((minuetref1_Make.f k x0 (wrap64 (Int.tmod (IntKind.u64.wrap (x3)) (IntKind.u64.wrap (wrap64 ((x0.size : Int) + 1))))) (wrap64 (Int.tmod (IntKind.u64.wrap (x4)) (IntKind.u64.wrap (wrap64 ((wrap64 ((x0.size : Int) - (wrap64 (Int.tmod (IntKind.u64.wrap (x3)) (IntKind.u64.wrap (wrap64 ((x0.size : Int) + 1))))))) + 1))))) x5).bind fun bt106 => ((transform_Transform.f k bt102.1 bt106.1 true).bind fun bt110 => ((minuetref1_Apply.f k x0 bt106.1).bind fun bt117 => ((minuetref1_Apply.f k bt117.1 bt110.1).bind fun bt119 => (minuetlaw5_TransformCuts.l0 k x0 x5 (wrap64 (Int.tmod (IntKind.u64.wrap (x1)) (IntKind.u64.wrap (wrap64 ((x0.size : Int) + 1))))) (wrap64 (Int.tmod (IntKind.u64.wrap (x3)) (IntKind.u64.wrap (wrap64 ((x0.size : Int) + 1))))) (wrap64 (Int.tmod (IntKind.u64.wrap (x2)) (IntKind.u64.wrap (wrap64 ((wrap64 ((x0.size : Int) - (wrap64 (Int.tmod (IntKind.u64.wrap (x1)) (IntKind.u64.wrap (wrap64 ((x0.size : Int) + 1))))))) + 1))))) (wrap64 (Int.tmod (IntKind.u64.wrap (x4)) (IntKind.u64.wrap (wrap64 ((wrap64 ((x0.size : Int) - (wrap64 (Int.tmod (IntKind.u64.wrap (x3)) (IntKind.u64.wrap (wrap64 ((x0.size : Int) + 1))))))) + 1))))) bt102.2 bt106.2 bt110.2.2 bt117.2 bt119.1 bt119.2 (⟨#[]⟩ : ByteArray) 0)))))))))
def minuetlaw5_TransformCuts.l0 : Nat → ByteArray → ByteArray → Int → Int → Int → Int → Int → Int → Int → Int → ByteArray → Int → ByteArray → Int → Option (Bool)
 | 0, _, _, _, _, _, _, _, _, _, _, _, _, _, _ => none
 | k + 1, x0, x5, x13, x14, x15, x16, x18, x20, x23, x25, x26, x27, x28, x29 => if x29 ≤ (x0.size : Int) then (if x29 = x14 then (if x28.size + x5.size ≤ 9223372036854775807 then (if x29 < (x0.size : Int) then (if x29 < x13 then (if x29 < x14 then (if 0 ≤ x29 then (if x29 ≤ (wrap64 (x29 + 1)) then (if (wrap64 (x29 + 1)) ≤ (x0.size : Int) then (if (x28 ++ x5).size + (x0.extract (x29 : Int).toNat ((wrap64 (x29 + 1)) : Int).toNat).size ≤ 9223372036854775807 then (minuetlaw5_TransformCuts.l0 k x0 x5 x13 x14 x15 x16 x18 x20 x23 x25 x26 x27 ((x28 ++ x5) ++ (x0.extract (x29 : Int).toNat ((wrap64 (x29 + 1)) : Int).toNat)) (wrap64 (x29 + 1))) else (none)) else (none)) else (none)) else (none)) else (if x29 ≥ (wrap64 (x14 + x16)) then (if 0 ≤ x29 then (if x29 ≤ (wrap64 (x29 + 1)) then (if (wrap64 (x29 + 1)) ≤ (x0.size : Int) then (if (x28 ++ x5).size + (x0.extract (x29 : Int).toNat ((wrap64 (x29 + 1)) : Int).toNat).size ≤ 9223372036854775807 then (minuetlaw5_TransformCuts.l0 k x0 x5 x13 x14 x15 x16 x18 x20 x23 x25 x26 x27 ((x28 ++ x5) ++ (x0.extract (x29 : Int).toNat ((wrap64 (x29 + 1)) : Int).toNat)) (wrap64 (x29 + 1))) else (none)) else (none)) else (none)) else (none)) else (minuetlaw5_TransformCuts.l0 k x0 x5 x13 x14 x15 x16 x18 x20 x23 x25 x26 x27 (x28 ++ x5) (wrap64 (x29 + 1))))) else (if x29 ≥ (wrap64 (x13 + x15)) then (if x29 < x14 then (if 0 ≤ x29 then (if x29 ≤ (wrap64 (x29 + 1)) then (if (wrap64 (x29 + 1)) ≤ (x0.size : Int) then (if (x28 ++ x5).size + (x0.extract (x29 : Int).toNat ((wrap64 (x29 + 1)) : Int).toNat).size ≤ 9223372036854775807 then (minuetlaw5_TransformCuts.l0 k x0 x5 x13 x14 x15 x16 x18 x20 x23 x25 x26 x27 ((x28 ++ x5) ++ (x0.extract (x29 : Int).toNat ((wrap64 (x29 + 1)) : Int).toNat)) (wrap64 (x29 + 1))) else (none)) else (none)) else (none)) else (none)) else (if x29 ≥ (wrap64 (x14 + x16)) then (if 0 ≤ x29 then (if x29 ≤ (wrap64 (x29 + 1)) then (if (wrap64 (x29 + 1)) ≤ (x0.size : Int) then (if (x28 ++ x5).size + (x0.extract (x29 : Int).toNat ((wrap64 (x29 + 1)) : Int).toNat).size ≤ 9223372036854775807 then (minuetlaw5_TransformCuts.l0 k x0 x5 x13 x14 x15 x16 x18 x20 x23 x25 x26 x27 ((x28 ++ x5) ++ (x0.extract (x29 : Int).toNat ((wrap64 (x29 + 1)) : Int).toNat)) (wrap64 (x29 + 1))) else (none)) else (none)) else (none)) else (none)) else (minuetlaw5_TransformCuts.l0 k x0 x5 x13 x14 x15 x16 x18 x20 x23 x25 x26 x27 (x28 ++ x5) (wrap64 (x29 + 1))))) else (minuetlaw5_TransformCuts.l0 k x0 x5 x13 x14 x15 x16 x18 x20 x23 x25 x26 x27 (x28 ++ x5) (wrap64 (x29 + 1))))) else (minuetlaw5_TransformCuts.l0 k x0 x5 x13 x14 x15 x16 x18 x20 x23 x25 x26 x27 (x28 ++ x5) (wrap64 (x29 + 1)))) else (none)) else (if x29 < (x0.size : Int) then (if x29 < x13 then (if x29 < x14 then (if 0 ≤ x29 then (if x29 ≤ (wrap64 (x29 + 1)) then (if (wrap64 (x29 + 1)) ≤ (x0.size : Int) then (if x28.size + (x0.extract (x29 : Int).toNat ((wrap64 (x29 + 1)) : Int).toNat).size ≤ 9223372036854775807 then (minuetlaw5_TransformCuts.l0 k x0 x5 x13 x14 x15 x16 x18 x20 x23 x25 x26 x27 (x28 ++ (x0.extract (x29 : Int).toNat ((wrap64 (x29 + 1)) : Int).toNat)) (wrap64 (x29 + 1))) else (none)) else (none)) else (none)) else (none)) else (if x29 ≥ (wrap64 (x14 + x16)) then (if 0 ≤ x29 then (if x29 ≤ (wrap64 (x29 + 1)) then (if (wrap64 (x29 + 1)) ≤ (x0.size : Int) then (if x28.size + (x0.extract (x29 : Int).toNat ((wrap64 (x29 + 1)) : Int).toNat).size ≤ 9223372036854775807 then (minuetlaw5_TransformCuts.l0 k x0 x5 x13 x14 x15 x16 x18 x20 x23 x25 x26 x27 (x28 ++ (x0.extract (x29 : Int).toNat ((wrap64 (x29 + 1)) : Int).toNat)) (wrap64 (x29 + 1))) else (none)) else (none)) else (none)) else (none)) else (minuetlaw5_TransformCuts.l0 k x0 x5 x13 x14 x15 x16 x18 x20 x23 x25 x26 x27 x28 (wrap64 (x29 + 1))))) else (if x29 ≥ (wrap64 (x13 + x15)) then (if x29 < x14 then (if 0 ≤ x29 then (if x29 ≤ (wrap64 (x29 + 1)) then (if (wrap64 (x29 + 1)) ≤ (x0.size : Int) then (if x28.size + (x0.extract (x29 : Int).toNat ((wrap64 (x29 + 1)) : Int).toNat).size ≤ 9223372036854775807 then (minuetlaw5_TransformCuts.l0 k x0 x5 x13 x14 x15 x16 x18 x20 x23 x25 x26 x27 (x28 ++ (x0.extract (x29 : Int).toNat ((wrap64 (x29 + 1)) : Int).toNat)) (wrap64 (x29 + 1))) else (none)) else (none)) else (none)) else (none)) else (if x29 ≥ (wrap64 (x14 + x16)) then (if 0 ≤ x29 then (if x29 ≤ (wrap64 (x29 + 1)) then (if (wrap64 (x29 + 1)) ≤ (x0.size : Int) then (if x28.size + (x0.extract (x29 : Int).toNat ((wrap64 (x29 + 1)) : Int).toNat).size ≤ 9223372036854775807 then (minuetlaw5_TransformCuts.l0 k x0 x5 x13 x14 x15 x16 x18 x20 x23 x25 x26 x27 (x28 ++ (x0.extract (x29 : Int).toNat ((wrap64 (x29 + 1)) : Int).toNat)) (wrap64 (x29 + 1))) else (none)) else (none)) else (none)) else (none)) else (minuetlaw5_TransformCuts.l0 k x0 x5 x13 x14 x15 x16 x18 x20 x23 x25 x26 x27 x28 (wrap64 (x29 + 1))))) else (minuetlaw5_TransformCuts.l0 k x0 x5 x13 x14 x15 x16 x18 x20 x23 x25 x26 x27 x28 (wrap64 (x29 + 1))))) else (minuetlaw5_TransformCuts.l0 k x0 x5 x13 x14 x15 x16 x18 x20 x23 x25 x26 x27 x28 (wrap64 (x29 + 1))))) else (if x18 = 0 then (if x20 = 0 then ((minuetlaw0_Num.f x23).bind fun t121 => (if t121 = 0 then (if x25 = 0 then (if x27 = 0 then (some (x26.toList == x28.toList)) else (none)) else (none)) else (none))) else (none)) else (none))
end
def minuetlaw5_TransformCuts.f (k : Nat) (a0 : ByteArray) (a1 : Int) (a2 : Int) (a3 : Int) (a4 : Int) (a5 : ByteArray) : Option (Bool) := (minuetlaw5_awake.f k).bind fun t101 => (if t101 = true then (if (a0.size : Int) > 150 then (minuetlaw5_TransformCuts.j0 k a0 a1 a2 a3 a4 a5 true) else (minuetlaw5_TransformCuts.j0 k a0 a1 a2 a3 a4 a5 (decide ((a5.size : Int) > 50)))) else (none))
theorem minuetlaw5_TransformCuts.mono_l : ∀ k, (∀ y0 y1 y2 y3 y4 y5 y6, LeO (minuetlaw5_TransformCuts.j0 k y0 y1 y2 y3 y4 y5 y6) (minuetlaw5_TransformCuts.j0 (k + 1) y0 y1 y2 y3 y4 y5 y6)) ∧ (∀ y0 y1 y2 y3 y4 y5 y6 y7 y8 y9 y10 y11 y12 y13, LeO (minuetlaw5_TransformCuts.l0 k y0 y1 y2 y3 y4 y5 y6 y7 y8 y9 y10 y11 y12 y13) (minuetlaw5_TransformCuts.l0 (k + 1) y0 y1 y2 y3 y4 y5 y6 y7 y8 y9 y10 y11 y12 y13))
 | 0 => ⟨fun _ _ _ _ _ _ _ r h => by simp [minuetlaw5_TransformCuts.j0] at h, fun _ _ _ _ _ _ _ _ _ _ _ _ _ _ r h => by simp [minuetlaw5_TransformCuts.l0] at h⟩
 | k + 1 => by
  obtain ⟨ih0, ih1⟩ := minuetlaw5_TransformCuts.mono_l k
  refine ⟨?_, ?_⟩
  · intro y0 y1 y2 y3 y4 y5 y6
    unfold minuetlaw5_TransformCuts.j0
    repeat' first
    | (with_reducible exact ih0 _ _ _ _ _ _ _)
    | (with_reducible exact ih1 _ _ _ _ _ _ _ _ _ _ _ _ _ _)
    | (with_reducible exact minuetlaw5_awake.mono _)
    | (with_reducible exact minuetref1_Apply.mono _ _ _)
    | (with_reducible exact minuetref1_Make.mono _ _ _ _ _)
    | (with_reducible exact transform_Transform.mono _ _ _ _)
    | (with_reducible exact LeO.refl _)
    | (with_reducible exact LeO.none _)
    | (with_reducible refine LeO.ite ?_ ?_)
    | (with_reducible refine LeO.bind ?_ (fun _ => ?_))
    | exact ih0 _ _ _ _ _ _ _
    | exact ih1 _ _ _ _ _ _ _ _ _ _ _ _ _ _
    | exact minuetlaw5_awake.mono _
    | exact minuetref1_Apply.mono _ _ _
    | exact minuetref1_Make.mono _ _ _ _ _
    | exact transform_Transform.mono _ _ _ _
    | exact LeO.none _
    | refine LeO.ite ?_ ?_
    | refine LeO.bind ?_ (fun _ => ?_)
  · intro y0 y1 y2 y3 y4 y5 y6 y7 y8 y9 y10 y11 y12 y13
    unfold minuetlaw5_TransformCuts.l0
    repeat' first
    | (with_reducible exact ih0 _ _ _ _ _ _ _)
    | (with_reducible exact ih1 _ _ _ _ _ _ _ _ _ _ _ _ _ _)
    | (with_reducible exact minuetlaw5_awake.mono _)
    | (with_reducible exact minuetref1_Apply.mono _ _ _)
    | (with_reducible exact minuetref1_Make.mono _ _ _ _ _)
    | (with_reducible exact transform_Transform.mono _ _ _ _)
    | (with_reducible exact LeO.refl _)
    | (with_reducible exact LeO.none _)
    | (with_reducible refine LeO.ite ?_ ?_)
    | (with_reducible refine LeO.bind ?_ (fun _ => ?_))
    | exact ih0 _ _ _ _ _ _ _
    | exact ih1 _ _ _ _ _ _ _ _ _ _ _ _ _ _
    | exact minuetlaw5_awake.mono _
    | exact minuetref1_Apply.mono _ _ _
    | exact minuetref1_Make.mono _ _ _ _ _
    | exact transform_Transform.mono _ _ _ _
    | exact LeO.none _
    | refine LeO.ite ?_ ?_
    | refine LeO.bind ?_ (fun _ => ?_)
theorem minuetlaw5_TransformCuts.mono : ∀ a0 a1 a2 a3 a4 a5 k, LeO (minuetlaw5_TransformCuts.f k a0 a1 a2 a3 a4 a5) (minuetlaw5_TransformCuts.f (k + 1) a0 a1 a2 a3 a4 a5) := by
 intro a0 a1 a2 a3 a4 a5 k
 obtain ⟨ih0, ih1⟩ := minuetlaw5_TransformCuts.mono_l k
 unfold minuetlaw5_TransformCuts.f
 repeat' first
  | (with_reducible exact ih0 _ _ _ _ _ _ _)
  | (with_reducible exact ih1 _ _ _ _ _ _ _ _ _ _ _ _ _ _)
  | (with_reducible exact minuetlaw5_awake.mono _)
  | (with_reducible exact minuetref1_Apply.mono _ _ _)
  | (with_reducible exact minuetref1_Make.mono _ _ _ _ _)
  | (with_reducible exact transform_Transform.mono _ _ _ _)
  | (with_reducible exact LeO.refl _)
  | (with_reducible exact LeO.none _)
  | (with_reducible refine LeO.ite ?_ ?_)
  | (with_reducible refine LeO.bind ?_ (fun _ => ?_))
  | exact ih0 _ _ _ _ _ _ _
  | exact ih1 _ _ _ _ _ _ _ _ _ _ _ _ _ _
  | exact minuetlaw5_awake.mono _
  | exact minuetref1_Apply.mono _ _ _
  | exact minuetref1_Make.mono _ _ _ _ _
  | exact transform_Transform.mono _ _ _ _
  | exact LeO.none _
  | refine LeO.ite ?_ ?_
  | refine LeO.bind ?_ (fun _ => ?_)
set_option maxHeartbeats 8000000 in
set_option maxRecDepth 100000 in
theorem minuetlaw5_TransformCuts.calls (k : Nat) (a0 : ByteArray) (a1 : Int) (a2 : Int) (a3 : Int) (a4 : Int) (a5 : ByteArray) (r : Bool) (w : World) (h : minuetlaw5_TransformCuts.f k a0 a1 a2 a3 a4 a5 = some r) :
 Calls Try.prog 7 #[.string a0, .int .i64 a1, .int .i64 a2, .int .i64 a3, .int .i64 a4, .string a5] w fun e w' => e = .returned (.bool r) ∧ Below w.heap.size w w' := by
 have HB := Aside0.mk (Below.refl w.heap.size w)
 have H : ((minuetlaw5_awake.f k).bind fun t101 => (if t101 = true then (if (a0.size : Int) > 150 then (minuetlaw5_TransformCuts.j0 k a0 a1 a2 a3 a4 a5 true) else (minuetlaw5_TransformCuts.j0 k a0 a1 a2 a3 a4 a5 (decide ((a5.size : Int) > 50)))) else (none))) = some r := h
 clear h
 replace H := Option.bind_eq_some_iff.mp H
 obtain ⟨t101, A70, H⟩ := H
 replace H : (if t101 = true then (if (a0.size : Int) > 150 then (minuetlaw5_TransformCuts.j0 k a0 a1 a2 a3 a4 a5 true) else (minuetlaw5_TransformCuts.j0 k a0 a1 a2 a3 a4 a5 (decide ((a5.size : Int) > 50)))) else (none)) = some r := H
 have A7 := Aside0.mk A70
 clear A70
 by_cases c8 : t101 = true
 · subst c8
   have H1 : (if (a0.size : Int) > 150 then (minuetlaw5_TransformCuts.j0 k a0 a1 a2 a3 a4 a5 true) else (minuetlaw5_TransformCuts.j0 k a0 a1 a2 a3 a4 a5 (decide ((a5.size : Int) > 50)))) = some r := by rw [if_pos rfl] at H; exact H
   clear H
   have H := H1
   clear H1
   have HC9 := Aside0.mk H
   clear H
   go_enter Try.func7, Try.ntmps7
   go_upto_region 3 with (first | (go_at_call 20; (with_reducible refine (minuetlaw5_awake.calls k  true _ A7.out).mono ?_); rintro e w10 ⟨rfl, hb⟩; have n0_ := Aside0.mk (below_step (by repeat (first | (with_reducible first | exact HB.out | apply below_alloc | apply pw_below_drewN | apply below_drew1) | exact HB.out)) hb); clear HB; have HB := n0_; clear n0_; (try clear hb); (try clear hb2); (try clear hk); (try clear hi)))
   repeat (go_quiet (first | (go_at_call 20; (with_reducible refine (minuetlaw5_awake.calls k  true _ A7.out).mono ?_); rintro e w10 ⟨rfl, hb⟩; have n0_ := Aside0.mk (below_step (by repeat (first | (with_reducible first | exact HB.out | apply below_alloc | apply pw_below_drewN | apply below_drew1) | exact HB.out)) hb); clear HB; have HB := n0_; clear n0_; (try clear hb); (try clear hb2); (try clear hk); (try clear hi))); go_upto_region 3 with (first | (go_at_call 20; (with_reducible refine (minuetlaw5_awake.calls k  true _ A7.out).mono ?_); rintro e w10 ⟨rfl, hb⟩; have n0_ := Aside0.mk (below_step (by repeat (first | (with_reducible first | exact HB.out | apply below_alloc | apply pw_below_drewN | apply below_drew1) | exact HB.out)) hb); clear HB; have HB := n0_; clear n0_; (try clear hb); (try clear hb2); (try clear hk); (try clear hi))))
   (try simp only [Act.put, List.setIfInBounds_toArray, List.set_cons_zero, List.set_cons_succ])
   go_cut [39] (fun v39 wc => ∃ (kq : Nat) (x39_8 : Bool), v39 = .bool x39_8 ∧ Aside0 (minuetlaw5_TransformCuts.j0 kq a0 a1 a2 a3 a4 a5 x39_8 = some r) ∧ Aside0 (kq ≤ k) ∧ Aside0 (Below w.heap.size w wc))
   case first =>
    have H := HC9.out
    clear HC9
    by_cases c11 : (a0.size : Int) > 150
    · rw [if_pos c11] at H
      have c11b0 : decide (150 < (a0.size : Int)) = true := decide_eq_true c11
      have c11b1 : decide (150 < a0.size) = true := decide_eq_true (by omega)
      clear c11
      (first | rw [c11b0] | (simp only [i64_w, i32_w]; rw [c11b0]) | skip)
      have H' := Aside0.mk H
      clear H
      go_wp2
      repeat (go_quiet (fail); try go_wp2)
      go_meet
      case rel => exact ⟨_, (true), (by first | rfl | (simp; done) | (simp [*]; done)), H', ⟨by first | omega | exact Nat.le_refl _⟩, ⟨by repeat (first | (with_reducible first | exact HB.out | apply below_alloc | apply pw_below_drewN | apply below_drew1) | exact HB.out)⟩⟩
    · rw [if_neg c11] at H
      have c11b0 : decide (150 < (a0.size : Int)) = false := decide_eq_false c11
      have c11b1 : decide (150 < a0.size) = false := decide_eq_false (by omega)
      clear c11
      (first | rw [c11b0] | (simp only [i64_w, i32_w]; rw [c11b0]) | skip)
      have H' := Aside0.mk H
      clear H
      go_wp2
      repeat (go_quiet (fail); try go_wp2)
      go_meet
      case rel => exact ⟨_, (decide ((a5.size : Int) > 50)), (by first | rfl | (simp; done) | (simp [*]; done)), H', ⟨by first | omega | exact Nat.le_refl _⟩, ⟨by repeat (first | (with_reducible first | exact HB.out | apply below_alloc | apply pw_below_drewN | apply below_drew1) | exact HB.out)⟩⟩
   case rest =>
    clear HC9
    try clear c1
    try clear p2
    try clear c7
    try clear c8
    try clear c11
    try clear c11b0
    try clear c11b1
    obtain ⟨kq, x39_8, rfl, HA, HJ8, HB⟩ := hcut
    cases kq with
    | zero => exact absurd HA.out (by simp [minuetlaw5_TransformCuts.j0])
    | succ kj8 =>
     have H := HA.out
     clear HA
     simp only [minuetlaw5_TransformCuts.j0] at H
     by_cases c12 : x39_8 = true
     · subst c12
       have H1 : (some true) = some r := by rw [if_pos rfl] at H; exact H
       clear H
       have H := H1
       clear H1
       obtain rfl := Option.some.inj H
       go_wp2
       repeat (go_quiet (fail); try go_wp2)
       go_ret
       exact ⟨by first | rfl | (simp [errW_none, errW_some] <;> rfl) | (simp [*, errW_none, errW_some] <;> rfl), by repeat (first | (with_reducible first | exact HB.out | apply below_alloc | apply pw_below_drewN | apply below_drew1) | exact HB.out)⟩
     · replace c12 := Bool.eq_false_iff.mpr c12
       subst c12
       have H1 : (if (IntKind.u64.wrap (wrap64 ((a0.size : Int) + 1))) = 0 then (none) else (if (IntKind.u64.wrap (wrap64 ((wrap64 ((a0.size : Int) - (wrap64 (Int.tmod (IntKind.u64.wrap (a1)) (IntKind.u64.wrap (wrap64 ((a0.size : Int) + 1))))))) + 1))) = 0 then (none) else (if (IntKind.u64.wrap (wrap64 ((wrap64 ((a0.size : Int) - (wrap64 (Int.tmod (IntKind.u64.wrap (a3)) (IntKind.u64.wrap (wrap64 ((a0.size : Int) + 1))))))) + 1))) = 0 then (none) else ((minuetref1_Make.f kj8 a0 (wrap64 (Int.tmod (IntKind.u64.wrap (a1)) (IntKind.u64.wrap (wrap64 ((a0.size : Int) + 1))))) (wrap64 (Int.tmod (IntKind.u64.wrap (a2)) (IntKind.u64.wrap (wrap64 ((wrap64 ((a0.size : Int) - (wrap64 (Int.tmod (IntKind.u64.wrap (a1)) (IntKind.u64.wrap (wrap64 ((a0.size : Int) + 1))))))) + 1))))) (⟨#[]⟩ : ByteArray)).bind fun bt102 => ((minuetref1_Make.f kj8 a0 (wrap64 (Int.tmod (IntKind.u64.wrap (a3)) (IntKind.u64.wrap (wrap64 ((a0.size : Int) + 1))))) (wrap64 (Int.tmod (IntKind.u64.wrap (a4)) (IntKind.u64.wrap (wrap64 ((wrap64 ((a0.size : Int) - (wrap64 (Int.tmod (IntKind.u64.wrap (a3)) (IntKind.u64.wrap (wrap64 ((a0.size : Int) + 1))))))) + 1))))) a5).bind fun bt106 => ((transform_Transform.f kj8 bt102.1 bt106.1 true).bind fun bt110 => ((minuetref1_Apply.f kj8 a0 bt106.1).bind fun bt117 => ((minuetref1_Apply.f kj8 bt117.1 bt110.1).bind fun bt119 => (minuetlaw5_TransformCuts.l0 kj8 a0 a5 (wrap64 (Int.tmod (IntKind.u64.wrap (a1)) (IntKind.u64.wrap (wrap64 ((a0.size : Int) + 1))))) (wrap64 (Int.tmod (IntKind.u64.wrap (a3)) (IntKind.u64.wrap (wrap64 ((a0.size : Int) + 1))))) (wrap64 (Int.tmod (IntKind.u64.wrap (a2)) (IntKind.u64.wrap (wrap64 ((wrap64 ((a0.size : Int) - (wrap64 (Int.tmod (IntKind.u64.wrap (a1)) (IntKind.u64.wrap (wrap64 ((a0.size : Int) + 1))))))) + 1))))) (wrap64 (Int.tmod (IntKind.u64.wrap (a4)) (IntKind.u64.wrap (wrap64 ((wrap64 ((a0.size : Int) - (wrap64 (Int.tmod (IntKind.u64.wrap (a3)) (IntKind.u64.wrap (wrap64 ((a0.size : Int) + 1))))))) + 1))))) bt102.2 bt106.2 bt110.2.2 bt117.2 bt119.1 bt119.2 (⟨#[]⟩ : ByteArray) 0))))))))) = some r := by rw [if_neg (show ¬ (false = true) by decide)] at H; exact H
       clear H
       have H := H1
       clear H1
       by_cases c13 : (IntKind.u64.wrap (wrap64 ((a0.size : Int) + 1))) = 0
       · rw [if_pos c13] at H
         exact absurd H (by simp)
       · rw [if_neg c13] at H
         have c13b0 : ((IntKind.u64.wrap (wrap64 ((a0.size : Int) + 1))) == 0) = false := beq_eq_false_iff_ne.mpr c13
         have c13b1 : ((IntKind.u64.wrap (wrap64 ((a0.size : Int) + 1))) != 0) = true := bne_iff_ne.mpr c13
         by_cases c14 : (IntKind.u64.wrap (wrap64 ((wrap64 ((a0.size : Int) - (wrap64 (Int.tmod (IntKind.u64.wrap (a1)) (IntKind.u64.wrap (wrap64 ((a0.size : Int) + 1))))))) + 1))) = 0
         · rw [if_pos c14] at H
           exact absurd H (by simp)
         · rw [if_neg c14] at H
           have c14b0 : ((IntKind.u64.wrap (wrap64 ((wrap64 ((a0.size : Int) - (wrap64 (Int.tmod (IntKind.u64.wrap (a1)) (IntKind.u64.wrap (wrap64 ((a0.size : Int) + 1))))))) + 1))) == 0) = false := beq_eq_false_iff_ne.mpr c14
           have c14b1 : ((IntKind.u64.wrap (wrap64 ((wrap64 ((a0.size : Int) - (wrap64 (Int.tmod (IntKind.u64.wrap (a1)) (IntKind.u64.wrap (wrap64 ((a0.size : Int) + 1))))))) + 1))) != 0) = true := bne_iff_ne.mpr c14
           by_cases c15 : (IntKind.u64.wrap (wrap64 ((wrap64 ((a0.size : Int) - (wrap64 (Int.tmod (IntKind.u64.wrap (a3)) (IntKind.u64.wrap (wrap64 ((a0.size : Int) + 1))))))) + 1))) = 0
           · rw [if_pos c15] at H
             exact absurd H (by simp)
           · rw [if_neg c15] at H
             have c15b0 : ((IntKind.u64.wrap (wrap64 ((wrap64 ((a0.size : Int) - (wrap64 (Int.tmod (IntKind.u64.wrap (a3)) (IntKind.u64.wrap (wrap64 ((a0.size : Int) + 1))))))) + 1))) == 0) = false := beq_eq_false_iff_ne.mpr c15
             have c15b1 : ((IntKind.u64.wrap (wrap64 ((wrap64 ((a0.size : Int) - (wrap64 (Int.tmod (IntKind.u64.wrap (a3)) (IntKind.u64.wrap (wrap64 ((a0.size : Int) + 1))))))) + 1))) != 0) = true := bne_iff_ne.mpr c15
             replace H := Option.bind_eq_some_iff.mp H
             obtain ⟨⟨t102, t103⟩, A160, H⟩ := H
             replace H : ((minuetref1_Make.f kj8 a0 (wrap64 (Int.tmod (IntKind.u64.wrap (a3)) (IntKind.u64.wrap (wrap64 ((a0.size : Int) + 1))))) (wrap64 (Int.tmod (IntKind.u64.wrap (a4)) (IntKind.u64.wrap (wrap64 ((wrap64 ((a0.size : Int) - (wrap64 (Int.tmod (IntKind.u64.wrap (a3)) (IntKind.u64.wrap (wrap64 ((a0.size : Int) + 1))))))) + 1))))) a5).bind fun bt106 => ((transform_Transform.f kj8 t102 bt106.1 true).bind fun bt110 => ((minuetref1_Apply.f kj8 a0 bt106.1).bind fun bt117 => ((minuetref1_Apply.f kj8 bt117.1 bt110.1).bind fun bt119 => (minuetlaw5_TransformCuts.l0 kj8 a0 a5 (wrap64 (Int.tmod (IntKind.u64.wrap (a1)) (IntKind.u64.wrap (wrap64 ((a0.size : Int) + 1))))) (wrap64 (Int.tmod (IntKind.u64.wrap (a3)) (IntKind.u64.wrap (wrap64 ((a0.size : Int) + 1))))) (wrap64 (Int.tmod (IntKind.u64.wrap (a2)) (IntKind.u64.wrap (wrap64 ((wrap64 ((a0.size : Int) - (wrap64 (Int.tmod (IntKind.u64.wrap (a1)) (IntKind.u64.wrap (wrap64 ((a0.size : Int) + 1))))))) + 1))))) (wrap64 (Int.tmod (IntKind.u64.wrap (a4)) (IntKind.u64.wrap (wrap64 ((wrap64 ((a0.size : Int) - (wrap64 (Int.tmod (IntKind.u64.wrap (a3)) (IntKind.u64.wrap (wrap64 ((a0.size : Int) + 1))))))) + 1))))) t103 bt106.2 bt110.2.2 bt117.2 bt119.1 bt119.2 (⟨#[]⟩ : ByteArray) 0))))) = some r := H
             have A16 := Aside0.mk A160
             clear A160
             replace H := Option.bind_eq_some_iff.mp H
             obtain ⟨⟨t106, t107⟩, A170, H⟩ := H
             replace H : ((transform_Transform.f kj8 t102 t106 true).bind fun bt110 => ((minuetref1_Apply.f kj8 a0 t106).bind fun bt117 => ((minuetref1_Apply.f kj8 bt117.1 bt110.1).bind fun bt119 => (minuetlaw5_TransformCuts.l0 kj8 a0 a5 (wrap64 (Int.tmod (IntKind.u64.wrap (a1)) (IntKind.u64.wrap (wrap64 ((a0.size : Int) + 1))))) (wrap64 (Int.tmod (IntKind.u64.wrap (a3)) (IntKind.u64.wrap (wrap64 ((a0.size : Int) + 1))))) (wrap64 (Int.tmod (IntKind.u64.wrap (a2)) (IntKind.u64.wrap (wrap64 ((wrap64 ((a0.size : Int) - (wrap64 (Int.tmod (IntKind.u64.wrap (a1)) (IntKind.u64.wrap (wrap64 ((a0.size : Int) + 1))))))) + 1))))) (wrap64 (Int.tmod (IntKind.u64.wrap (a4)) (IntKind.u64.wrap (wrap64 ((wrap64 ((a0.size : Int) - (wrap64 (Int.tmod (IntKind.u64.wrap (a3)) (IntKind.u64.wrap (wrap64 ((a0.size : Int) + 1))))))) + 1))))) t103 t107 bt110.2.2 bt117.2 bt119.1 bt119.2 (⟨#[]⟩ : ByteArray) 0)))) = some r := H
             have A17 := Aside0.mk A170
             clear A170
             replace H := Option.bind_eq_some_iff.mp H
             obtain ⟨⟨t110, t111, t112⟩, A180, H⟩ := H
             replace H : ((minuetref1_Apply.f kj8 a0 t106).bind fun bt117 => ((minuetref1_Apply.f kj8 bt117.1 t110).bind fun bt119 => (minuetlaw5_TransformCuts.l0 kj8 a0 a5 (wrap64 (Int.tmod (IntKind.u64.wrap (a1)) (IntKind.u64.wrap (wrap64 ((a0.size : Int) + 1))))) (wrap64 (Int.tmod (IntKind.u64.wrap (a3)) (IntKind.u64.wrap (wrap64 ((a0.size : Int) + 1))))) (wrap64 (Int.tmod (IntKind.u64.wrap (a2)) (IntKind.u64.wrap (wrap64 ((wrap64 ((a0.size : Int) - (wrap64 (Int.tmod (IntKind.u64.wrap (a1)) (IntKind.u64.wrap (wrap64 ((a0.size : Int) + 1))))))) + 1))))) (wrap64 (Int.tmod (IntKind.u64.wrap (a4)) (IntKind.u64.wrap (wrap64 ((wrap64 ((a0.size : Int) - (wrap64 (Int.tmod (IntKind.u64.wrap (a3)) (IntKind.u64.wrap (wrap64 ((a0.size : Int) + 1))))))) + 1))))) t103 t107 t112 bt117.2 bt119.1 bt119.2 (⟨#[]⟩ : ByteArray) 0))) = some r := H
             have A18 := Aside0.mk A180
             clear A180
             replace H := Option.bind_eq_some_iff.mp H
             obtain ⟨⟨t117, t118⟩, A190, H⟩ := H
             replace H : ((minuetref1_Apply.f kj8 t117 t110).bind fun bt119 => (minuetlaw5_TransformCuts.l0 kj8 a0 a5 (wrap64 (Int.tmod (IntKind.u64.wrap (a1)) (IntKind.u64.wrap (wrap64 ((a0.size : Int) + 1))))) (wrap64 (Int.tmod (IntKind.u64.wrap (a3)) (IntKind.u64.wrap (wrap64 ((a0.size : Int) + 1))))) (wrap64 (Int.tmod (IntKind.u64.wrap (a2)) (IntKind.u64.wrap (wrap64 ((wrap64 ((a0.size : Int) - (wrap64 (Int.tmod (IntKind.u64.wrap (a1)) (IntKind.u64.wrap (wrap64 ((a0.size : Int) + 1))))))) + 1))))) (wrap64 (Int.tmod (IntKind.u64.wrap (a4)) (IntKind.u64.wrap (wrap64 ((wrap64 ((a0.size : Int) - (wrap64 (Int.tmod (IntKind.u64.wrap (a3)) (IntKind.u64.wrap (wrap64 ((a0.size : Int) + 1))))))) + 1))))) t103 t107 t112 t118 bt119.1 bt119.2 (⟨#[]⟩ : ByteArray) 0)) = some r := H
             have A19 := Aside0.mk A190
             clear A190
             replace H := Option.bind_eq_some_iff.mp H
             obtain ⟨⟨t119, t120⟩, A200, H⟩ := H
             replace H : (minuetlaw5_TransformCuts.l0 kj8 a0 a5 (wrap64 (Int.tmod (IntKind.u64.wrap (a1)) (IntKind.u64.wrap (wrap64 ((a0.size : Int) + 1))))) (wrap64 (Int.tmod (IntKind.u64.wrap (a3)) (IntKind.u64.wrap (wrap64 ((a0.size : Int) + 1))))) (wrap64 (Int.tmod (IntKind.u64.wrap (a2)) (IntKind.u64.wrap (wrap64 ((wrap64 ((a0.size : Int) - (wrap64 (Int.tmod (IntKind.u64.wrap (a1)) (IntKind.u64.wrap (wrap64 ((a0.size : Int) + 1))))))) + 1))))) (wrap64 (Int.tmod (IntKind.u64.wrap (a4)) (IntKind.u64.wrap (wrap64 ((wrap64 ((a0.size : Int) - (wrap64 (Int.tmod (IntKind.u64.wrap (a3)) (IntKind.u64.wrap (wrap64 ((a0.size : Int) + 1))))))) + 1))))) t103 t107 t112 t118 t119 t120 (⟨#[]⟩ : ByteArray) 0) = some r := H
             have A20 := Aside0.mk A200
             clear A200
             have H' := Aside0.mk H
             clear H
             go_wp2_with (first | (go_at_call 22; (with_reducible refine (minuetref1_Make.calls kj8 a0 (wrap64 (Int.tmod (IntKind.u64.wrap (a1)) (IntKind.u64.wrap (wrap64 ((a0.size : Int) + 1))))) (wrap64 (Int.tmod (IntKind.u64.wrap (a2)) (IntKind.u64.wrap (wrap64 ((wrap64 ((a0.size : Int) - (wrap64 (Int.tmod (IntKind.u64.wrap (a1)) (IntKind.u64.wrap (wrap64 ((a0.size : Int) + 1))))))) + 1))))) (⟨#[]⟩ : ByteArray) t102 t103 _ A16.out).mono ?_); rintro e w21 ⟨v104, rfl, ho0, hb⟩; have n0_ := Aside0.mk (Kd.R_lower ho0 (below_size (by repeat (first | (with_reducible first | exact HB.out | apply below_alloc | apply pw_below_drewN | apply below_drew1) | exact HB.out)))); have n1_ := Aside0.mk (below_step (by repeat (first | (with_reducible first | exact HB.out | apply below_alloc | apply pw_below_drewN | apply below_drew1) | exact HB.out)) hb); clear HB; have HO105 := n0_; have HB := n1_; clear n0_ n1_; (try clear hb); (try clear hb2); (try clear hk); (try clear hi); (try clear ho0)) | (go_at_call 22; (with_reducible refine (minuetref1_Make.calls kj8 a0 (wrap64 (Int.tmod (IntKind.u64.wrap (a3)) (IntKind.u64.wrap (wrap64 ((a0.size : Int) + 1))))) (wrap64 (Int.tmod (IntKind.u64.wrap (a4)) (IntKind.u64.wrap (wrap64 ((wrap64 ((a0.size : Int) - (wrap64 (Int.tmod (IntKind.u64.wrap (a3)) (IntKind.u64.wrap (wrap64 ((a0.size : Int) + 1))))))) + 1))))) a5 t106 t107 _ A17.out).mono ?_); rintro e w22 ⟨v108, rfl, ho0, hb⟩; have n0_ := Aside0.mk (Kd.R_elder' (by (with_reducible repeat (first | apply Kd.R_alloc | apply Kd.R_drewN | apply Kd.R_drew)); exact HO105.out) (Kd.R_base ho0) hb); have n1_ := Aside0.mk (Kd.R_lower (Kd.R_new' ho0 (Kd.R_lt (by (with_reducible repeat (first | apply Kd.R_alloc | apply Kd.R_drewN | apply Kd.R_drew)); exact HO105.out))) (below_size (by repeat (first | (with_reducible first | exact HB.out | apply below_alloc | apply pw_below_drewN | apply below_drew1) | exact HB.out)))); have n2_ := Aside0.mk (below_step (by repeat (first | (with_reducible first | exact HB.out | apply below_alloc | apply pw_below_drewN | apply below_drew1) | exact HB.out)) hb); clear HO105; clear HB; have HO105 := n0_; have HO109 := n1_; have HB := n2_; clear n0_ n1_ n2_; (try clear hb); (try clear hb2); (try clear hk); (try clear hi); (try clear ho0); obtain ⟨Ao23, co23, eo23⟩ := Kd.R_slice HO105.out; subst eo23; obtain ⟨Ao24, co24, eo24⟩ := Kd.R_slice HO109.out; subst eo24) | (go_at_call 14; (with_reducible refine (transform_Transform.calls kj8 _ _ t102 _ _ t106 true t110 t111 t112 _ ?side1 ?side2 ?side3 ?side4 A18.out).mono ?_); (case side1 => repeat (first | exact (Kd.R_reads' HO105.out).2.2 | (with_reducible refine Kd.C_alloc ?_ _) | (with_reducible refine Kd.C_drewN ?_ _) | (with_reducible refine Kd.C_drew ?_))); (case side2 => exact (Kd.R_reads' HO105.out).2.1); (case side3 => repeat (first | exact (Kd.R_reads' HO109.out).2.2 | (with_reducible refine Kd.C_alloc ?_ _) | (with_reducible refine Kd.C_drewN ?_ _) | (with_reducible refine Kd.C_drew ?_))); (case side4 => exact (Kd.R_reads' HO109.out).2.1); rintro e w25 ⟨v113, v115, rfl, ho0, ho1, hb⟩; have n0_ := Aside0.mk (Kd.R_mono (Kd.R_told (Kd.R_told (Kd.R_old (by (with_reducible repeat (first | apply Kd.R_alloc | apply Kd.R_drewN | apply Kd.R_drew)); exact HO105.out) hb) (Kd.R_base ho0)) (Kd.R_base ho1)) (fun _ h_ => h_.1)); have n1_ := Aside0.mk (Kd.R_mono (Kd.R_told (Kd.R_told (Kd.R_old (by (with_reducible repeat (first | apply Kd.R_alloc | apply Kd.R_drewN | apply Kd.R_drew)); exact HO109.out) hb) (Kd.R_base ho0)) (Kd.R_base ho1)) (fun _ h_ => h_.1)); have n2_ := Aside0.mk (Kd.R_lower (Kd.R_new' (Kd.R_new' ho0 (Kd.R_lt (by (with_reducible repeat (first | apply Kd.R_alloc | apply Kd.R_drewN | apply Kd.R_drew)); exact HO105.out))) (Kd.R_lt (by (with_reducible repeat (first | apply Kd.R_alloc | apply Kd.R_drewN | apply Kd.R_drew)); exact HO109.out))) (below_size (by repeat (first | (with_reducible first | exact HB.out | apply below_alloc | apply pw_below_drewN | apply below_drew1) | exact HB.out)))); have n3_ := Aside0.mk (Kd.R_lower (Kd.R_new' (Kd.R_new' ho1 (Kd.R_lt (by (with_reducible repeat (first | apply Kd.R_alloc | apply Kd.R_drewN | apply Kd.R_drew)); exact HO105.out))) (Kd.R_lt (by (with_reducible repeat (first | apply Kd.R_alloc | apply Kd.R_drewN | apply Kd.R_drew)); exact HO109.out))) (below_size (by repeat (first | (with_reducible first | exact HB.out | apply below_alloc | apply pw_below_drewN | apply below_drew1) | exact HB.out)))); have n4_ := Aside0.mk (below_step (by repeat (first | (with_reducible first | exact HB.out | apply below_alloc | apply pw_below_drewN | apply below_drew1) | exact HB.out)) hb); clear HO105; clear HO109; clear HB; have HO105 := n0_; have HO109 := n1_; have HO114 := n2_; have HO116 := n3_; have HB := n4_; clear n0_ n1_ n2_ n3_ n4_; (try clear hb); (try clear hb2); (try clear hk); (try clear hi); (try clear ho0); (try clear ho1)) | (go_at_call 23; (with_reducible refine (minuetref1_Apply.calls kj8 a0 _ _ t106 t117 t118 _ ?side1 ?side2 A19.out).mono ?_); (case side1 => repeat (first | exact (Kd.R_reads' HO109.out).2.2 | (with_reducible refine Kd.C_alloc ?_ _) | (with_reducible refine Kd.C_drewN ?_ _) | (with_reducible refine Kd.C_drew ?_))); (case side2 => exact (Kd.R_reads' HO109.out).2.1); rintro e w26 ⟨rfl, hb⟩; have n0_ := Aside0.mk (Kd.R_below (by (with_reducible repeat (first | apply Kd.R_alloc | apply Kd.R_drewN | apply Kd.R_drew)); exact HO105.out) hb); have n1_ := Aside0.mk (Kd.R_below (by (with_reducible repeat (first | apply Kd.R_alloc | apply Kd.R_drewN | apply Kd.R_drew)); exact HO109.out) hb); have n2_ := Aside0.mk (Kd.R_below (by (with_reducible repeat (first | apply Kd.R_alloc | apply Kd.R_drewN | apply Kd.R_drew)); exact HO114.out) hb); have n3_ := Aside0.mk (Kd.R_below (by (with_reducible repeat (first | apply Kd.R_alloc | apply Kd.R_drewN | apply Kd.R_drew)); exact HO116.out) hb); have n4_ := Aside0.mk (below_step (by repeat (first | (with_reducible first | exact HB.out | apply below_alloc | apply pw_below_drewN | apply below_drew1) | exact HB.out)) hb); clear HO105; clear HO109; clear HO114; clear HO116; clear HB; have HO105 := n0_; have HO109 := n1_; have HO114 := n2_; have HO116 := n3_; have HB := n4_; clear n0_ n1_ n2_ n3_ n4_; (try clear hb); (try clear hb2); (try clear hk); (try clear hi); obtain ⟨Ao27, co27, eo27⟩ := Kd.R_slice HO114.out; subst eo27) | (go_at_call 23; (with_reducible refine (minuetref1_Apply.calls kj8 t117 _ _ t110 t119 t120 _ ?side1 ?side2 A20.out).mono ?_); (case side1 => repeat (first | exact (Kd.R_reads' HO114.out).2.2 | (with_reducible refine Kd.C_alloc ?_ _) | (with_reducible refine Kd.C_drewN ?_ _) | (with_reducible refine Kd.C_drew ?_))); (case side2 => exact (Kd.R_reads' HO114.out).2.1); rintro e w28 ⟨rfl, hb⟩; have n0_ := Aside0.mk (Kd.R_below (by (with_reducible repeat (first | apply Kd.R_alloc | apply Kd.R_drewN | apply Kd.R_drew)); exact HO105.out) hb); have n1_ := Aside0.mk (Kd.R_below (by (with_reducible repeat (first | apply Kd.R_alloc | apply Kd.R_drewN | apply Kd.R_drew)); exact HO109.out) hb); have n2_ := Aside0.mk (Kd.R_below (by (with_reducible repeat (first | apply Kd.R_alloc | apply Kd.R_drewN | apply Kd.R_drew)); exact HO114.out) hb); have n3_ := Aside0.mk (Kd.R_below (by (with_reducible repeat (first | apply Kd.R_alloc | apply Kd.R_drewN | apply Kd.R_drew)); exact HO116.out) hb); have n4_ := Aside0.mk (below_step (by repeat (first | (with_reducible first | exact HB.out | apply below_alloc | apply pw_below_drewN | apply below_drew1) | exact HB.out)) hb); clear HO105; clear HO109; clear HO114; clear HO116; clear HB; have HO105 := n0_; have HO109 := n1_; have HO114 := n2_; have HO116 := n3_; have HB := n4_; clear n0_ n1_ n2_ n3_ n4_; (try clear hb); (try clear hb2); (try clear hk); (try clear hi)))
             repeat (go_quiet (first | (go_at_call 22; (with_reducible refine (minuetref1_Make.calls kj8 a0 (wrap64 (Int.tmod (IntKind.u64.wrap (a1)) (IntKind.u64.wrap (wrap64 ((a0.size : Int) + 1))))) (wrap64 (Int.tmod (IntKind.u64.wrap (a2)) (IntKind.u64.wrap (wrap64 ((wrap64 ((a0.size : Int) - (wrap64 (Int.tmod (IntKind.u64.wrap (a1)) (IntKind.u64.wrap (wrap64 ((a0.size : Int) + 1))))))) + 1))))) (⟨#[]⟩ : ByteArray) t102 t103 _ A16.out).mono ?_); rintro e w21 ⟨v104, rfl, ho0, hb⟩; have n0_ := Aside0.mk (Kd.R_lower ho0 (below_size (by repeat (first | (with_reducible first | exact HB.out | apply below_alloc | apply pw_below_drewN | apply below_drew1) | exact HB.out)))); have n1_ := Aside0.mk (below_step (by repeat (first | (with_reducible first | exact HB.out | apply below_alloc | apply pw_below_drewN | apply below_drew1) | exact HB.out)) hb); clear HB; have HO105 := n0_; have HB := n1_; clear n0_ n1_; (try clear hb); (try clear hb2); (try clear hk); (try clear hi); (try clear ho0)) | (go_at_call 22; (with_reducible refine (minuetref1_Make.calls kj8 a0 (wrap64 (Int.tmod (IntKind.u64.wrap (a3)) (IntKind.u64.wrap (wrap64 ((a0.size : Int) + 1))))) (wrap64 (Int.tmod (IntKind.u64.wrap (a4)) (IntKind.u64.wrap (wrap64 ((wrap64 ((a0.size : Int) - (wrap64 (Int.tmod (IntKind.u64.wrap (a3)) (IntKind.u64.wrap (wrap64 ((a0.size : Int) + 1))))))) + 1))))) a5 t106 t107 _ A17.out).mono ?_); rintro e w22 ⟨v108, rfl, ho0, hb⟩; have n0_ := Aside0.mk (Kd.R_elder' (by (with_reducible repeat (first | apply Kd.R_alloc | apply Kd.R_drewN | apply Kd.R_drew)); exact HO105.out) (Kd.R_base ho0) hb); have n1_ := Aside0.mk (Kd.R_lower (Kd.R_new' ho0 (Kd.R_lt (by (with_reducible repeat (first | apply Kd.R_alloc | apply Kd.R_drewN | apply Kd.R_drew)); exact HO105.out))) (below_size (by repeat (first | (with_reducible first | exact HB.out | apply below_alloc | apply pw_below_drewN | apply below_drew1) | exact HB.out)))); have n2_ := Aside0.mk (below_step (by repeat (first | (with_reducible first | exact HB.out | apply below_alloc | apply pw_below_drewN | apply below_drew1) | exact HB.out)) hb); clear HO105; clear HB; have HO105 := n0_; have HO109 := n1_; have HB := n2_; clear n0_ n1_ n2_; (try clear hb); (try clear hb2); (try clear hk); (try clear hi); (try clear ho0); obtain ⟨Ao23, co23, eo23⟩ := Kd.R_slice HO105.out; subst eo23; obtain ⟨Ao24, co24, eo24⟩ := Kd.R_slice HO109.out; subst eo24) | (go_at_call 14; (with_reducible refine (transform_Transform.calls kj8 _ _ t102 _ _ t106 true t110 t111 t112 _ ?side1 ?side2 ?side3 ?side4 A18.out).mono ?_); (case side1 => repeat (first | exact (Kd.R_reads' HO105.out).2.2 | (with_reducible refine Kd.C_alloc ?_ _) | (with_reducible refine Kd.C_drewN ?_ _) | (with_reducible refine Kd.C_drew ?_))); (case side2 => exact (Kd.R_reads' HO105.out).2.1); (case side3 => repeat (first | exact (Kd.R_reads' HO109.out).2.2 | (with_reducible refine Kd.C_alloc ?_ _) | (with_reducible refine Kd.C_drewN ?_ _) | (with_reducible refine Kd.C_drew ?_))); (case side4 => exact (Kd.R_reads' HO109.out).2.1); rintro e w25 ⟨v113, v115, rfl, ho0, ho1, hb⟩; have n0_ := Aside0.mk (Kd.R_mono (Kd.R_told (Kd.R_told (Kd.R_old (by (with_reducible repeat (first | apply Kd.R_alloc | apply Kd.R_drewN | apply Kd.R_drew)); exact HO105.out) hb) (Kd.R_base ho0)) (Kd.R_base ho1)) (fun _ h_ => h_.1)); have n1_ := Aside0.mk (Kd.R_mono (Kd.R_told (Kd.R_told (Kd.R_old (by (with_reducible repeat (first | apply Kd.R_alloc | apply Kd.R_drewN | apply Kd.R_drew)); exact HO109.out) hb) (Kd.R_base ho0)) (Kd.R_base ho1)) (fun _ h_ => h_.1)); have n2_ := Aside0.mk (Kd.R_lower (Kd.R_new' (Kd.R_new' ho0 (Kd.R_lt (by (with_reducible repeat (first | apply Kd.R_alloc | apply Kd.R_drewN | apply Kd.R_drew)); exact HO105.out))) (Kd.R_lt (by (with_reducible repeat (first | apply Kd.R_alloc | apply Kd.R_drewN | apply Kd.R_drew)); exact HO109.out))) (below_size (by repeat (first | (with_reducible first | exact HB.out | apply below_alloc | apply pw_below_drewN | apply below_drew1) | exact HB.out)))); have n3_ := Aside0.mk (Kd.R_lower (Kd.R_new' (Kd.R_new' ho1 (Kd.R_lt (by (with_reducible repeat (first | apply Kd.R_alloc | apply Kd.R_drewN | apply Kd.R_drew)); exact HO105.out))) (Kd.R_lt (by (with_reducible repeat (first | apply Kd.R_alloc | apply Kd.R_drewN | apply Kd.R_drew)); exact HO109.out))) (below_size (by repeat (first | (with_reducible first | exact HB.out | apply below_alloc | apply pw_below_drewN | apply below_drew1) | exact HB.out)))); have n4_ := Aside0.mk (below_step (by repeat (first | (with_reducible first | exact HB.out | apply below_alloc | apply pw_below_drewN | apply below_drew1) | exact HB.out)) hb); clear HO105; clear HO109; clear HB; have HO105 := n0_; have HO109 := n1_; have HO114 := n2_; have HO116 := n3_; have HB := n4_; clear n0_ n1_ n2_ n3_ n4_; (try clear hb); (try clear hb2); (try clear hk); (try clear hi); (try clear ho0); (try clear ho1)) | (go_at_call 23; (with_reducible refine (minuetref1_Apply.calls kj8 a0 _ _ t106 t117 t118 _ ?side1 ?side2 A19.out).mono ?_); (case side1 => repeat (first | exact (Kd.R_reads' HO109.out).2.2 | (with_reducible refine Kd.C_alloc ?_ _) | (with_reducible refine Kd.C_drewN ?_ _) | (with_reducible refine Kd.C_drew ?_))); (case side2 => exact (Kd.R_reads' HO109.out).2.1); rintro e w26 ⟨rfl, hb⟩; have n0_ := Aside0.mk (Kd.R_below (by (with_reducible repeat (first | apply Kd.R_alloc | apply Kd.R_drewN | apply Kd.R_drew)); exact HO105.out) hb); have n1_ := Aside0.mk (Kd.R_below (by (with_reducible repeat (first | apply Kd.R_alloc | apply Kd.R_drewN | apply Kd.R_drew)); exact HO109.out) hb); have n2_ := Aside0.mk (Kd.R_below (by (with_reducible repeat (first | apply Kd.R_alloc | apply Kd.R_drewN | apply Kd.R_drew)); exact HO114.out) hb); have n3_ := Aside0.mk (Kd.R_below (by (with_reducible repeat (first | apply Kd.R_alloc | apply Kd.R_drewN | apply Kd.R_drew)); exact HO116.out) hb); have n4_ := Aside0.mk (below_step (by repeat (first | (with_reducible first | exact HB.out | apply below_alloc | apply pw_below_drewN | apply below_drew1) | exact HB.out)) hb); clear HO105; clear HO109; clear HO114; clear HO116; clear HB; have HO105 := n0_; have HO109 := n1_; have HO114 := n2_; have HO116 := n3_; have HB := n4_; clear n0_ n1_ n2_ n3_ n4_; (try clear hb); (try clear hb2); (try clear hk); (try clear hi); obtain ⟨Ao27, co27, eo27⟩ := Kd.R_slice HO114.out; subst eo27) | (go_at_call 23; (with_reducible refine (minuetref1_Apply.calls kj8 t117 _ _ t110 t119 t120 _ ?side1 ?side2 A20.out).mono ?_); (case side1 => repeat (first | exact (Kd.R_reads' HO114.out).2.2 | (with_reducible refine Kd.C_alloc ?_ _) | (with_reducible refine Kd.C_drewN ?_ _) | (with_reducible refine Kd.C_drew ?_))); (case side2 => exact (Kd.R_reads' HO114.out).2.1); rintro e w28 ⟨rfl, hb⟩; have n0_ := Aside0.mk (Kd.R_below (by (with_reducible repeat (first | apply Kd.R_alloc | apply Kd.R_drewN | apply Kd.R_drew)); exact HO105.out) hb); have n1_ := Aside0.mk (Kd.R_below (by (with_reducible repeat (first | apply Kd.R_alloc | apply Kd.R_drewN | apply Kd.R_drew)); exact HO109.out) hb); have n2_ := Aside0.mk (Kd.R_below (by (with_reducible repeat (first | apply Kd.R_alloc | apply Kd.R_drewN | apply Kd.R_drew)); exact HO114.out) hb); have n3_ := Aside0.mk (Kd.R_below (by (with_reducible repeat (first | apply Kd.R_alloc | apply Kd.R_drewN | apply Kd.R_drew)); exact HO116.out) hb); have n4_ := Aside0.mk (below_step (by repeat (first | (with_reducible first | exact HB.out | apply below_alloc | apply pw_below_drewN | apply below_drew1) | exact HB.out)) hb); clear HO105; clear HO109; clear HO114; clear HO116; clear HB; have HO105 := n0_; have HO109 := n1_; have HO114 := n2_; have HO116 := n3_; have HB := n4_; clear n0_ n1_ n2_ n3_ n4_; (try clear hb); (try clear hb2); (try clear hk); (try clear hi))); try go_wp2_with (first | (go_at_call 22; (with_reducible refine (minuetref1_Make.calls kj8 a0 (wrap64 (Int.tmod (IntKind.u64.wrap (a1)) (IntKind.u64.wrap (wrap64 ((a0.size : Int) + 1))))) (wrap64 (Int.tmod (IntKind.u64.wrap (a2)) (IntKind.u64.wrap (wrap64 ((wrap64 ((a0.size : Int) - (wrap64 (Int.tmod (IntKind.u64.wrap (a1)) (IntKind.u64.wrap (wrap64 ((a0.size : Int) + 1))))))) + 1))))) (⟨#[]⟩ : ByteArray) t102 t103 _ A16.out).mono ?_); rintro e w21 ⟨v104, rfl, ho0, hb⟩; have n0_ := Aside0.mk (Kd.R_lower ho0 (below_size (by repeat (first | (with_reducible first | exact HB.out | apply below_alloc | apply pw_below_drewN | apply below_drew1) | exact HB.out)))); have n1_ := Aside0.mk (below_step (by repeat (first | (with_reducible first | exact HB.out | apply below_alloc | apply pw_below_drewN | apply below_drew1) | exact HB.out)) hb); clear HB; have HO105 := n0_; have HB := n1_; clear n0_ n1_; (try clear hb); (try clear hb2); (try clear hk); (try clear hi); (try clear ho0)) | (go_at_call 22; (with_reducible refine (minuetref1_Make.calls kj8 a0 (wrap64 (Int.tmod (IntKind.u64.wrap (a3)) (IntKind.u64.wrap (wrap64 ((a0.size : Int) + 1))))) (wrap64 (Int.tmod (IntKind.u64.wrap (a4)) (IntKind.u64.wrap (wrap64 ((wrap64 ((a0.size : Int) - (wrap64 (Int.tmod (IntKind.u64.wrap (a3)) (IntKind.u64.wrap (wrap64 ((a0.size : Int) + 1))))))) + 1))))) a5 t106 t107 _ A17.out).mono ?_); rintro e w22 ⟨v108, rfl, ho0, hb⟩; have n0_ := Aside0.mk (Kd.R_elder' (by (with_reducible repeat (first | apply Kd.R_alloc | apply Kd.R_drewN | apply Kd.R_drew)); exact HO105.out) (Kd.R_base ho0) hb); have n1_ := Aside0.mk (Kd.R_lower (Kd.R_new' ho0 (Kd.R_lt (by (with_reducible repeat (first | apply Kd.R_alloc | apply Kd.R_drewN | apply Kd.R_drew)); exact HO105.out))) (below_size (by repeat (first | (with_reducible first | exact HB.out | apply below_alloc | apply pw_below_drewN | apply below_drew1) | exact HB.out)))); have n2_ := Aside0.mk (below_step (by repeat (first | (with_reducible first | exact HB.out | apply below_alloc | apply pw_below_drewN | apply below_drew1) | exact HB.out)) hb); clear HO105; clear HB; have HO105 := n0_; have HO109 := n1_; have HB := n2_; clear n0_ n1_ n2_; (try clear hb); (try clear hb2); (try clear hk); (try clear hi); (try clear ho0); obtain ⟨Ao23, co23, eo23⟩ := Kd.R_slice HO105.out; subst eo23; obtain ⟨Ao24, co24, eo24⟩ := Kd.R_slice HO109.out; subst eo24) | (go_at_call 14; (with_reducible refine (transform_Transform.calls kj8 _ _ t102 _ _ t106 true t110 t111 t112 _ ?side1 ?side2 ?side3 ?side4 A18.out).mono ?_); (case side1 => repeat (first | exact (Kd.R_reads' HO105.out).2.2 | (with_reducible refine Kd.C_alloc ?_ _) | (with_reducible refine Kd.C_drewN ?_ _) | (with_reducible refine Kd.C_drew ?_))); (case side2 => exact (Kd.R_reads' HO105.out).2.1); (case side3 => repeat (first | exact (Kd.R_reads' HO109.out).2.2 | (with_reducible refine Kd.C_alloc ?_ _) | (with_reducible refine Kd.C_drewN ?_ _) | (with_reducible refine Kd.C_drew ?_))); (case side4 => exact (Kd.R_reads' HO109.out).2.1); rintro e w25 ⟨v113, v115, rfl, ho0, ho1, hb⟩; have n0_ := Aside0.mk (Kd.R_mono (Kd.R_told (Kd.R_told (Kd.R_old (by (with_reducible repeat (first | apply Kd.R_alloc | apply Kd.R_drewN | apply Kd.R_drew)); exact HO105.out) hb) (Kd.R_base ho0)) (Kd.R_base ho1)) (fun _ h_ => h_.1)); have n1_ := Aside0.mk (Kd.R_mono (Kd.R_told (Kd.R_told (Kd.R_old (by (with_reducible repeat (first | apply Kd.R_alloc | apply Kd.R_drewN | apply Kd.R_drew)); exact HO109.out) hb) (Kd.R_base ho0)) (Kd.R_base ho1)) (fun _ h_ => h_.1)); have n2_ := Aside0.mk (Kd.R_lower (Kd.R_new' (Kd.R_new' ho0 (Kd.R_lt (by (with_reducible repeat (first | apply Kd.R_alloc | apply Kd.R_drewN | apply Kd.R_drew)); exact HO105.out))) (Kd.R_lt (by (with_reducible repeat (first | apply Kd.R_alloc | apply Kd.R_drewN | apply Kd.R_drew)); exact HO109.out))) (below_size (by repeat (first | (with_reducible first | exact HB.out | apply below_alloc | apply pw_below_drewN | apply below_drew1) | exact HB.out)))); have n3_ := Aside0.mk (Kd.R_lower (Kd.R_new' (Kd.R_new' ho1 (Kd.R_lt (by (with_reducible repeat (first | apply Kd.R_alloc | apply Kd.R_drewN | apply Kd.R_drew)); exact HO105.out))) (Kd.R_lt (by (with_reducible repeat (first | apply Kd.R_alloc | apply Kd.R_drewN | apply Kd.R_drew)); exact HO109.out))) (below_size (by repeat (first | (with_reducible first | exact HB.out | apply below_alloc | apply pw_below_drewN | apply below_drew1) | exact HB.out)))); have n4_ := Aside0.mk (below_step (by repeat (first | (with_reducible first | exact HB.out | apply below_alloc | apply pw_below_drewN | apply below_drew1) | exact HB.out)) hb); clear HO105; clear HO109; clear HB; have HO105 := n0_; have HO109 := n1_; have HO114 := n2_; have HO116 := n3_; have HB := n4_; clear n0_ n1_ n2_ n3_ n4_; (try clear hb); (try clear hb2); (try clear hk); (try clear hi); (try clear ho0); (try clear ho1)) | (go_at_call 23; (with_reducible refine (minuetref1_Apply.calls kj8 a0 _ _ t106 t117 t118 _ ?side1 ?side2 A19.out).mono ?_); (case side1 => repeat (first | exact (Kd.R_reads' HO109.out).2.2 | (with_reducible refine Kd.C_alloc ?_ _) | (with_reducible refine Kd.C_drewN ?_ _) | (with_reducible refine Kd.C_drew ?_))); (case side2 => exact (Kd.R_reads' HO109.out).2.1); rintro e w26 ⟨rfl, hb⟩; have n0_ := Aside0.mk (Kd.R_below (by (with_reducible repeat (first | apply Kd.R_alloc | apply Kd.R_drewN | apply Kd.R_drew)); exact HO105.out) hb); have n1_ := Aside0.mk (Kd.R_below (by (with_reducible repeat (first | apply Kd.R_alloc | apply Kd.R_drewN | apply Kd.R_drew)); exact HO109.out) hb); have n2_ := Aside0.mk (Kd.R_below (by (with_reducible repeat (first | apply Kd.R_alloc | apply Kd.R_drewN | apply Kd.R_drew)); exact HO114.out) hb); have n3_ := Aside0.mk (Kd.R_below (by (with_reducible repeat (first | apply Kd.R_alloc | apply Kd.R_drewN | apply Kd.R_drew)); exact HO116.out) hb); have n4_ := Aside0.mk (below_step (by repeat (first | (with_reducible first | exact HB.out | apply below_alloc | apply pw_below_drewN | apply below_drew1) | exact HB.out)) hb); clear HO105; clear HO109; clear HO114; clear HO116; clear HB; have HO105 := n0_; have HO109 := n1_; have HO114 := n2_; have HO116 := n3_; have HB := n4_; clear n0_ n1_ n2_ n3_ n4_; (try clear hb); (try clear hb2); (try clear hk); (try clear hi); obtain ⟨Ao27, co27, eo27⟩ := Kd.R_slice HO114.out; subst eo27) | (go_at_call 23; (with_reducible refine (minuetref1_Apply.calls kj8 t117 _ _ t110 t119 t120 _ ?side1 ?side2 A20.out).mono ?_); (case side1 => repeat (first | exact (Kd.R_reads' HO114.out).2.2 | (with_reducible refine Kd.C_alloc ?_ _) | (with_reducible refine Kd.C_drewN ?_ _) | (with_reducible refine Kd.C_drew ?_))); (case side2 => exact (Kd.R_reads' HO114.out).2.1); rintro e w28 ⟨rfl, hb⟩; have n0_ := Aside0.mk (Kd.R_below (by (with_reducible repeat (first | apply Kd.R_alloc | apply Kd.R_drewN | apply Kd.R_drew)); exact HO105.out) hb); have n1_ := Aside0.mk (Kd.R_below (by (with_reducible repeat (first | apply Kd.R_alloc | apply Kd.R_drewN | apply Kd.R_drew)); exact HO109.out) hb); have n2_ := Aside0.mk (Kd.R_below (by (with_reducible repeat (first | apply Kd.R_alloc | apply Kd.R_drewN | apply Kd.R_drew)); exact HO114.out) hb); have n3_ := Aside0.mk (Kd.R_below (by (with_reducible repeat (first | apply Kd.R_alloc | apply Kd.R_drewN | apply Kd.R_drew)); exact HO116.out) hb); have n4_ := Aside0.mk (below_step (by repeat (first | (with_reducible first | exact HB.out | apply below_alloc | apply pw_below_drewN | apply below_drew1) | exact HB.out)) hb); clear HO105; clear HO109; clear HO114; clear HO116; clear HB; have HO105 := n0_; have HO109 := n1_; have HO114 := n2_; have HO116 := n3_; have HB := n4_; clear n0_ n1_ n2_ n3_ n4_; (try clear hb); (try clear hb2); (try clear hk); (try clear hi))))
             go_loopg [28, 29] kj8 (fun kq v28 v29 w' => ∃ (x28_2 : ByteArray) (x29_2 : Int), v28 = .string x28_2 ∧ v29 = .int .i64 x29_2 ∧ Aside0 (minuetlaw5_TransformCuts.l0 kq a0 a5 (wrap64 (Int.tmod (IntKind.u64.wrap (a1)) (IntKind.u64.wrap (wrap64 ((a0.size : Int) + 1))))) (wrap64 (Int.tmod (IntKind.u64.wrap (a3)) (IntKind.u64.wrap (wrap64 ((a0.size : Int) + 1))))) (wrap64 (Int.tmod (IntKind.u64.wrap (a2)) (IntKind.u64.wrap (wrap64 ((wrap64 ((a0.size : Int) - (wrap64 (Int.tmod (IntKind.u64.wrap (a1)) (IntKind.u64.wrap (wrap64 ((a0.size : Int) + 1))))))) + 1))))) (wrap64 (Int.tmod (IntKind.u64.wrap (a4)) (IntKind.u64.wrap (wrap64 ((wrap64 ((a0.size : Int) - (wrap64 (Int.tmod (IntKind.u64.wrap (a3)) (IntKind.u64.wrap (wrap64 ((a0.size : Int) + 1))))))) + 1))))) t103 t107 t112 t118 t119 t120 x28_2 x29_2 = some r) ∧ Aside0 (kq ≤ kj8) ∧ Aside0 (Below w.heap.size w w'))
             case atStart => exact ⟨((⟨#[]⟩ : ByteArray)), (0), (by first | rfl | (simp; done) | (simp [*]; done)), (by first | rfl | (simp; done) | (simp [*]; done)), H', ⟨Nat.le_refl _⟩, ⟨by repeat (first | (with_reducible first | exact HB.out | apply below_alloc | apply pw_below_drewN | apply below_drew1) | exact HB.out)⟩⟩
             case round =>
              clear H'
              try clear c1
              try clear p2
              try clear p6
              try clear c7
              try clear c8
              try clear c11
              try clear c11b0
              try clear c11b1
              try clear c12
              try clear c13
              try clear c13b0
              try clear c13b1
              try clear c14
              try clear c14b0
              try clear c14b1
              try clear c15
              try clear c15b0
              try clear c15b1
              try clear p2
              obtain ⟨x28_2, x29_2, rfl, rfl, HA, HK2, HB⟩ := hrel
              cases gk with
              | zero => exact absurd HA.out (by simp [minuetlaw5_TransformCuts.l0])
              | succ k2 =>
               have H := HA.out
               clear HA
               simp only [minuetlaw5_TransformCuts.l0] at H
               by_cases c29 : x29_2 ≤ (a0.size : Int)
               · rw [if_pos c29] at H
                 have c29b0 : decide (x29_2 ≤ (a0.size : Int)) = true := decide_eq_true c29
                 clear c29
                 by_cases c30 : x29_2 = (wrap64 (Int.tmod (IntKind.u64.wrap (a3)) (IntKind.u64.wrap (wrap64 ((a0.size : Int) + 1)))))
                 · rw [if_pos c30] at H
                   have c30b0 : (x29_2 == (wrap64 (Int.tmod (IntKind.u64.wrap (a3)) (IntKind.u64.wrap (wrap64 ((a0.size : Int) + 1)))))) = true := beq_iff_eq.mpr c30
                   have c30b1 : (x29_2 != (wrap64 (Int.tmod (IntKind.u64.wrap (a3)) (IntKind.u64.wrap (wrap64 ((a0.size : Int) + 1)))))) = false := bne_eq_false_iff_eq.mpr c30
                   clear c30
                   by_cases c31 : x28_2.size + a5.size ≤ 9223372036854775807
                   · rw [if_pos c31] at H
                     have c31b0 := eq_true c31
                     have c31b1 : decide (x28_2.size + a5.size ≤ 9223372036854775807) = true := decide_eq_true c31
                     try have c31b2 : (9223372036854775807 < x28_2.size + a5.size) = False := eq_false (Nat.not_lt.2 c31)
                     by_cases c32 : x29_2 < (a0.size : Int)
                     · rw [if_pos c32] at H
                       have c32b0 : decide (x29_2 < (a0.size : Int)) = true := decide_eq_true c32
                       clear c32
                       by_cases c33 : x29_2 < (wrap64 (Int.tmod (IntKind.u64.wrap (a1)) (IntKind.u64.wrap (wrap64 ((a0.size : Int) + 1)))))
                       · rw [if_pos c33] at H
                         have c33b0 : decide (x29_2 < (wrap64 (Int.tmod (IntKind.u64.wrap (a1)) (IntKind.u64.wrap (wrap64 ((a0.size : Int) + 1)))))) = true := decide_eq_true c33
                         clear c33
                         by_cases c34 : x29_2 < (wrap64 (Int.tmod (IntKind.u64.wrap (a3)) (IntKind.u64.wrap (wrap64 ((a0.size : Int) + 1)))))
                         · rw [if_pos c34] at H
                           have c34b0 : decide (x29_2 < (wrap64 (Int.tmod (IntKind.u64.wrap (a3)) (IntKind.u64.wrap (wrap64 ((a0.size : Int) + 1)))))) = true := decide_eq_true c34
                           clear c34
                           by_cases c35 : 0 ≤ x29_2
                           · rw [if_pos c35] at H
                             have c35b0 := eq_true c35
                             have c35b1 : decide (0 ≤ x29_2) = true := decide_eq_true c35
                             clear c35
                             by_cases c36 : x29_2 ≤ (wrap64 (x29_2 + 1))
                             · rw [if_pos c36] at H
                               have c36b0 := eq_true c36
                               have c36b1 : decide (x29_2 ≤ (wrap64 (x29_2 + 1))) = true := decide_eq_true c36
                               by_cases c37 : (wrap64 (x29_2 + 1)) ≤ (a0.size : Int)
                               · rw [if_pos c37] at H
                                 have c37b0 := eq_true c37
                                 have c37b1 : decide ((wrap64 (x29_2 + 1)) ≤ (a0.size : Int)) = true := decide_eq_true c37
                                 by_cases c38 : (x28_2 ++ a5).size + (a0.extract (x29_2 : Int).toNat ((wrap64 (x29_2 + 1)) : Int).toNat).size ≤ 9223372036854775807
                                 · rw [if_pos c38] at H
                                   have c38b0 := eq_true c38
                                   have c38b1 : decide ((x28_2 ++ a5).size + (a0.extract (x29_2 : Int).toNat ((wrap64 (x29_2 + 1)) : Int).toNat).size ≤ 9223372036854775807) = true := decide_eq_true c38
                                   try have c38b2 : (9223372036854775807 < (x28_2 ++ a5).size + (a0.extract (x29_2 : Int).toNat ((wrap64 (x29_2 + 1)) : Int).toNat).size) = False := eq_false (Nat.not_lt.2 c38)
                                   try have c38b3 : (9223372036854775807 < x28_2.size + a5.size + ((wrap64 (x29_2 + 1)).toNat - x29_2.toNat)) = False := eq_false (Nat.not_lt.2 (by have h_ := c38; simp only [ByteArray.size_append, ByteArray.size_extract] at h_; have := of_decide_eq_true (p := (wrap64 (x29_2 + 1)) ≤ (a0.size : Int)) (by assumption); omega))
                                   have H' := Aside0.mk H
                                   clear H
                                   go_wp2
                                   repeat (go_quiet (fail); try go_wp2)
                                   go_roundg k2
                                   case measure => have := HJ8.out; have := HK2.out; omega
                                   case rel => exact ⟨((x28_2 ++ a5) ++ (a0.extract (x29_2 : Int).toNat ((wrap64 (x29_2 + 1)) : Int).toNat)), (wrap64 (x29_2 + 1)), (by first | rfl | (simp; done) | (simp [*]; done)), (by first | rfl | (simp; done) | (simp [*]; done)), H', ⟨by have := HJ8.out; have := HK2.out; omega⟩, ⟨by repeat (first | (with_reducible first | exact HB.out | apply below_alloc | apply pw_below_drewN | apply below_drew1) | exact HB.out)⟩⟩
                                 · rw [if_neg c38] at H
                                   exact absurd H (by simp)
                               · rw [if_neg c37] at H
                                 exact absurd H (by simp)
                             · rw [if_neg c36] at H
                               exact absurd H (by simp)
                           · rw [if_neg c35] at H
                             exact absurd H (by simp)
                         · rw [if_neg c34] at H
                           have c34b0 : decide (x29_2 < (wrap64 (Int.tmod (IntKind.u64.wrap (a3)) (IntKind.u64.wrap (wrap64 ((a0.size : Int) + 1)))))) = false := decide_eq_false c34
                           clear c34
                           by_cases c39 : x29_2 ≥ (wrap64 ((wrap64 (Int.tmod (IntKind.u64.wrap (a3)) (IntKind.u64.wrap (wrap64 ((a0.size : Int) + 1))))) + (wrap64 (Int.tmod (IntKind.u64.wrap (a4)) (IntKind.u64.wrap (wrap64 ((wrap64 ((a0.size : Int) - (wrap64 (Int.tmod (IntKind.u64.wrap (a3)) (IntKind.u64.wrap (wrap64 ((a0.size : Int) + 1))))))) + 1)))))))
                           · rw [if_pos c39] at H
                             have c39b0 : decide ((wrap64 ((wrap64 (Int.tmod (IntKind.u64.wrap (a3)) (IntKind.u64.wrap (wrap64 ((a0.size : Int) + 1))))) + (wrap64 (Int.tmod (IntKind.u64.wrap (a4)) (IntKind.u64.wrap (wrap64 ((wrap64 ((a0.size : Int) - (wrap64 (Int.tmod (IntKind.u64.wrap (a3)) (IntKind.u64.wrap (wrap64 ((a0.size : Int) + 1))))))) + 1))))))) ≤ x29_2) = true := decide_eq_true c39
                             clear c39
                             by_cases c40 : 0 ≤ x29_2
                             · rw [if_pos c40] at H
                               have c40b0 := eq_true c40
                               have c40b1 : decide (0 ≤ x29_2) = true := decide_eq_true c40
                               clear c40
                               by_cases c41 : x29_2 ≤ (wrap64 (x29_2 + 1))
                               · rw [if_pos c41] at H
                                 have c41b0 := eq_true c41
                                 have c41b1 : decide (x29_2 ≤ (wrap64 (x29_2 + 1))) = true := decide_eq_true c41
                                 by_cases c42 : (wrap64 (x29_2 + 1)) ≤ (a0.size : Int)
                                 · rw [if_pos c42] at H
                                   have c42b0 := eq_true c42
                                   have c42b1 : decide ((wrap64 (x29_2 + 1)) ≤ (a0.size : Int)) = true := decide_eq_true c42
                                   by_cases c43 : (x28_2 ++ a5).size + (a0.extract (x29_2 : Int).toNat ((wrap64 (x29_2 + 1)) : Int).toNat).size ≤ 9223372036854775807
                                   · rw [if_pos c43] at H
                                     have c43b0 := eq_true c43
                                     have c43b1 : decide ((x28_2 ++ a5).size + (a0.extract (x29_2 : Int).toNat ((wrap64 (x29_2 + 1)) : Int).toNat).size ≤ 9223372036854775807) = true := decide_eq_true c43
                                     try have c43b2 : (9223372036854775807 < (x28_2 ++ a5).size + (a0.extract (x29_2 : Int).toNat ((wrap64 (x29_2 + 1)) : Int).toNat).size) = False := eq_false (Nat.not_lt.2 c43)
                                     try have c43b3 : (9223372036854775807 < x28_2.size + a5.size + ((wrap64 (x29_2 + 1)).toNat - x29_2.toNat)) = False := eq_false (Nat.not_lt.2 (by have h_ := c43; simp only [ByteArray.size_append, ByteArray.size_extract] at h_; have := of_decide_eq_true (p := (wrap64 (x29_2 + 1)) ≤ (a0.size : Int)) (by assumption); omega))
                                     have H' := Aside0.mk H
                                     clear H
                                     go_wp2
                                     repeat (go_quiet (fail); try go_wp2)
                                     go_roundg k2
                                     case measure => have := HJ8.out; have := HK2.out; omega
                                     case rel => exact ⟨((x28_2 ++ a5) ++ (a0.extract (x29_2 : Int).toNat ((wrap64 (x29_2 + 1)) : Int).toNat)), (wrap64 (x29_2 + 1)), (by first | rfl | (simp; done) | (simp [*]; done)), (by first | rfl | (simp; done) | (simp [*]; done)), H', ⟨by have := HJ8.out; have := HK2.out; omega⟩, ⟨by repeat (first | (with_reducible first | exact HB.out | apply below_alloc | apply pw_below_drewN | apply below_drew1) | exact HB.out)⟩⟩
                                   · rw [if_neg c43] at H
                                     exact absurd H (by simp)
                                 · rw [if_neg c42] at H
                                   exact absurd H (by simp)
                               · rw [if_neg c41] at H
                                 exact absurd H (by simp)
                             · rw [if_neg c40] at H
                               exact absurd H (by simp)
                           · rw [if_neg c39] at H
                             have c39b0 : decide ((wrap64 ((wrap64 (Int.tmod (IntKind.u64.wrap (a3)) (IntKind.u64.wrap (wrap64 ((a0.size : Int) + 1))))) + (wrap64 (Int.tmod (IntKind.u64.wrap (a4)) (IntKind.u64.wrap (wrap64 ((wrap64 ((a0.size : Int) - (wrap64 (Int.tmod (IntKind.u64.wrap (a3)) (IntKind.u64.wrap (wrap64 ((a0.size : Int) + 1))))))) + 1))))))) ≤ x29_2) = false := decide_eq_false c39
                             clear c39
                             have H' := Aside0.mk H
                             clear H
                             go_wp2
                             repeat (go_quiet (fail); try go_wp2)
                             go_roundg k2
                             case measure => have := HJ8.out; have := HK2.out; omega
                             case rel => exact ⟨(x28_2 ++ a5), (wrap64 (x29_2 + 1)), (by first | rfl | (simp; done) | (simp [*]; done)), (by first | rfl | (simp; done) | (simp [*]; done)), H', ⟨by have := HJ8.out; have := HK2.out; omega⟩, ⟨by repeat (first | (with_reducible first | exact HB.out | apply below_alloc | apply pw_below_drewN | apply below_drew1) | exact HB.out)⟩⟩
                       · rw [if_neg c33] at H
                         have c33b0 : decide (x29_2 < (wrap64 (Int.tmod (IntKind.u64.wrap (a1)) (IntKind.u64.wrap (wrap64 ((a0.size : Int) + 1)))))) = false := decide_eq_false c33
                         clear c33
                         by_cases c44 : x29_2 ≥ (wrap64 ((wrap64 (Int.tmod (IntKind.u64.wrap (a1)) (IntKind.u64.wrap (wrap64 ((a0.size : Int) + 1))))) + (wrap64 (Int.tmod (IntKind.u64.wrap (a2)) (IntKind.u64.wrap (wrap64 ((wrap64 ((a0.size : Int) - (wrap64 (Int.tmod (IntKind.u64.wrap (a1)) (IntKind.u64.wrap (wrap64 ((a0.size : Int) + 1))))))) + 1)))))))
                         · rw [if_pos c44] at H
                           have c44b0 : decide ((wrap64 ((wrap64 (Int.tmod (IntKind.u64.wrap (a1)) (IntKind.u64.wrap (wrap64 ((a0.size : Int) + 1))))) + (wrap64 (Int.tmod (IntKind.u64.wrap (a2)) (IntKind.u64.wrap (wrap64 ((wrap64 ((a0.size : Int) - (wrap64 (Int.tmod (IntKind.u64.wrap (a1)) (IntKind.u64.wrap (wrap64 ((a0.size : Int) + 1))))))) + 1))))))) ≤ x29_2) = true := decide_eq_true c44
                           clear c44
                           by_cases c45 : x29_2 < (wrap64 (Int.tmod (IntKind.u64.wrap (a3)) (IntKind.u64.wrap (wrap64 ((a0.size : Int) + 1)))))
                           · rw [if_pos c45] at H
                             have c45b0 : decide (x29_2 < (wrap64 (Int.tmod (IntKind.u64.wrap (a3)) (IntKind.u64.wrap (wrap64 ((a0.size : Int) + 1)))))) = true := decide_eq_true c45
                             clear c45
                             by_cases c46 : 0 ≤ x29_2
                             · rw [if_pos c46] at H
                               have c46b0 := eq_true c46
                               have c46b1 : decide (0 ≤ x29_2) = true := decide_eq_true c46
                               clear c46
                               by_cases c47 : x29_2 ≤ (wrap64 (x29_2 + 1))
                               · rw [if_pos c47] at H
                                 have c47b0 := eq_true c47
                                 have c47b1 : decide (x29_2 ≤ (wrap64 (x29_2 + 1))) = true := decide_eq_true c47
                                 by_cases c48 : (wrap64 (x29_2 + 1)) ≤ (a0.size : Int)
                                 · rw [if_pos c48] at H
                                   have c48b0 := eq_true c48
                                   have c48b1 : decide ((wrap64 (x29_2 + 1)) ≤ (a0.size : Int)) = true := decide_eq_true c48
                                   by_cases c49 : (x28_2 ++ a5).size + (a0.extract (x29_2 : Int).toNat ((wrap64 (x29_2 + 1)) : Int).toNat).size ≤ 9223372036854775807
                                   · rw [if_pos c49] at H
                                     have c49b0 := eq_true c49
                                     have c49b1 : decide ((x28_2 ++ a5).size + (a0.extract (x29_2 : Int).toNat ((wrap64 (x29_2 + 1)) : Int).toNat).size ≤ 9223372036854775807) = true := decide_eq_true c49
                                     try have c49b2 : (9223372036854775807 < (x28_2 ++ a5).size + (a0.extract (x29_2 : Int).toNat ((wrap64 (x29_2 + 1)) : Int).toNat).size) = False := eq_false (Nat.not_lt.2 c49)
                                     try have c49b3 : (9223372036854775807 < x28_2.size + a5.size + ((wrap64 (x29_2 + 1)).toNat - x29_2.toNat)) = False := eq_false (Nat.not_lt.2 (by have h_ := c49; simp only [ByteArray.size_append, ByteArray.size_extract] at h_; have := of_decide_eq_true (p := (wrap64 (x29_2 + 1)) ≤ (a0.size : Int)) (by assumption); omega))
                                     have H' := Aside0.mk H
                                     clear H
                                     go_wp2
                                     repeat (go_quiet (fail); try go_wp2)
                                     go_roundg k2
                                     case measure => have := HJ8.out; have := HK2.out; omega
                                     case rel => exact ⟨((x28_2 ++ a5) ++ (a0.extract (x29_2 : Int).toNat ((wrap64 (x29_2 + 1)) : Int).toNat)), (wrap64 (x29_2 + 1)), (by first | rfl | (simp; done) | (simp [*]; done)), (by first | rfl | (simp; done) | (simp [*]; done)), H', ⟨by have := HJ8.out; have := HK2.out; omega⟩, ⟨by repeat (first | (with_reducible first | exact HB.out | apply below_alloc | apply pw_below_drewN | apply below_drew1) | exact HB.out)⟩⟩
                                   · rw [if_neg c49] at H
                                     exact absurd H (by simp)
                                 · rw [if_neg c48] at H
                                   exact absurd H (by simp)
                               · rw [if_neg c47] at H
                                 exact absurd H (by simp)
                             · rw [if_neg c46] at H
                               exact absurd H (by simp)
                           · rw [if_neg c45] at H
                             have c45b0 : decide (x29_2 < (wrap64 (Int.tmod (IntKind.u64.wrap (a3)) (IntKind.u64.wrap (wrap64 ((a0.size : Int) + 1)))))) = false := decide_eq_false c45
                             clear c45
                             by_cases c50 : x29_2 ≥ (wrap64 ((wrap64 (Int.tmod (IntKind.u64.wrap (a3)) (IntKind.u64.wrap (wrap64 ((a0.size : Int) + 1))))) + (wrap64 (Int.tmod (IntKind.u64.wrap (a4)) (IntKind.u64.wrap (wrap64 ((wrap64 ((a0.size : Int) - (wrap64 (Int.tmod (IntKind.u64.wrap (a3)) (IntKind.u64.wrap (wrap64 ((a0.size : Int) + 1))))))) + 1)))))))
                             · rw [if_pos c50] at H
                               have c50b0 : decide ((wrap64 ((wrap64 (Int.tmod (IntKind.u64.wrap (a3)) (IntKind.u64.wrap (wrap64 ((a0.size : Int) + 1))))) + (wrap64 (Int.tmod (IntKind.u64.wrap (a4)) (IntKind.u64.wrap (wrap64 ((wrap64 ((a0.size : Int) - (wrap64 (Int.tmod (IntKind.u64.wrap (a3)) (IntKind.u64.wrap (wrap64 ((a0.size : Int) + 1))))))) + 1))))))) ≤ x29_2) = true := decide_eq_true c50
                               clear c50
                               by_cases c51 : 0 ≤ x29_2
                               · rw [if_pos c51] at H
                                 have c51b0 := eq_true c51
                                 have c51b1 : decide (0 ≤ x29_2) = true := decide_eq_true c51
                                 clear c51
                                 by_cases c52 : x29_2 ≤ (wrap64 (x29_2 + 1))
                                 · rw [if_pos c52] at H
                                   have c52b0 := eq_true c52
                                   have c52b1 : decide (x29_2 ≤ (wrap64 (x29_2 + 1))) = true := decide_eq_true c52
                                   by_cases c53 : (wrap64 (x29_2 + 1)) ≤ (a0.size : Int)
                                   · rw [if_pos c53] at H
                                     have c53b0 := eq_true c53
                                     have c53b1 : decide ((wrap64 (x29_2 + 1)) ≤ (a0.size : Int)) = true := decide_eq_true c53
                                     by_cases c54 : (x28_2 ++ a5).size + (a0.extract (x29_2 : Int).toNat ((wrap64 (x29_2 + 1)) : Int).toNat).size ≤ 9223372036854775807
                                     · rw [if_pos c54] at H
                                       have c54b0 := eq_true c54
                                       have c54b1 : decide ((x28_2 ++ a5).size + (a0.extract (x29_2 : Int).toNat ((wrap64 (x29_2 + 1)) : Int).toNat).size ≤ 9223372036854775807) = true := decide_eq_true c54
                                       try have c54b2 : (9223372036854775807 < (x28_2 ++ a5).size + (a0.extract (x29_2 : Int).toNat ((wrap64 (x29_2 + 1)) : Int).toNat).size) = False := eq_false (Nat.not_lt.2 c54)
                                       try have c54b3 : (9223372036854775807 < x28_2.size + a5.size + ((wrap64 (x29_2 + 1)).toNat - x29_2.toNat)) = False := eq_false (Nat.not_lt.2 (by have h_ := c54; simp only [ByteArray.size_append, ByteArray.size_extract] at h_; have := of_decide_eq_true (p := (wrap64 (x29_2 + 1)) ≤ (a0.size : Int)) (by assumption); omega))
                                       have H' := Aside0.mk H
                                       clear H
                                       go_wp2
                                       repeat (go_quiet (fail); try go_wp2)
                                       go_roundg k2
                                       case measure => have := HJ8.out; have := HK2.out; omega
                                       case rel => exact ⟨((x28_2 ++ a5) ++ (a0.extract (x29_2 : Int).toNat ((wrap64 (x29_2 + 1)) : Int).toNat)), (wrap64 (x29_2 + 1)), (by first | rfl | (simp; done) | (simp [*]; done)), (by first | rfl | (simp; done) | (simp [*]; done)), H', ⟨by have := HJ8.out; have := HK2.out; omega⟩, ⟨by repeat (first | (with_reducible first | exact HB.out | apply below_alloc | apply pw_below_drewN | apply below_drew1) | exact HB.out)⟩⟩
                                     · rw [if_neg c54] at H
                                       exact absurd H (by simp)
                                   · rw [if_neg c53] at H
                                     exact absurd H (by simp)
                                 · rw [if_neg c52] at H
                                   exact absurd H (by simp)
                               · rw [if_neg c51] at H
                                 exact absurd H (by simp)
                             · rw [if_neg c50] at H
                               have c50b0 : decide ((wrap64 ((wrap64 (Int.tmod (IntKind.u64.wrap (a3)) (IntKind.u64.wrap (wrap64 ((a0.size : Int) + 1))))) + (wrap64 (Int.tmod (IntKind.u64.wrap (a4)) (IntKind.u64.wrap (wrap64 ((wrap64 ((a0.size : Int) - (wrap64 (Int.tmod (IntKind.u64.wrap (a3)) (IntKind.u64.wrap (wrap64 ((a0.size : Int) + 1))))))) + 1))))))) ≤ x29_2) = false := decide_eq_false c50
                               clear c50
                               have H' := Aside0.mk H
                               clear H
                               go_wp2
                               repeat (go_quiet (fail); try go_wp2)
                               go_roundg k2
                               case measure => have := HJ8.out; have := HK2.out; omega
                               case rel => exact ⟨(x28_2 ++ a5), (wrap64 (x29_2 + 1)), (by first | rfl | (simp; done) | (simp [*]; done)), (by first | rfl | (simp; done) | (simp [*]; done)), H', ⟨by have := HJ8.out; have := HK2.out; omega⟩, ⟨by repeat (first | (with_reducible first | exact HB.out | apply below_alloc | apply pw_below_drewN | apply below_drew1) | exact HB.out)⟩⟩
                         · rw [if_neg c44] at H
                           have c44b0 : decide ((wrap64 ((wrap64 (Int.tmod (IntKind.u64.wrap (a1)) (IntKind.u64.wrap (wrap64 ((a0.size : Int) + 1))))) + (wrap64 (Int.tmod (IntKind.u64.wrap (a2)) (IntKind.u64.wrap (wrap64 ((wrap64 ((a0.size : Int) - (wrap64 (Int.tmod (IntKind.u64.wrap (a1)) (IntKind.u64.wrap (wrap64 ((a0.size : Int) + 1))))))) + 1))))))) ≤ x29_2) = false := decide_eq_false c44
                           clear c44
                           have H' := Aside0.mk H
                           clear H
                           go_wp2
                           repeat (go_quiet (fail); try go_wp2)
                           go_roundg k2
                           case measure => have := HJ8.out; have := HK2.out; omega
                           case rel => exact ⟨(x28_2 ++ a5), (wrap64 (x29_2 + 1)), (by first | rfl | (simp; done) | (simp [*]; done)), (by first | rfl | (simp; done) | (simp [*]; done)), H', ⟨by have := HJ8.out; have := HK2.out; omega⟩, ⟨by repeat (first | (with_reducible first | exact HB.out | apply below_alloc | apply pw_below_drewN | apply below_drew1) | exact HB.out)⟩⟩
                     · rw [if_neg c32] at H
                       have c32b0 : decide (x29_2 < (a0.size : Int)) = false := decide_eq_false c32
                       clear c32
                       have H' := Aside0.mk H
                       clear H
                       go_wp2
                       repeat (go_quiet (fail); try go_wp2)
                       go_roundg k2
                       case measure => have := HJ8.out; have := HK2.out; omega
                       case rel => exact ⟨(x28_2 ++ a5), (wrap64 (x29_2 + 1)), (by first | rfl | (simp; done) | (simp [*]; done)), (by first | rfl | (simp; done) | (simp [*]; done)), H', ⟨by have := HJ8.out; have := HK2.out; omega⟩, ⟨by repeat (first | (with_reducible first | exact HB.out | apply below_alloc | apply pw_below_drewN | apply below_drew1) | exact HB.out)⟩⟩
                   · rw [if_neg c31] at H
                     exact absurd H (by simp)
                 · rw [if_neg c30] at H
                   have c30b0 : (x29_2 == (wrap64 (Int.tmod (IntKind.u64.wrap (a3)) (IntKind.u64.wrap (wrap64 ((a0.size : Int) + 1)))))) = false := beq_eq_false_iff_ne.mpr c30
                   have c30b1 : (x29_2 != (wrap64 (Int.tmod (IntKind.u64.wrap (a3)) (IntKind.u64.wrap (wrap64 ((a0.size : Int) + 1)))))) = true := bne_iff_ne.mpr c30
                   by_cases c55 : x29_2 < (a0.size : Int)
                   · rw [if_pos c55] at H
                     have c55b0 : decide (x29_2 < (a0.size : Int)) = true := decide_eq_true c55
                     clear c55
                     by_cases c56 : x29_2 < (wrap64 (Int.tmod (IntKind.u64.wrap (a1)) (IntKind.u64.wrap (wrap64 ((a0.size : Int) + 1)))))
                     · rw [if_pos c56] at H
                       have c56b0 : decide (x29_2 < (wrap64 (Int.tmod (IntKind.u64.wrap (a1)) (IntKind.u64.wrap (wrap64 ((a0.size : Int) + 1)))))) = true := decide_eq_true c56
                       clear c56
                       by_cases c57 : x29_2 < (wrap64 (Int.tmod (IntKind.u64.wrap (a3)) (IntKind.u64.wrap (wrap64 ((a0.size : Int) + 1)))))
                       · rw [if_pos c57] at H
                         have c57b0 : decide (x29_2 < (wrap64 (Int.tmod (IntKind.u64.wrap (a3)) (IntKind.u64.wrap (wrap64 ((a0.size : Int) + 1)))))) = true := decide_eq_true c57
                         clear c57
                         by_cases c58 : 0 ≤ x29_2
                         · rw [if_pos c58] at H
                           have c58b0 := eq_true c58
                           have c58b1 : decide (0 ≤ x29_2) = true := decide_eq_true c58
                           clear c58
                           by_cases c59 : x29_2 ≤ (wrap64 (x29_2 + 1))
                           · rw [if_pos c59] at H
                             have c59b0 := eq_true c59
                             have c59b1 : decide (x29_2 ≤ (wrap64 (x29_2 + 1))) = true := decide_eq_true c59
                             by_cases c60 : (wrap64 (x29_2 + 1)) ≤ (a0.size : Int)
                             · rw [if_pos c60] at H
                               have c60b0 := eq_true c60
                               have c60b1 : decide ((wrap64 (x29_2 + 1)) ≤ (a0.size : Int)) = true := decide_eq_true c60
                               by_cases c61 : x28_2.size + (a0.extract (x29_2 : Int).toNat ((wrap64 (x29_2 + 1)) : Int).toNat).size ≤ 9223372036854775807
                               · rw [if_pos c61] at H
                                 have c61b0 := eq_true c61
                                 have c61b1 : decide (x28_2.size + (a0.extract (x29_2 : Int).toNat ((wrap64 (x29_2 + 1)) : Int).toNat).size ≤ 9223372036854775807) = true := decide_eq_true c61
                                 try have c61b2 : (9223372036854775807 < x28_2.size + (a0.extract (x29_2 : Int).toNat ((wrap64 (x29_2 + 1)) : Int).toNat).size) = False := eq_false (Nat.not_lt.2 c61)
                                 try have c61b3 : (9223372036854775807 < x28_2.size + ((wrap64 (x29_2 + 1)).toNat - x29_2.toNat)) = False := eq_false (Nat.not_lt.2 (by have h_ := c61; simp only [ByteArray.size_append, ByteArray.size_extract] at h_; have := of_decide_eq_true (p := (wrap64 (x29_2 + 1)) ≤ (a0.size : Int)) (by assumption); omega))
                                 have H' := Aside0.mk H
                                 clear H
                                 go_wp2
                                 repeat (go_quiet (fail); try go_wp2)
                                 go_roundg k2
                                 case measure => have := HJ8.out; have := HK2.out; omega
                                 case rel => exact ⟨(x28_2 ++ (a0.extract (x29_2 : Int).toNat ((wrap64 (x29_2 + 1)) : Int).toNat)), (wrap64 (x29_2 + 1)), (by first | rfl | (simp; done) | (simp [*]; done)), (by first | rfl | (simp; done) | (simp [*]; done)), H', ⟨by have := HJ8.out; have := HK2.out; omega⟩, ⟨by repeat (first | (with_reducible first | exact HB.out | apply below_alloc | apply pw_below_drewN | apply below_drew1) | exact HB.out)⟩⟩
                               · rw [if_neg c61] at H
                                 exact absurd H (by simp)
                             · rw [if_neg c60] at H
                               exact absurd H (by simp)
                           · rw [if_neg c59] at H
                             exact absurd H (by simp)
                         · rw [if_neg c58] at H
                           exact absurd H (by simp)
                       · rw [if_neg c57] at H
                         have c57b0 : decide (x29_2 < (wrap64 (Int.tmod (IntKind.u64.wrap (a3)) (IntKind.u64.wrap (wrap64 ((a0.size : Int) + 1)))))) = false := decide_eq_false c57
                         clear c57
                         by_cases c62 : x29_2 ≥ (wrap64 ((wrap64 (Int.tmod (IntKind.u64.wrap (a3)) (IntKind.u64.wrap (wrap64 ((a0.size : Int) + 1))))) + (wrap64 (Int.tmod (IntKind.u64.wrap (a4)) (IntKind.u64.wrap (wrap64 ((wrap64 ((a0.size : Int) - (wrap64 (Int.tmod (IntKind.u64.wrap (a3)) (IntKind.u64.wrap (wrap64 ((a0.size : Int) + 1))))))) + 1)))))))
                         · rw [if_pos c62] at H
                           have c62b0 : decide ((wrap64 ((wrap64 (Int.tmod (IntKind.u64.wrap (a3)) (IntKind.u64.wrap (wrap64 ((a0.size : Int) + 1))))) + (wrap64 (Int.tmod (IntKind.u64.wrap (a4)) (IntKind.u64.wrap (wrap64 ((wrap64 ((a0.size : Int) - (wrap64 (Int.tmod (IntKind.u64.wrap (a3)) (IntKind.u64.wrap (wrap64 ((a0.size : Int) + 1))))))) + 1))))))) ≤ x29_2) = true := decide_eq_true c62
                           clear c62
                           by_cases c63 : 0 ≤ x29_2
                           · rw [if_pos c63] at H
                             have c63b0 := eq_true c63
                             have c63b1 : decide (0 ≤ x29_2) = true := decide_eq_true c63
                             clear c63
                             by_cases c64 : x29_2 ≤ (wrap64 (x29_2 + 1))
                             · rw [if_pos c64] at H
                               have c64b0 := eq_true c64
                               have c64b1 : decide (x29_2 ≤ (wrap64 (x29_2 + 1))) = true := decide_eq_true c64
                               by_cases c65 : (wrap64 (x29_2 + 1)) ≤ (a0.size : Int)
                               · rw [if_pos c65] at H
                                 have c65b0 := eq_true c65
                                 have c65b1 : decide ((wrap64 (x29_2 + 1)) ≤ (a0.size : Int)) = true := decide_eq_true c65
                                 by_cases c66 : x28_2.size + (a0.extract (x29_2 : Int).toNat ((wrap64 (x29_2 + 1)) : Int).toNat).size ≤ 9223372036854775807
                                 · rw [if_pos c66] at H
                                   have c66b0 := eq_true c66
                                   have c66b1 : decide (x28_2.size + (a0.extract (x29_2 : Int).toNat ((wrap64 (x29_2 + 1)) : Int).toNat).size ≤ 9223372036854775807) = true := decide_eq_true c66
                                   try have c66b2 : (9223372036854775807 < x28_2.size + (a0.extract (x29_2 : Int).toNat ((wrap64 (x29_2 + 1)) : Int).toNat).size) = False := eq_false (Nat.not_lt.2 c66)
                                   try have c66b3 : (9223372036854775807 < x28_2.size + ((wrap64 (x29_2 + 1)).toNat - x29_2.toNat)) = False := eq_false (Nat.not_lt.2 (by have h_ := c66; simp only [ByteArray.size_append, ByteArray.size_extract] at h_; have := of_decide_eq_true (p := (wrap64 (x29_2 + 1)) ≤ (a0.size : Int)) (by assumption); omega))
                                   have H' := Aside0.mk H
                                   clear H
                                   go_wp2
                                   repeat (go_quiet (fail); try go_wp2)
                                   go_roundg k2
                                   case measure => have := HJ8.out; have := HK2.out; omega
                                   case rel => exact ⟨(x28_2 ++ (a0.extract (x29_2 : Int).toNat ((wrap64 (x29_2 + 1)) : Int).toNat)), (wrap64 (x29_2 + 1)), (by first | rfl | (simp; done) | (simp [*]; done)), (by first | rfl | (simp; done) | (simp [*]; done)), H', ⟨by have := HJ8.out; have := HK2.out; omega⟩, ⟨by repeat (first | (with_reducible first | exact HB.out | apply below_alloc | apply pw_below_drewN | apply below_drew1) | exact HB.out)⟩⟩
                                 · rw [if_neg c66] at H
                                   exact absurd H (by simp)
                               · rw [if_neg c65] at H
                                 exact absurd H (by simp)
                             · rw [if_neg c64] at H
                               exact absurd H (by simp)
                           · rw [if_neg c63] at H
                             exact absurd H (by simp)
                         · rw [if_neg c62] at H
                           have c62b0 : decide ((wrap64 ((wrap64 (Int.tmod (IntKind.u64.wrap (a3)) (IntKind.u64.wrap (wrap64 ((a0.size : Int) + 1))))) + (wrap64 (Int.tmod (IntKind.u64.wrap (a4)) (IntKind.u64.wrap (wrap64 ((wrap64 ((a0.size : Int) - (wrap64 (Int.tmod (IntKind.u64.wrap (a3)) (IntKind.u64.wrap (wrap64 ((a0.size : Int) + 1))))))) + 1))))))) ≤ x29_2) = false := decide_eq_false c62
                           clear c62
                           have H' := Aside0.mk H
                           clear H
                           go_wp2
                           repeat (go_quiet (fail); try go_wp2)
                           go_roundg k2
                           case measure => have := HJ8.out; have := HK2.out; omega
                           case rel => exact ⟨(x28_2), (wrap64 (x29_2 + 1)), (by first | rfl | (simp; done) | (simp [*]; done)), (by first | rfl | (simp; done) | (simp [*]; done)), H', ⟨by have := HJ8.out; have := HK2.out; omega⟩, ⟨by repeat (first | (with_reducible first | exact HB.out | apply below_alloc | apply pw_below_drewN | apply below_drew1) | exact HB.out)⟩⟩
                     · rw [if_neg c56] at H
                       have c56b0 : decide (x29_2 < (wrap64 (Int.tmod (IntKind.u64.wrap (a1)) (IntKind.u64.wrap (wrap64 ((a0.size : Int) + 1)))))) = false := decide_eq_false c56
                       clear c56
                       by_cases c67 : x29_2 ≥ (wrap64 ((wrap64 (Int.tmod (IntKind.u64.wrap (a1)) (IntKind.u64.wrap (wrap64 ((a0.size : Int) + 1))))) + (wrap64 (Int.tmod (IntKind.u64.wrap (a2)) (IntKind.u64.wrap (wrap64 ((wrap64 ((a0.size : Int) - (wrap64 (Int.tmod (IntKind.u64.wrap (a1)) (IntKind.u64.wrap (wrap64 ((a0.size : Int) + 1))))))) + 1)))))))
                       · rw [if_pos c67] at H
                         have c67b0 : decide ((wrap64 ((wrap64 (Int.tmod (IntKind.u64.wrap (a1)) (IntKind.u64.wrap (wrap64 ((a0.size : Int) + 1))))) + (wrap64 (Int.tmod (IntKind.u64.wrap (a2)) (IntKind.u64.wrap (wrap64 ((wrap64 ((a0.size : Int) - (wrap64 (Int.tmod (IntKind.u64.wrap (a1)) (IntKind.u64.wrap (wrap64 ((a0.size : Int) + 1))))))) + 1))))))) ≤ x29_2) = true := decide_eq_true c67
                         clear c67
                         by_cases c68 : x29_2 < (wrap64 (Int.tmod (IntKind.u64.wrap (a3)) (IntKind.u64.wrap (wrap64 ((a0.size : Int) + 1)))))
                         · rw [if_pos c68] at H
                           have c68b0 : decide (x29_2 < (wrap64 (Int.tmod (IntKind.u64.wrap (a3)) (IntKind.u64.wrap (wrap64 ((a0.size : Int) + 1)))))) = true := decide_eq_true c68
                           clear c68
                           by_cases c69 : 0 ≤ x29_2
                           · rw [if_pos c69] at H
                             have c69b0 := eq_true c69
                             have c69b1 : decide (0 ≤ x29_2) = true := decide_eq_true c69
                             clear c69
                             by_cases c70 : x29_2 ≤ (wrap64 (x29_2 + 1))
                             · rw [if_pos c70] at H
                               have c70b0 := eq_true c70
                               have c70b1 : decide (x29_2 ≤ (wrap64 (x29_2 + 1))) = true := decide_eq_true c70
                               by_cases c71 : (wrap64 (x29_2 + 1)) ≤ (a0.size : Int)
                               · rw [if_pos c71] at H
                                 have c71b0 := eq_true c71
                                 have c71b1 : decide ((wrap64 (x29_2 + 1)) ≤ (a0.size : Int)) = true := decide_eq_true c71
                                 by_cases c72 : x28_2.size + (a0.extract (x29_2 : Int).toNat ((wrap64 (x29_2 + 1)) : Int).toNat).size ≤ 9223372036854775807
                                 · rw [if_pos c72] at H
                                   have c72b0 := eq_true c72
                                   have c72b1 : decide (x28_2.size + (a0.extract (x29_2 : Int).toNat ((wrap64 (x29_2 + 1)) : Int).toNat).size ≤ 9223372036854775807) = true := decide_eq_true c72
                                   try have c72b2 : (9223372036854775807 < x28_2.size + (a0.extract (x29_2 : Int).toNat ((wrap64 (x29_2 + 1)) : Int).toNat).size) = False := eq_false (Nat.not_lt.2 c72)
                                   try have c72b3 : (9223372036854775807 < x28_2.size + ((wrap64 (x29_2 + 1)).toNat - x29_2.toNat)) = False := eq_false (Nat.not_lt.2 (by have h_ := c72; simp only [ByteArray.size_append, ByteArray.size_extract] at h_; have := of_decide_eq_true (p := (wrap64 (x29_2 + 1)) ≤ (a0.size : Int)) (by assumption); omega))
                                   have H' := Aside0.mk H
                                   clear H
                                   go_wp2
                                   repeat (go_quiet (fail); try go_wp2)
                                   go_roundg k2
                                   case measure => have := HJ8.out; have := HK2.out; omega
                                   case rel => exact ⟨(x28_2 ++ (a0.extract (x29_2 : Int).toNat ((wrap64 (x29_2 + 1)) : Int).toNat)), (wrap64 (x29_2 + 1)), (by first | rfl | (simp; done) | (simp [*]; done)), (by first | rfl | (simp; done) | (simp [*]; done)), H', ⟨by have := HJ8.out; have := HK2.out; omega⟩, ⟨by repeat (first | (with_reducible first | exact HB.out | apply below_alloc | apply pw_below_drewN | apply below_drew1) | exact HB.out)⟩⟩
                                 · rw [if_neg c72] at H
                                   exact absurd H (by simp)
                               · rw [if_neg c71] at H
                                 exact absurd H (by simp)
                             · rw [if_neg c70] at H
                               exact absurd H (by simp)
                           · rw [if_neg c69] at H
                             exact absurd H (by simp)
                         · rw [if_neg c68] at H
                           have c68b0 : decide (x29_2 < (wrap64 (Int.tmod (IntKind.u64.wrap (a3)) (IntKind.u64.wrap (wrap64 ((a0.size : Int) + 1)))))) = false := decide_eq_false c68
                           clear c68
                           by_cases c73 : x29_2 ≥ (wrap64 ((wrap64 (Int.tmod (IntKind.u64.wrap (a3)) (IntKind.u64.wrap (wrap64 ((a0.size : Int) + 1))))) + (wrap64 (Int.tmod (IntKind.u64.wrap (a4)) (IntKind.u64.wrap (wrap64 ((wrap64 ((a0.size : Int) - (wrap64 (Int.tmod (IntKind.u64.wrap (a3)) (IntKind.u64.wrap (wrap64 ((a0.size : Int) + 1))))))) + 1)))))))
                           · rw [if_pos c73] at H
                             have c73b0 : decide ((wrap64 ((wrap64 (Int.tmod (IntKind.u64.wrap (a3)) (IntKind.u64.wrap (wrap64 ((a0.size : Int) + 1))))) + (wrap64 (Int.tmod (IntKind.u64.wrap (a4)) (IntKind.u64.wrap (wrap64 ((wrap64 ((a0.size : Int) - (wrap64 (Int.tmod (IntKind.u64.wrap (a3)) (IntKind.u64.wrap (wrap64 ((a0.size : Int) + 1))))))) + 1))))))) ≤ x29_2) = true := decide_eq_true c73
                             clear c73
                             by_cases c74 : 0 ≤ x29_2
                             · rw [if_pos c74] at H
                               have c74b0 := eq_true c74
                               have c74b1 : decide (0 ≤ x29_2) = true := decide_eq_true c74
                               clear c74
                               by_cases c75 : x29_2 ≤ (wrap64 (x29_2 + 1))
                               · rw [if_pos c75] at H
                                 have c75b0 := eq_true c75
                                 have c75b1 : decide (x29_2 ≤ (wrap64 (x29_2 + 1))) = true := decide_eq_true c75
                                 by_cases c76 : (wrap64 (x29_2 + 1)) ≤ (a0.size : Int)
                                 · rw [if_pos c76] at H
                                   have c76b0 := eq_true c76
                                   have c76b1 : decide ((wrap64 (x29_2 + 1)) ≤ (a0.size : Int)) = true := decide_eq_true c76
                                   by_cases c77 : x28_2.size + (a0.extract (x29_2 : Int).toNat ((wrap64 (x29_2 + 1)) : Int).toNat).size ≤ 9223372036854775807
                                   · rw [if_pos c77] at H
                                     have c77b0 := eq_true c77
                                     have c77b1 : decide (x28_2.size + (a0.extract (x29_2 : Int).toNat ((wrap64 (x29_2 + 1)) : Int).toNat).size ≤ 9223372036854775807) = true := decide_eq_true c77
                                     try have c77b2 : (9223372036854775807 < x28_2.size + (a0.extract (x29_2 : Int).toNat ((wrap64 (x29_2 + 1)) : Int).toNat).size) = False := eq_false (Nat.not_lt.2 c77)
                                     try have c77b3 : (9223372036854775807 < x28_2.size + ((wrap64 (x29_2 + 1)).toNat - x29_2.toNat)) = False := eq_false (Nat.not_lt.2 (by have h_ := c77; simp only [ByteArray.size_append, ByteArray.size_extract] at h_; have := of_decide_eq_true (p := (wrap64 (x29_2 + 1)) ≤ (a0.size : Int)) (by assumption); omega))
                                     have H' := Aside0.mk H
                                     clear H
                                     go_wp2
                                     repeat (go_quiet (fail); try go_wp2)
                                     go_roundg k2
                                     case measure => have := HJ8.out; have := HK2.out; omega
                                     case rel => exact ⟨(x28_2 ++ (a0.extract (x29_2 : Int).toNat ((wrap64 (x29_2 + 1)) : Int).toNat)), (wrap64 (x29_2 + 1)), (by first | rfl | (simp; done) | (simp [*]; done)), (by first | rfl | (simp; done) | (simp [*]; done)), H', ⟨by have := HJ8.out; have := HK2.out; omega⟩, ⟨by repeat (first | (with_reducible first | exact HB.out | apply below_alloc | apply pw_below_drewN | apply below_drew1) | exact HB.out)⟩⟩
                                   · rw [if_neg c77] at H
                                     exact absurd H (by simp)
                                 · rw [if_neg c76] at H
                                   exact absurd H (by simp)
                               · rw [if_neg c75] at H
                                 exact absurd H (by simp)
                             · rw [if_neg c74] at H
                               exact absurd H (by simp)
                           · rw [if_neg c73] at H
                             have c73b0 : decide ((wrap64 ((wrap64 (Int.tmod (IntKind.u64.wrap (a3)) (IntKind.u64.wrap (wrap64 ((a0.size : Int) + 1))))) + (wrap64 (Int.tmod (IntKind.u64.wrap (a4)) (IntKind.u64.wrap (wrap64 ((wrap64 ((a0.size : Int) - (wrap64 (Int.tmod (IntKind.u64.wrap (a3)) (IntKind.u64.wrap (wrap64 ((a0.size : Int) + 1))))))) + 1))))))) ≤ x29_2) = false := decide_eq_false c73
                             clear c73
                             have H' := Aside0.mk H
                             clear H
                             go_wp2
                             repeat (go_quiet (fail); try go_wp2)
                             go_roundg k2
                             case measure => have := HJ8.out; have := HK2.out; omega
                             case rel => exact ⟨(x28_2), (wrap64 (x29_2 + 1)), (by first | rfl | (simp; done) | (simp [*]; done)), (by first | rfl | (simp; done) | (simp [*]; done)), H', ⟨by have := HJ8.out; have := HK2.out; omega⟩, ⟨by repeat (first | (with_reducible first | exact HB.out | apply below_alloc | apply pw_below_drewN | apply below_drew1) | exact HB.out)⟩⟩
                       · rw [if_neg c67] at H
                         have c67b0 : decide ((wrap64 ((wrap64 (Int.tmod (IntKind.u64.wrap (a1)) (IntKind.u64.wrap (wrap64 ((a0.size : Int) + 1))))) + (wrap64 (Int.tmod (IntKind.u64.wrap (a2)) (IntKind.u64.wrap (wrap64 ((wrap64 ((a0.size : Int) - (wrap64 (Int.tmod (IntKind.u64.wrap (a1)) (IntKind.u64.wrap (wrap64 ((a0.size : Int) + 1))))))) + 1))))))) ≤ x29_2) = false := decide_eq_false c67
                         clear c67
                         have H' := Aside0.mk H
                         clear H
                         go_wp2
                         repeat (go_quiet (fail); try go_wp2)
                         go_roundg k2
                         case measure => have := HJ8.out; have := HK2.out; omega
                         case rel => exact ⟨(x28_2), (wrap64 (x29_2 + 1)), (by first | rfl | (simp; done) | (simp [*]; done)), (by first | rfl | (simp; done) | (simp [*]; done)), H', ⟨by have := HJ8.out; have := HK2.out; omega⟩, ⟨by repeat (first | (with_reducible first | exact HB.out | apply below_alloc | apply pw_below_drewN | apply below_drew1) | exact HB.out)⟩⟩
                   · rw [if_neg c55] at H
                     have c55b0 : decide (x29_2 < (a0.size : Int)) = false := decide_eq_false c55
                     clear c55
                     have H' := Aside0.mk H
                     clear H
                     go_wp2
                     repeat (go_quiet (fail); try go_wp2)
                     go_roundg k2
                     case measure => have := HJ8.out; have := HK2.out; omega
                     case rel => exact ⟨(x28_2), (wrap64 (x29_2 + 1)), (by first | rfl | (simp; done) | (simp [*]; done)), (by first | rfl | (simp; done) | (simp [*]; done)), H', ⟨by have := HJ8.out; have := HK2.out; omega⟩, ⟨by repeat (first | (with_reducible first | exact HB.out | apply below_alloc | apply pw_below_drewN | apply below_drew1) | exact HB.out)⟩⟩
               · rw [if_neg c29] at H
                 have c29b0 : decide (x29_2 ≤ (a0.size : Int)) = false := decide_eq_false c29
                 clear c29
                 by_cases c78 : t103 = 0
                 · rw [if_pos c78] at H
                   have c78b0 : (t103 == 0) = true := beq_iff_eq.mpr c78
                   have c78b1 : (t103 != 0) = false := bne_eq_false_iff_eq.mpr c78
                   clear c78
                   by_cases c79 : t107 = 0
                   · rw [if_pos c79] at H
                     have c79b0 : (t107 == 0) = true := beq_iff_eq.mpr c79
                     have c79b1 : (t107 != 0) = false := bne_eq_false_iff_eq.mpr c79
                     clear c79
                     replace H := Option.bind_eq_some_iff.mp H
                     obtain ⟨t121, A800, H⟩ := H
                     replace H : (if t121 = 0 then (if t118 = 0 then (if t120 = 0 then (some (t119.toList == x28_2.toList)) else (none)) else (none)) else (none)) = some r := H
                     have A80 := Aside0.mk A800
                     clear A800
                     by_cases c81 : t121 = 0
                     · rw [if_pos c81] at H
                       have c81b0 : (t121 == 0) = true := beq_iff_eq.mpr c81
                       have c81b1 : (t121 != 0) = false := bne_eq_false_iff_eq.mpr c81
                       clear c81
                       by_cases c82 : t118 = 0
                       · rw [if_pos c82] at H
                         have c82b0 : (t118 == 0) = true := beq_iff_eq.mpr c82
                         have c82b1 : (t118 != 0) = false := bne_eq_false_iff_eq.mpr c82
                         clear c82
                         by_cases c83 : t120 = 0
                         · rw [if_pos c83] at H
                           have c83b0 : (t120 == 0) = true := beq_iff_eq.mpr c83
                           have c83b1 : (t120 != 0) = false := bne_eq_false_iff_eq.mpr c83
                           clear c83
                           obtain rfl := Option.some.inj H
                           go_wp2_with (first | (go_at_call 17; (with_reducible refine (minuetlaw0_Num.calls t112 t121 _ A80.out).mono ?_); rintro e w' ⟨rfl, ⟨nd, rfl⟩⟩; (try first | exact ⟨rfl, _, World.drewN_drewN _ _ _⟩ | exact ⟨rfl, _, Eq.trans (World.drewN_drewN _ _ _) (congrArg (World.drewN _) (Nat.add_assoc _ _ _))⟩)))
                           repeat (go_quiet (first | (go_at_call 17; (with_reducible refine (minuetlaw0_Num.calls t112 t121 _ A80.out).mono ?_); rintro e w' ⟨rfl, ⟨nd, rfl⟩⟩; (try first | exact ⟨rfl, _, World.drewN_drewN _ _ _⟩ | exact ⟨rfl, _, Eq.trans (World.drewN_drewN _ _ _) (congrArg (World.drewN _) (Nat.add_assoc _ _ _))⟩))); try go_wp2_with (first | (go_at_call 17; (with_reducible refine (minuetlaw0_Num.calls t112 t121 _ A80.out).mono ?_); rintro e w' ⟨rfl, ⟨nd, rfl⟩⟩; (try first | exact ⟨rfl, _, World.drewN_drewN _ _ _⟩ | exact ⟨rfl, _, Eq.trans (World.drewN_drewN _ _ _) (congrArg (World.drewN _) (Nat.add_assoc _ _ _))⟩))))
                           go_ret
                           exact ⟨by first | rfl | (simp [errW_none, errW_some] <;> rfl) | (simp [*, errW_none, errW_some] <;> rfl), by repeat (first | (with_reducible first | exact HB.out | apply below_alloc | apply pw_below_drewN | apply below_drew1) | exact HB.out)⟩
                         · rw [if_neg c83] at H
                           exact absurd H (by simp)
                       · rw [if_neg c82] at H
                         exact absurd H (by simp)
                     · rw [if_neg c81] at H
                       exact absurd H (by simp)
                   · rw [if_neg c79] at H
                     exact absurd H (by simp)
                 · rw [if_neg c78] at H
                   exact absurd H (by simp)
 · replace c8 := Bool.eq_false_iff.mpr c8
   subst c8
   have H1 : (none) = some r := by rw [if_neg (show ¬ (false = true) by decide)] at H; exact H
   clear H
   have H := H1
   clear H1
   exact absurd H (by simp)

/-- THE ONE PURE STATEMENT of minuetlaw5_TransformCuts: yours. -/
def minuetlaw5_TransformCuts.Pure : Prop := ∀ (a0 : ByteArray) (a1 : Int) (a2 : Int) (a3 : Int) (a4 : Int) (a5 : ByteArray), a0.size ≤ 140737488351232 → (Lit.int .i64 a1).wf = true → (Lit.int .i64 a2).wf = true → (Lit.int .i64 a3).wf = true → (Lit.int .i64 a4).wf = true → a5.size ≤ 140737488351232 → ∃ k, minuetlaw5_TransformCuts.f k a0 a1 a2 a3 a4 a5 = some true
theorem minuetlaw5_TransformCuts.walk (P : minuetlaw5_TransformCuts.Pure) (a0 : ByteArray) (a1 : Int) (a2 : Int) (a3 : Int) (a4 : Int) (a5 : ByteArray) (w : World) (w0 : a0.size ≤ 140737488351232) (w1 : (Lit.int .i64 a1).wf = true) (w2 : (Lit.int .i64 a2).wf = true) (w3 : (Lit.int .i64 a3).wf = true) (w4 : (Lit.int .i64 a4).wf = true) (w5 : a5.size ≤ 140737488351232) :
 Calls Try.prog 7 #[.string a0, .int .i64 a1, .int .i64 a2, .int .i64 a3, .int .i64 a4, .string a5] w fun e w' => e = .returned (.bool true) ∧ Below w.heap.size w w' := by
 obtain ⟨k, h⟩ := P a0 a1 a2 a3 a4 a5 w0 w1 w2 w3 w4 w5
 refine (minuetlaw5_TransformCuts.calls k a0 a1 a2 a3 a4 a5 true w h).mono ?_
 rintro e w' ⟨rfl, hd⟩
 exact ⟨rfl, hd⟩

end Go.Proofs.Ytldaokclpkcmmab.G
