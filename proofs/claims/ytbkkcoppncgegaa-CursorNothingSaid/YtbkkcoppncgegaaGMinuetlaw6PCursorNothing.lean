-- Laid by this session's own program gprint.py (wip/tools), out of the kit's print and of texts of this session. Lean checks it.
import Derived.Test.YtbkkcoppncgegaaGx0
import Derived.Test.YtbkkcoppncgegaaGMinuetlaw0PNum
import Derived.Test.YtbkkcoppncgegaaGCursorPMove
import Derived.Test.YtbkkcoppncgegaaGMinuetlaw6qawake
namespace Go.Proofs.Ytbkkcoppncgegaa.G
open Go.RowKit Go.Proofs.YtbkkcoppncgegaaW.PrintWords Go.Proofs.YtbkkcoppncgegaaW.PrintLast Go.Proofs.YtbkkcoppncgegaaW.PrintMore
attribute [local go_sem] max2_int min2_int max_two min_two max_three min_three max_four min_four   -- for this text's walks alone
set_option linter.unusedVariables false
set_option linter.unusedSimpArgs false

/-! ### minuetlaw6_CursorNothing: function 7 -/
mutual
def minuetlaw6_CursorNothing.j0 : Nat → ByteArray → Bool → Int → Int → Bool → Option (Bool)
 | 0, _, _, _, _, _ => none
 | k + 1, x2, x3, x9, x10, x41 => if x41 = true then (some true) else ((cursor_Move.f k (([(⟨0, x9, (⟨#[]⟩ : ByteArray)⟩ : S40)] : List (S40))) x10 x3).bind fun bt105 => ((cursor_Move.f k (([(⟨1, 0, x2⟩ : S40), (⟨0, x9, (⟨#[]⟩ : ByteArray)⟩ : S40)] : List (S40))) x10 x3).bind fun bt110 => ((cursor_Move.f k (([(⟨2, x9, (⟨#[]⟩ : ByteArray)⟩ : S40)] : List (S40))) x10 x3).bind fun bt115 => ((cursor_Move.f k (([(⟨0, x9, (⟨#[]⟩ : ByteArray)⟩ : S40)] : List (S40))) (wrap64 ((wrap64 (x9 + 1)) + x10)) x3).bind fun bt120 => ((cursor_Move.f k (([(⟨0, x9, (⟨#[]⟩ : ByteArray)⟩ : S40)] : List (S40))) (wrap64 ((-1) - x10)) x3).bind fun bt125 => (if x10 = 0 then (minuetlaw6_CursorNothing.j1 k x10 bt105.1 bt105.2 bt110.1 bt110.2 bt115.1 bt115.2 bt120.2 bt125.2 (wrap64 (x10 + (x2.size : Int))) (!x3)) else (minuetlaw6_CursorNothing.j1 k x10 bt105.1 bt105.2 bt110.1 bt110.2 bt115.1 bt115.2 bt120.2 bt125.2 (wrap64 (x10 + (x2.size : Int))) false)))))))
def minuetlaw6_CursorNothing.j1 : Nat → Int → Int → Int → Int → Int → Int → Int → Int → Int → Int → Bool → Option (Bool)
 | 0, _, _, _, _, _, _, _, _, _, _, _ => none
 | k + 1, x10, x11, x12, x13, x14, x15, x16, x18, x20, x21, x102 => if x102 = true then (minuetlaw6_CursorNothing.j2 k x10 x11 x12 x13 x14 x15 x16 x18 x20 0) else (minuetlaw6_CursorNothing.j2 k x10 x11 x12 x13 x14 x15 x16 x18 x20 x21)
def minuetlaw6_CursorNothing.j2 : Nat → Int → Int → Int → Int → Int → Int → Int → Int → Int → Int → Option (Bool)
 | 0, _, _, _, _, _, _, _, _, _, _ => none
 | k + 1, x10, x11, x12, x13, x14, x15, x16, x18, x20, x21 => if x11 = x10 then ((minuetlaw0_Num.f x12).bind fun t127 => (if t127 = 0 then (if x13 = x21 then ((minuetlaw0_Num.f x14).bind fun t128 => (if t128 = 0 then (if x15 = 0 then ((minuetlaw0_Num.f x16).bind fun t129 => (if t129 = 0 then ((minuetlaw0_Num.f x18).bind fun t130 => (if t130 = 600 then ((minuetlaw0_Num.f x20).bind fun t131 => (some (t131 == 600))) else (none))) else (none))) else (none)) else (none))) else (none)) else (none))) else (none)
end
def minuetlaw6_CursorNothing.f (k : Nat) (a0 : Int) (a1 : Int) (a2 : ByteArray) (a3 : Bool) : Option (Bool) := (minuetlaw6_awake.f k).bind fun t101 => (if t101 = true then (if (IntKind.u64.wrap (wrap64 ((wrap64 (1 + (Go.bits .and .i64 a0 255))) + 1))) = 0 then (none) else (if (a2.size : Int) < 1 then (minuetlaw6_CursorNothing.j0 k a2 a3 (wrap64 (1 + (Go.bits .and .i64 a0 255))) (wrap64 (Int.tmod (IntKind.u64.wrap (a1)) (IntKind.u64.wrap (wrap64 ((wrap64 (1 + (Go.bits .and .i64 a0 255))) + 1))))) true) else (minuetlaw6_CursorNothing.j0 k a2 a3 (wrap64 (1 + (Go.bits .and .i64 a0 255))) (wrap64 (Int.tmod (IntKind.u64.wrap (a1)) (IntKind.u64.wrap (wrap64 ((wrap64 (1 + (Go.bits .and .i64 a0 255))) + 1))))) (decide ((a2.size : Int) > 1000))))) else (none))
theorem minuetlaw6_CursorNothing.mono_l : ∀ k, (∀ y0 y1 y2 y3 y4, LeO (minuetlaw6_CursorNothing.j0 k y0 y1 y2 y3 y4) (minuetlaw6_CursorNothing.j0 (k + 1) y0 y1 y2 y3 y4)) ∧ (∀ y0 y1 y2 y3 y4 y5 y6 y7 y8 y9 y10, LeO (minuetlaw6_CursorNothing.j1 k y0 y1 y2 y3 y4 y5 y6 y7 y8 y9 y10) (minuetlaw6_CursorNothing.j1 (k + 1) y0 y1 y2 y3 y4 y5 y6 y7 y8 y9 y10)) ∧ (∀ y0 y1 y2 y3 y4 y5 y6 y7 y8 y9, LeO (minuetlaw6_CursorNothing.j2 k y0 y1 y2 y3 y4 y5 y6 y7 y8 y9) (minuetlaw6_CursorNothing.j2 (k + 1) y0 y1 y2 y3 y4 y5 y6 y7 y8 y9))
 | 0 => ⟨fun _ _ _ _ _ r h => by simp [minuetlaw6_CursorNothing.j0] at h, fun _ _ _ _ _ _ _ _ _ _ _ r h => by simp [minuetlaw6_CursorNothing.j1] at h, fun _ _ _ _ _ _ _ _ _ _ r h => by simp [minuetlaw6_CursorNothing.j2] at h⟩
 | k + 1 => by
  obtain ⟨ih0, ih1, ih2⟩ := minuetlaw6_CursorNothing.mono_l k
  refine ⟨?_, ?_, ?_⟩
  · intro y0 y1 y2 y3 y4
    unfold minuetlaw6_CursorNothing.j0
    repeat' first
    | (with_reducible exact ih0 _ _ _ _ _)
    | (with_reducible exact ih1 _ _ _ _ _ _ _ _ _ _ _)
    | (with_reducible exact ih2 _ _ _ _ _ _ _ _ _ _)
    | (with_reducible exact cursor_Move.mono _ _ _ _)
    | (with_reducible exact minuetlaw6_awake.mono _)
    | (with_reducible exact LeO.refl _)
    | (with_reducible exact LeO.none _)
    | (with_reducible refine LeO.ite ?_ ?_)
    | (with_reducible refine LeO.bind ?_ (fun _ => ?_))
    | exact ih0 _ _ _ _ _
    | exact ih1 _ _ _ _ _ _ _ _ _ _ _
    | exact ih2 _ _ _ _ _ _ _ _ _ _
    | exact cursor_Move.mono _ _ _ _
    | exact minuetlaw6_awake.mono _
    | exact LeO.none _
    | refine LeO.ite ?_ ?_
    | refine LeO.bind ?_ (fun _ => ?_)
  · intro y0 y1 y2 y3 y4 y5 y6 y7 y8 y9 y10
    unfold minuetlaw6_CursorNothing.j1
    repeat' first
    | (with_reducible exact ih0 _ _ _ _ _)
    | (with_reducible exact ih1 _ _ _ _ _ _ _ _ _ _ _)
    | (with_reducible exact ih2 _ _ _ _ _ _ _ _ _ _)
    | (with_reducible exact cursor_Move.mono _ _ _ _)
    | (with_reducible exact minuetlaw6_awake.mono _)
    | (with_reducible exact LeO.refl _)
    | (with_reducible exact LeO.none _)
    | (with_reducible refine LeO.ite ?_ ?_)
    | (with_reducible refine LeO.bind ?_ (fun _ => ?_))
    | exact ih0 _ _ _ _ _
    | exact ih1 _ _ _ _ _ _ _ _ _ _ _
    | exact ih2 _ _ _ _ _ _ _ _ _ _
    | exact cursor_Move.mono _ _ _ _
    | exact minuetlaw6_awake.mono _
    | exact LeO.none _
    | refine LeO.ite ?_ ?_
    | refine LeO.bind ?_ (fun _ => ?_)
  · intro y0 y1 y2 y3 y4 y5 y6 y7 y8 y9
    unfold minuetlaw6_CursorNothing.j2
    repeat' first
    | (with_reducible exact ih0 _ _ _ _ _)
    | (with_reducible exact ih1 _ _ _ _ _ _ _ _ _ _ _)
    | (with_reducible exact ih2 _ _ _ _ _ _ _ _ _ _)
    | (with_reducible exact cursor_Move.mono _ _ _ _)
    | (with_reducible exact minuetlaw6_awake.mono _)
    | (with_reducible exact LeO.refl _)
    | (with_reducible exact LeO.none _)
    | (with_reducible refine LeO.ite ?_ ?_)
    | (with_reducible refine LeO.bind ?_ (fun _ => ?_))
    | exact ih0 _ _ _ _ _
    | exact ih1 _ _ _ _ _ _ _ _ _ _ _
    | exact ih2 _ _ _ _ _ _ _ _ _ _
    | exact cursor_Move.mono _ _ _ _
    | exact minuetlaw6_awake.mono _
    | exact LeO.none _
    | refine LeO.ite ?_ ?_
    | refine LeO.bind ?_ (fun _ => ?_)
theorem minuetlaw6_CursorNothing.mono : ∀ a0 a1 a2 a3 k, LeO (minuetlaw6_CursorNothing.f k a0 a1 a2 a3) (minuetlaw6_CursorNothing.f (k + 1) a0 a1 a2 a3) := by
 intro a0 a1 a2 a3 k
 obtain ⟨ih0, ih1, ih2⟩ := minuetlaw6_CursorNothing.mono_l k
 unfold minuetlaw6_CursorNothing.f
 repeat' first
  | (with_reducible exact ih0 _ _ _ _ _)
  | (with_reducible exact ih1 _ _ _ _ _ _ _ _ _ _ _)
  | (with_reducible exact ih2 _ _ _ _ _ _ _ _ _ _)
  | (with_reducible exact cursor_Move.mono _ _ _ _)
  | (with_reducible exact minuetlaw6_awake.mono _)
  | (with_reducible exact LeO.refl _)
  | (with_reducible exact LeO.none _)
  | (with_reducible refine LeO.ite ?_ ?_)
  | (with_reducible refine LeO.bind ?_ (fun _ => ?_))
  | exact ih0 _ _ _ _ _
  | exact ih1 _ _ _ _ _ _ _ _ _ _ _
  | exact ih2 _ _ _ _ _ _ _ _ _ _
  | exact cursor_Move.mono _ _ _ _
  | exact minuetlaw6_awake.mono _
  | exact LeO.none _
  | refine LeO.ite ?_ ?_
  | refine LeO.bind ?_ (fun _ => ?_)
set_option maxHeartbeats 8000000 in
set_option maxRecDepth 100000 in
theorem minuetlaw6_CursorNothing.calls (k : Nat) (a0 : Int) (a1 : Int) (a2 : ByteArray) (a3 : Bool) (r : Bool) (w : World) (h : minuetlaw6_CursorNothing.f k a0 a1 a2 a3 = some r) :
 Calls Try.prog 7 #[.int .i64 a0, .int .i64 a1, .string a2, .bool a3] w fun e w' => e = .returned (.bool r) ∧ Below w.heap.size w w' := by
 have hu40 := Try.underlying40
 have HB := Aside0.mk (Below.refl w.heap.size w)
 have H : ((minuetlaw6_awake.f k).bind fun t101 => (if t101 = true then (if (IntKind.u64.wrap (wrap64 ((wrap64 (1 + (Go.bits .and .i64 a0 255))) + 1))) = 0 then (none) else (if (a2.size : Int) < 1 then (minuetlaw6_CursorNothing.j0 k a2 a3 (wrap64 (1 + (Go.bits .and .i64 a0 255))) (wrap64 (Int.tmod (IntKind.u64.wrap (a1)) (IntKind.u64.wrap (wrap64 ((wrap64 (1 + (Go.bits .and .i64 a0 255))) + 1))))) true) else (minuetlaw6_CursorNothing.j0 k a2 a3 (wrap64 (1 + (Go.bits .and .i64 a0 255))) (wrap64 (Int.tmod (IntKind.u64.wrap (a1)) (IntKind.u64.wrap (wrap64 ((wrap64 (1 + (Go.bits .and .i64 a0 255))) + 1))))) (decide ((a2.size : Int) > 1000))))) else (none))) = some r := h
 clear h
 replace H := Option.bind_eq_some_iff.mp H
 obtain ⟨t101, A50, H⟩ := H
 replace H : (if t101 = true then (if (IntKind.u64.wrap (wrap64 ((wrap64 (1 + (Go.bits .and .i64 a0 255))) + 1))) = 0 then (none) else (if (a2.size : Int) < 1 then (minuetlaw6_CursorNothing.j0 k a2 a3 (wrap64 (1 + (Go.bits .and .i64 a0 255))) (wrap64 (Int.tmod (IntKind.u64.wrap (a1)) (IntKind.u64.wrap (wrap64 ((wrap64 (1 + (Go.bits .and .i64 a0 255))) + 1))))) true) else (minuetlaw6_CursorNothing.j0 k a2 a3 (wrap64 (1 + (Go.bits .and .i64 a0 255))) (wrap64 (Int.tmod (IntKind.u64.wrap (a1)) (IntKind.u64.wrap (wrap64 ((wrap64 (1 + (Go.bits .and .i64 a0 255))) + 1))))) (decide ((a2.size : Int) > 1000))))) else (none)) = some r := H
 have A5 := Aside0.mk A50
 clear A50
 by_cases c6 : t101 = true
 · subst c6
   have H1 : (if (IntKind.u64.wrap (wrap64 ((wrap64 (1 + (Go.bits .and .i64 a0 255))) + 1))) = 0 then (none) else (if (a2.size : Int) < 1 then (minuetlaw6_CursorNothing.j0 k a2 a3 (wrap64 (1 + (Go.bits .and .i64 a0 255))) (wrap64 (Int.tmod (IntKind.u64.wrap (a1)) (IntKind.u64.wrap (wrap64 ((wrap64 (1 + (Go.bits .and .i64 a0 255))) + 1))))) true) else (minuetlaw6_CursorNothing.j0 k a2 a3 (wrap64 (1 + (Go.bits .and .i64 a0 255))) (wrap64 (Int.tmod (IntKind.u64.wrap (a1)) (IntKind.u64.wrap (wrap64 ((wrap64 (1 + (Go.bits .and .i64 a0 255))) + 1))))) (decide ((a2.size : Int) > 1000))))) = some r := by rw [if_pos rfl] at H; exact H
   clear H
   have H := H1
   clear H1
   by_cases c7 : (IntKind.u64.wrap (wrap64 ((wrap64 (1 + (Go.bits .and .i64 a0 255))) + 1))) = 0
   · rw [if_pos c7] at H
     exact absurd H (by simp)
   · rw [if_neg c7] at H
     have c7b0 : ((IntKind.u64.wrap (wrap64 ((wrap64 (1 + (Go.bits .and .i64 a0 255))) + 1))) == 0) = false := beq_eq_false_iff_ne.mpr c7
     have c7b1 : ((IntKind.u64.wrap (wrap64 ((wrap64 (1 + (Go.bits .and .i64 a0 255))) + 1))) != 0) = true := bne_iff_ne.mpr c7
     have HC8 := Aside0.mk H
     clear H
     go_enter Try.func7, Try.ntmps7
     go_upto_region 5 with (first | ((with_reducible refine gate_callee (f := 27) rfl ?_); refine goesL_ (some 22) rfl rfl Try.func27 (by kernel_rfl) rfl #[] rfl (by (try simp only [List.map_toArray, List.map_cons, List.map_nil]); first | done | rfl | (simp only [List.length_drop, List.length_take]; rfl)) ?_; (with_reducible refine (minuetlaw6_awake.calls k  true _ A5.out).mono ?_); rintro e w9 ⟨rfl, hb⟩; refine ⟨_, rfl, ?_⟩; have n0_ := Aside0.mk (below_step (by repeat (first | (with_reducible first | exact HB.out | apply below_alloc | apply pw_below_drewN | apply below_drew1) | exact HB.out)) hb); clear HB; have HB := n0_; clear n0_; (try clear hb); (try clear hb2); (try clear hk); (try clear hi)))
     (try simp only [Act.put, List.setIfInBounds_toArray, List.set_cons_zero, List.set_cons_succ])
     go_cut [41] (fun v41 wc => ∃ (kq : Nat) (x41_7 : Bool), v41 = .bool x41_7 ∧ Aside0 (minuetlaw6_CursorNothing.j0 kq a2 a3 (wrap64 (1 + (Go.bits .and .i64 a0 255))) (wrap64 (Int.tmod (IntKind.u64.wrap (a1)) (IntKind.u64.wrap (wrap64 ((wrap64 (1 + (Go.bits .and .i64 a0 255))) + 1))))) x41_7 = some r) ∧ Aside0 (kq ≤ k) ∧ Aside0 (Below w.heap.size w wc))
     case first =>
      have H := HC8.out
      clear HC8
      by_cases c10 : (a2.size : Int) < 1
      · rw [if_pos c10] at H
        have c10b0 : decide ((a2.size : Int) < 1) = true := decide_eq_true c10
        have c10b1 : decide (a2.size < 1) = true := decide_eq_true (by omega)
        clear c10
        (first | rw [c10b0] | (simp only [i64_w, i32_w]; rw [c10b0]) | skip)
        have H' := Aside0.mk H
        clear H
        go_wp2
        go_meet
        case rel => exact ⟨_, (true), (by first | rfl | (simp; done) | (simp [*]; done)), H', ⟨by first | omega | exact Nat.le_refl _⟩, ⟨by repeat (first | (with_reducible first | exact HB.out | apply below_alloc | apply pw_below_drewN | apply below_drew1) | exact HB.out)⟩⟩
      · rw [if_neg c10] at H
        have c10b0 : decide ((a2.size : Int) < 1) = false := decide_eq_false c10
        have c10b1 : decide (a2.size < 1) = false := decide_eq_false (by omega)
        clear c10
        (first | rw [c10b0] | (simp only [i64_w, i32_w]; rw [c10b0]) | skip)
        have H' := Aside0.mk H
        clear H
        go_wp2
        go_meet
        case rel => exact ⟨_, (decide ((a2.size : Int) > 1000)), (by first | rfl | (simp; done) | (simp [*]; done)), H', ⟨by first | omega | exact Nat.le_refl _⟩, ⟨by repeat (first | (with_reducible first | exact HB.out | apply below_alloc | apply pw_below_drewN | apply below_drew1) | exact HB.out)⟩⟩
     case rest =>
      clear HC8
      try clear c1
      try clear c2
      try clear p2
      try clear c6
      try clear p6
      try clear c7
      try clear c7b0
      try clear c7b1
      try clear c10
      try clear c10b0
      try clear c10b1
      obtain ⟨kq, x41_7, rfl, HA, HJ7, HB⟩ := hcut
      cases kq with
      | zero => exact absurd HA.out (by simp [minuetlaw6_CursorNothing.j0])
      | succ kj7 =>
       have H := HA.out
       clear HA
       simp only [minuetlaw6_CursorNothing.j0] at H
       by_cases c11 : x41_7 = true
       · subst c11
         have H1 : (some true) = some r := by rw [if_pos rfl] at H; exact H
         clear H
         have H := H1
         clear H1
         obtain rfl := Option.some.inj H
         go_wp2
         go_ret
         exact ⟨by first | rfl | (simp [errW_none, errW_some] <;> rfl) | (simp [*, errW_none, errW_some] <;> rfl), by repeat (first | (with_reducible first | exact HB.out | apply below_alloc | apply pw_below_drewN | apply below_drew1) | exact HB.out)⟩
       · replace c11 := Bool.eq_false_iff.mpr c11
         subst c11
         have H1 : ((cursor_Move.f kj7 (([(⟨0, (wrap64 (1 + (Go.bits .and .i64 a0 255))), (⟨#[]⟩ : ByteArray)⟩ : S40)] : List (S40))) (wrap64 (Int.tmod (IntKind.u64.wrap (a1)) (IntKind.u64.wrap (wrap64 ((wrap64 (1 + (Go.bits .and .i64 a0 255))) + 1))))) a3).bind fun bt105 => ((cursor_Move.f kj7 (([(⟨1, 0, a2⟩ : S40), (⟨0, (wrap64 (1 + (Go.bits .and .i64 a0 255))), (⟨#[]⟩ : ByteArray)⟩ : S40)] : List (S40))) (wrap64 (Int.tmod (IntKind.u64.wrap (a1)) (IntKind.u64.wrap (wrap64 ((wrap64 (1 + (Go.bits .and .i64 a0 255))) + 1))))) a3).bind fun bt110 => ((cursor_Move.f kj7 (([(⟨2, (wrap64 (1 + (Go.bits .and .i64 a0 255))), (⟨#[]⟩ : ByteArray)⟩ : S40)] : List (S40))) (wrap64 (Int.tmod (IntKind.u64.wrap (a1)) (IntKind.u64.wrap (wrap64 ((wrap64 (1 + (Go.bits .and .i64 a0 255))) + 1))))) a3).bind fun bt115 => ((cursor_Move.f kj7 (([(⟨0, (wrap64 (1 + (Go.bits .and .i64 a0 255))), (⟨#[]⟩ : ByteArray)⟩ : S40)] : List (S40))) (wrap64 ((wrap64 ((wrap64 (1 + (Go.bits .and .i64 a0 255))) + 1)) + (wrap64 (Int.tmod (IntKind.u64.wrap (a1)) (IntKind.u64.wrap (wrap64 ((wrap64 (1 + (Go.bits .and .i64 a0 255))) + 1))))))) a3).bind fun bt120 => ((cursor_Move.f kj7 (([(⟨0, (wrap64 (1 + (Go.bits .and .i64 a0 255))), (⟨#[]⟩ : ByteArray)⟩ : S40)] : List (S40))) (wrap64 ((-1) - (wrap64 (Int.tmod (IntKind.u64.wrap (a1)) (IntKind.u64.wrap (wrap64 ((wrap64 (1 + (Go.bits .and .i64 a0 255))) + 1))))))) a3).bind fun bt125 => (if (wrap64 (Int.tmod (IntKind.u64.wrap (a1)) (IntKind.u64.wrap (wrap64 ((wrap64 (1 + (Go.bits .and .i64 a0 255))) + 1))))) = 0 then (minuetlaw6_CursorNothing.j1 kj7 (wrap64 (Int.tmod (IntKind.u64.wrap (a1)) (IntKind.u64.wrap (wrap64 ((wrap64 (1 + (Go.bits .and .i64 a0 255))) + 1))))) bt105.1 bt105.2 bt110.1 bt110.2 bt115.1 bt115.2 bt120.2 bt125.2 (wrap64 ((wrap64 (Int.tmod (IntKind.u64.wrap (a1)) (IntKind.u64.wrap (wrap64 ((wrap64 (1 + (Go.bits .and .i64 a0 255))) + 1))))) + (a2.size : Int))) (!a3)) else (minuetlaw6_CursorNothing.j1 kj7 (wrap64 (Int.tmod (IntKind.u64.wrap (a1)) (IntKind.u64.wrap (wrap64 ((wrap64 (1 + (Go.bits .and .i64 a0 255))) + 1))))) bt105.1 bt105.2 bt110.1 bt110.2 bt115.1 bt115.2 bt120.2 bt125.2 (wrap64 ((wrap64 (Int.tmod (IntKind.u64.wrap (a1)) (IntKind.u64.wrap (wrap64 ((wrap64 (1 + (Go.bits .and .i64 a0 255))) + 1))))) + (a2.size : Int))) false))))))) = some r := by rw [if_neg (show ¬ (false = true) by decide)] at H; exact H
         clear H
         have H := H1
         clear H1
         obtain ⟨y102, hy102⟩ : ∃ y_ : List (S40), y_ = (([(⟨0, (wrap64 (1 + (Go.bits .and .i64 a0 255))), (⟨#[]⟩ : ByteArray)⟩ : S40)] : List (S40))) := ⟨_, rfl⟩
         replace H : ((cursor_Move.f kj7 y102 (wrap64 (Int.tmod (IntKind.u64.wrap (a1)) (IntKind.u64.wrap (wrap64 ((wrap64 (1 + (Go.bits .and .i64 a0 255))) + 1))))) a3).bind fun bt105 => ((cursor_Move.f kj7 (([(⟨1, 0, a2⟩ : S40), (⟨0, (wrap64 (1 + (Go.bits .and .i64 a0 255))), (⟨#[]⟩ : ByteArray)⟩ : S40)] : List (S40))) (wrap64 (Int.tmod (IntKind.u64.wrap (a1)) (IntKind.u64.wrap (wrap64 ((wrap64 (1 + (Go.bits .and .i64 a0 255))) + 1))))) a3).bind fun bt110 => ((cursor_Move.f kj7 (([(⟨2, (wrap64 (1 + (Go.bits .and .i64 a0 255))), (⟨#[]⟩ : ByteArray)⟩ : S40)] : List (S40))) (wrap64 (Int.tmod (IntKind.u64.wrap (a1)) (IntKind.u64.wrap (wrap64 ((wrap64 (1 + (Go.bits .and .i64 a0 255))) + 1))))) a3).bind fun bt115 => ((cursor_Move.f kj7 (([(⟨0, (wrap64 (1 + (Go.bits .and .i64 a0 255))), (⟨#[]⟩ : ByteArray)⟩ : S40)] : List (S40))) (wrap64 ((wrap64 ((wrap64 (1 + (Go.bits .and .i64 a0 255))) + 1)) + (wrap64 (Int.tmod (IntKind.u64.wrap (a1)) (IntKind.u64.wrap (wrap64 ((wrap64 (1 + (Go.bits .and .i64 a0 255))) + 1))))))) a3).bind fun bt120 => ((cursor_Move.f kj7 (([(⟨0, (wrap64 (1 + (Go.bits .and .i64 a0 255))), (⟨#[]⟩ : ByteArray)⟩ : S40)] : List (S40))) (wrap64 ((-1) - (wrap64 (Int.tmod (IntKind.u64.wrap (a1)) (IntKind.u64.wrap (wrap64 ((wrap64 (1 + (Go.bits .and .i64 a0 255))) + 1))))))) a3).bind fun bt125 => (if (wrap64 (Int.tmod (IntKind.u64.wrap (a1)) (IntKind.u64.wrap (wrap64 ((wrap64 (1 + (Go.bits .and .i64 a0 255))) + 1))))) = 0 then (minuetlaw6_CursorNothing.j1 kj7 (wrap64 (Int.tmod (IntKind.u64.wrap (a1)) (IntKind.u64.wrap (wrap64 ((wrap64 (1 + (Go.bits .and .i64 a0 255))) + 1))))) bt105.1 bt105.2 bt110.1 bt110.2 bt115.1 bt115.2 bt120.2 bt125.2 (wrap64 ((wrap64 (Int.tmod (IntKind.u64.wrap (a1)) (IntKind.u64.wrap (wrap64 ((wrap64 (1 + (Go.bits .and .i64 a0 255))) + 1))))) + (a2.size : Int))) (!a3)) else (minuetlaw6_CursorNothing.j1 kj7 (wrap64 (Int.tmod (IntKind.u64.wrap (a1)) (IntKind.u64.wrap (wrap64 ((wrap64 (1 + (Go.bits .and .i64 a0 255))) + 1))))) bt105.1 bt105.2 bt110.1 bt110.2 bt115.1 bt115.2 bt120.2 bt125.2 (wrap64 ((wrap64 (Int.tmod (IntKind.u64.wrap (a1)) (IntKind.u64.wrap (wrap64 ((wrap64 (1 + (Go.bits .and .i64 a0 255))) + 1))))) + (a2.size : Int))) false))))))) = some r := by first | (rw [hy102]; with_reducible exact H) | (have H2_ := (Option.bind_some _ _).symm.trans H; rw [hy102]; with_reducible exact H2_) | (have H2_ := (Option.bind_some _ _).symm.trans H; with_reducible exact H2_) | with_reducible exact H | (rw [hy102]; exact H) | exact H
         have Ny102 := Aside0.mk hy102
         clear hy102
         replace H := Option.bind_eq_some_iff.mp H
         obtain ⟨⟨t105, t106⟩, A120, H⟩ := H
         replace H : ((cursor_Move.f kj7 (([(⟨1, 0, a2⟩ : S40), (⟨0, (wrap64 (1 + (Go.bits .and .i64 a0 255))), (⟨#[]⟩ : ByteArray)⟩ : S40)] : List (S40))) (wrap64 (Int.tmod (IntKind.u64.wrap (a1)) (IntKind.u64.wrap (wrap64 ((wrap64 (1 + (Go.bits .and .i64 a0 255))) + 1))))) a3).bind fun bt110 => ((cursor_Move.f kj7 (([(⟨2, (wrap64 (1 + (Go.bits .and .i64 a0 255))), (⟨#[]⟩ : ByteArray)⟩ : S40)] : List (S40))) (wrap64 (Int.tmod (IntKind.u64.wrap (a1)) (IntKind.u64.wrap (wrap64 ((wrap64 (1 + (Go.bits .and .i64 a0 255))) + 1))))) a3).bind fun bt115 => ((cursor_Move.f kj7 (([(⟨0, (wrap64 (1 + (Go.bits .and .i64 a0 255))), (⟨#[]⟩ : ByteArray)⟩ : S40)] : List (S40))) (wrap64 ((wrap64 ((wrap64 (1 + (Go.bits .and .i64 a0 255))) + 1)) + (wrap64 (Int.tmod (IntKind.u64.wrap (a1)) (IntKind.u64.wrap (wrap64 ((wrap64 (1 + (Go.bits .and .i64 a0 255))) + 1))))))) a3).bind fun bt120 => ((cursor_Move.f kj7 (([(⟨0, (wrap64 (1 + (Go.bits .and .i64 a0 255))), (⟨#[]⟩ : ByteArray)⟩ : S40)] : List (S40))) (wrap64 ((-1) - (wrap64 (Int.tmod (IntKind.u64.wrap (a1)) (IntKind.u64.wrap (wrap64 ((wrap64 (1 + (Go.bits .and .i64 a0 255))) + 1))))))) a3).bind fun bt125 => (if (wrap64 (Int.tmod (IntKind.u64.wrap (a1)) (IntKind.u64.wrap (wrap64 ((wrap64 (1 + (Go.bits .and .i64 a0 255))) + 1))))) = 0 then (minuetlaw6_CursorNothing.j1 kj7 (wrap64 (Int.tmod (IntKind.u64.wrap (a1)) (IntKind.u64.wrap (wrap64 ((wrap64 (1 + (Go.bits .and .i64 a0 255))) + 1))))) t105 t106 bt110.1 bt110.2 bt115.1 bt115.2 bt120.2 bt125.2 (wrap64 ((wrap64 (Int.tmod (IntKind.u64.wrap (a1)) (IntKind.u64.wrap (wrap64 ((wrap64 (1 + (Go.bits .and .i64 a0 255))) + 1))))) + (a2.size : Int))) (!a3)) else (minuetlaw6_CursorNothing.j1 kj7 (wrap64 (Int.tmod (IntKind.u64.wrap (a1)) (IntKind.u64.wrap (wrap64 ((wrap64 (1 + (Go.bits .and .i64 a0 255))) + 1))))) t105 t106 bt110.1 bt110.2 bt115.1 bt115.2 bt120.2 bt125.2 (wrap64 ((wrap64 (Int.tmod (IntKind.u64.wrap (a1)) (IntKind.u64.wrap (wrap64 ((wrap64 (1 + (Go.bits .and .i64 a0 255))) + 1))))) + (a2.size : Int))) false)))))) = some r := H
         have A12 := Aside0.mk A120
         clear A120
         obtain ⟨y107, hy107⟩ : ∃ y_ : List (S40), y_ = (([(⟨1, 0, a2⟩ : S40), (⟨0, (wrap64 (1 + (Go.bits .and .i64 a0 255))), (⟨#[]⟩ : ByteArray)⟩ : S40)] : List (S40))) := ⟨_, rfl⟩
         replace H : ((cursor_Move.f kj7 y107 (wrap64 (Int.tmod (IntKind.u64.wrap (a1)) (IntKind.u64.wrap (wrap64 ((wrap64 (1 + (Go.bits .and .i64 a0 255))) + 1))))) a3).bind fun bt110 => ((cursor_Move.f kj7 (([(⟨2, (wrap64 (1 + (Go.bits .and .i64 a0 255))), (⟨#[]⟩ : ByteArray)⟩ : S40)] : List (S40))) (wrap64 (Int.tmod (IntKind.u64.wrap (a1)) (IntKind.u64.wrap (wrap64 ((wrap64 (1 + (Go.bits .and .i64 a0 255))) + 1))))) a3).bind fun bt115 => ((cursor_Move.f kj7 (([(⟨0, (wrap64 (1 + (Go.bits .and .i64 a0 255))), (⟨#[]⟩ : ByteArray)⟩ : S40)] : List (S40))) (wrap64 ((wrap64 ((wrap64 (1 + (Go.bits .and .i64 a0 255))) + 1)) + (wrap64 (Int.tmod (IntKind.u64.wrap (a1)) (IntKind.u64.wrap (wrap64 ((wrap64 (1 + (Go.bits .and .i64 a0 255))) + 1))))))) a3).bind fun bt120 => ((cursor_Move.f kj7 (([(⟨0, (wrap64 (1 + (Go.bits .and .i64 a0 255))), (⟨#[]⟩ : ByteArray)⟩ : S40)] : List (S40))) (wrap64 ((-1) - (wrap64 (Int.tmod (IntKind.u64.wrap (a1)) (IntKind.u64.wrap (wrap64 ((wrap64 (1 + (Go.bits .and .i64 a0 255))) + 1))))))) a3).bind fun bt125 => (if (wrap64 (Int.tmod (IntKind.u64.wrap (a1)) (IntKind.u64.wrap (wrap64 ((wrap64 (1 + (Go.bits .and .i64 a0 255))) + 1))))) = 0 then (minuetlaw6_CursorNothing.j1 kj7 (wrap64 (Int.tmod (IntKind.u64.wrap (a1)) (IntKind.u64.wrap (wrap64 ((wrap64 (1 + (Go.bits .and .i64 a0 255))) + 1))))) t105 t106 bt110.1 bt110.2 bt115.1 bt115.2 bt120.2 bt125.2 (wrap64 ((wrap64 (Int.tmod (IntKind.u64.wrap (a1)) (IntKind.u64.wrap (wrap64 ((wrap64 (1 + (Go.bits .and .i64 a0 255))) + 1))))) + (a2.size : Int))) (!a3)) else (minuetlaw6_CursorNothing.j1 kj7 (wrap64 (Int.tmod (IntKind.u64.wrap (a1)) (IntKind.u64.wrap (wrap64 ((wrap64 (1 + (Go.bits .and .i64 a0 255))) + 1))))) t105 t106 bt110.1 bt110.2 bt115.1 bt115.2 bt120.2 bt125.2 (wrap64 ((wrap64 (Int.tmod (IntKind.u64.wrap (a1)) (IntKind.u64.wrap (wrap64 ((wrap64 (1 + (Go.bits .and .i64 a0 255))) + 1))))) + (a2.size : Int))) false)))))) = some r := by first | (rw [hy107]; with_reducible exact H) | (have H2_ := (Option.bind_some _ _).symm.trans H; rw [hy107]; with_reducible exact H2_) | (have H2_ := (Option.bind_some _ _).symm.trans H; with_reducible exact H2_) | with_reducible exact H | (rw [hy107]; exact H) | exact H
         have Ny107 := Aside0.mk hy107
         clear hy107
         replace H := Option.bind_eq_some_iff.mp H
         obtain ⟨⟨t110, t111⟩, A130, H⟩ := H
         replace H : ((cursor_Move.f kj7 (([(⟨2, (wrap64 (1 + (Go.bits .and .i64 a0 255))), (⟨#[]⟩ : ByteArray)⟩ : S40)] : List (S40))) (wrap64 (Int.tmod (IntKind.u64.wrap (a1)) (IntKind.u64.wrap (wrap64 ((wrap64 (1 + (Go.bits .and .i64 a0 255))) + 1))))) a3).bind fun bt115 => ((cursor_Move.f kj7 (([(⟨0, (wrap64 (1 + (Go.bits .and .i64 a0 255))), (⟨#[]⟩ : ByteArray)⟩ : S40)] : List (S40))) (wrap64 ((wrap64 ((wrap64 (1 + (Go.bits .and .i64 a0 255))) + 1)) + (wrap64 (Int.tmod (IntKind.u64.wrap (a1)) (IntKind.u64.wrap (wrap64 ((wrap64 (1 + (Go.bits .and .i64 a0 255))) + 1))))))) a3).bind fun bt120 => ((cursor_Move.f kj7 (([(⟨0, (wrap64 (1 + (Go.bits .and .i64 a0 255))), (⟨#[]⟩ : ByteArray)⟩ : S40)] : List (S40))) (wrap64 ((-1) - (wrap64 (Int.tmod (IntKind.u64.wrap (a1)) (IntKind.u64.wrap (wrap64 ((wrap64 (1 + (Go.bits .and .i64 a0 255))) + 1))))))) a3).bind fun bt125 => (if (wrap64 (Int.tmod (IntKind.u64.wrap (a1)) (IntKind.u64.wrap (wrap64 ((wrap64 (1 + (Go.bits .and .i64 a0 255))) + 1))))) = 0 then (minuetlaw6_CursorNothing.j1 kj7 (wrap64 (Int.tmod (IntKind.u64.wrap (a1)) (IntKind.u64.wrap (wrap64 ((wrap64 (1 + (Go.bits .and .i64 a0 255))) + 1))))) t105 t106 t110 t111 bt115.1 bt115.2 bt120.2 bt125.2 (wrap64 ((wrap64 (Int.tmod (IntKind.u64.wrap (a1)) (IntKind.u64.wrap (wrap64 ((wrap64 (1 + (Go.bits .and .i64 a0 255))) + 1))))) + (a2.size : Int))) (!a3)) else (minuetlaw6_CursorNothing.j1 kj7 (wrap64 (Int.tmod (IntKind.u64.wrap (a1)) (IntKind.u64.wrap (wrap64 ((wrap64 (1 + (Go.bits .and .i64 a0 255))) + 1))))) t105 t106 t110 t111 bt115.1 bt115.2 bt120.2 bt125.2 (wrap64 ((wrap64 (Int.tmod (IntKind.u64.wrap (a1)) (IntKind.u64.wrap (wrap64 ((wrap64 (1 + (Go.bits .and .i64 a0 255))) + 1))))) + (a2.size : Int))) false))))) = some r := H
         have A13 := Aside0.mk A130
         clear A130
         obtain ⟨y112, hy112⟩ : ∃ y_ : List (S40), y_ = (([(⟨2, (wrap64 (1 + (Go.bits .and .i64 a0 255))), (⟨#[]⟩ : ByteArray)⟩ : S40)] : List (S40))) := ⟨_, rfl⟩
         replace H : ((cursor_Move.f kj7 y112 (wrap64 (Int.tmod (IntKind.u64.wrap (a1)) (IntKind.u64.wrap (wrap64 ((wrap64 (1 + (Go.bits .and .i64 a0 255))) + 1))))) a3).bind fun bt115 => ((cursor_Move.f kj7 (([(⟨0, (wrap64 (1 + (Go.bits .and .i64 a0 255))), (⟨#[]⟩ : ByteArray)⟩ : S40)] : List (S40))) (wrap64 ((wrap64 ((wrap64 (1 + (Go.bits .and .i64 a0 255))) + 1)) + (wrap64 (Int.tmod (IntKind.u64.wrap (a1)) (IntKind.u64.wrap (wrap64 ((wrap64 (1 + (Go.bits .and .i64 a0 255))) + 1))))))) a3).bind fun bt120 => ((cursor_Move.f kj7 (([(⟨0, (wrap64 (1 + (Go.bits .and .i64 a0 255))), (⟨#[]⟩ : ByteArray)⟩ : S40)] : List (S40))) (wrap64 ((-1) - (wrap64 (Int.tmod (IntKind.u64.wrap (a1)) (IntKind.u64.wrap (wrap64 ((wrap64 (1 + (Go.bits .and .i64 a0 255))) + 1))))))) a3).bind fun bt125 => (if (wrap64 (Int.tmod (IntKind.u64.wrap (a1)) (IntKind.u64.wrap (wrap64 ((wrap64 (1 + (Go.bits .and .i64 a0 255))) + 1))))) = 0 then (minuetlaw6_CursorNothing.j1 kj7 (wrap64 (Int.tmod (IntKind.u64.wrap (a1)) (IntKind.u64.wrap (wrap64 ((wrap64 (1 + (Go.bits .and .i64 a0 255))) + 1))))) t105 t106 t110 t111 bt115.1 bt115.2 bt120.2 bt125.2 (wrap64 ((wrap64 (Int.tmod (IntKind.u64.wrap (a1)) (IntKind.u64.wrap (wrap64 ((wrap64 (1 + (Go.bits .and .i64 a0 255))) + 1))))) + (a2.size : Int))) (!a3)) else (minuetlaw6_CursorNothing.j1 kj7 (wrap64 (Int.tmod (IntKind.u64.wrap (a1)) (IntKind.u64.wrap (wrap64 ((wrap64 (1 + (Go.bits .and .i64 a0 255))) + 1))))) t105 t106 t110 t111 bt115.1 bt115.2 bt120.2 bt125.2 (wrap64 ((wrap64 (Int.tmod (IntKind.u64.wrap (a1)) (IntKind.u64.wrap (wrap64 ((wrap64 (1 + (Go.bits .and .i64 a0 255))) + 1))))) + (a2.size : Int))) false))))) = some r := by first | (rw [hy112]; with_reducible exact H) | (have H2_ := (Option.bind_some _ _).symm.trans H; rw [hy112]; with_reducible exact H2_) | (have H2_ := (Option.bind_some _ _).symm.trans H; with_reducible exact H2_) | with_reducible exact H | (rw [hy112]; exact H) | exact H
         have Ny112 := Aside0.mk hy112
         clear hy112
         replace H := Option.bind_eq_some_iff.mp H
         obtain ⟨⟨t115, t116⟩, A140, H⟩ := H
         replace H : ((cursor_Move.f kj7 (([(⟨0, (wrap64 (1 + (Go.bits .and .i64 a0 255))), (⟨#[]⟩ : ByteArray)⟩ : S40)] : List (S40))) (wrap64 ((wrap64 ((wrap64 (1 + (Go.bits .and .i64 a0 255))) + 1)) + (wrap64 (Int.tmod (IntKind.u64.wrap (a1)) (IntKind.u64.wrap (wrap64 ((wrap64 (1 + (Go.bits .and .i64 a0 255))) + 1))))))) a3).bind fun bt120 => ((cursor_Move.f kj7 (([(⟨0, (wrap64 (1 + (Go.bits .and .i64 a0 255))), (⟨#[]⟩ : ByteArray)⟩ : S40)] : List (S40))) (wrap64 ((-1) - (wrap64 (Int.tmod (IntKind.u64.wrap (a1)) (IntKind.u64.wrap (wrap64 ((wrap64 (1 + (Go.bits .and .i64 a0 255))) + 1))))))) a3).bind fun bt125 => (if (wrap64 (Int.tmod (IntKind.u64.wrap (a1)) (IntKind.u64.wrap (wrap64 ((wrap64 (1 + (Go.bits .and .i64 a0 255))) + 1))))) = 0 then (minuetlaw6_CursorNothing.j1 kj7 (wrap64 (Int.tmod (IntKind.u64.wrap (a1)) (IntKind.u64.wrap (wrap64 ((wrap64 (1 + (Go.bits .and .i64 a0 255))) + 1))))) t105 t106 t110 t111 t115 t116 bt120.2 bt125.2 (wrap64 ((wrap64 (Int.tmod (IntKind.u64.wrap (a1)) (IntKind.u64.wrap (wrap64 ((wrap64 (1 + (Go.bits .and .i64 a0 255))) + 1))))) + (a2.size : Int))) (!a3)) else (minuetlaw6_CursorNothing.j1 kj7 (wrap64 (Int.tmod (IntKind.u64.wrap (a1)) (IntKind.u64.wrap (wrap64 ((wrap64 (1 + (Go.bits .and .i64 a0 255))) + 1))))) t105 t106 t110 t111 t115 t116 bt120.2 bt125.2 (wrap64 ((wrap64 (Int.tmod (IntKind.u64.wrap (a1)) (IntKind.u64.wrap (wrap64 ((wrap64 (1 + (Go.bits .and .i64 a0 255))) + 1))))) + (a2.size : Int))) false)))) = some r := H
         have A14 := Aside0.mk A140
         clear A140
         obtain ⟨y117, hy117⟩ : ∃ y_ : List (S40), y_ = (([(⟨0, (wrap64 (1 + (Go.bits .and .i64 a0 255))), (⟨#[]⟩ : ByteArray)⟩ : S40)] : List (S40))) := ⟨_, rfl⟩
         replace H : ((cursor_Move.f kj7 y117 (wrap64 ((wrap64 ((wrap64 (1 + (Go.bits .and .i64 a0 255))) + 1)) + (wrap64 (Int.tmod (IntKind.u64.wrap (a1)) (IntKind.u64.wrap (wrap64 ((wrap64 (1 + (Go.bits .and .i64 a0 255))) + 1))))))) a3).bind fun bt120 => ((cursor_Move.f kj7 (([(⟨0, (wrap64 (1 + (Go.bits .and .i64 a0 255))), (⟨#[]⟩ : ByteArray)⟩ : S40)] : List (S40))) (wrap64 ((-1) - (wrap64 (Int.tmod (IntKind.u64.wrap (a1)) (IntKind.u64.wrap (wrap64 ((wrap64 (1 + (Go.bits .and .i64 a0 255))) + 1))))))) a3).bind fun bt125 => (if (wrap64 (Int.tmod (IntKind.u64.wrap (a1)) (IntKind.u64.wrap (wrap64 ((wrap64 (1 + (Go.bits .and .i64 a0 255))) + 1))))) = 0 then (minuetlaw6_CursorNothing.j1 kj7 (wrap64 (Int.tmod (IntKind.u64.wrap (a1)) (IntKind.u64.wrap (wrap64 ((wrap64 (1 + (Go.bits .and .i64 a0 255))) + 1))))) t105 t106 t110 t111 t115 t116 bt120.2 bt125.2 (wrap64 ((wrap64 (Int.tmod (IntKind.u64.wrap (a1)) (IntKind.u64.wrap (wrap64 ((wrap64 (1 + (Go.bits .and .i64 a0 255))) + 1))))) + (a2.size : Int))) (!a3)) else (minuetlaw6_CursorNothing.j1 kj7 (wrap64 (Int.tmod (IntKind.u64.wrap (a1)) (IntKind.u64.wrap (wrap64 ((wrap64 (1 + (Go.bits .and .i64 a0 255))) + 1))))) t105 t106 t110 t111 t115 t116 bt120.2 bt125.2 (wrap64 ((wrap64 (Int.tmod (IntKind.u64.wrap (a1)) (IntKind.u64.wrap (wrap64 ((wrap64 (1 + (Go.bits .and .i64 a0 255))) + 1))))) + (a2.size : Int))) false)))) = some r := by first | (rw [hy117]; with_reducible exact H) | (have H2_ := (Option.bind_some _ _).symm.trans H; rw [hy117]; with_reducible exact H2_) | (have H2_ := (Option.bind_some _ _).symm.trans H; with_reducible exact H2_) | with_reducible exact H | (rw [hy117]; exact H) | exact H
         have Ny117 := Aside0.mk hy117
         clear hy117
         replace H := Option.bind_eq_some_iff.mp H
         obtain ⟨⟨t120, t121⟩, A150, H⟩ := H
         replace H : ((cursor_Move.f kj7 (([(⟨0, (wrap64 (1 + (Go.bits .and .i64 a0 255))), (⟨#[]⟩ : ByteArray)⟩ : S40)] : List (S40))) (wrap64 ((-1) - (wrap64 (Int.tmod (IntKind.u64.wrap (a1)) (IntKind.u64.wrap (wrap64 ((wrap64 (1 + (Go.bits .and .i64 a0 255))) + 1))))))) a3).bind fun bt125 => (if (wrap64 (Int.tmod (IntKind.u64.wrap (a1)) (IntKind.u64.wrap (wrap64 ((wrap64 (1 + (Go.bits .and .i64 a0 255))) + 1))))) = 0 then (minuetlaw6_CursorNothing.j1 kj7 (wrap64 (Int.tmod (IntKind.u64.wrap (a1)) (IntKind.u64.wrap (wrap64 ((wrap64 (1 + (Go.bits .and .i64 a0 255))) + 1))))) t105 t106 t110 t111 t115 t116 t121 bt125.2 (wrap64 ((wrap64 (Int.tmod (IntKind.u64.wrap (a1)) (IntKind.u64.wrap (wrap64 ((wrap64 (1 + (Go.bits .and .i64 a0 255))) + 1))))) + (a2.size : Int))) (!a3)) else (minuetlaw6_CursorNothing.j1 kj7 (wrap64 (Int.tmod (IntKind.u64.wrap (a1)) (IntKind.u64.wrap (wrap64 ((wrap64 (1 + (Go.bits .and .i64 a0 255))) + 1))))) t105 t106 t110 t111 t115 t116 t121 bt125.2 (wrap64 ((wrap64 (Int.tmod (IntKind.u64.wrap (a1)) (IntKind.u64.wrap (wrap64 ((wrap64 (1 + (Go.bits .and .i64 a0 255))) + 1))))) + (a2.size : Int))) false))) = some r := H
         have A15 := Aside0.mk A150
         clear A150
         obtain ⟨y122, hy122⟩ : ∃ y_ : List (S40), y_ = (([(⟨0, (wrap64 (1 + (Go.bits .and .i64 a0 255))), (⟨#[]⟩ : ByteArray)⟩ : S40)] : List (S40))) := ⟨_, rfl⟩
         replace H : ((cursor_Move.f kj7 y122 (wrap64 ((-1) - (wrap64 (Int.tmod (IntKind.u64.wrap (a1)) (IntKind.u64.wrap (wrap64 ((wrap64 (1 + (Go.bits .and .i64 a0 255))) + 1))))))) a3).bind fun bt125 => (if (wrap64 (Int.tmod (IntKind.u64.wrap (a1)) (IntKind.u64.wrap (wrap64 ((wrap64 (1 + (Go.bits .and .i64 a0 255))) + 1))))) = 0 then (minuetlaw6_CursorNothing.j1 kj7 (wrap64 (Int.tmod (IntKind.u64.wrap (a1)) (IntKind.u64.wrap (wrap64 ((wrap64 (1 + (Go.bits .and .i64 a0 255))) + 1))))) t105 t106 t110 t111 t115 t116 t121 bt125.2 (wrap64 ((wrap64 (Int.tmod (IntKind.u64.wrap (a1)) (IntKind.u64.wrap (wrap64 ((wrap64 (1 + (Go.bits .and .i64 a0 255))) + 1))))) + (a2.size : Int))) (!a3)) else (minuetlaw6_CursorNothing.j1 kj7 (wrap64 (Int.tmod (IntKind.u64.wrap (a1)) (IntKind.u64.wrap (wrap64 ((wrap64 (1 + (Go.bits .and .i64 a0 255))) + 1))))) t105 t106 t110 t111 t115 t116 t121 bt125.2 (wrap64 ((wrap64 (Int.tmod (IntKind.u64.wrap (a1)) (IntKind.u64.wrap (wrap64 ((wrap64 (1 + (Go.bits .and .i64 a0 255))) + 1))))) + (a2.size : Int))) false))) = some r := by first | (rw [hy122]; with_reducible exact H) | (have H2_ := (Option.bind_some _ _).symm.trans H; rw [hy122]; with_reducible exact H2_) | (have H2_ := (Option.bind_some _ _).symm.trans H; with_reducible exact H2_) | with_reducible exact H | (rw [hy122]; exact H) | exact H
         have Ny122 := Aside0.mk hy122
         clear hy122
         replace H := Option.bind_eq_some_iff.mp H
         obtain ⟨⟨t125, t126⟩, A160, H⟩ := H
         replace H : (if (wrap64 (Int.tmod (IntKind.u64.wrap (a1)) (IntKind.u64.wrap (wrap64 ((wrap64 (1 + (Go.bits .and .i64 a0 255))) + 1))))) = 0 then (minuetlaw6_CursorNothing.j1 kj7 (wrap64 (Int.tmod (IntKind.u64.wrap (a1)) (IntKind.u64.wrap (wrap64 ((wrap64 (1 + (Go.bits .and .i64 a0 255))) + 1))))) t105 t106 t110 t111 t115 t116 t121 t126 (wrap64 ((wrap64 (Int.tmod (IntKind.u64.wrap (a1)) (IntKind.u64.wrap (wrap64 ((wrap64 (1 + (Go.bits .and .i64 a0 255))) + 1))))) + (a2.size : Int))) (!a3)) else (minuetlaw6_CursorNothing.j1 kj7 (wrap64 (Int.tmod (IntKind.u64.wrap (a1)) (IntKind.u64.wrap (wrap64 ((wrap64 (1 + (Go.bits .and .i64 a0 255))) + 1))))) t105 t106 t110 t111 t115 t116 t121 t126 (wrap64 ((wrap64 (Int.tmod (IntKind.u64.wrap (a1)) (IntKind.u64.wrap (wrap64 ((wrap64 (1 + (Go.bits .and .i64 a0 255))) + 1))))) + (a2.size : Int))) false)) = some r := H
         have A16 := Aside0.mk A160
         clear A160
         have HC17 := Aside0.mk H
         clear H
         go_upto_region 13 with (first | ((with_reducible refine gate_dst (N := 45) rfl ?_); (try (refine gate_guard (by rfl) ?_; dsimp only)); refine Kd.R_lit k40 _ 40 ?hg (N := 45) ?hd (xs := ([(⟨0, (wrap64 (1 + (Go.bits .and .i64 a0 255))), (⟨#[]⟩ : ByteArray)⟩ : S40)] : List (S40))) (inner := [.int .i64 0, .int .i64 (wrap64 (1 + (Go.bits .and .i64 a0 255))), .string (⟨#[]⟩ : ByteArray)]) (ok := fun _ => True) (okp := fun _ => True) ?hr ?hp (fun _ hk => hk) trivial (Below.refl _ _) (Nat.le_refl _) (by simp) ?_; (case hd => rfl); (case hg => rfl); (case hr => first | (go_simp; done) | (go_simp; rfl)); (case hp => exact (Reps.c3 (show Kd.M k40 _ _ _ (⟨0, (wrap64 (1 + (Go.bits .and .i64 a0 255))), (⟨#[]⟩ : ByteArray)⟩ : S40) [.int .i64 0, .int .i64 (wrap64 (1 + (Go.bits .and .i64 a0 255))), .string (⟨#[]⟩ : ByteArray)] from (k40_mkM _ _ _ (⟨0, (wrap64 (1 + (Go.bits .and .i64 a0 255))), (⟨#[]⟩ : ByteArray)⟩ : S40) )) (Reps.none _ _))); intro v103 w18 ho19 hb hg_ hnew_; clear hg_ hnew_; (first | rw [← Ny102.out] at ho19 | (simp only [Int.reduceToNat] at ho19; rw [← Ny102.out] at ho19)); have n0_ := Aside0.mk (Kd.R_lower ho19 (below_size (by repeat (first | (with_reducible first | exact HB.out | apply below_alloc | apply pw_below_drewN | apply below_drew1) | exact HB.out)))); have n1_ := Aside0.mk (below_step (by repeat (first | (with_reducible first | exact HB.out | apply below_alloc | apply pw_below_drewN | apply below_drew1) | exact HB.out)) hb); clear HB; have HO104 := n0_; have HB := n1_; clear n0_ n1_; clear hb ho19; obtain ⟨Ao20, co20, eo20⟩ := Kd.R_slice HO104.out; subst eo20) | ((with_reducible refine gate_callee (f := 23) rfl ?_); refine goesL_ (some 48) rfl rfl Try.func23 (by kernel_rfl) rfl #[.slice Ao20 y102.length co20, .int .i64 (wrap64 (Int.tmod (IntKind.u64.wrap (a1)) (IntKind.u64.wrap (wrap64 ((wrap64 (1 + (Go.bits .and .i64 a0 255))) + 1))))), .bool a3] rfl (by (try simp only [List.map_toArray, List.map_cons, List.map_nil]); first | done | rfl | (simp only [List.length_drop, List.length_take]; rfl)) ?_; (with_reducible refine (cursor_Move.calls kj7 _ _ y102 (wrap64 (Int.tmod (IntKind.u64.wrap (a1)) (IntKind.u64.wrap (wrap64 ((wrap64 (1 + (Go.bits .and .i64 a0 255))) + 1))))) a3 t105 t106 _ ?side1 ?side2 A12.out).mono ?_); (case side1 => repeat (first | exact (Kd.R_reads' HO104.out).2.2 | (with_reducible refine Kd.C_alloc ?_ _) | (with_reducible refine Kd.C_drewN ?_ _) | (with_reducible refine Kd.C_drew ?_))); (case side2 => exact (Kd.R_reads' HO104.out).2.1); rintro e w21 ⟨rfl, hb⟩; refine ⟨_, rfl, ?_⟩; have n0_ := Aside0.mk (Kd.R_below (by (with_reducible repeat (first | apply Kd.R_alloc | apply Kd.R_drewN | apply Kd.R_drew)); exact HO104.out) hb); have n1_ := Aside0.mk (below_step (by repeat (first | (with_reducible first | exact HB.out | apply below_alloc | apply pw_below_drewN | apply below_drew1) | exact HB.out)) hb); clear HO104; clear HB; have HO104 := n0_; have HB := n1_; clear n0_ n1_; (try clear hb); (try clear hb2); (try clear hk); (try clear hi)) | ((with_reducible refine gate_dst (N := 56) rfl ?_); (try (refine gate_guard (by rfl) ?_; dsimp only)); refine Kd.R_lit k40 _ 40 ?hg (N := 56) ?hd (xs := ([(⟨1, 0, a2⟩ : S40), (⟨0, (wrap64 (1 + (Go.bits .and .i64 a0 255))), (⟨#[]⟩ : ByteArray)⟩ : S40)] : List (S40))) (inner := [.int .i64 1, .int .i64 0, .string a2, .int .i64 0, .int .i64 (wrap64 (1 + (Go.bits .and .i64 a0 255))), .string (⟨#[]⟩ : ByteArray)]) (ok := fun _ => True) (okp := fun _ => True) ?hr ?hp (fun _ hk => hk) trivial (Below.refl _ _) (Nat.le_refl _) (by simp) ?_; (case hd => rfl); (case hg => rfl); (case hr => first | (go_simp; done) | (go_simp; rfl)); (case hp => exact (Reps.c3 (show Kd.M k40 _ _ _ (⟨1, 0, a2⟩ : S40) [.int .i64 1, .int .i64 0, .string a2] from (k40_mkM _ _ _ (⟨1, 0, a2⟩ : S40) )) (Reps.c3 (show Kd.M k40 _ _ _ (⟨0, (wrap64 (1 + (Go.bits .and .i64 a0 255))), (⟨#[]⟩ : ByteArray)⟩ : S40) [.int .i64 0, .int .i64 (wrap64 (1 + (Go.bits .and .i64 a0 255))), .string (⟨#[]⟩ : ByteArray)] from (k40_mkM _ _ _ (⟨0, (wrap64 (1 + (Go.bits .and .i64 a0 255))), (⟨#[]⟩ : ByteArray)⟩ : S40) )) (Reps.none _ _)))); intro v108 w22 ho23 hb hg_ hnew_; clear hg_ hnew_; (first | rw [← Ny107.out] at ho23 | (simp only [Int.reduceToNat] at ho23; rw [← Ny107.out] at ho23)); have n0_ := Aside0.mk (Kd.R_elder' (by (with_reducible repeat (first | apply Kd.R_alloc | apply Kd.R_drewN | apply Kd.R_drew)); exact HO104.out) (Kd.R_base ho23) hb); have n1_ := Aside0.mk (Kd.R_lower (Kd.R_new' ho23 (Kd.R_lt (by (with_reducible repeat (first | apply Kd.R_alloc | apply Kd.R_drewN | apply Kd.R_drew)); exact HO104.out))) (below_size (by repeat (first | (with_reducible first | exact HB.out | apply below_alloc | apply pw_below_drewN | apply below_drew1) | exact HB.out)))); have n2_ := Aside0.mk (below_step (by repeat (first | (with_reducible first | exact HB.out | apply below_alloc | apply pw_below_drewN | apply below_drew1) | exact HB.out)) hb); clear HO104; clear HB; have HO104 := n0_; have HO109 := n1_; have HB := n2_; clear n0_ n1_ n2_; clear hb ho23; obtain ⟨Ao24, co24, eo24⟩ := Kd.R_slice HO109.out; subst eo24) | ((with_reducible refine gate_callee (f := 23) rfl ?_); refine goesL_ (some 59) rfl rfl Try.func23 (by kernel_rfl) rfl #[.slice Ao24 y107.length co24, .int .i64 (wrap64 (Int.tmod (IntKind.u64.wrap (a1)) (IntKind.u64.wrap (wrap64 ((wrap64 (1 + (Go.bits .and .i64 a0 255))) + 1))))), .bool a3] rfl (by (try simp only [List.map_toArray, List.map_cons, List.map_nil]); first | done | rfl | (simp only [List.length_drop, List.length_take]; rfl)) ?_; (with_reducible refine (cursor_Move.calls kj7 _ _ y107 (wrap64 (Int.tmod (IntKind.u64.wrap (a1)) (IntKind.u64.wrap (wrap64 ((wrap64 (1 + (Go.bits .and .i64 a0 255))) + 1))))) a3 t110 t111 _ ?side1 ?side2 A13.out).mono ?_); (case side1 => repeat (first | exact (Kd.R_reads' HO109.out).2.2 | (with_reducible refine Kd.C_alloc ?_ _) | (with_reducible refine Kd.C_drewN ?_ _) | (with_reducible refine Kd.C_drew ?_))); (case side2 => exact (Kd.R_reads' HO109.out).2.1); rintro e w25 ⟨rfl, hb⟩; refine ⟨_, rfl, ?_⟩; have n0_ := Aside0.mk (Kd.R_below (by (with_reducible repeat (first | apply Kd.R_alloc | apply Kd.R_drewN | apply Kd.R_drew)); exact HO104.out) hb); have n1_ := Aside0.mk (Kd.R_below (by (with_reducible repeat (first | apply Kd.R_alloc | apply Kd.R_drewN | apply Kd.R_drew)); exact HO109.out) hb); have n2_ := Aside0.mk (below_step (by repeat (first | (with_reducible first | exact HB.out | apply below_alloc | apply pw_below_drewN | apply below_drew1) | exact HB.out)) hb); clear HO104; clear HO109; clear HB; have HO104 := n0_; have HO109 := n1_; have HB := n2_; clear n0_ n1_ n2_; (try clear hb); (try clear hb2); (try clear hk); (try clear hi)) | ((with_reducible refine gate_dst (N := 65) rfl ?_); (try (refine gate_guard (by rfl) ?_; dsimp only)); refine Kd.R_lit k40 _ 40 ?hg (N := 65) ?hd (xs := ([(⟨2, (wrap64 (1 + (Go.bits .and .i64 a0 255))), (⟨#[]⟩ : ByteArray)⟩ : S40)] : List (S40))) (inner := [.int .i64 2, .int .i64 (wrap64 (1 + (Go.bits .and .i64 a0 255))), .string (⟨#[]⟩ : ByteArray)]) (ok := fun _ => True) (okp := fun _ => True) ?hr ?hp (fun _ hk => hk) trivial (Below.refl _ _) (Nat.le_refl _) (by simp) ?_; (case hd => rfl); (case hg => rfl); (case hr => first | (go_simp; done) | (go_simp; rfl)); (case hp => exact (Reps.c3 (show Kd.M k40 _ _ _ (⟨2, (wrap64 (1 + (Go.bits .and .i64 a0 255))), (⟨#[]⟩ : ByteArray)⟩ : S40) [.int .i64 2, .int .i64 (wrap64 (1 + (Go.bits .and .i64 a0 255))), .string (⟨#[]⟩ : ByteArray)] from (k40_mkM _ _ _ (⟨2, (wrap64 (1 + (Go.bits .and .i64 a0 255))), (⟨#[]⟩ : ByteArray)⟩ : S40) )) (Reps.none _ _))); intro v113 w26 ho27 hb hg_ hnew_; clear hg_ hnew_; (first | rw [← Ny112.out] at ho27 | (simp only [Int.reduceToNat] at ho27; rw [← Ny112.out] at ho27)); have n0_ := Aside0.mk (Kd.R_elder' (by (with_reducible repeat (first | apply Kd.R_alloc | apply Kd.R_drewN | apply Kd.R_drew)); exact HO104.out) (Kd.R_base ho27) hb); have n1_ := Aside0.mk (Kd.R_elder' (by (with_reducible repeat (first | apply Kd.R_alloc | apply Kd.R_drewN | apply Kd.R_drew)); exact HO109.out) (Kd.R_base ho27) hb); have n2_ := Aside0.mk (Kd.R_lower (Kd.R_new' (Kd.R_new' ho27 (Kd.R_lt (by (with_reducible repeat (first | apply Kd.R_alloc | apply Kd.R_drewN | apply Kd.R_drew)); exact HO104.out))) (Kd.R_lt (by (with_reducible repeat (first | apply Kd.R_alloc | apply Kd.R_drewN | apply Kd.R_drew)); exact HO109.out))) (below_size (by repeat (first | (with_reducible first | exact HB.out | apply below_alloc | apply pw_below_drewN | apply below_drew1) | exact HB.out)))); have n3_ := Aside0.mk (below_step (by repeat (first | (with_reducible first | exact HB.out | apply below_alloc | apply pw_below_drewN | apply below_drew1) | exact HB.out)) hb); clear HO104; clear HO109; clear HB; have HO104 := n0_; have HO109 := n1_; have HO114 := n2_; have HB := n3_; clear n0_ n1_ n2_ n3_; clear hb ho27; obtain ⟨Ao28, co28, eo28⟩ := Kd.R_slice HO114.out; subst eo28) | ((with_reducible refine gate_callee (f := 23) rfl ?_); refine goesL_ (some 68) rfl rfl Try.func23 (by kernel_rfl) rfl #[.slice Ao28 y112.length co28, .int .i64 (wrap64 (Int.tmod (IntKind.u64.wrap (a1)) (IntKind.u64.wrap (wrap64 ((wrap64 (1 + (Go.bits .and .i64 a0 255))) + 1))))), .bool a3] rfl (by (try simp only [List.map_toArray, List.map_cons, List.map_nil]); first | done | rfl | (simp only [List.length_drop, List.length_take]; rfl)) ?_; (with_reducible refine (cursor_Move.calls kj7 _ _ y112 (wrap64 (Int.tmod (IntKind.u64.wrap (a1)) (IntKind.u64.wrap (wrap64 ((wrap64 (1 + (Go.bits .and .i64 a0 255))) + 1))))) a3 t115 t116 _ ?side1 ?side2 A14.out).mono ?_); (case side1 => repeat (first | exact (Kd.R_reads' HO114.out).2.2 | (with_reducible refine Kd.C_alloc ?_ _) | (with_reducible refine Kd.C_drewN ?_ _) | (with_reducible refine Kd.C_drew ?_))); (case side2 => exact (Kd.R_reads' HO114.out).2.1); rintro e w29 ⟨rfl, hb⟩; refine ⟨_, rfl, ?_⟩; have n0_ := Aside0.mk (Kd.R_below (by (with_reducible repeat (first | apply Kd.R_alloc | apply Kd.R_drewN | apply Kd.R_drew)); exact HO104.out) hb); have n1_ := Aside0.mk (Kd.R_below (by (with_reducible repeat (first | apply Kd.R_alloc | apply Kd.R_drewN | apply Kd.R_drew)); exact HO109.out) hb); have n2_ := Aside0.mk (Kd.R_below (by (with_reducible repeat (first | apply Kd.R_alloc | apply Kd.R_drewN | apply Kd.R_drew)); exact HO114.out) hb); have n3_ := Aside0.mk (below_step (by repeat (first | (with_reducible first | exact HB.out | apply below_alloc | apply pw_below_drewN | apply below_drew1) | exact HB.out)) hb); clear HO104; clear HO109; clear HO114; clear HB; have HO104 := n0_; have HO109 := n1_; have HO114 := n2_; have HB := n3_; clear n0_ n1_ n2_ n3_; (try clear hb); (try clear hb2); (try clear hk); (try clear hi)) | ((with_reducible refine gate_dst (N := 74) rfl ?_); (try (refine gate_guard (by rfl) ?_; dsimp only)); refine Kd.R_lit k40 _ 40 ?hg (N := 74) ?hd (xs := ([(⟨0, (wrap64 (1 + (Go.bits .and .i64 a0 255))), (⟨#[]⟩ : ByteArray)⟩ : S40)] : List (S40))) (inner := [.int .i64 0, .int .i64 (wrap64 (1 + (Go.bits .and .i64 a0 255))), .string (⟨#[]⟩ : ByteArray)]) (ok := fun _ => True) (okp := fun _ => True) ?hr ?hp (fun _ hk => hk) trivial (Below.refl _ _) (Nat.le_refl _) (by simp) ?_; (case hd => rfl); (case hg => rfl); (case hr => first | (go_simp; done) | (go_simp; rfl)); (case hp => exact (Reps.c3 (show Kd.M k40 _ _ _ (⟨0, (wrap64 (1 + (Go.bits .and .i64 a0 255))), (⟨#[]⟩ : ByteArray)⟩ : S40) [.int .i64 0, .int .i64 (wrap64 (1 + (Go.bits .and .i64 a0 255))), .string (⟨#[]⟩ : ByteArray)] from (k40_mkM _ _ _ (⟨0, (wrap64 (1 + (Go.bits .and .i64 a0 255))), (⟨#[]⟩ : ByteArray)⟩ : S40) )) (Reps.none _ _))); intro v118 w30 ho31 hb hg_ hnew_; clear hg_ hnew_; (first | rw [← Ny117.out] at ho31 | (simp only [Int.reduceToNat] at ho31; rw [← Ny117.out] at ho31)); have n0_ := Aside0.mk (Kd.R_elder' (by (with_reducible repeat (first | apply Kd.R_alloc | apply Kd.R_drewN | apply Kd.R_drew)); exact HO104.out) (Kd.R_base ho31) hb); have n1_ := Aside0.mk (Kd.R_elder' (by (with_reducible repeat (first | apply Kd.R_alloc | apply Kd.R_drewN | apply Kd.R_drew)); exact HO109.out) (Kd.R_base ho31) hb); have n2_ := Aside0.mk (Kd.R_elder' (by (with_reducible repeat (first | apply Kd.R_alloc | apply Kd.R_drewN | apply Kd.R_drew)); exact HO114.out) (Kd.R_base ho31) hb); have n3_ := Aside0.mk (Kd.R_lower (Kd.R_new' (Kd.R_new' (Kd.R_new' ho31 (Kd.R_lt (by (with_reducible repeat (first | apply Kd.R_alloc | apply Kd.R_drewN | apply Kd.R_drew)); exact HO104.out))) (Kd.R_lt (by (with_reducible repeat (first | apply Kd.R_alloc | apply Kd.R_drewN | apply Kd.R_drew)); exact HO109.out))) (Kd.R_lt (by (with_reducible repeat (first | apply Kd.R_alloc | apply Kd.R_drewN | apply Kd.R_drew)); exact HO114.out))) (below_size (by repeat (first | (with_reducible first | exact HB.out | apply below_alloc | apply pw_below_drewN | apply below_drew1) | exact HB.out)))); have n4_ := Aside0.mk (below_step (by repeat (first | (with_reducible first | exact HB.out | apply below_alloc | apply pw_below_drewN | apply below_drew1) | exact HB.out)) hb); clear HO104; clear HO109; clear HO114; clear HB; have HO104 := n0_; have HO109 := n1_; have HO114 := n2_; have HO119 := n3_; have HB := n4_; clear n0_ n1_ n2_ n3_ n4_; clear hb ho31; obtain ⟨Ao32, co32, eo32⟩ := Kd.R_slice HO119.out; subst eo32) | ((with_reducible refine gate_callee (f := 23) rfl ?_); refine goesL_ (some 80) rfl rfl Try.func23 (by kernel_rfl) rfl #[.slice Ao32 y117.length co32, .int .i64 (wrap64 ((wrap64 ((wrap64 (1 + (Go.bits .and .i64 a0 255))) + 1)) + (wrap64 (Int.tmod (IntKind.u64.wrap (a1)) (IntKind.u64.wrap (wrap64 ((wrap64 (1 + (Go.bits .and .i64 a0 255))) + 1))))))), .bool a3] rfl (by (try simp only [List.map_toArray, List.map_cons, List.map_nil]); first | done | rfl | (simp only [List.length_drop, List.length_take]; rfl)) ?_; (with_reducible refine (cursor_Move.calls kj7 _ _ y117 (wrap64 ((wrap64 ((wrap64 (1 + (Go.bits .and .i64 a0 255))) + 1)) + (wrap64 (Int.tmod (IntKind.u64.wrap (a1)) (IntKind.u64.wrap (wrap64 ((wrap64 (1 + (Go.bits .and .i64 a0 255))) + 1))))))) a3 t120 t121 _ ?side1 ?side2 A15.out).mono ?_); (case side1 => repeat (first | exact (Kd.R_reads' HO119.out).2.2 | (with_reducible refine Kd.C_alloc ?_ _) | (with_reducible refine Kd.C_drewN ?_ _) | (with_reducible refine Kd.C_drew ?_))); (case side2 => exact (Kd.R_reads' HO119.out).2.1); rintro e w33 ⟨rfl, hb⟩; refine ⟨_, rfl, ?_⟩; have n0_ := Aside0.mk (Kd.R_below (by (with_reducible repeat (first | apply Kd.R_alloc | apply Kd.R_drewN | apply Kd.R_drew)); exact HO104.out) hb); have n1_ := Aside0.mk (Kd.R_below (by (with_reducible repeat (first | apply Kd.R_alloc | apply Kd.R_drewN | apply Kd.R_drew)); exact HO109.out) hb); have n2_ := Aside0.mk (Kd.R_below (by (with_reducible repeat (first | apply Kd.R_alloc | apply Kd.R_drewN | apply Kd.R_drew)); exact HO114.out) hb); have n3_ := Aside0.mk (Kd.R_below (by (with_reducible repeat (first | apply Kd.R_alloc | apply Kd.R_drewN | apply Kd.R_drew)); exact HO119.out) hb); have n4_ := Aside0.mk (below_step (by repeat (first | (with_reducible first | exact HB.out | apply below_alloc | apply pw_below_drewN | apply below_drew1) | exact HB.out)) hb); clear HO104; clear HO109; clear HO114; clear HO119; clear HB; have HO104 := n0_; have HO109 := n1_; have HO114 := n2_; have HO119 := n3_; have HB := n4_; clear n0_ n1_ n2_ n3_ n4_; (try clear hb); (try clear hb2); (try clear hk); (try clear hi)) | ((with_reducible refine gate_dst (N := 86) rfl ?_); (try (refine gate_guard (by rfl) ?_; dsimp only)); refine Kd.R_lit k40 _ 40 ?hg (N := 86) ?hd (xs := ([(⟨0, (wrap64 (1 + (Go.bits .and .i64 a0 255))), (⟨#[]⟩ : ByteArray)⟩ : S40)] : List (S40))) (inner := [.int .i64 0, .int .i64 (wrap64 (1 + (Go.bits .and .i64 a0 255))), .string (⟨#[]⟩ : ByteArray)]) (ok := fun _ => True) (okp := fun _ => True) ?hr ?hp (fun _ hk => hk) trivial (Below.refl _ _) (Nat.le_refl _) (by simp) ?_; (case hd => rfl); (case hg => rfl); (case hr => first | (go_simp; done) | (go_simp; rfl)); (case hp => exact (Reps.c3 (show Kd.M k40 _ _ _ (⟨0, (wrap64 (1 + (Go.bits .and .i64 a0 255))), (⟨#[]⟩ : ByteArray)⟩ : S40) [.int .i64 0, .int .i64 (wrap64 (1 + (Go.bits .and .i64 a0 255))), .string (⟨#[]⟩ : ByteArray)] from (k40_mkM _ _ _ (⟨0, (wrap64 (1 + (Go.bits .and .i64 a0 255))), (⟨#[]⟩ : ByteArray)⟩ : S40) )) (Reps.none _ _))); intro v123 w34 ho35 hb hg_ hnew_; clear hg_ hnew_; (first | rw [← Ny122.out] at ho35 | (simp only [Int.reduceToNat] at ho35; rw [← Ny122.out] at ho35)); have n0_ := Aside0.mk (Kd.R_elder' (by (with_reducible repeat (first | apply Kd.R_alloc | apply Kd.R_drewN | apply Kd.R_drew)); exact HO104.out) (Kd.R_base ho35) hb); have n1_ := Aside0.mk (Kd.R_elder' (by (with_reducible repeat (first | apply Kd.R_alloc | apply Kd.R_drewN | apply Kd.R_drew)); exact HO109.out) (Kd.R_base ho35) hb); have n2_ := Aside0.mk (Kd.R_elder' (by (with_reducible repeat (first | apply Kd.R_alloc | apply Kd.R_drewN | apply Kd.R_drew)); exact HO114.out) (Kd.R_base ho35) hb); have n3_ := Aside0.mk (Kd.R_elder' (by (with_reducible repeat (first | apply Kd.R_alloc | apply Kd.R_drewN | apply Kd.R_drew)); exact HO119.out) (Kd.R_base ho35) hb); have n4_ := Aside0.mk (Kd.R_lower (Kd.R_new' (Kd.R_new' (Kd.R_new' (Kd.R_new' ho35 (Kd.R_lt (by (with_reducible repeat (first | apply Kd.R_alloc | apply Kd.R_drewN | apply Kd.R_drew)); exact HO104.out))) (Kd.R_lt (by (with_reducible repeat (first | apply Kd.R_alloc | apply Kd.R_drewN | apply Kd.R_drew)); exact HO109.out))) (Kd.R_lt (by (with_reducible repeat (first | apply Kd.R_alloc | apply Kd.R_drewN | apply Kd.R_drew)); exact HO114.out))) (Kd.R_lt (by (with_reducible repeat (first | apply Kd.R_alloc | apply Kd.R_drewN | apply Kd.R_drew)); exact HO119.out))) (below_size (by repeat (first | (with_reducible first | exact HB.out | apply below_alloc | apply pw_below_drewN | apply below_drew1) | exact HB.out)))); have n5_ := Aside0.mk (below_step (by repeat (first | (with_reducible first | exact HB.out | apply below_alloc | apply pw_below_drewN | apply below_drew1) | exact HB.out)) hb); clear HO104; clear HO109; clear HO114; clear HO119; clear HB; have HO104 := n0_; have HO109 := n1_; have HO114 := n2_; have HO119 := n3_; have HO124 := n4_; have HB := n5_; clear n0_ n1_ n2_ n3_ n4_ n5_; clear hb ho35; obtain ⟨Ao36, co36, eo36⟩ := Kd.R_slice HO124.out; subst eo36) | ((with_reducible refine gate_callee (f := 23) rfl ?_); refine goesL_ (some 90) rfl rfl Try.func23 (by kernel_rfl) rfl #[.slice Ao36 y122.length co36, .int .i64 (wrap64 ((-1) - (wrap64 (Int.tmod (IntKind.u64.wrap (a1)) (IntKind.u64.wrap (wrap64 ((wrap64 (1 + (Go.bits .and .i64 a0 255))) + 1))))))), .bool a3] rfl (by (try simp only [List.map_toArray, List.map_cons, List.map_nil]); first | done | rfl | (simp only [List.length_drop, List.length_take]; rfl)) ?_; (with_reducible refine (cursor_Move.calls kj7 _ _ y122 (wrap64 ((-1) - (wrap64 (Int.tmod (IntKind.u64.wrap (a1)) (IntKind.u64.wrap (wrap64 ((wrap64 (1 + (Go.bits .and .i64 a0 255))) + 1))))))) a3 t125 t126 _ ?side1 ?side2 A16.out).mono ?_); (case side1 => repeat (first | exact (Kd.R_reads' HO124.out).2.2 | (with_reducible refine Kd.C_alloc ?_ _) | (with_reducible refine Kd.C_drewN ?_ _) | (with_reducible refine Kd.C_drew ?_))); (case side2 => exact (Kd.R_reads' HO124.out).2.1); rintro e w37 ⟨rfl, hb⟩; refine ⟨_, rfl, ?_⟩; have n0_ := Aside0.mk (Kd.R_below (by (with_reducible repeat (first | apply Kd.R_alloc | apply Kd.R_drewN | apply Kd.R_drew)); exact HO104.out) hb); have n1_ := Aside0.mk (Kd.R_below (by (with_reducible repeat (first | apply Kd.R_alloc | apply Kd.R_drewN | apply Kd.R_drew)); exact HO109.out) hb); have n2_ := Aside0.mk (Kd.R_below (by (with_reducible repeat (first | apply Kd.R_alloc | apply Kd.R_drewN | apply Kd.R_drew)); exact HO114.out) hb); have n3_ := Aside0.mk (Kd.R_below (by (with_reducible repeat (first | apply Kd.R_alloc | apply Kd.R_drewN | apply Kd.R_drew)); exact HO119.out) hb); have n4_ := Aside0.mk (Kd.R_below (by (with_reducible repeat (first | apply Kd.R_alloc | apply Kd.R_drewN | apply Kd.R_drew)); exact HO124.out) hb); have n5_ := Aside0.mk (below_step (by repeat (first | (with_reducible first | exact HB.out | apply below_alloc | apply pw_below_drewN | apply below_drew1) | exact HB.out)) hb); clear HO104; clear HO109; clear HO114; clear HO119; clear HO124; clear HB; have HO104 := n0_; have HO109 := n1_; have HO114 := n2_; have HO119 := n3_; have HO124 := n4_; have HB := n5_; clear n0_ n1_ n2_ n3_ n4_ n5_; (try clear hb); (try clear hb2); (try clear hk); (try clear hi)))
         (try simp only [Act.put, List.setIfInBounds_toArray, List.set_cons_zero, List.set_cons_succ])
         go_cut [102] (fun v102 wc => ∃ (kq : Nat) (x102_16 : Bool), v102 = .bool x102_16 ∧ Aside0 (minuetlaw6_CursorNothing.j1 kq (wrap64 (Int.tmod (IntKind.u64.wrap (a1)) (IntKind.u64.wrap (wrap64 ((wrap64 (1 + (Go.bits .and .i64 a0 255))) + 1))))) t105 t106 t110 t111 t115 t116 t121 t126 (wrap64 ((wrap64 (Int.tmod (IntKind.u64.wrap (a1)) (IntKind.u64.wrap (wrap64 ((wrap64 (1 + (Go.bits .and .i64 a0 255))) + 1))))) + (a2.size : Int))) x102_16 = some r) ∧ Aside0 (kq ≤ kj7) ∧ Aside0 (Below w.heap.size w wc))
         case first =>
          have H := HC17.out
          clear HC17
          by_cases c38 : (wrap64 (Int.tmod (IntKind.u64.wrap (a1)) (IntKind.u64.wrap (wrap64 ((wrap64 (1 + (Go.bits .and .i64 a0 255))) + 1))))) = 0
          · rw [if_pos c38] at H
            have c38b0 : ((wrap64 (Int.tmod (IntKind.u64.wrap (a1)) (IntKind.u64.wrap (wrap64 ((wrap64 (1 + (Go.bits .and .i64 a0 255))) + 1))))) == 0) = true := beq_iff_eq.mpr c38
            have c38b1 : ((wrap64 (Int.tmod (IntKind.u64.wrap (a1)) (IntKind.u64.wrap (wrap64 ((wrap64 (1 + (Go.bits .and .i64 a0 255))) + 1))))) != 0) = false := bne_eq_false_iff_eq.mpr c38
            clear c38
            (first | rw [c38b0] | (simp only [i64_w, i32_w]; rw [c38b0]) | skip)
            have H' := Aside0.mk H
            clear H
            go_wp2
            go_meet
            case rel => exact ⟨_, (!a3), (by first | rfl | (simp; done) | (simp [*]; done)), H', ⟨by have := HJ7.out; first | omega | exact Nat.le_refl _⟩, ⟨by repeat (first | (with_reducible first | exact HB.out | apply below_alloc | apply pw_below_drewN | apply below_drew1) | exact HB.out)⟩⟩
          · rw [if_neg c38] at H
            have c38b0 : ((wrap64 (Int.tmod (IntKind.u64.wrap (a1)) (IntKind.u64.wrap (wrap64 ((wrap64 (1 + (Go.bits .and .i64 a0 255))) + 1))))) == 0) = false := beq_eq_false_iff_ne.mpr c38
            have c38b1 : ((wrap64 (Int.tmod (IntKind.u64.wrap (a1)) (IntKind.u64.wrap (wrap64 ((wrap64 (1 + (Go.bits .and .i64 a0 255))) + 1))))) != 0) = true := bne_iff_ne.mpr c38
            (first | rw [c38b0] | (simp only [i64_w, i32_w]; rw [c38b0]) | skip)
            have H' := Aside0.mk H
            clear H
            go_wp2
            go_meet
            case rel => exact ⟨_, (false), (by first | rfl | (simp; done) | (simp [*]; done)), H', ⟨by have := HJ7.out; first | omega | exact Nat.le_refl _⟩, ⟨by repeat (first | (with_reducible first | exact HB.out | apply below_alloc | apply pw_below_drewN | apply below_drew1) | exact HB.out)⟩⟩
         case rest =>
          clear HC17
          try clear c1
          try clear c2
          try clear p2
          try clear c3
          try clear c6
          try clear p6
          try clear c7
          try clear c7b0
          try clear c7b1
          try clear c10
          try clear c10b0
          try clear c10b1
          try clear c11
          try clear c23
          try clear c27
          try clear c38
          try clear c38b0
          try clear c38b1
          try clear p2
          try clear p6
          obtain ⟨kq, x102_16, rfl, HA, HJ16, HB⟩ := hcut
          cases kq with
          | zero => exact absurd HA.out (by simp [minuetlaw6_CursorNothing.j1])
          | succ kj16 =>
           have H := HA.out
           clear HA
           simp only [minuetlaw6_CursorNothing.j1] at H
           have HC39 := Aside0.mk H
           clear H
           go_upto_if 102 with (fail)
           go_cut [21] (fun v21 wc => ∃ (kq : Nat) (x21_38 : Int), v21 = .int .i64 x21_38 ∧ Aside0 (minuetlaw6_CursorNothing.j2 kq (wrap64 (Int.tmod (IntKind.u64.wrap (a1)) (IntKind.u64.wrap (wrap64 ((wrap64 (1 + (Go.bits .and .i64 a0 255))) + 1))))) t105 t106 t110 t111 t115 t116 t121 t126 x21_38 = some r) ∧ Aside0 (kq ≤ kj16) ∧ Aside0 (Below w.heap.size w wc))
           case first =>
            have H := HC39.out
            clear HC39
            by_cases c40 : x102_16 = true
            · subst c40
              have H1 : (minuetlaw6_CursorNothing.j2 kj16 (wrap64 (Int.tmod (IntKind.u64.wrap (a1)) (IntKind.u64.wrap (wrap64 ((wrap64 (1 + (Go.bits .and .i64 a0 255))) + 1))))) t105 t106 t110 t111 t115 t116 t121 t126 0) = some r := by rw [if_pos rfl] at H; exact H
              clear H
              have H := H1
              clear H1
              have H' := Aside0.mk H
              clear H
              go_wp2
              go_meet
              case rel => exact ⟨_, (0), (by first | rfl | (simp; done) | (simp [*]; done)), H', ⟨by have := HJ7.out; have := HJ16.out; first | omega | exact Nat.le_refl _⟩, ⟨by repeat (first | (with_reducible first | exact HB.out | apply below_alloc | apply pw_below_drewN | apply below_drew1) | exact HB.out)⟩⟩
            · replace c40 := Bool.eq_false_iff.mpr c40
              subst c40
              have H1 : (minuetlaw6_CursorNothing.j2 kj16 (wrap64 (Int.tmod (IntKind.u64.wrap (a1)) (IntKind.u64.wrap (wrap64 ((wrap64 (1 + (Go.bits .and .i64 a0 255))) + 1))))) t105 t106 t110 t111 t115 t116 t121 t126 (wrap64 ((wrap64 (Int.tmod (IntKind.u64.wrap (a1)) (IntKind.u64.wrap (wrap64 ((wrap64 (1 + (Go.bits .and .i64 a0 255))) + 1))))) + (a2.size : Int)))) = some r := by rw [if_neg (show ¬ (false = true) by decide)] at H; exact H
              clear H
              have H := H1
              clear H1
              have H' := Aside0.mk H
              clear H
              go_wp2
              go_meet
              case rel => exact ⟨_, ((wrap64 ((wrap64 (Int.tmod (IntKind.u64.wrap (a1)) (IntKind.u64.wrap (wrap64 ((wrap64 (1 + (Go.bits .and .i64 a0 255))) + 1))))) + (a2.size : Int)))), (by first | rfl | (simp; done) | (simp [*]; done)), H', ⟨by have := HJ7.out; have := HJ16.out; first | omega | exact Nat.le_refl _⟩, ⟨by repeat (first | (with_reducible first | exact HB.out | apply below_alloc | apply pw_below_drewN | apply below_drew1) | exact HB.out)⟩⟩
           case rest =>
            clear HC39
            try clear c1
            try clear c2
            try clear p2
            try clear c3
            try clear c4
            try clear c6
            try clear p6
            try clear c7
            try clear c7b0
            try clear c7b1
            try clear c10
            try clear c10b0
            try clear c10b1
            try clear c11
            try clear c23
            try clear c27
            try clear c38
            try clear c38b0
            try clear c38b1
            try clear c40
            try clear p2
            try clear p6
            obtain ⟨kq, x21_38, rfl, HA, HJ38, HB⟩ := hcut
            cases kq with
            | zero => exact absurd HA.out (by simp [minuetlaw6_CursorNothing.j2])
            | succ kj38 =>
             have H := HA.out
             clear HA
             simp only [minuetlaw6_CursorNothing.j2] at H
             by_cases c41 : t105 = (wrap64 (Int.tmod (IntKind.u64.wrap (a1)) (IntKind.u64.wrap (wrap64 ((wrap64 (1 + (Go.bits .and .i64 a0 255))) + 1)))))
             · rw [if_pos c41] at H
               have c41b0 : (t105 == (wrap64 (Int.tmod (IntKind.u64.wrap (a1)) (IntKind.u64.wrap (wrap64 ((wrap64 (1 + (Go.bits .and .i64 a0 255))) + 1)))))) = true := beq_iff_eq.mpr c41
               have c41b1 : (t105 != (wrap64 (Int.tmod (IntKind.u64.wrap (a1)) (IntKind.u64.wrap (wrap64 ((wrap64 (1 + (Go.bits .and .i64 a0 255))) + 1)))))) = false := bne_eq_false_iff_eq.mpr c41
               clear c41
               replace H := Option.bind_eq_some_iff.mp H
               obtain ⟨t127, A420, H⟩ := H
               replace H : (if t127 = 0 then (if t110 = x21_38 then ((minuetlaw0_Num.f t111).bind fun t128 => (if t128 = 0 then (if t115 = 0 then ((minuetlaw0_Num.f t116).bind fun t129 => (if t129 = 0 then ((minuetlaw0_Num.f t121).bind fun t130 => (if t130 = 600 then ((minuetlaw0_Num.f t126).bind fun t131 => (some (t131 == 600))) else (none))) else (none))) else (none)) else (none))) else (none)) else (none)) = some r := H
               have A42 := Aside0.mk A420
               clear A420
               by_cases c43 : t127 = 0
               · rw [if_pos c43] at H
                 have c43b0 : (t127 == 0) = true := beq_iff_eq.mpr c43
                 have c43b1 : (t127 != 0) = false := bne_eq_false_iff_eq.mpr c43
                 clear c43
                 by_cases c44 : t110 = x21_38
                 · rw [if_pos c44] at H
                   have c44b0 : (t110 == x21_38) = true := beq_iff_eq.mpr c44
                   have c44b1 : (t110 != x21_38) = false := bne_eq_false_iff_eq.mpr c44
                   clear c44
                   replace H := Option.bind_eq_some_iff.mp H
                   obtain ⟨t128, A450, H⟩ := H
                   replace H : (if t128 = 0 then (if t115 = 0 then ((minuetlaw0_Num.f t116).bind fun t129 => (if t129 = 0 then ((minuetlaw0_Num.f t121).bind fun t130 => (if t130 = 600 then ((minuetlaw0_Num.f t126).bind fun t131 => (some (t131 == 600))) else (none))) else (none))) else (none)) else (none)) = some r := H
                   have A45 := Aside0.mk A450
                   clear A450
                   by_cases c46 : t128 = 0
                   · rw [if_pos c46] at H
                     have c46b0 : (t128 == 0) = true := beq_iff_eq.mpr c46
                     have c46b1 : (t128 != 0) = false := bne_eq_false_iff_eq.mpr c46
                     clear c46
                     by_cases c47 : t115 = 0
                     · rw [if_pos c47] at H
                       have c47b0 : (t115 == 0) = true := beq_iff_eq.mpr c47
                       have c47b1 : (t115 != 0) = false := bne_eq_false_iff_eq.mpr c47
                       clear c47
                       replace H := Option.bind_eq_some_iff.mp H
                       obtain ⟨t129, A480, H⟩ := H
                       replace H : (if t129 = 0 then ((minuetlaw0_Num.f t121).bind fun t130 => (if t130 = 600 then ((minuetlaw0_Num.f t126).bind fun t131 => (some (t131 == 600))) else (none))) else (none)) = some r := H
                       have A48 := Aside0.mk A480
                       clear A480
                       by_cases c49 : t129 = 0
                       · rw [if_pos c49] at H
                         have c49b0 : (t129 == 0) = true := beq_iff_eq.mpr c49
                         have c49b1 : (t129 != 0) = false := bne_eq_false_iff_eq.mpr c49
                         clear c49
                         replace H := Option.bind_eq_some_iff.mp H
                         obtain ⟨t130, A500, H⟩ := H
                         replace H : (if t130 = 600 then ((minuetlaw0_Num.f t126).bind fun t131 => (some (t131 == 600))) else (none)) = some r := H
                         have A50 := Aside0.mk A500
                         clear A500
                         by_cases c51 : t130 = 600
                         · rw [if_pos c51] at H
                           have c51b0 : (t130 == 600) = true := beq_iff_eq.mpr c51
                           have c51b1 : (t130 != 600) = false := bne_eq_false_iff_eq.mpr c51
                           clear c51
                           replace H := Option.bind_eq_some_iff.mp H
                           obtain ⟨t131, A520, H⟩ := H
                           replace H : (some (t131 == 600)) = some r := H
                           have A52 := Aside0.mk A520
                           clear A520
                           obtain rfl := Option.some.inj H
                           go_wp2_with (first | (go_at_call 25; (with_reducible refine (minuetlaw0_Num.calls t106 t127 _ A42.out).mono ?_); rintro e w' ⟨rfl, ⟨nd, rfl⟩⟩) | (go_at_call 25; (with_reducible refine (minuetlaw0_Num.calls t111 t128 _ A45.out).mono ?_); rintro e w' ⟨rfl, ⟨nd, rfl⟩⟩) | (go_at_call 25; (with_reducible refine (minuetlaw0_Num.calls t116 t129 _ A48.out).mono ?_); rintro e w' ⟨rfl, ⟨nd, rfl⟩⟩) | (go_at_call 25; (with_reducible refine (minuetlaw0_Num.calls t121 t130 _ A50.out).mono ?_); rintro e w' ⟨rfl, ⟨nd, rfl⟩⟩) | (go_at_call 25; (with_reducible refine (minuetlaw0_Num.calls t126 t131 _ A52.out).mono ?_); rintro e w' ⟨rfl, ⟨nd, rfl⟩⟩))
                           go_ret
                           exact ⟨by first | rfl | (simp [errW_none, errW_some] <;> rfl) | (simp [*, errW_none, errW_some] <;> rfl), by repeat (first | (with_reducible first | exact HB.out | apply below_alloc | apply pw_below_drewN | apply below_drew1) | exact HB.out)⟩
                         · rw [if_neg c51] at H
                           exact absurd H (by simp)
                       · rw [if_neg c49] at H
                         exact absurd H (by simp)
                     · rw [if_neg c47] at H
                       exact absurd H (by simp)
                   · rw [if_neg c46] at H
                     exact absurd H (by simp)
                 · rw [if_neg c44] at H
                   exact absurd H (by simp)
               · rw [if_neg c43] at H
                 exact absurd H (by simp)
             · rw [if_neg c41] at H
               exact absurd H (by simp)
 · replace c6 := Bool.eq_false_iff.mpr c6
   subst c6
   have H1 : (none) = some r := by rw [if_neg (show ¬ (false = true) by decide)] at H; exact H
   clear H
   have H := H1
   clear H1
   exact absurd H (by simp)

/-- THE ONE PURE STATEMENT of minuetlaw6_CursorNothing: yours. -/
def minuetlaw6_CursorNothing.Pure : Prop := ∀ (a0 : Int) (a1 : Int) (a2 : ByteArray) (a3 : Bool), (Lit.int .i64 a0).wf = true → (Lit.int .i64 a1).wf = true → a2.size ≤ 140737488351232 → ∃ k, minuetlaw6_CursorNothing.f k a0 a1 a2 a3 = some true
theorem minuetlaw6_CursorNothing.walk (P : minuetlaw6_CursorNothing.Pure) (a0 : Int) (a1 : Int) (a2 : ByteArray) (a3 : Bool) (w : World) (w0 : (Lit.int .i64 a0).wf = true) (w1 : (Lit.int .i64 a1).wf = true) (w2 : a2.size ≤ 140737488351232) :
 Calls Try.prog 7 #[.int .i64 a0, .int .i64 a1, .string a2, .bool a3] w fun e w' => e = .returned (.bool true) ∧ Below w.heap.size w w' := by
 obtain ⟨k, h⟩ := P a0 a1 a2 a3 w0 w1 w2
 refine (minuetlaw6_CursorNothing.calls k a0 a1 a2 a3 true w h).mono ?_
 rintro e w' ⟨rfl, hd⟩
 exact ⟨rfl, hd⟩

end Go.Proofs.Ytbkkcoppncgegaa.G
