-- Laid by this session's own program gprint.py (wip/tools), out of the kit's print and of texts of this session. Lean checks it.
import Derived.Test.YtldaokclpkcmmaaGx0
import Derived.Test.YtldaokclpkcmmaaGZ3
import Derived.Test.YtldaokclpkcmmaaGCursorPMove
import Derived.Test.YtldaokclpkcmmaaGMinuetlaw6qawake
import Derived.Test.YtldaokclpkcmmaaGMinuetref1PApply
namespace Go.Proofs.Ytldaokclpkcmmaa.G
open Go.RowKit Go.Proofs.YtldaokclpkcmmaaW.PrintWords Go.Proofs.YtldaokclpkcmmaaW.PrintLast Go.Proofs.YtldaokclpkcmmaaW.PrintMore
attribute [local go_sem] max2_int min2_int max_two min_two max_three min_three max_four min_four   -- for this text's walks alone
set_option linter.unusedVariables false
set_option linter.unusedSimpArgs false

/-! ### minuetlaw6_CursorSigns: function 4 -/
mutual
def minuetlaw6_CursorSigns.j0 : Nat → ByteArray → List (S31) → Int → ByteArray → Bool → Option (Bool)
 | 0, _, _, _, _, _ => none
 | k + 1, x0, x1, x2, x7, x31 => if x31 = true then (some true) else (if (IntKind.u64.wrap ((x0.size : Int))) = 0 then (none) else ((cursor_Move.f k x1 (wrap64 (Int.tmod (IntKind.u64.wrap (x2)) (IntKind.u64.wrap ((x0.size : Int))))) true).bind fun bt104 => ((cursor_Move.f k x1 (wrap64 ((wrap64 (Int.tmod (IntKind.u64.wrap (x2)) (IntKind.u64.wrap ((x0.size : Int))))) + 1)) false).bind fun bt106 => ((minuetlaw0_Num.f bt104.2).bind fun t108 => (if t108 = 0 then ((minuetlaw0_Num.f bt106.2).bind fun t109 => (if t109 = 0 then (if bt104.1 < 0 then (minuetlaw6_CursorSigns.j1 k x0 x1 x7 (wrap64 (Int.tmod (IntKind.u64.wrap (x2)) (IntKind.u64.wrap ((x0.size : Int))))) bt104.1 bt106.1 true) else (if bt106.1 > (x7.size : Int) then (minuetlaw6_CursorSigns.j1 k x0 x1 x7 (wrap64 (Int.tmod (IntKind.u64.wrap (x2)) (IntKind.u64.wrap ((x0.size : Int))))) bt104.1 bt106.1 true) else (minuetlaw6_CursorSigns.j1 k x0 x1 x7 (wrap64 (Int.tmod (IntKind.u64.wrap (x2)) (IntKind.u64.wrap ((x0.size : Int))))) bt104.1 bt106.1 (decide (bt104.1 > (wrap64 (bt106.1 + (x7.size : Int)))))))) else (minuetlaw6_CursorSigns.j1 k x0 x1 x7 (wrap64 (Int.tmod (IntKind.u64.wrap (x2)) (IntKind.u64.wrap ((x0.size : Int))))) bt104.1 bt106.1 true))) else (minuetlaw6_CursorSigns.j1 k x0 x1 x7 (wrap64 (Int.tmod (IntKind.u64.wrap (x2)) (IntKind.u64.wrap ((x0.size : Int))))) bt104.1 bt106.1 true))))))
def minuetlaw6_CursorSigns.j1 : Nat → ByteArray → List (S31) → ByteArray → Int → Int → Int → Bool → Option (Bool)
 | 0, _, _, _, _, _, _, _ => none
 | k + 1, x0, x1, x7, x9, x10, x12, x77 => if x77 = true then (none) else (minuetlaw6_CursorSigns.l0 k x0 x1 x7 x9 x10 x12 0 false 0)
def minuetlaw6_CursorSigns.l0 : Nat → ByteArray → List (S31) → ByteArray → Int → Int → Int → Int → Bool → Int → Option (Bool)
 | 0, _, _, _, _, _, _, _, _, _ => none
 | k + 1, x0, x1, x7, x9, x10, x12, x14, x15, x16 => if x16 < (x1.length : Int) then (if 0 ≤ x16 then (if ((rd_T31 x1 x16).f0) = 1 then (minuetlaw6_CursorSigns.l0 k x0 x1 x7 x9 x10 x12 x14 x15 (wrap64 (x16 + 1))) else (if x15 = true then (minuetlaw6_CursorSigns.l0 k x0 x1 x7 x9 x10 x12 (wrap64 (x14 + ((rd_T31 x1 x16).f1))) true (wrap64 (x16 + 1))) else (if ((rd_T31 x1 x16).f0) = 0 then (if x9 ≥ x14 then (minuetlaw6_CursorSigns.l0 k x0 x1 x7 x9 x10 x12 (wrap64 (x14 + ((rd_T31 x1 x16).f1))) (decide (x9 < (wrap64 (x14 + ((rd_T31 x1 x16).f1))))) (wrap64 (x16 + 1))) else (minuetlaw6_CursorSigns.l0 k x0 x1 x7 x9 x10 x12 (wrap64 (x14 + ((rd_T31 x1 x16).f1))) false (wrap64 (x16 + 1)))) else (minuetlaw6_CursorSigns.l0 k x0 x1 x7 x9 x10 x12 (wrap64 (x14 + ((rd_T31 x1 x16).f1))) false (wrap64 (x16 + 1)))))) else (none)) else (if x15 = true then (if x12 = (wrap64 (x10 + 1)) then (if 0 ≤ x10 then (if x10 < (x7.size : Int) then (if 0 ≤ x9 then (if x9 < (x0.size : Int) then (some ((bt x7 x10) == (bt x0 x9))) else (none)) else (none)) else (none)) else (none)) else (none)) else (some true))
end
def minuetlaw6_CursorSigns.f (k : Nat) (a0 : ByteArray) (l1 : List (S31)) (a2 : Int) : Option (Bool) := (minuetlaw6_awake.f k).bind fun t101 => (if t101 = true then ((minuetref1_Apply.f k a0 l1).bind fun bt102 => (if bt102.2 = 0 then (minuetlaw6_CursorSigns.j0 k a0 l1 a2 bt102.1 ((a0.size : Int) == 0)) else (minuetlaw6_CursorSigns.j0 k a0 l1 a2 bt102.1 true))) else (none))
theorem minuetlaw6_CursorSigns.mono_l : ∀ k, (∀ y0 y1 y2 y3 y4, LeO (minuetlaw6_CursorSigns.j0 k y0 y1 y2 y3 y4) (minuetlaw6_CursorSigns.j0 (k + 1) y0 y1 y2 y3 y4)) ∧ (∀ y0 y1 y2 y3 y4 y5 y6, LeO (minuetlaw6_CursorSigns.j1 k y0 y1 y2 y3 y4 y5 y6) (minuetlaw6_CursorSigns.j1 (k + 1) y0 y1 y2 y3 y4 y5 y6)) ∧ (∀ y0 y1 y2 y3 y4 y5 y6 y7 y8, LeO (minuetlaw6_CursorSigns.l0 k y0 y1 y2 y3 y4 y5 y6 y7 y8) (minuetlaw6_CursorSigns.l0 (k + 1) y0 y1 y2 y3 y4 y5 y6 y7 y8))
 | 0 => ⟨fun _ _ _ _ _ r h => by simp [minuetlaw6_CursorSigns.j0] at h, fun _ _ _ _ _ _ _ r h => by simp [minuetlaw6_CursorSigns.j1] at h, fun _ _ _ _ _ _ _ _ _ r h => by simp [minuetlaw6_CursorSigns.l0] at h⟩
 | k + 1 => by
  obtain ⟨ih0, ih1, ih2⟩ := minuetlaw6_CursorSigns.mono_l k
  refine ⟨?_, ?_, ?_⟩
  · intro y0 y1 y2 y3 y4
    unfold minuetlaw6_CursorSigns.j0
    repeat' first
    | (with_reducible exact ih0 _ _ _ _ _)
    | (with_reducible exact ih1 _ _ _ _ _ _ _)
    | (with_reducible exact ih2 _ _ _ _ _ _ _ _ _)
    | (with_reducible exact cursor_Move.mono _ _ _ _)
    | (with_reducible exact minuetlaw6_awake.mono _)
    | (with_reducible exact minuetref1_Apply.mono _ _ _)
    | (with_reducible exact LeO.refl _)
    | (with_reducible exact LeO.none _)
    | (with_reducible refine LeO.ite ?_ ?_)
    | (with_reducible refine LeO.bind ?_ (fun _ => ?_))
    | exact ih0 _ _ _ _ _
    | exact ih1 _ _ _ _ _ _ _
    | exact ih2 _ _ _ _ _ _ _ _ _
    | exact cursor_Move.mono _ _ _ _
    | exact minuetlaw6_awake.mono _
    | exact minuetref1_Apply.mono _ _ _
    | exact LeO.none _
    | refine LeO.ite ?_ ?_
    | refine LeO.bind ?_ (fun _ => ?_)
  · intro y0 y1 y2 y3 y4 y5 y6
    unfold minuetlaw6_CursorSigns.j1
    repeat' first
    | (with_reducible exact ih0 _ _ _ _ _)
    | (with_reducible exact ih1 _ _ _ _ _ _ _)
    | (with_reducible exact ih2 _ _ _ _ _ _ _ _ _)
    | (with_reducible exact cursor_Move.mono _ _ _ _)
    | (with_reducible exact minuetlaw6_awake.mono _)
    | (with_reducible exact minuetref1_Apply.mono _ _ _)
    | (with_reducible exact LeO.refl _)
    | (with_reducible exact LeO.none _)
    | (with_reducible refine LeO.ite ?_ ?_)
    | (with_reducible refine LeO.bind ?_ (fun _ => ?_))
    | exact ih0 _ _ _ _ _
    | exact ih1 _ _ _ _ _ _ _
    | exact ih2 _ _ _ _ _ _ _ _ _
    | exact cursor_Move.mono _ _ _ _
    | exact minuetlaw6_awake.mono _
    | exact minuetref1_Apply.mono _ _ _
    | exact LeO.none _
    | refine LeO.ite ?_ ?_
    | refine LeO.bind ?_ (fun _ => ?_)
  · intro y0 y1 y2 y3 y4 y5 y6 y7 y8
    unfold minuetlaw6_CursorSigns.l0
    repeat' first
    | (with_reducible exact ih0 _ _ _ _ _)
    | (with_reducible exact ih1 _ _ _ _ _ _ _)
    | (with_reducible exact ih2 _ _ _ _ _ _ _ _ _)
    | (with_reducible exact cursor_Move.mono _ _ _ _)
    | (with_reducible exact minuetlaw6_awake.mono _)
    | (with_reducible exact minuetref1_Apply.mono _ _ _)
    | (with_reducible exact LeO.refl _)
    | (with_reducible exact LeO.none _)
    | (with_reducible refine LeO.ite ?_ ?_)
    | (with_reducible refine LeO.bind ?_ (fun _ => ?_))
    | exact ih0 _ _ _ _ _
    | exact ih1 _ _ _ _ _ _ _
    | exact ih2 _ _ _ _ _ _ _ _ _
    | exact cursor_Move.mono _ _ _ _
    | exact minuetlaw6_awake.mono _
    | exact minuetref1_Apply.mono _ _ _
    | exact LeO.none _
    | refine LeO.ite ?_ ?_
    | refine LeO.bind ?_ (fun _ => ?_)
theorem minuetlaw6_CursorSigns.mono : ∀ a0 a1 a2 k, LeO (minuetlaw6_CursorSigns.f k a0 a1 a2) (minuetlaw6_CursorSigns.f (k + 1) a0 a1 a2) := by
 intro a0 a1 a2 k
 obtain ⟨ih0, ih1, ih2⟩ := minuetlaw6_CursorSigns.mono_l k
 unfold minuetlaw6_CursorSigns.f
 repeat' first
  | (with_reducible exact ih0 _ _ _ _ _)
  | (with_reducible exact ih1 _ _ _ _ _ _ _)
  | (with_reducible exact ih2 _ _ _ _ _ _ _ _ _)
  | (with_reducible exact cursor_Move.mono _ _ _ _)
  | (with_reducible exact minuetlaw6_awake.mono _)
  | (with_reducible exact minuetref1_Apply.mono _ _ _)
  | (with_reducible exact LeO.refl _)
  | (with_reducible exact LeO.none _)
  | (with_reducible refine LeO.ite ?_ ?_)
  | (with_reducible refine LeO.bind ?_ (fun _ => ?_))
  | exact ih0 _ _ _ _ _
  | exact ih1 _ _ _ _ _ _ _
  | exact ih2 _ _ _ _ _ _ _ _ _
  | exact cursor_Move.mono _ _ _ _
  | exact minuetlaw6_awake.mono _
  | exact minuetref1_Apply.mono _ _ _
  | exact LeO.none _
  | refine LeO.ite ?_ ?_
  | refine LeO.bind ?_ (fun _ => ?_)
set_option maxHeartbeats 8000000 in
set_option maxRecDepth 100000 in
theorem minuetlaw6_CursorSigns.calls (k : Nat) (a0 : ByteArray) (A1 : Option Addr) (c1 : Nat) (l1 : List (S31)) (a2 : Int) (r : Bool) (w : World) (hr1 : Kd.C k31 w A1 l1.length l1) (hc1 : l1.length ≤ c1) (h : minuetlaw6_CursorSigns.f k a0 l1 a2 = some r) :
 Calls Try.prog 4 #[.string a0, .slice A1 l1.length c1, .int .i64 a2] w fun e w' => e = .returned (.bool r) ∧ Below w.heap.size w w' := by
 have HR1 := Aside0.mk hr1
 have HC1 := Aside0.mk hc1
 clear hr1 hc1
 have HB := Aside0.mk (Below.refl w.heap.size w)
 have H : ((minuetlaw6_awake.f k).bind fun t101 => (if t101 = true then ((minuetref1_Apply.f k a0 l1).bind fun bt102 => (if bt102.2 = 0 then (minuetlaw6_CursorSigns.j0 k a0 l1 a2 bt102.1 ((a0.size : Int) == 0)) else (minuetlaw6_CursorSigns.j0 k a0 l1 a2 bt102.1 true))) else (none))) = some r := h
 clear h
 replace H := Option.bind_eq_some_iff.mp H
 obtain ⟨t101, A40, H⟩ := H
 replace H : (if t101 = true then ((minuetref1_Apply.f k a0 l1).bind fun bt102 => (if bt102.2 = 0 then (minuetlaw6_CursorSigns.j0 k a0 l1 a2 bt102.1 ((a0.size : Int) == 0)) else (minuetlaw6_CursorSigns.j0 k a0 l1 a2 bt102.1 true))) else (none)) = some r := H
 have A4 := Aside0.mk A40
 clear A40
 by_cases c5 : t101 = true
 · subst c5
   have H1 : ((minuetref1_Apply.f k a0 l1).bind fun bt102 => (if bt102.2 = 0 then (minuetlaw6_CursorSigns.j0 k a0 l1 a2 bt102.1 ((a0.size : Int) == 0)) else (minuetlaw6_CursorSigns.j0 k a0 l1 a2 bt102.1 true))) = some r := by rw [if_pos rfl] at H; exact H
   clear H
   have H := H1
   clear H1
   replace H := Option.bind_eq_some_iff.mp H
   obtain ⟨⟨t102, t103⟩, A60, H⟩ := H
   replace H : (if t103 = 0 then (minuetlaw6_CursorSigns.j0 k a0 l1 a2 t102 ((a0.size : Int) == 0)) else (minuetlaw6_CursorSigns.j0 k a0 l1 a2 t102 true)) = some r := H
   have A6 := Aside0.mk A60
   clear A60
   have HC7 := Aside0.mk H
   clear H
   go_enter Try.func4, Try.ntmps4
   go_upto_region 4 with (first | (go_at_call 18; (with_reducible refine (minuetlaw6_awake.calls k  true _ A4.out).mono ?_); rintro e w8 ⟨rfl, hb⟩; have n0_ := Aside0.mk (below_step (by repeat (first | (with_reducible first | exact HB.out | apply below_alloc | apply pw_below_drewN | apply below_drew1) | exact HB.out)) hb); clear HB; have HB := n0_; clear n0_; (try clear hb); (try clear hb2); (try clear hk); (try clear hi)) | (go_at_call 19; (with_reducible refine (minuetref1_Apply.calls k a0 _ _ l1 t102 t103 _ ?side1 ?side2 A6.out).mono ?_); (case side1 => repeat (first | exact (Kd.C_below HR1.out HB.out) | (with_reducible refine Kd.C_alloc ?_ _) | (with_reducible refine Kd.C_drewN ?_ _) | (with_reducible refine Kd.C_drew ?_))); (case side2 => exact HC1.out); rintro e w9 ⟨rfl, hb⟩; have n0_ := Aside0.mk (below_step (by repeat (first | (with_reducible first | exact HB.out | apply below_alloc | apply pw_below_drewN | apply below_drew1) | exact HB.out)) hb); clear HB; have HB := n0_; clear n0_; (try clear hb); (try clear hb2); (try clear hk); (try clear hi)))
   repeat (go_quiet (first | (go_at_call 18; (with_reducible refine (minuetlaw6_awake.calls k  true _ A4.out).mono ?_); rintro e w8 ⟨rfl, hb⟩; have n0_ := Aside0.mk (below_step (by repeat (first | (with_reducible first | exact HB.out | apply below_alloc | apply pw_below_drewN | apply below_drew1) | exact HB.out)) hb); clear HB; have HB := n0_; clear n0_; (try clear hb); (try clear hb2); (try clear hk); (try clear hi)) | (go_at_call 19; (with_reducible refine (minuetref1_Apply.calls k a0 _ _ l1 t102 t103 _ ?side1 ?side2 A6.out).mono ?_); (case side1 => repeat (first | exact (Kd.C_below HR1.out HB.out) | (with_reducible refine Kd.C_alloc ?_ _) | (with_reducible refine Kd.C_drewN ?_ _) | (with_reducible refine Kd.C_drew ?_))); (case side2 => exact HC1.out); rintro e w9 ⟨rfl, hb⟩; have n0_ := Aside0.mk (below_step (by repeat (first | (with_reducible first | exact HB.out | apply below_alloc | apply pw_below_drewN | apply below_drew1) | exact HB.out)) hb); clear HB; have HB := n0_; clear n0_; (try clear hb); (try clear hb2); (try clear hk); (try clear hi))); go_upto_region 4 with (first | (go_at_call 18; (with_reducible refine (minuetlaw6_awake.calls k  true _ A4.out).mono ?_); rintro e w8 ⟨rfl, hb⟩; have n0_ := Aside0.mk (below_step (by repeat (first | (with_reducible first | exact HB.out | apply below_alloc | apply pw_below_drewN | apply below_drew1) | exact HB.out)) hb); clear HB; have HB := n0_; clear n0_; (try clear hb); (try clear hb2); (try clear hk); (try clear hi)) | (go_at_call 19; (with_reducible refine (minuetref1_Apply.calls k a0 _ _ l1 t102 t103 _ ?side1 ?side2 A6.out).mono ?_); (case side1 => repeat (first | exact (Kd.C_below HR1.out HB.out) | (with_reducible refine Kd.C_alloc ?_ _) | (with_reducible refine Kd.C_drewN ?_ _) | (with_reducible refine Kd.C_drew ?_))); (case side2 => exact HC1.out); rintro e w9 ⟨rfl, hb⟩; have n0_ := Aside0.mk (below_step (by repeat (first | (with_reducible first | exact HB.out | apply below_alloc | apply pw_below_drewN | apply below_drew1) | exact HB.out)) hb); clear HB; have HB := n0_; clear n0_; (try clear hb); (try clear hb2); (try clear hk); (try clear hi))))
   (try simp only [Act.put, List.setIfInBounds_toArray, List.set_cons_zero, List.set_cons_succ])
   go_cut [31] (fun v31 wc => ∃ (kq : Nat) (x31_6 : Bool), v31 = .bool x31_6 ∧ Aside0 (minuetlaw6_CursorSigns.j0 kq a0 l1 a2 t102 x31_6 = some r) ∧ Aside0 (kq ≤ k) ∧ Aside0 (Below w.heap.size w wc))
   case first =>
    have H := HC7.out
    clear HC7
    by_cases c10 : t103 = 0
    · rw [if_pos c10] at H
      have c10b0 : (t103 == 0) = true := beq_iff_eq.mpr c10
      have c10b1 : (t103 != 0) = false := bne_eq_false_iff_eq.mpr c10
      clear c10
      (first | rw [c10b0] | (simp only [i64_w, i32_w]; rw [c10b0]) | skip)
      have H' := Aside0.mk H
      clear H
      go_wp2
      repeat (go_quiet (fail); try go_wp2)
      go_meet
      case rel => exact ⟨_, (((a0.size : Int) == 0)), (by first | rfl | (simp; done) | (simp [*]; done)), H', ⟨by first | omega | exact Nat.le_refl _⟩, ⟨by repeat (first | (with_reducible first | exact HB.out | apply below_alloc | apply pw_below_drewN | apply below_drew1) | exact HB.out)⟩⟩
    · rw [if_neg c10] at H
      have c10b0 : (t103 == 0) = false := beq_eq_false_iff_ne.mpr c10
      have c10b1 : (t103 != 0) = true := bne_iff_ne.mpr c10
      (first | rw [c10b0] | (simp only [i64_w, i32_w]; rw [c10b0]) | skip)
      have H' := Aside0.mk H
      clear H
      go_wp2
      repeat (go_quiet (fail); try go_wp2)
      go_meet
      case rel => exact ⟨_, (true), (by first | rfl | (simp; done) | (simp [*]; done)), H', ⟨by first | omega | exact Nat.le_refl _⟩, ⟨by repeat (first | (with_reducible first | exact HB.out | apply below_alloc | apply pw_below_drewN | apply below_drew1) | exact HB.out)⟩⟩
   case rest =>
    clear HC7
    try clear c1
    try clear p2
    try clear c4
    try clear c5
    try clear c10
    try clear c10b0
    try clear c10b1
    obtain ⟨kq, x31_6, rfl, HA, HJ6, HB⟩ := hcut
    cases kq with
    | zero => exact absurd HA.out (by simp [minuetlaw6_CursorSigns.j0])
    | succ kj6 =>
     have H := HA.out
     clear HA
     simp only [minuetlaw6_CursorSigns.j0] at H
     by_cases c11 : x31_6 = true
     · subst c11
       have H1 : (some true) = some r := by rw [if_pos rfl] at H; exact H
       clear H
       have H := H1
       clear H1
       obtain rfl := Option.some.inj H
       go_wp2
       repeat (go_quiet (fail); try go_wp2)
       go_ret
       exact ⟨by first | rfl | (simp [errW_none, errW_some] <;> rfl) | (simp [*, errW_none, errW_some] <;> rfl), by repeat (first | (with_reducible first | exact HB.out | apply below_alloc | apply pw_below_drewN | apply below_drew1) | exact HB.out)⟩
     · replace c11 := Bool.eq_false_iff.mpr c11
       subst c11
       have H1 : (if (IntKind.u64.wrap ((a0.size : Int))) = 0 then (none) else ((cursor_Move.f kj6 l1 (wrap64 (Int.tmod (IntKind.u64.wrap (a2)) (IntKind.u64.wrap ((a0.size : Int))))) true).bind fun bt104 => ((cursor_Move.f kj6 l1 (wrap64 ((wrap64 (Int.tmod (IntKind.u64.wrap (a2)) (IntKind.u64.wrap ((a0.size : Int))))) + 1)) false).bind fun bt106 => ((minuetlaw0_Num.f bt104.2).bind fun t108 => (if t108 = 0 then ((minuetlaw0_Num.f bt106.2).bind fun t109 => (if t109 = 0 then (if bt104.1 < 0 then (minuetlaw6_CursorSigns.j1 kj6 a0 l1 t102 (wrap64 (Int.tmod (IntKind.u64.wrap (a2)) (IntKind.u64.wrap ((a0.size : Int))))) bt104.1 bt106.1 true) else (if bt106.1 > (t102.size : Int) then (minuetlaw6_CursorSigns.j1 kj6 a0 l1 t102 (wrap64 (Int.tmod (IntKind.u64.wrap (a2)) (IntKind.u64.wrap ((a0.size : Int))))) bt104.1 bt106.1 true) else (minuetlaw6_CursorSigns.j1 kj6 a0 l1 t102 (wrap64 (Int.tmod (IntKind.u64.wrap (a2)) (IntKind.u64.wrap ((a0.size : Int))))) bt104.1 bt106.1 (decide (bt104.1 > (wrap64 (bt106.1 + (t102.size : Int)))))))) else (minuetlaw6_CursorSigns.j1 kj6 a0 l1 t102 (wrap64 (Int.tmod (IntKind.u64.wrap (a2)) (IntKind.u64.wrap ((a0.size : Int))))) bt104.1 bt106.1 true))) else (minuetlaw6_CursorSigns.j1 kj6 a0 l1 t102 (wrap64 (Int.tmod (IntKind.u64.wrap (a2)) (IntKind.u64.wrap ((a0.size : Int))))) bt104.1 bt106.1 true)))))) = some r := by rw [if_neg (show ¬ (false = true) by decide)] at H; exact H
       clear H
       have H := H1
       clear H1
       by_cases c12 : (IntKind.u64.wrap ((a0.size : Int))) = 0
       · rw [if_pos c12] at H
         exact absurd H (by simp)
       · rw [if_neg c12] at H
         have c12b0 : ((IntKind.u64.wrap ((a0.size : Int))) == 0) = false := beq_eq_false_iff_ne.mpr c12
         have c12b1 : ((IntKind.u64.wrap ((a0.size : Int))) != 0) = true := bne_iff_ne.mpr c12
         replace H := Option.bind_eq_some_iff.mp H
         obtain ⟨⟨t104, t105⟩, A130, H⟩ := H
         replace H : ((cursor_Move.f kj6 l1 (wrap64 ((wrap64 (Int.tmod (IntKind.u64.wrap (a2)) (IntKind.u64.wrap ((a0.size : Int))))) + 1)) false).bind fun bt106 => ((minuetlaw0_Num.f t105).bind fun t108 => (if t108 = 0 then ((minuetlaw0_Num.f bt106.2).bind fun t109 => (if t109 = 0 then (if t104 < 0 then (minuetlaw6_CursorSigns.j1 kj6 a0 l1 t102 (wrap64 (Int.tmod (IntKind.u64.wrap (a2)) (IntKind.u64.wrap ((a0.size : Int))))) t104 bt106.1 true) else (if bt106.1 > (t102.size : Int) then (minuetlaw6_CursorSigns.j1 kj6 a0 l1 t102 (wrap64 (Int.tmod (IntKind.u64.wrap (a2)) (IntKind.u64.wrap ((a0.size : Int))))) t104 bt106.1 true) else (minuetlaw6_CursorSigns.j1 kj6 a0 l1 t102 (wrap64 (Int.tmod (IntKind.u64.wrap (a2)) (IntKind.u64.wrap ((a0.size : Int))))) t104 bt106.1 (decide (t104 > (wrap64 (bt106.1 + (t102.size : Int)))))))) else (minuetlaw6_CursorSigns.j1 kj6 a0 l1 t102 (wrap64 (Int.tmod (IntKind.u64.wrap (a2)) (IntKind.u64.wrap ((a0.size : Int))))) t104 bt106.1 true))) else (minuetlaw6_CursorSigns.j1 kj6 a0 l1 t102 (wrap64 (Int.tmod (IntKind.u64.wrap (a2)) (IntKind.u64.wrap ((a0.size : Int))))) t104 bt106.1 true)))) = some r := H
         have A13 := Aside0.mk A130
         clear A130
         replace H := Option.bind_eq_some_iff.mp H
         obtain ⟨⟨t106, t107⟩, A140, H⟩ := H
         replace H : ((minuetlaw0_Num.f t105).bind fun t108 => (if t108 = 0 then ((minuetlaw0_Num.f t107).bind fun t109 => (if t109 = 0 then (if t104 < 0 then (minuetlaw6_CursorSigns.j1 kj6 a0 l1 t102 (wrap64 (Int.tmod (IntKind.u64.wrap (a2)) (IntKind.u64.wrap ((a0.size : Int))))) t104 t106 true) else (if t106 > (t102.size : Int) then (minuetlaw6_CursorSigns.j1 kj6 a0 l1 t102 (wrap64 (Int.tmod (IntKind.u64.wrap (a2)) (IntKind.u64.wrap ((a0.size : Int))))) t104 t106 true) else (minuetlaw6_CursorSigns.j1 kj6 a0 l1 t102 (wrap64 (Int.tmod (IntKind.u64.wrap (a2)) (IntKind.u64.wrap ((a0.size : Int))))) t104 t106 (decide (t104 > (wrap64 (t106 + (t102.size : Int)))))))) else (minuetlaw6_CursorSigns.j1 kj6 a0 l1 t102 (wrap64 (Int.tmod (IntKind.u64.wrap (a2)) (IntKind.u64.wrap ((a0.size : Int))))) t104 t106 true))) else (minuetlaw6_CursorSigns.j1 kj6 a0 l1 t102 (wrap64 (Int.tmod (IntKind.u64.wrap (a2)) (IntKind.u64.wrap ((a0.size : Int))))) t104 t106 true))) = some r := H
         have A14 := Aside0.mk A140
         clear A140
         have HC15 := Aside0.mk H
         clear H
         go_upto_region 9 with (first | (go_at_call 20; (with_reducible refine (cursor_Move.calls kj6 _ _ l1 (wrap64 (Int.tmod (IntKind.u64.wrap (a2)) (IntKind.u64.wrap ((a0.size : Int))))) true t104 t105 _ ?side1 ?side2 A13.out).mono ?_); (case side1 => repeat (first | exact (Kd.C_below HR1.out HB.out) | (with_reducible refine Kd.C_alloc ?_ _) | (with_reducible refine Kd.C_drewN ?_ _) | (with_reducible refine Kd.C_drew ?_))); (case side2 => exact HC1.out); rintro e w16 ⟨rfl, hb⟩; have n0_ := Aside0.mk (below_step (by repeat (first | (with_reducible first | exact HB.out | apply below_alloc | apply pw_below_drewN | apply below_drew1) | exact HB.out)) hb); clear HB; have HB := n0_; clear n0_; (try clear hb); (try clear hb2); (try clear hk); (try clear hi)) | (go_at_call 20; (with_reducible refine (cursor_Move.calls kj6 _ _ l1 (wrap64 ((wrap64 (Int.tmod (IntKind.u64.wrap (a2)) (IntKind.u64.wrap ((a0.size : Int))))) + 1)) false t106 t107 _ ?side1 ?side2 A14.out).mono ?_); (case side1 => repeat (first | exact (Kd.C_below HR1.out HB.out) | (with_reducible refine Kd.C_alloc ?_ _) | (with_reducible refine Kd.C_drewN ?_ _) | (with_reducible refine Kd.C_drew ?_))); (case side2 => exact HC1.out); rintro e w17 ⟨rfl, hb⟩; have n0_ := Aside0.mk (below_step (by repeat (first | (with_reducible first | exact HB.out | apply below_alloc | apply pw_below_drewN | apply below_drew1) | exact HB.out)) hb); clear HB; have HB := n0_; clear n0_; (try clear hb); (try clear hb2); (try clear hk); (try clear hi)))
         repeat (go_quiet (first | (go_at_call 20; (with_reducible refine (cursor_Move.calls kj6 _ _ l1 (wrap64 (Int.tmod (IntKind.u64.wrap (a2)) (IntKind.u64.wrap ((a0.size : Int))))) true t104 t105 _ ?side1 ?side2 A13.out).mono ?_); (case side1 => repeat (first | exact (Kd.C_below HR1.out HB.out) | (with_reducible refine Kd.C_alloc ?_ _) | (with_reducible refine Kd.C_drewN ?_ _) | (with_reducible refine Kd.C_drew ?_))); (case side2 => exact HC1.out); rintro e w16 ⟨rfl, hb⟩; have n0_ := Aside0.mk (below_step (by repeat (first | (with_reducible first | exact HB.out | apply below_alloc | apply pw_below_drewN | apply below_drew1) | exact HB.out)) hb); clear HB; have HB := n0_; clear n0_; (try clear hb); (try clear hb2); (try clear hk); (try clear hi)) | (go_at_call 20; (with_reducible refine (cursor_Move.calls kj6 _ _ l1 (wrap64 ((wrap64 (Int.tmod (IntKind.u64.wrap (a2)) (IntKind.u64.wrap ((a0.size : Int))))) + 1)) false t106 t107 _ ?side1 ?side2 A14.out).mono ?_); (case side1 => repeat (first | exact (Kd.C_below HR1.out HB.out) | (with_reducible refine Kd.C_alloc ?_ _) | (with_reducible refine Kd.C_drewN ?_ _) | (with_reducible refine Kd.C_drew ?_))); (case side2 => exact HC1.out); rintro e w17 ⟨rfl, hb⟩; have n0_ := Aside0.mk (below_step (by repeat (first | (with_reducible first | exact HB.out | apply below_alloc | apply pw_below_drewN | apply below_drew1) | exact HB.out)) hb); clear HB; have HB := n0_; clear n0_; (try clear hb); (try clear hb2); (try clear hk); (try clear hi))); go_upto_region 9 with (first | (go_at_call 20; (with_reducible refine (cursor_Move.calls kj6 _ _ l1 (wrap64 (Int.tmod (IntKind.u64.wrap (a2)) (IntKind.u64.wrap ((a0.size : Int))))) true t104 t105 _ ?side1 ?side2 A13.out).mono ?_); (case side1 => repeat (first | exact (Kd.C_below HR1.out HB.out) | (with_reducible refine Kd.C_alloc ?_ _) | (with_reducible refine Kd.C_drewN ?_ _) | (with_reducible refine Kd.C_drew ?_))); (case side2 => exact HC1.out); rintro e w16 ⟨rfl, hb⟩; have n0_ := Aside0.mk (below_step (by repeat (first | (with_reducible first | exact HB.out | apply below_alloc | apply pw_below_drewN | apply below_drew1) | exact HB.out)) hb); clear HB; have HB := n0_; clear n0_; (try clear hb); (try clear hb2); (try clear hk); (try clear hi)) | (go_at_call 20; (with_reducible refine (cursor_Move.calls kj6 _ _ l1 (wrap64 ((wrap64 (Int.tmod (IntKind.u64.wrap (a2)) (IntKind.u64.wrap ((a0.size : Int))))) + 1)) false t106 t107 _ ?side1 ?side2 A14.out).mono ?_); (case side1 => repeat (first | exact (Kd.C_below HR1.out HB.out) | (with_reducible refine Kd.C_alloc ?_ _) | (with_reducible refine Kd.C_drewN ?_ _) | (with_reducible refine Kd.C_drew ?_))); (case side2 => exact HC1.out); rintro e w17 ⟨rfl, hb⟩; have n0_ := Aside0.mk (below_step (by repeat (first | (with_reducible first | exact HB.out | apply below_alloc | apply pw_below_drewN | apply below_drew1) | exact HB.out)) hb); clear HB; have HB := n0_; clear n0_; (try clear hb); (try clear hb2); (try clear hk); (try clear hi))))
         (try simp only [Act.put, List.setIfInBounds_toArray, List.set_cons_zero, List.set_cons_succ])
         go_cut [77] (fun v77 wc => ∃ (kq : Nat) (x77_14 : Bool), v77 = .bool x77_14 ∧ Aside0 (minuetlaw6_CursorSigns.j1 kq a0 l1 t102 (wrap64 (Int.tmod (IntKind.u64.wrap (a2)) (IntKind.u64.wrap ((a0.size : Int))))) t104 t106 x77_14 = some r) ∧ Aside0 (kq ≤ kj6) ∧ Aside0 (Below w.heap.size w wc))
         case first =>
          have H := HC15.out
          clear HC15
          replace H := Option.bind_eq_some_iff.mp H
          obtain ⟨t108, A180, H⟩ := H
          replace H : (if t108 = 0 then ((minuetlaw0_Num.f t107).bind fun t109 => (if t109 = 0 then (if t104 < 0 then (minuetlaw6_CursorSigns.j1 kj6 a0 l1 t102 (wrap64 (Int.tmod (IntKind.u64.wrap (a2)) (IntKind.u64.wrap ((a0.size : Int))))) t104 t106 true) else (if t106 > (t102.size : Int) then (minuetlaw6_CursorSigns.j1 kj6 a0 l1 t102 (wrap64 (Int.tmod (IntKind.u64.wrap (a2)) (IntKind.u64.wrap ((a0.size : Int))))) t104 t106 true) else (minuetlaw6_CursorSigns.j1 kj6 a0 l1 t102 (wrap64 (Int.tmod (IntKind.u64.wrap (a2)) (IntKind.u64.wrap ((a0.size : Int))))) t104 t106 (decide (t104 > (wrap64 (t106 + (t102.size : Int)))))))) else (minuetlaw6_CursorSigns.j1 kj6 a0 l1 t102 (wrap64 (Int.tmod (IntKind.u64.wrap (a2)) (IntKind.u64.wrap ((a0.size : Int))))) t104 t106 true))) else (minuetlaw6_CursorSigns.j1 kj6 a0 l1 t102 (wrap64 (Int.tmod (IntKind.u64.wrap (a2)) (IntKind.u64.wrap ((a0.size : Int))))) t104 t106 true)) = some r := H
          have A18 := Aside0.mk A180
          clear A180
          by_cases c19 : t108 = 0
          · rw [if_pos c19] at H
            have c19b0 : (t108 == 0) = true := beq_iff_eq.mpr c19
            have c19b1 : (t108 != 0) = false := bne_eq_false_iff_eq.mpr c19
            clear c19
            (first | rw [c19b0] | (simp only [i64_w, i32_w]; rw [c19b0]) | skip)
            replace H := Option.bind_eq_some_iff.mp H
            obtain ⟨t109, A200, H⟩ := H
            replace H : (if t109 = 0 then (if t104 < 0 then (minuetlaw6_CursorSigns.j1 kj6 a0 l1 t102 (wrap64 (Int.tmod (IntKind.u64.wrap (a2)) (IntKind.u64.wrap ((a0.size : Int))))) t104 t106 true) else (if t106 > (t102.size : Int) then (minuetlaw6_CursorSigns.j1 kj6 a0 l1 t102 (wrap64 (Int.tmod (IntKind.u64.wrap (a2)) (IntKind.u64.wrap ((a0.size : Int))))) t104 t106 true) else (minuetlaw6_CursorSigns.j1 kj6 a0 l1 t102 (wrap64 (Int.tmod (IntKind.u64.wrap (a2)) (IntKind.u64.wrap ((a0.size : Int))))) t104 t106 (decide (t104 > (wrap64 (t106 + (t102.size : Int)))))))) else (minuetlaw6_CursorSigns.j1 kj6 a0 l1 t102 (wrap64 (Int.tmod (IntKind.u64.wrap (a2)) (IntKind.u64.wrap ((a0.size : Int))))) t104 t106 true)) = some r := H
            have A20 := Aside0.mk A200
            clear A200
            by_cases c21 : t109 = 0
            · rw [if_pos c21] at H
              have c21b0 : (t109 == 0) = true := beq_iff_eq.mpr c21
              have c21b1 : (t109 != 0) = false := bne_eq_false_iff_eq.mpr c21
              clear c21
              by_cases c22 : t104 < 0
              · rw [if_pos c22] at H
                have c22b0 : decide (t104 < 0) = true := decide_eq_true c22
                clear c22
                have H' := Aside0.mk H
                clear H
                go_wp2_with (first | (go_at_call 15; (with_reducible refine (minuetlaw0_Num.calls t105 t108 _ A18.out).mono ?_); rintro e w' ⟨rfl, ⟨nd, rfl⟩⟩; (try first | exact ⟨rfl, _, World.drewN_drewN _ _ _⟩ | exact ⟨rfl, _, Eq.trans (World.drewN_drewN _ _ _) (congrArg (World.drewN _) (Nat.add_assoc _ _ _))⟩)) | (go_at_call 15; (with_reducible refine (minuetlaw0_Num.calls t107 t109 _ A20.out).mono ?_); rintro e w' ⟨rfl, ⟨nd, rfl⟩⟩; (try first | exact ⟨rfl, _, World.drewN_drewN _ _ _⟩ | exact ⟨rfl, _, Eq.trans (World.drewN_drewN _ _ _) (congrArg (World.drewN _) (Nat.add_assoc _ _ _))⟩)))
                repeat (go_quiet (first | (go_at_call 15; (with_reducible refine (minuetlaw0_Num.calls t105 t108 _ A18.out).mono ?_); rintro e w' ⟨rfl, ⟨nd, rfl⟩⟩; (try first | exact ⟨rfl, _, World.drewN_drewN _ _ _⟩ | exact ⟨rfl, _, Eq.trans (World.drewN_drewN _ _ _) (congrArg (World.drewN _) (Nat.add_assoc _ _ _))⟩)) | (go_at_call 15; (with_reducible refine (minuetlaw0_Num.calls t107 t109 _ A20.out).mono ?_); rintro e w' ⟨rfl, ⟨nd, rfl⟩⟩; (try first | exact ⟨rfl, _, World.drewN_drewN _ _ _⟩ | exact ⟨rfl, _, Eq.trans (World.drewN_drewN _ _ _) (congrArg (World.drewN _) (Nat.add_assoc _ _ _))⟩))); try go_wp2_with (first | (go_at_call 15; (with_reducible refine (minuetlaw0_Num.calls t105 t108 _ A18.out).mono ?_); rintro e w' ⟨rfl, ⟨nd, rfl⟩⟩; (try first | exact ⟨rfl, _, World.drewN_drewN _ _ _⟩ | exact ⟨rfl, _, Eq.trans (World.drewN_drewN _ _ _) (congrArg (World.drewN _) (Nat.add_assoc _ _ _))⟩)) | (go_at_call 15; (with_reducible refine (minuetlaw0_Num.calls t107 t109 _ A20.out).mono ?_); rintro e w' ⟨rfl, ⟨nd, rfl⟩⟩; (try first | exact ⟨rfl, _, World.drewN_drewN _ _ _⟩ | exact ⟨rfl, _, Eq.trans (World.drewN_drewN _ _ _) (congrArg (World.drewN _) (Nat.add_assoc _ _ _))⟩))))
                go_meet
                case rel => exact ⟨_, (true), (by first | rfl | (simp; done) | (simp [*]; done)), H', ⟨by have := HJ6.out; first | omega | exact Nat.le_refl _⟩, ⟨by repeat (first | (with_reducible first | exact HB.out | apply below_alloc | apply pw_below_drewN | apply below_drew1) | exact HB.out)⟩⟩
              · rw [if_neg c22] at H
                have c22b0 : decide (t104 < 0) = false := decide_eq_false c22
                clear c22
                by_cases c23 : t106 > (t102.size : Int)
                · rw [if_pos c23] at H
                  have c23b0 : decide ((t102.size : Int) < t106) = true := decide_eq_true c23
                  clear c23
                  have H' := Aside0.mk H
                  clear H
                  go_wp2_with (first | (go_at_call 15; (with_reducible refine (minuetlaw0_Num.calls t105 t108 _ A18.out).mono ?_); rintro e w' ⟨rfl, ⟨nd, rfl⟩⟩; (try first | exact ⟨rfl, _, World.drewN_drewN _ _ _⟩ | exact ⟨rfl, _, Eq.trans (World.drewN_drewN _ _ _) (congrArg (World.drewN _) (Nat.add_assoc _ _ _))⟩)) | (go_at_call 15; (with_reducible refine (minuetlaw0_Num.calls t107 t109 _ A20.out).mono ?_); rintro e w' ⟨rfl, ⟨nd, rfl⟩⟩; (try first | exact ⟨rfl, _, World.drewN_drewN _ _ _⟩ | exact ⟨rfl, _, Eq.trans (World.drewN_drewN _ _ _) (congrArg (World.drewN _) (Nat.add_assoc _ _ _))⟩)))
                  repeat (go_quiet (first | (go_at_call 15; (with_reducible refine (minuetlaw0_Num.calls t105 t108 _ A18.out).mono ?_); rintro e w' ⟨rfl, ⟨nd, rfl⟩⟩; (try first | exact ⟨rfl, _, World.drewN_drewN _ _ _⟩ | exact ⟨rfl, _, Eq.trans (World.drewN_drewN _ _ _) (congrArg (World.drewN _) (Nat.add_assoc _ _ _))⟩)) | (go_at_call 15; (with_reducible refine (minuetlaw0_Num.calls t107 t109 _ A20.out).mono ?_); rintro e w' ⟨rfl, ⟨nd, rfl⟩⟩; (try first | exact ⟨rfl, _, World.drewN_drewN _ _ _⟩ | exact ⟨rfl, _, Eq.trans (World.drewN_drewN _ _ _) (congrArg (World.drewN _) (Nat.add_assoc _ _ _))⟩))); try go_wp2_with (first | (go_at_call 15; (with_reducible refine (minuetlaw0_Num.calls t105 t108 _ A18.out).mono ?_); rintro e w' ⟨rfl, ⟨nd, rfl⟩⟩; (try first | exact ⟨rfl, _, World.drewN_drewN _ _ _⟩ | exact ⟨rfl, _, Eq.trans (World.drewN_drewN _ _ _) (congrArg (World.drewN _) (Nat.add_assoc _ _ _))⟩)) | (go_at_call 15; (with_reducible refine (minuetlaw0_Num.calls t107 t109 _ A20.out).mono ?_); rintro e w' ⟨rfl, ⟨nd, rfl⟩⟩; (try first | exact ⟨rfl, _, World.drewN_drewN _ _ _⟩ | exact ⟨rfl, _, Eq.trans (World.drewN_drewN _ _ _) (congrArg (World.drewN _) (Nat.add_assoc _ _ _))⟩))))
                  go_meet
                  case rel => exact ⟨_, (true), (by first | rfl | (simp; done) | (simp [*]; done)), H', ⟨by have := HJ6.out; first | omega | exact Nat.le_refl _⟩, ⟨by repeat (first | (with_reducible first | exact HB.out | apply below_alloc | apply pw_below_drewN | apply below_drew1) | exact HB.out)⟩⟩
                · rw [if_neg c23] at H
                  have c23b0 : decide ((t102.size : Int) < t106) = false := decide_eq_false c23
                  clear c23
                  have H' := Aside0.mk H
                  clear H
                  go_wp2_with (first | (go_at_call 15; (with_reducible refine (minuetlaw0_Num.calls t105 t108 _ A18.out).mono ?_); rintro e w' ⟨rfl, ⟨nd, rfl⟩⟩; (try first | exact ⟨rfl, _, World.drewN_drewN _ _ _⟩ | exact ⟨rfl, _, Eq.trans (World.drewN_drewN _ _ _) (congrArg (World.drewN _) (Nat.add_assoc _ _ _))⟩)) | (go_at_call 15; (with_reducible refine (minuetlaw0_Num.calls t107 t109 _ A20.out).mono ?_); rintro e w' ⟨rfl, ⟨nd, rfl⟩⟩; (try first | exact ⟨rfl, _, World.drewN_drewN _ _ _⟩ | exact ⟨rfl, _, Eq.trans (World.drewN_drewN _ _ _) (congrArg (World.drewN _) (Nat.add_assoc _ _ _))⟩)))
                  repeat (go_quiet (first | (go_at_call 15; (with_reducible refine (minuetlaw0_Num.calls t105 t108 _ A18.out).mono ?_); rintro e w' ⟨rfl, ⟨nd, rfl⟩⟩; (try first | exact ⟨rfl, _, World.drewN_drewN _ _ _⟩ | exact ⟨rfl, _, Eq.trans (World.drewN_drewN _ _ _) (congrArg (World.drewN _) (Nat.add_assoc _ _ _))⟩)) | (go_at_call 15; (with_reducible refine (minuetlaw0_Num.calls t107 t109 _ A20.out).mono ?_); rintro e w' ⟨rfl, ⟨nd, rfl⟩⟩; (try first | exact ⟨rfl, _, World.drewN_drewN _ _ _⟩ | exact ⟨rfl, _, Eq.trans (World.drewN_drewN _ _ _) (congrArg (World.drewN _) (Nat.add_assoc _ _ _))⟩))); try go_wp2_with (first | (go_at_call 15; (with_reducible refine (minuetlaw0_Num.calls t105 t108 _ A18.out).mono ?_); rintro e w' ⟨rfl, ⟨nd, rfl⟩⟩; (try first | exact ⟨rfl, _, World.drewN_drewN _ _ _⟩ | exact ⟨rfl, _, Eq.trans (World.drewN_drewN _ _ _) (congrArg (World.drewN _) (Nat.add_assoc _ _ _))⟩)) | (go_at_call 15; (with_reducible refine (minuetlaw0_Num.calls t107 t109 _ A20.out).mono ?_); rintro e w' ⟨rfl, ⟨nd, rfl⟩⟩; (try first | exact ⟨rfl, _, World.drewN_drewN _ _ _⟩ | exact ⟨rfl, _, Eq.trans (World.drewN_drewN _ _ _) (congrArg (World.drewN _) (Nat.add_assoc _ _ _))⟩))))
                  go_meet
                  case rel => exact ⟨_, (decide (t104 > (wrap64 (t106 + (t102.size : Int))))), (by first | rfl | (simp; done) | (simp [*]; done)), H', ⟨by have := HJ6.out; first | omega | exact Nat.le_refl _⟩, ⟨by repeat (first | (with_reducible first | exact HB.out | apply below_alloc | apply pw_below_drewN | apply below_drew1) | exact HB.out)⟩⟩
            · rw [if_neg c21] at H
              have c21b0 : (t109 == 0) = false := beq_eq_false_iff_ne.mpr c21
              have c21b1 : (t109 != 0) = true := bne_iff_ne.mpr c21
              have H' := Aside0.mk H
              clear H
              go_wp2_with (first | (go_at_call 15; (with_reducible refine (minuetlaw0_Num.calls t105 t108 _ A18.out).mono ?_); rintro e w' ⟨rfl, ⟨nd, rfl⟩⟩; (try first | exact ⟨rfl, _, World.drewN_drewN _ _ _⟩ | exact ⟨rfl, _, Eq.trans (World.drewN_drewN _ _ _) (congrArg (World.drewN _) (Nat.add_assoc _ _ _))⟩)) | (go_at_call 15; (with_reducible refine (minuetlaw0_Num.calls t107 t109 _ A20.out).mono ?_); rintro e w' ⟨rfl, ⟨nd, rfl⟩⟩; (try first | exact ⟨rfl, _, World.drewN_drewN _ _ _⟩ | exact ⟨rfl, _, Eq.trans (World.drewN_drewN _ _ _) (congrArg (World.drewN _) (Nat.add_assoc _ _ _))⟩)))
              repeat (go_quiet (first | (go_at_call 15; (with_reducible refine (minuetlaw0_Num.calls t105 t108 _ A18.out).mono ?_); rintro e w' ⟨rfl, ⟨nd, rfl⟩⟩; (try first | exact ⟨rfl, _, World.drewN_drewN _ _ _⟩ | exact ⟨rfl, _, Eq.trans (World.drewN_drewN _ _ _) (congrArg (World.drewN _) (Nat.add_assoc _ _ _))⟩)) | (go_at_call 15; (with_reducible refine (minuetlaw0_Num.calls t107 t109 _ A20.out).mono ?_); rintro e w' ⟨rfl, ⟨nd, rfl⟩⟩; (try first | exact ⟨rfl, _, World.drewN_drewN _ _ _⟩ | exact ⟨rfl, _, Eq.trans (World.drewN_drewN _ _ _) (congrArg (World.drewN _) (Nat.add_assoc _ _ _))⟩))); try go_wp2_with (first | (go_at_call 15; (with_reducible refine (minuetlaw0_Num.calls t105 t108 _ A18.out).mono ?_); rintro e w' ⟨rfl, ⟨nd, rfl⟩⟩; (try first | exact ⟨rfl, _, World.drewN_drewN _ _ _⟩ | exact ⟨rfl, _, Eq.trans (World.drewN_drewN _ _ _) (congrArg (World.drewN _) (Nat.add_assoc _ _ _))⟩)) | (go_at_call 15; (with_reducible refine (minuetlaw0_Num.calls t107 t109 _ A20.out).mono ?_); rintro e w' ⟨rfl, ⟨nd, rfl⟩⟩; (try first | exact ⟨rfl, _, World.drewN_drewN _ _ _⟩ | exact ⟨rfl, _, Eq.trans (World.drewN_drewN _ _ _) (congrArg (World.drewN _) (Nat.add_assoc _ _ _))⟩))))
              go_meet
              case rel => exact ⟨_, (true), (by first | rfl | (simp; done) | (simp [*]; done)), H', ⟨by have := HJ6.out; first | omega | exact Nat.le_refl _⟩, ⟨by repeat (first | (with_reducible first | exact HB.out | apply below_alloc | apply pw_below_drewN | apply below_drew1) | exact HB.out)⟩⟩
          · rw [if_neg c19] at H
            have c19b0 : (t108 == 0) = false := beq_eq_false_iff_ne.mpr c19
            have c19b1 : (t108 != 0) = true := bne_iff_ne.mpr c19
            (first | rw [c19b0] | (simp only [i64_w, i32_w]; rw [c19b0]) | skip)
            have H' := Aside0.mk H
            clear H
            go_wp2_with (first | (go_at_call 15; (with_reducible refine (minuetlaw0_Num.calls t105 t108 _ A18.out).mono ?_); rintro e w' ⟨rfl, ⟨nd, rfl⟩⟩; (try first | exact ⟨rfl, _, World.drewN_drewN _ _ _⟩ | exact ⟨rfl, _, Eq.trans (World.drewN_drewN _ _ _) (congrArg (World.drewN _) (Nat.add_assoc _ _ _))⟩)))
            repeat (go_quiet (first | (go_at_call 15; (with_reducible refine (minuetlaw0_Num.calls t105 t108 _ A18.out).mono ?_); rintro e w' ⟨rfl, ⟨nd, rfl⟩⟩; (try first | exact ⟨rfl, _, World.drewN_drewN _ _ _⟩ | exact ⟨rfl, _, Eq.trans (World.drewN_drewN _ _ _) (congrArg (World.drewN _) (Nat.add_assoc _ _ _))⟩))); try go_wp2_with (first | (go_at_call 15; (with_reducible refine (minuetlaw0_Num.calls t105 t108 _ A18.out).mono ?_); rintro e w' ⟨rfl, ⟨nd, rfl⟩⟩; (try first | exact ⟨rfl, _, World.drewN_drewN _ _ _⟩ | exact ⟨rfl, _, Eq.trans (World.drewN_drewN _ _ _) (congrArg (World.drewN _) (Nat.add_assoc _ _ _))⟩))))
            go_meet
            case rel => exact ⟨_, (true), (by first | rfl | (simp; done) | (simp [*]; done)), H', ⟨by have := HJ6.out; first | omega | exact Nat.le_refl _⟩, ⟨by repeat (first | (with_reducible first | exact HB.out | apply below_alloc | apply pw_below_drewN | apply below_drew1) | exact HB.out)⟩⟩
         case rest =>
          clear HC15
          try clear c1
          try clear c2
          try clear p2
          try clear c4
          try clear c5
          try clear p6
          try clear c10
          try clear c10b0
          try clear c10b1
          try clear c11
          try clear c12
          try clear c12b0
          try clear c12b1
          try clear c19
          try clear c19b0
          try clear c19b1
          try clear c21
          try clear c21b0
          try clear c21b1
          try clear c22
          try clear c22b0
          try clear c23
          try clear c23b0
          try clear p2
          obtain ⟨kq, x77_14, rfl, HA, HJ14, HB⟩ := hcut
          cases kq with
          | zero => exact absurd HA.out (by simp [minuetlaw6_CursorSigns.j1])
          | succ kj14 =>
           have H := HA.out
           clear HA
           simp only [minuetlaw6_CursorSigns.j1] at H
           by_cases c24 : x77_14 = true
           · subst c24
             have H1 : (none) = some r := by rw [if_pos rfl] at H; exact H
             clear H
             have H := H1
             clear H1
             exact absurd H (by simp)
           · replace c24 := Bool.eq_false_iff.mpr c24
             subst c24
             have H1 : (minuetlaw6_CursorSigns.l0 kj14 a0 l1 t102 (wrap64 (Int.tmod (IntKind.u64.wrap (a2)) (IntKind.u64.wrap ((a0.size : Int))))) t104 t106 0 false 0) = some r := by rw [if_neg (show ¬ (false = true) by decide)] at H; exact H
             clear H
             have H := H1
             clear H1
             have H' := Aside0.mk H
             clear H
             go_wp2
             repeat (go_quiet (fail); try go_wp2)
             go_loopg [14, 15, 16] kj14 (fun kq v14 v15 v16 w' => ∃ (x14_3 : Int) (x15_3 : Bool) (x16_3 : Int), v14 = .int .i64 x14_3 ∧ v15 = .bool x15_3 ∧ v16 = .int .i64 x16_3 ∧ Aside0 (minuetlaw6_CursorSigns.l0 kq a0 l1 t102 (wrap64 (Int.tmod (IntKind.u64.wrap (a2)) (IntKind.u64.wrap ((a0.size : Int))))) t104 t106 x14_3 x15_3 x16_3 = some r) ∧ Aside0 (kq ≤ kj14) ∧ Aside0 (Below w.heap.size w w'))
             case atStart => exact ⟨(0), (false), (0), (by first | rfl | (simp; done) | (simp [*]; done)), (by first | rfl | (simp; done) | (simp [*]; done)), (by first | rfl | (simp; done) | (simp [*]; done)), H', ⟨Nat.le_refl _⟩, ⟨by repeat (first | (with_reducible first | exact HB.out | apply below_alloc | apply pw_below_drewN | apply below_drew1) | exact HB.out)⟩⟩
             case round =>
              clear H'
              try clear c1
              try clear c2
              try clear p2
              try clear c4
              try clear c5
              try clear p6
              try clear c10
              try clear c10b0
              try clear c10b1
              try clear c11
              try clear c12
              try clear c12b0
              try clear c12b1
              try clear c19
              try clear c19b0
              try clear c19b1
              try clear c21
              try clear c21b0
              try clear c21b1
              try clear c22
              try clear c22b0
              try clear c23
              try clear c23b0
              try clear c24
              try clear p2
              try clear p6
              obtain ⟨x14_3, x15_3, x16_3, rfl, rfl, rfl, HA, HK3, HB⟩ := hrel
              cases gk with
              | zero => exact absurd HA.out (by simp [minuetlaw6_CursorSigns.l0])
              | succ k3 =>
               have H := HA.out
               clear HA
               simp only [minuetlaw6_CursorSigns.l0] at H
               by_cases c25 : x16_3 < (l1.length : Int)
               · rw [if_pos c25] at H
                 have c25b0 : decide (x16_3 < (l1.length : Int)) = true := decide_eq_true c25
                 clear c25
                 by_cases c26 : 0 ≤ x16_3
                 · rw [if_pos c26] at H
                   have c26b0 : decide (0 ≤ x16_3) = true := decide_eq_true c26
                   clear c26
                   by_cases c27 : ((rd_T31 l1 x16_3).f0) = 1
                   · rw [if_pos c27] at H
                     have c27b0 : (((rd_T31 l1 x16_3).f0) == 1) = true := beq_iff_eq.mpr c27
                     have c27b1 : (((rd_T31 l1 x16_3).f0) != 1) = false := bne_eq_false_iff_eq.mpr c27
                     clear c27
                     have H' := Aside0.mk H
                     clear H
                     have p110 : 0 ≤ (x16_3 : Int) := of_decide_eq_true (by first | (with_reducible assumption) | assumption)
                     have q110 : x16_3 < (l1.length : Int) := of_decide_eq_true (by first | (with_reducible assumption) | assumption)
                     obtain ⟨ad110, e110, hx110_0, hx110_1, hx110_2⟩ := at_T31 HR1.out x16_3 p110 q110
                     cases e110
                     replace hx110_0 := (HB.out.cell (World.block_lt_of_cell? w _ hx110_0)).trans hx110_0
                     replace hx110_1 := (HB.out.cell (World.block_lt_of_cell? w _ hx110_1)).trans hx110_1
                     replace hx110_2 := (HB.out.cell (World.block_lt_of_cell? w _ hx110_2)).trans hx110_2
                     replace p110 := eq_true p110
                     replace q110 := eq_true q110
                     go_wp2
                     repeat (go_quiet (fail); try go_wp2)
                     go_roundg k3
                     case measure => have := HJ6.out; have := HJ14.out; have := HK3.out; omega
                     case rel => exact ⟨(x14_3), (x15_3), (wrap64 (x16_3 + 1)), (by first | rfl | (simp; done) | (simp [*]; done)), (by first | rfl | (simp; done) | (simp [*]; done)), (by first | rfl | (simp; done) | (simp [*]; done)), H', ⟨by have := HJ6.out; have := HJ14.out; have := HK3.out; omega⟩, ⟨by repeat (first | (with_reducible first | exact HB.out | apply below_alloc | apply pw_below_drewN | apply below_drew1) | exact HB.out)⟩⟩
                   · rw [if_neg c27] at H
                     have c27b0 : (((rd_T31 l1 x16_3).f0) == 1) = false := beq_eq_false_iff_ne.mpr c27
                     have c27b1 : (((rd_T31 l1 x16_3).f0) != 1) = true := bne_iff_ne.mpr c27
                     by_cases c28 : x15_3 = true
                     · subst c28
                       have H1 : (minuetlaw6_CursorSigns.l0 k3 a0 l1 t102 (wrap64 (Int.tmod (IntKind.u64.wrap (a2)) (IntKind.u64.wrap ((a0.size : Int))))) t104 t106 (wrap64 (x14_3 + ((rd_T31 l1 x16_3).f1))) true (wrap64 (x16_3 + 1))) = some r := by rw [if_pos rfl] at H; exact H
                       clear H
                       have H := H1
                       clear H1
                       have H' := Aside0.mk H
                       clear H
                       have p110 : 0 ≤ (x16_3 : Int) := of_decide_eq_true (by first | (with_reducible assumption) | assumption)
                       have q110 : x16_3 < (l1.length : Int) := of_decide_eq_true (by first | (with_reducible assumption) | assumption)
                       obtain ⟨ad110, e110, hx110_0, hx110_1, hx110_2⟩ := at_T31 HR1.out x16_3 p110 q110
                       cases e110
                       replace hx110_0 := (HB.out.cell (World.block_lt_of_cell? w _ hx110_0)).trans hx110_0
                       replace hx110_1 := (HB.out.cell (World.block_lt_of_cell? w _ hx110_1)).trans hx110_1
                       replace hx110_2 := (HB.out.cell (World.block_lt_of_cell? w _ hx110_2)).trans hx110_2
                       replace p110 := eq_true p110
                       replace q110 := eq_true q110
                       have p111 : 0 ≤ (x16_3 : Int) := of_decide_eq_true (by first | (with_reducible assumption) | assumption)
                       have q111 : x16_3 < (l1.length : Int) := of_decide_eq_true (by first | (with_reducible assumption) | assumption)
                       obtain ⟨ad111, e111, hx111_0, hx111_1, hx111_2⟩ := at_T31 HR1.out x16_3 p111 q111
                       obtain rfl : ad110 = ad111 := (by injection e111)
                       replace hx111_0 := (HB.out.cell (World.block_lt_of_cell? w _ hx111_0)).trans hx111_0
                       replace hx111_1 := (HB.out.cell (World.block_lt_of_cell? w _ hx111_1)).trans hx111_1
                       replace hx111_2 := (HB.out.cell (World.block_lt_of_cell? w _ hx111_2)).trans hx111_2
                       replace p111 := eq_true p111
                       replace q111 := eq_true q111
                       go_wp2
                       repeat (go_quiet (fail); try go_wp2)
                       go_roundg k3
                       case measure => have := HJ6.out; have := HJ14.out; have := HK3.out; omega
                       case rel => exact ⟨(wrap64 (x14_3 + ((rd_T31 l1 x16_3).f1))), (true), (wrap64 (x16_3 + 1)), (by first | rfl | (simp; done) | (simp [*]; done)), (by first | rfl | (simp; done) | (simp [*]; done)), (by first | rfl | (simp; done) | (simp [*]; done)), H', ⟨by have := HJ6.out; have := HJ14.out; have := HK3.out; omega⟩, ⟨by repeat (first | (with_reducible first | exact HB.out | apply below_alloc | apply pw_below_drewN | apply below_drew1) | exact HB.out)⟩⟩
                     · replace c28 := Bool.eq_false_iff.mpr c28
                       subst c28
                       have H1 : (if ((rd_T31 l1 x16_3).f0) = 0 then (if (wrap64 (Int.tmod (IntKind.u64.wrap (a2)) (IntKind.u64.wrap ((a0.size : Int))))) ≥ x14_3 then (minuetlaw6_CursorSigns.l0 k3 a0 l1 t102 (wrap64 (Int.tmod (IntKind.u64.wrap (a2)) (IntKind.u64.wrap ((a0.size : Int))))) t104 t106 (wrap64 (x14_3 + ((rd_T31 l1 x16_3).f1))) (decide ((wrap64 (Int.tmod (IntKind.u64.wrap (a2)) (IntKind.u64.wrap ((a0.size : Int))))) < (wrap64 (x14_3 + ((rd_T31 l1 x16_3).f1))))) (wrap64 (x16_3 + 1))) else (minuetlaw6_CursorSigns.l0 k3 a0 l1 t102 (wrap64 (Int.tmod (IntKind.u64.wrap (a2)) (IntKind.u64.wrap ((a0.size : Int))))) t104 t106 (wrap64 (x14_3 + ((rd_T31 l1 x16_3).f1))) false (wrap64 (x16_3 + 1)))) else (minuetlaw6_CursorSigns.l0 k3 a0 l1 t102 (wrap64 (Int.tmod (IntKind.u64.wrap (a2)) (IntKind.u64.wrap ((a0.size : Int))))) t104 t106 (wrap64 (x14_3 + ((rd_T31 l1 x16_3).f1))) false (wrap64 (x16_3 + 1)))) = some r := by rw [if_neg (show ¬ (false = true) by decide)] at H; exact H
                       clear H
                       have H := H1
                       clear H1
                       by_cases c29 : ((rd_T31 l1 x16_3).f0) = 0
                       · rw [if_pos c29] at H
                         have c29b0 : (((rd_T31 l1 x16_3).f0) == 0) = true := beq_iff_eq.mpr c29
                         have c29b1 : (((rd_T31 l1 x16_3).f0) != 0) = false := bne_eq_false_iff_eq.mpr c29
                         clear c29
                         by_cases c30 : (wrap64 (Int.tmod (IntKind.u64.wrap (a2)) (IntKind.u64.wrap ((a0.size : Int))))) ≥ x14_3
                         · rw [if_pos c30] at H
                           have c30b0 : decide (x14_3 ≤ (wrap64 (Int.tmod (IntKind.u64.wrap (a2)) (IntKind.u64.wrap ((a0.size : Int)))))) = true := decide_eq_true c30
                           clear c30
                           have H' := Aside0.mk H
                           clear H
                           have p110 : 0 ≤ (x16_3 : Int) := of_decide_eq_true (by first | (with_reducible assumption) | assumption)
                           have q110 : x16_3 < (l1.length : Int) := of_decide_eq_true (by first | (with_reducible assumption) | assumption)
                           obtain ⟨ad110, e110, hx110_0, hx110_1, hx110_2⟩ := at_T31 HR1.out x16_3 p110 q110
                           cases e110
                           replace hx110_0 := (HB.out.cell (World.block_lt_of_cell? w _ hx110_0)).trans hx110_0
                           replace hx110_1 := (HB.out.cell (World.block_lt_of_cell? w _ hx110_1)).trans hx110_1
                           replace hx110_2 := (HB.out.cell (World.block_lt_of_cell? w _ hx110_2)).trans hx110_2
                           replace p110 := eq_true p110
                           replace q110 := eq_true q110
                           have p112 : 0 ≤ (x16_3 : Int) := of_decide_eq_true (by first | (with_reducible assumption) | assumption)
                           have q112 : x16_3 < (l1.length : Int) := of_decide_eq_true (by first | (with_reducible assumption) | assumption)
                           obtain ⟨ad112, e112, hx112_0, hx112_1, hx112_2⟩ := at_T31 HR1.out x16_3 p112 q112
                           obtain rfl : ad110 = ad112 := (by injection e112)
                           replace hx112_0 := (HB.out.cell (World.block_lt_of_cell? w _ hx112_0)).trans hx112_0
                           replace hx112_1 := (HB.out.cell (World.block_lt_of_cell? w _ hx112_1)).trans hx112_1
                           replace hx112_2 := (HB.out.cell (World.block_lt_of_cell? w _ hx112_2)).trans hx112_2
                           replace p112 := eq_true p112
                           replace q112 := eq_true q112
                           have p113 : 0 ≤ (x16_3 : Int) := of_decide_eq_true (by first | (with_reducible assumption) | assumption)
                           have q113 : x16_3 < (l1.length : Int) := of_decide_eq_true (by first | (with_reducible assumption) | assumption)
                           obtain ⟨ad113, e113, hx113_0, hx113_1, hx113_2⟩ := at_T31 HR1.out x16_3 p113 q113
                           obtain rfl : ad110 = ad113 := (by injection e113)
                           replace hx113_0 := (HB.out.cell (World.block_lt_of_cell? w _ hx113_0)).trans hx113_0
                           replace hx113_1 := (HB.out.cell (World.block_lt_of_cell? w _ hx113_1)).trans hx113_1
                           replace hx113_2 := (HB.out.cell (World.block_lt_of_cell? w _ hx113_2)).trans hx113_2
                           replace p113 := eq_true p113
                           replace q113 := eq_true q113
                           have p114 : 0 ≤ (x16_3 : Int) := of_decide_eq_true (by first | (with_reducible assumption) | assumption)
                           have q114 : x16_3 < (l1.length : Int) := of_decide_eq_true (by first | (with_reducible assumption) | assumption)
                           obtain ⟨ad114, e114, hx114_0, hx114_1, hx114_2⟩ := at_T31 HR1.out x16_3 p114 q114
                           obtain rfl : ad110 = ad114 := (by injection e114)
                           replace hx114_0 := (HB.out.cell (World.block_lt_of_cell? w _ hx114_0)).trans hx114_0
                           replace hx114_1 := (HB.out.cell (World.block_lt_of_cell? w _ hx114_1)).trans hx114_1
                           replace hx114_2 := (HB.out.cell (World.block_lt_of_cell? w _ hx114_2)).trans hx114_2
                           replace p114 := eq_true p114
                           replace q114 := eq_true q114
                           go_wp2
                           repeat (go_quiet (fail); try go_wp2)
                           go_roundg k3
                           case measure => have := HJ6.out; have := HJ14.out; have := HK3.out; omega
                           case rel => exact ⟨(wrap64 (x14_3 + ((rd_T31 l1 x16_3).f1))), (decide ((wrap64 (Int.tmod (IntKind.u64.wrap (a2)) (IntKind.u64.wrap ((a0.size : Int))))) < (wrap64 (x14_3 + ((rd_T31 l1 x16_3).f1))))), (wrap64 (x16_3 + 1)), (by first | rfl | (simp; done) | (simp [*]; done)), (by first | rfl | (simp; done) | (simp [*]; done)), (by first | rfl | (simp; done) | (simp [*]; done)), H', ⟨by have := HJ6.out; have := HJ14.out; have := HK3.out; omega⟩, ⟨by repeat (first | (with_reducible first | exact HB.out | apply below_alloc | apply pw_below_drewN | apply below_drew1) | exact HB.out)⟩⟩
                         · rw [if_neg c30] at H
                           have c30b0 : decide (x14_3 ≤ (wrap64 (Int.tmod (IntKind.u64.wrap (a2)) (IntKind.u64.wrap ((a0.size : Int)))))) = false := decide_eq_false c30
                           clear c30
                           have H' := Aside0.mk H
                           clear H
                           have p110 : 0 ≤ (x16_3 : Int) := of_decide_eq_true (by first | (with_reducible assumption) | assumption)
                           have q110 : x16_3 < (l1.length : Int) := of_decide_eq_true (by first | (with_reducible assumption) | assumption)
                           obtain ⟨ad110, e110, hx110_0, hx110_1, hx110_2⟩ := at_T31 HR1.out x16_3 p110 q110
                           cases e110
                           replace hx110_0 := (HB.out.cell (World.block_lt_of_cell? w _ hx110_0)).trans hx110_0
                           replace hx110_1 := (HB.out.cell (World.block_lt_of_cell? w _ hx110_1)).trans hx110_1
                           replace hx110_2 := (HB.out.cell (World.block_lt_of_cell? w _ hx110_2)).trans hx110_2
                           replace p110 := eq_true p110
                           replace q110 := eq_true q110
                           have p112 : 0 ≤ (x16_3 : Int) := of_decide_eq_true (by first | (with_reducible assumption) | assumption)
                           have q112 : x16_3 < (l1.length : Int) := of_decide_eq_true (by first | (with_reducible assumption) | assumption)
                           obtain ⟨ad112, e112, hx112_0, hx112_1, hx112_2⟩ := at_T31 HR1.out x16_3 p112 q112
                           obtain rfl : ad110 = ad112 := (by injection e112)
                           replace hx112_0 := (HB.out.cell (World.block_lt_of_cell? w _ hx112_0)).trans hx112_0
                           replace hx112_1 := (HB.out.cell (World.block_lt_of_cell? w _ hx112_1)).trans hx112_1
                           replace hx112_2 := (HB.out.cell (World.block_lt_of_cell? w _ hx112_2)).trans hx112_2
                           replace p112 := eq_true p112
                           replace q112 := eq_true q112
                           have p115 : 0 ≤ (x16_3 : Int) := of_decide_eq_true (by first | (with_reducible assumption) | assumption)
                           have q115 : x16_3 < (l1.length : Int) := of_decide_eq_true (by first | (with_reducible assumption) | assumption)
                           obtain ⟨ad115, e115, hx115_0, hx115_1, hx115_2⟩ := at_T31 HR1.out x16_3 p115 q115
                           obtain rfl : ad110 = ad115 := (by injection e115)
                           replace hx115_0 := (HB.out.cell (World.block_lt_of_cell? w _ hx115_0)).trans hx115_0
                           replace hx115_1 := (HB.out.cell (World.block_lt_of_cell? w _ hx115_1)).trans hx115_1
                           replace hx115_2 := (HB.out.cell (World.block_lt_of_cell? w _ hx115_2)).trans hx115_2
                           replace p115 := eq_true p115
                           replace q115 := eq_true q115
                           go_wp2
                           repeat (go_quiet (fail); try go_wp2)
                           go_roundg k3
                           case measure => have := HJ6.out; have := HJ14.out; have := HK3.out; omega
                           case rel => exact ⟨(wrap64 (x14_3 + ((rd_T31 l1 x16_3).f1))), (false), (wrap64 (x16_3 + 1)), (by first | rfl | (simp; done) | (simp [*]; done)), (by first | rfl | (simp; done) | (simp [*]; done)), (by first | rfl | (simp; done) | (simp [*]; done)), H', ⟨by have := HJ6.out; have := HJ14.out; have := HK3.out; omega⟩, ⟨by repeat (first | (with_reducible first | exact HB.out | apply below_alloc | apply pw_below_drewN | apply below_drew1) | exact HB.out)⟩⟩
                       · rw [if_neg c29] at H
                         have c29b0 : (((rd_T31 l1 x16_3).f0) == 0) = false := beq_eq_false_iff_ne.mpr c29
                         have c29b1 : (((rd_T31 l1 x16_3).f0) != 0) = true := bne_iff_ne.mpr c29
                         have H' := Aside0.mk H
                         clear H
                         have p110 : 0 ≤ (x16_3 : Int) := of_decide_eq_true (by first | (with_reducible assumption) | assumption)
                         have q110 : x16_3 < (l1.length : Int) := of_decide_eq_true (by first | (with_reducible assumption) | assumption)
                         obtain ⟨ad110, e110, hx110_0, hx110_1, hx110_2⟩ := at_T31 HR1.out x16_3 p110 q110
                         cases e110
                         replace hx110_0 := (HB.out.cell (World.block_lt_of_cell? w _ hx110_0)).trans hx110_0
                         replace hx110_1 := (HB.out.cell (World.block_lt_of_cell? w _ hx110_1)).trans hx110_1
                         replace hx110_2 := (HB.out.cell (World.block_lt_of_cell? w _ hx110_2)).trans hx110_2
                         replace p110 := eq_true p110
                         replace q110 := eq_true q110
                         have p112 : 0 ≤ (x16_3 : Int) := of_decide_eq_true (by first | (with_reducible assumption) | assumption)
                         have q112 : x16_3 < (l1.length : Int) := of_decide_eq_true (by first | (with_reducible assumption) | assumption)
                         obtain ⟨ad112, e112, hx112_0, hx112_1, hx112_2⟩ := at_T31 HR1.out x16_3 p112 q112
                         obtain rfl : ad110 = ad112 := (by injection e112)
                         replace hx112_0 := (HB.out.cell (World.block_lt_of_cell? w _ hx112_0)).trans hx112_0
                         replace hx112_1 := (HB.out.cell (World.block_lt_of_cell? w _ hx112_1)).trans hx112_1
                         replace hx112_2 := (HB.out.cell (World.block_lt_of_cell? w _ hx112_2)).trans hx112_2
                         replace p112 := eq_true p112
                         replace q112 := eq_true q112
                         have p116 : 0 ≤ (x16_3 : Int) := of_decide_eq_true (by first | (with_reducible assumption) | assumption)
                         have q116 : x16_3 < (l1.length : Int) := of_decide_eq_true (by first | (with_reducible assumption) | assumption)
                         obtain ⟨ad116, e116, hx116_0, hx116_1, hx116_2⟩ := at_T31 HR1.out x16_3 p116 q116
                         obtain rfl : ad110 = ad116 := (by injection e116)
                         replace hx116_0 := (HB.out.cell (World.block_lt_of_cell? w _ hx116_0)).trans hx116_0
                         replace hx116_1 := (HB.out.cell (World.block_lt_of_cell? w _ hx116_1)).trans hx116_1
                         replace hx116_2 := (HB.out.cell (World.block_lt_of_cell? w _ hx116_2)).trans hx116_2
                         replace p116 := eq_true p116
                         replace q116 := eq_true q116
                         go_wp2
                         repeat (go_quiet (fail); try go_wp2)
                         go_roundg k3
                         case measure => have := HJ6.out; have := HJ14.out; have := HK3.out; omega
                         case rel => exact ⟨(wrap64 (x14_3 + ((rd_T31 l1 x16_3).f1))), (false), (wrap64 (x16_3 + 1)), (by first | rfl | (simp; done) | (simp [*]; done)), (by first | rfl | (simp; done) | (simp [*]; done)), (by first | rfl | (simp; done) | (simp [*]; done)), H', ⟨by have := HJ6.out; have := HJ14.out; have := HK3.out; omega⟩, ⟨by repeat (first | (with_reducible first | exact HB.out | apply below_alloc | apply pw_below_drewN | apply below_drew1) | exact HB.out)⟩⟩
                 · rw [if_neg c26] at H
                   exact absurd H (by simp)
               · rw [if_neg c25] at H
                 have c25b0 : decide (x16_3 < (l1.length : Int)) = false := decide_eq_false c25
                 clear c25
                 by_cases c31 : x15_3 = true
                 · subst c31
                   have H1 : (if t106 = (wrap64 (t104 + 1)) then (if 0 ≤ t104 then (if t104 < (t102.size : Int) then (if 0 ≤ (wrap64 (Int.tmod (IntKind.u64.wrap (a2)) (IntKind.u64.wrap ((a0.size : Int))))) then (if (wrap64 (Int.tmod (IntKind.u64.wrap (a2)) (IntKind.u64.wrap ((a0.size : Int))))) < (a0.size : Int) then (some ((bt t102 t104) == (bt a0 (wrap64 (Int.tmod (IntKind.u64.wrap (a2)) (IntKind.u64.wrap ((a0.size : Int)))))))) else (none)) else (none)) else (none)) else (none)) else (none)) = some r := by rw [if_pos rfl] at H; exact H
                   clear H
                   have H := H1
                   clear H1
                   by_cases c32 : t106 = (wrap64 (t104 + 1))
                   · rw [if_pos c32] at H
                     have c32b0 : (t106 == (wrap64 (t104 + 1))) = true := beq_iff_eq.mpr c32
                     have c32b1 : (t106 != (wrap64 (t104 + 1))) = false := bne_eq_false_iff_eq.mpr c32
                     clear c32
                     by_cases c33 : 0 ≤ t104
                     · rw [if_pos c33] at H
                       have c33b0 : decide (0 ≤ t104) = true := decide_eq_true c33
                       clear c33
                       by_cases c34 : t104 < (t102.size : Int)
                       · rw [if_pos c34] at H
                         have c34b0 : decide (t104 < (t102.size : Int)) = true := decide_eq_true c34
                         clear c34
                         obtain ⟨ji36, hji36⟩ : ∃ j_ : Int, (wrap64 (Int.tmod (IntKind.u64.wrap (a2)) (IntKind.u64.wrap ((a0.size : Int))))) = j_ := ⟨_, rfl⟩
                         replace H : (if 0 ≤ (ji36) then (if (ji36) < (a0.size : Int) then (some ((bt t102 t104) == (bt a0 (ji36)))) else (none)) else (none)) = some r := by first | (rw [hji36] at H; exact H) | (simp only [hji36] at H ⊢; exact H)
                         have hji36w : (IntKind.i64.wrap (Int.tmod (IntKind.u64.wrap (a2)) (IntKind.u64.wrap ((a0.size : Int))))) = ji36 := (i64_w _).trans hji36
                         by_cases c37 : 0 ≤ (ji36)
                         · rw [if_pos c37] at H
                           have c37b0 : decide (0 ≤ (ji36)) = true := decide_eq_true c37
                           clear c37
                           by_cases c38 : (ji36) < (a0.size : Int)
                           · rw [if_pos c38] at H
                             have c38b0 : decide ((ji36) < (a0.size : Int)) = true := decide_eq_true c38
                             clear c38
                             obtain rfl := Option.some.inj H
                             have p35 : 0 ≤ (t104 : Int) := of_decide_eq_true (by first | (with_reducible assumption) | assumption)
                             have q35 : t104 < (t102.size : Int) := of_decide_eq_true (by first | (with_reducible assumption) | assumption)
                             have hx35 := bt_at t102 t104
                             replace p35 := eq_true p35
                             replace q35 := eq_true q35
                             have p39 : 0 ≤ ((ji36) : Int) := of_decide_eq_true (by first | (with_reducible assumption) | assumption)
                             have q39 : (ji36) < (a0.size : Int) := of_decide_eq_true (by first | (with_reducible assumption) | assumption)
                             have hx39 := bt_at a0 (ji36)
                             replace p39 := eq_true p39
                             replace q39 := eq_true q39
                             go_wp2
                             repeat (go_quiet (fail); try go_wp2)
                             go_ret
                             exact ⟨by first | rfl | (simp [errW_none, errW_some] <;> rfl) | (simp only [← hji36]; first | rfl | (simp [errW_none, errW_some] <;> rfl)) | (simp [*, errW_none, errW_some] <;> rfl), by repeat (first | (with_reducible first | exact HB.out | apply below_alloc | apply pw_below_drewN | apply below_drew1) | exact HB.out)⟩
                           · rw [if_neg c38] at H
                             exact absurd H (by simp)
                         · rw [if_neg c37] at H
                           exact absurd H (by simp)
                       · rw [if_neg c34] at H
                         exact absurd H (by simp)
                     · rw [if_neg c33] at H
                       exact absurd H (by simp)
                   · rw [if_neg c32] at H
                     exact absurd H (by simp)
                 · replace c31 := Bool.eq_false_iff.mpr c31
                   subst c31
                   have H1 : (some true) = some r := by rw [if_neg (show ¬ (false = true) by decide)] at H; exact H
                   clear H
                   have H := H1
                   clear H1
                   obtain rfl := Option.some.inj H
                   go_wp2
                   repeat (go_quiet (fail); try go_wp2)
                   go_ret
                   exact ⟨by first | rfl | (simp [errW_none, errW_some] <;> rfl) | (simp [*, errW_none, errW_some] <;> rfl), by repeat (first | (with_reducible first | exact HB.out | apply below_alloc | apply pw_below_drewN | apply below_drew1) | exact HB.out)⟩
 · replace c5 := Bool.eq_false_iff.mpr c5
   subst c5
   have H1 : (none) = some r := by rw [if_neg (show ¬ (false = true) by decide)] at H; exact H
   clear H
   have H := H1
   clear H1
   exact absurd H (by simp)

end Go.Proofs.Ytldaokclpkcmmaa.G
