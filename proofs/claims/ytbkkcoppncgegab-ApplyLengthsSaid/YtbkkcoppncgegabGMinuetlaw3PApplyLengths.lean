-- Laid by this session's own program gprint.py (wip/tools), out of the kit's print and of texts of this session. Lean checks it.
import Derived.Test.YtbkkcoppncgegabGx0
import Derived.Test.YtbkkcoppncgegabGApplyPApply
import Derived.Test.YtbkkcoppncgegabGMinuetlaw0PNum
import Derived.Test.YtbkkcoppncgegabGMinuetlaw3qawake
import Derived.Test.YtbkkcoppncgegabGMinuetref1PLengths
namespace Go.Proofs.Ytbkkcoppncgegab.G
open Go.RowKit Go.Proofs.YtbkkcoppncgegabW.PrintWords Go.Proofs.YtbkkcoppncgegabW.PrintLast Go.Proofs.YtbkkcoppncgegabW.PrintMore
attribute [local go_sem] max2_int min2_int max_two min_two max_three min_three max_four min_four   -- for this text's walks alone
set_option linter.unusedVariables false
set_option linter.unusedSimpArgs false

/-! ### minuetlaw3_ApplyLengths: function 5 -/
mutual
def minuetlaw3_ApplyLengths.j0 : Nat → List (S30) → ByteArray → Bool → Option (Bool)
 | 0, _, _, _ => none
 | k + 1, x1, x5, x55 => if x55 = true then (none) else (minuetlaw3_ApplyLengths.l0 k x1 x5 0 0)
def minuetlaw3_ApplyLengths.l0 : Nat → List (S30) → ByteArray → Int → Int → Option (Bool)
 | 0, _, _, _, _ => none
 | k + 1, x1, x5, x10, x11 => if x11 < (x1.length : Int) then (if 0 ≤ x11 then (if ((rd_T30 x1 x11).f0) = 0 then (minuetlaw3_ApplyLengths.l0 k x1 x5 (wrap64 (x10 + ((rd_T30 x1 x11).f1))) (wrap64 (x11 + 1))) else (if ((rd_T30 x1 x11).f0) = 1 then (if x10 > (wrap64 ((x5.size : Int) - (((rd_T30 x1 x11).f2).size : Int))) then (none) else (if 0 ≤ x10 then (if x10 ≤ (wrap64 (x10 + (((rd_T30 x1 x11).f2).size : Int))) then (if (wrap64 (x10 + (((rd_T30 x1 x11).f2).size : Int))) ≤ (x5.size : Int) then (if (x5.extract (x10 : Int).toNat ((wrap64 (x10 + (((rd_T30 x1 x11).f2).size : Int))) : Int).toNat).toList = ((rd_T30 x1 x11).f2).toList then (minuetlaw3_ApplyLengths.l0 k x1 x5 (wrap64 (x10 + (((rd_T30 x1 x11).f2).size : Int))) (wrap64 (x11 + 1))) else (none)) else (none)) else (none)) else (none))) else (minuetlaw3_ApplyLengths.l0 k x1 x5 x10 (wrap64 (x11 + 1))))) else (none)) else (some (x10 == (x5.size : Int)))
end
def minuetlaw3_ApplyLengths.f (k : Nat) (a0 : ByteArray) (l1 : List (S30)) : Option (Bool) := (minuetlaw3_awake.f k).bind fun t101 => (if t101 = true then ((apply_Apply.f k a0 l1).bind fun bt102 => ((minuetref1_Lengths.f k l1).bind fun bt104 => ((minuetlaw0_Num.f bt102.2).bind fun t107 => (if t107 = 0 then (if bt104.2.2 = 0 then (if bt104.1 = (a0.size : Int) then (minuetlaw3_ApplyLengths.j0 k l1 bt102.1 (bt104.2.1 != (bt102.1.size : Int))) else (minuetlaw3_ApplyLengths.j0 k l1 bt102.1 true)) else (minuetlaw3_ApplyLengths.j0 k l1 bt102.1 true)) else (if bt102.1.toList = ([] : List UInt8) then (if bt104.2.2 = 0 then (some (bt104.1 != (a0.size : Int))) else (some true)) else (none)))))) else (none))
theorem minuetlaw3_ApplyLengths.mono_l : ∀ k, (∀ y0 y1 y2, LeO (minuetlaw3_ApplyLengths.j0 k y0 y1 y2) (minuetlaw3_ApplyLengths.j0 (k + 1) y0 y1 y2)) ∧ (∀ y0 y1 y2 y3, LeO (minuetlaw3_ApplyLengths.l0 k y0 y1 y2 y3) (minuetlaw3_ApplyLengths.l0 (k + 1) y0 y1 y2 y3))
 | 0 => ⟨fun _ _ _ r h => by simp [minuetlaw3_ApplyLengths.j0] at h, fun _ _ _ _ r h => by simp [minuetlaw3_ApplyLengths.l0] at h⟩
 | k + 1 => by
  obtain ⟨ih0, ih1⟩ := minuetlaw3_ApplyLengths.mono_l k
  refine ⟨?_, ?_⟩
  · intro y0 y1 y2
    unfold minuetlaw3_ApplyLengths.j0
    repeat' first
    | (with_reducible exact ih0 _ _ _)
    | (with_reducible exact ih1 _ _ _ _)
    | (with_reducible exact apply_Apply.mono _ _ _)
    | (with_reducible exact minuetlaw3_awake.mono _)
    | (with_reducible exact minuetref1_Lengths.mono _ _)
    | (with_reducible exact LeO.refl _)
    | (with_reducible exact LeO.none _)
    | (with_reducible refine LeO.ite ?_ ?_)
    | (with_reducible refine LeO.bind ?_ (fun _ => ?_))
    | exact ih0 _ _ _
    | exact ih1 _ _ _ _
    | exact apply_Apply.mono _ _ _
    | exact minuetlaw3_awake.mono _
    | exact minuetref1_Lengths.mono _ _
    | exact LeO.none _
    | refine LeO.ite ?_ ?_
    | refine LeO.bind ?_ (fun _ => ?_)
  · intro y0 y1 y2 y3
    unfold minuetlaw3_ApplyLengths.l0
    repeat' first
    | (with_reducible exact ih0 _ _ _)
    | (with_reducible exact ih1 _ _ _ _)
    | (with_reducible exact apply_Apply.mono _ _ _)
    | (with_reducible exact minuetlaw3_awake.mono _)
    | (with_reducible exact minuetref1_Lengths.mono _ _)
    | (with_reducible exact LeO.refl _)
    | (with_reducible exact LeO.none _)
    | (with_reducible refine LeO.ite ?_ ?_)
    | (with_reducible refine LeO.bind ?_ (fun _ => ?_))
    | exact ih0 _ _ _
    | exact ih1 _ _ _ _
    | exact apply_Apply.mono _ _ _
    | exact minuetlaw3_awake.mono _
    | exact minuetref1_Lengths.mono _ _
    | exact LeO.none _
    | refine LeO.ite ?_ ?_
    | refine LeO.bind ?_ (fun _ => ?_)
theorem minuetlaw3_ApplyLengths.mono : ∀ a0 a1 k, LeO (minuetlaw3_ApplyLengths.f k a0 a1) (minuetlaw3_ApplyLengths.f (k + 1) a0 a1) := by
 intro a0 a1 k
 obtain ⟨ih0, ih1⟩ := minuetlaw3_ApplyLengths.mono_l k
 unfold minuetlaw3_ApplyLengths.f
 repeat' first
  | (with_reducible exact ih0 _ _ _)
  | (with_reducible exact ih1 _ _ _ _)
  | (with_reducible exact apply_Apply.mono _ _ _)
  | (with_reducible exact minuetlaw3_awake.mono _)
  | (with_reducible exact minuetref1_Lengths.mono _ _)
  | (with_reducible exact LeO.refl _)
  | (with_reducible exact LeO.none _)
  | (with_reducible refine LeO.ite ?_ ?_)
  | (with_reducible refine LeO.bind ?_ (fun _ => ?_))
  | exact ih0 _ _ _
  | exact ih1 _ _ _ _
  | exact apply_Apply.mono _ _ _
  | exact minuetlaw3_awake.mono _
  | exact minuetref1_Lengths.mono _ _
  | exact LeO.none _
  | refine LeO.ite ?_ ?_
  | refine LeO.bind ?_ (fun _ => ?_)
set_option maxHeartbeats 8000000 in
set_option maxRecDepth 100000 in
theorem minuetlaw3_ApplyLengths.calls (k : Nat) (a0 : ByteArray) (A1 : Option Addr) (c1 : Nat) (l1 : List (S30)) (r : Bool) (w : World) (hr1 : Kd.C k30 w A1 l1.length l1) (hc1 : l1.length ≤ c1) (h : minuetlaw3_ApplyLengths.f k a0 l1 = some r) :
 Calls Try.prog 5 #[.string a0, .slice A1 l1.length c1] w fun e w' => e = .returned (.bool r) ∧ Below w.heap.size w w' := by
 have HR1 := Aside0.mk hr1
 have HC1 := Aside0.mk hc1
 clear hr1 hc1
 have HB := Aside0.mk (Below.refl w.heap.size w)
 have H : ((minuetlaw3_awake.f k).bind fun t101 => (if t101 = true then ((apply_Apply.f k a0 l1).bind fun bt102 => ((minuetref1_Lengths.f k l1).bind fun bt104 => ((minuetlaw0_Num.f bt102.2).bind fun t107 => (if t107 = 0 then (if bt104.2.2 = 0 then (if bt104.1 = (a0.size : Int) then (minuetlaw3_ApplyLengths.j0 k l1 bt102.1 (bt104.2.1 != (bt102.1.size : Int))) else (minuetlaw3_ApplyLengths.j0 k l1 bt102.1 true)) else (minuetlaw3_ApplyLengths.j0 k l1 bt102.1 true)) else (if bt102.1.toList = ([] : List UInt8) then (if bt104.2.2 = 0 then (some (bt104.1 != (a0.size : Int))) else (some true)) else (none)))))) else (none))) = some r := h
 clear h
 replace H := Option.bind_eq_some_iff.mp H
 obtain ⟨t101, A30, H⟩ := H
 replace H : (if t101 = true then ((apply_Apply.f k a0 l1).bind fun bt102 => ((minuetref1_Lengths.f k l1).bind fun bt104 => ((minuetlaw0_Num.f bt102.2).bind fun t107 => (if t107 = 0 then (if bt104.2.2 = 0 then (if bt104.1 = (a0.size : Int) then (minuetlaw3_ApplyLengths.j0 k l1 bt102.1 (bt104.2.1 != (bt102.1.size : Int))) else (minuetlaw3_ApplyLengths.j0 k l1 bt102.1 true)) else (minuetlaw3_ApplyLengths.j0 k l1 bt102.1 true)) else (if bt102.1.toList = ([] : List UInt8) then (if bt104.2.2 = 0 then (some (bt104.1 != (a0.size : Int))) else (some true)) else (none)))))) else (none)) = some r := H
 have A3 := Aside0.mk A30
 clear A30
 by_cases c4 : t101 = true
 · subst c4
   have H1 : ((apply_Apply.f k a0 l1).bind fun bt102 => ((minuetref1_Lengths.f k l1).bind fun bt104 => ((minuetlaw0_Num.f bt102.2).bind fun t107 => (if t107 = 0 then (if bt104.2.2 = 0 then (if bt104.1 = (a0.size : Int) then (minuetlaw3_ApplyLengths.j0 k l1 bt102.1 (bt104.2.1 != (bt102.1.size : Int))) else (minuetlaw3_ApplyLengths.j0 k l1 bt102.1 true)) else (minuetlaw3_ApplyLengths.j0 k l1 bt102.1 true)) else (if bt102.1.toList = ([] : List UInt8) then (if bt104.2.2 = 0 then (some (bt104.1 != (a0.size : Int))) else (some true)) else (none)))))) = some r := by rw [if_pos rfl] at H; exact H
   clear H
   have H := H1
   clear H1
   replace H := Option.bind_eq_some_iff.mp H
   obtain ⟨⟨t102, t103⟩, A50, H⟩ := H
   replace H : ((minuetref1_Lengths.f k l1).bind fun bt104 => ((minuetlaw0_Num.f t103).bind fun t107 => (if t107 = 0 then (if bt104.2.2 = 0 then (if bt104.1 = (a0.size : Int) then (minuetlaw3_ApplyLengths.j0 k l1 t102 (bt104.2.1 != (t102.size : Int))) else (minuetlaw3_ApplyLengths.j0 k l1 t102 true)) else (minuetlaw3_ApplyLengths.j0 k l1 t102 true)) else (if t102.toList = ([] : List UInt8) then (if bt104.2.2 = 0 then (some (bt104.1 != (a0.size : Int))) else (some true)) else (none))))) = some r := H
   have A5 := Aside0.mk A50
   clear A50
   replace H := Option.bind_eq_some_iff.mp H
   obtain ⟨⟨t104, t105, t106⟩, A60, H⟩ := H
   replace H : ((minuetlaw0_Num.f t103).bind fun t107 => (if t107 = 0 then (if t106 = 0 then (if t104 = (a0.size : Int) then (minuetlaw3_ApplyLengths.j0 k l1 t102 (t105 != (t102.size : Int))) else (minuetlaw3_ApplyLengths.j0 k l1 t102 true)) else (minuetlaw3_ApplyLengths.j0 k l1 t102 true)) else (if t102.toList = ([] : List UInt8) then (if t106 = 0 then (some (t104 != (a0.size : Int))) else (some true)) else (none)))) = some r := H
   have A6 := Aside0.mk A60
   clear A60
   replace H := Option.bind_eq_some_iff.mp H
   obtain ⟨t107, A70, H⟩ := H
   replace H : (if t107 = 0 then (if t106 = 0 then (if t104 = (a0.size : Int) then (minuetlaw3_ApplyLengths.j0 k l1 t102 (t105 != (t102.size : Int))) else (minuetlaw3_ApplyLengths.j0 k l1 t102 true)) else (minuetlaw3_ApplyLengths.j0 k l1 t102 true)) else (if t102.toList = ([] : List UInt8) then (if t106 = 0 then (some (t104 != (a0.size : Int))) else (some true)) else (none))) = some r := H
   have A7 := Aside0.mk A70
   clear A70
   by_cases c8 : t107 = 0
   · rw [if_pos c8] at H
     have c8b0 : (t107 == 0) = true := beq_iff_eq.mpr c8
     have c8b1 : (t107 != 0) = false := bne_eq_false_iff_eq.mpr c8
     clear c8
     have HC9 := Aside0.mk H
     clear H
     go_enter Try.func5, Try.ntmps5
     go_upto_region 7 with (first | (go_at_call 15; (with_reducible refine (minuetlaw3_awake.calls k  true _ A3.out).mono ?_); rintro e w10 ⟨rfl, hb⟩; have n0_ := Aside0.mk (below_step (by repeat (first | (with_reducible first | exact HB.out | apply below_alloc | apply pw_below_drewN | apply below_drew1) | exact HB.out)) hb); clear HB; have HB := n0_; clear n0_; (try clear hb); (try clear hb2); (try clear hk); (try clear hi)) | (go_at_call 16; (with_reducible refine (apply_Apply.calls k a0 _ _ l1 t102 t103 _ ?side1 ?side2 A5.out).mono ?_); (case side1 => repeat (first | exact (Kd.C_below HR1.out HB.out) | (with_reducible refine Kd.C_alloc ?_ _) | (with_reducible refine Kd.C_drewN ?_ _) | (with_reducible refine Kd.C_drew ?_))); (case side2 => exact HC1.out); rintro e w11 ⟨rfl, hb⟩; have n0_ := Aside0.mk (below_step (by repeat (first | (with_reducible first | exact HB.out | apply below_alloc | apply pw_below_drewN | apply below_drew1) | exact HB.out)) hb); clear HB; have HB := n0_; clear n0_; (try clear hb); (try clear hb2); (try clear hk); (try clear hi)) | (go_at_call 20; (with_reducible refine (minuetref1_Lengths.calls k _ _ l1 t104 t105 t106 _ ?side1 ?side2 A6.out).mono ?_); (case side1 => repeat (first | exact (Kd.C_below HR1.out HB.out) | (with_reducible refine Kd.C_alloc ?_ _) | (with_reducible refine Kd.C_drewN ?_ _) | (with_reducible refine Kd.C_drew ?_))); (case side2 => exact HC1.out); rintro e w12 ⟨rfl, hb⟩; have n0_ := Aside0.mk (below_step (by repeat (first | (with_reducible first | exact HB.out | apply below_alloc | apply pw_below_drewN | apply below_drew1) | exact HB.out)) hb); clear HB; have HB := n0_; clear n0_; (try clear hb); (try clear hb2); (try clear hk); (try clear hi)) | (go_at_call 17; (with_reducible refine (minuetlaw0_Num.calls t103 t107 _ A7.out).mono ?_); rintro e w' ⟨rfl, ⟨nd, rfl⟩⟩; (try first | exact ⟨rfl, _, World.drewN_drewN _ _ _⟩ | exact ⟨rfl, _, Eq.trans (World.drewN_drewN _ _ _) (congrArg (World.drewN _) (Nat.add_assoc _ _ _))⟩)))
     repeat (go_quiet (first | (go_at_call 15; (with_reducible refine (minuetlaw3_awake.calls k  true _ A3.out).mono ?_); rintro e w10 ⟨rfl, hb⟩; have n0_ := Aside0.mk (below_step (by repeat (first | (with_reducible first | exact HB.out | apply below_alloc | apply pw_below_drewN | apply below_drew1) | exact HB.out)) hb); clear HB; have HB := n0_; clear n0_; (try clear hb); (try clear hb2); (try clear hk); (try clear hi)) | (go_at_call 16; (with_reducible refine (apply_Apply.calls k a0 _ _ l1 t102 t103 _ ?side1 ?side2 A5.out).mono ?_); (case side1 => repeat (first | exact (Kd.C_below HR1.out HB.out) | (with_reducible refine Kd.C_alloc ?_ _) | (with_reducible refine Kd.C_drewN ?_ _) | (with_reducible refine Kd.C_drew ?_))); (case side2 => exact HC1.out); rintro e w11 ⟨rfl, hb⟩; have n0_ := Aside0.mk (below_step (by repeat (first | (with_reducible first | exact HB.out | apply below_alloc | apply pw_below_drewN | apply below_drew1) | exact HB.out)) hb); clear HB; have HB := n0_; clear n0_; (try clear hb); (try clear hb2); (try clear hk); (try clear hi)) | (go_at_call 20; (with_reducible refine (minuetref1_Lengths.calls k _ _ l1 t104 t105 t106 _ ?side1 ?side2 A6.out).mono ?_); (case side1 => repeat (first | exact (Kd.C_below HR1.out HB.out) | (with_reducible refine Kd.C_alloc ?_ _) | (with_reducible refine Kd.C_drewN ?_ _) | (with_reducible refine Kd.C_drew ?_))); (case side2 => exact HC1.out); rintro e w12 ⟨rfl, hb⟩; have n0_ := Aside0.mk (below_step (by repeat (first | (with_reducible first | exact HB.out | apply below_alloc | apply pw_below_drewN | apply below_drew1) | exact HB.out)) hb); clear HB; have HB := n0_; clear n0_; (try clear hb); (try clear hb2); (try clear hk); (try clear hi)) | (go_at_call 17; (with_reducible refine (minuetlaw0_Num.calls t103 t107 _ A7.out).mono ?_); rintro e w' ⟨rfl, ⟨nd, rfl⟩⟩; (try first | exact ⟨rfl, _, World.drewN_drewN _ _ _⟩ | exact ⟨rfl, _, Eq.trans (World.drewN_drewN _ _ _) (congrArg (World.drewN _) (Nat.add_assoc _ _ _))⟩))); go_upto_region 7 with (first | (go_at_call 15; (with_reducible refine (minuetlaw3_awake.calls k  true _ A3.out).mono ?_); rintro e w10 ⟨rfl, hb⟩; have n0_ := Aside0.mk (below_step (by repeat (first | (with_reducible first | exact HB.out | apply below_alloc | apply pw_below_drewN | apply below_drew1) | exact HB.out)) hb); clear HB; have HB := n0_; clear n0_; (try clear hb); (try clear hb2); (try clear hk); (try clear hi)) | (go_at_call 16; (with_reducible refine (apply_Apply.calls k a0 _ _ l1 t102 t103 _ ?side1 ?side2 A5.out).mono ?_); (case side1 => repeat (first | exact (Kd.C_below HR1.out HB.out) | (with_reducible refine Kd.C_alloc ?_ _) | (with_reducible refine Kd.C_drewN ?_ _) | (with_reducible refine Kd.C_drew ?_))); (case side2 => exact HC1.out); rintro e w11 ⟨rfl, hb⟩; have n0_ := Aside0.mk (below_step (by repeat (first | (with_reducible first | exact HB.out | apply below_alloc | apply pw_below_drewN | apply below_drew1) | exact HB.out)) hb); clear HB; have HB := n0_; clear n0_; (try clear hb); (try clear hb2); (try clear hk); (try clear hi)) | (go_at_call 20; (with_reducible refine (minuetref1_Lengths.calls k _ _ l1 t104 t105 t106 _ ?side1 ?side2 A6.out).mono ?_); (case side1 => repeat (first | exact (Kd.C_below HR1.out HB.out) | (with_reducible refine Kd.C_alloc ?_ _) | (with_reducible refine Kd.C_drewN ?_ _) | (with_reducible refine Kd.C_drew ?_))); (case side2 => exact HC1.out); rintro e w12 ⟨rfl, hb⟩; have n0_ := Aside0.mk (below_step (by repeat (first | (with_reducible first | exact HB.out | apply below_alloc | apply pw_below_drewN | apply below_drew1) | exact HB.out)) hb); clear HB; have HB := n0_; clear n0_; (try clear hb); (try clear hb2); (try clear hk); (try clear hi)) | (go_at_call 17; (with_reducible refine (minuetlaw0_Num.calls t103 t107 _ A7.out).mono ?_); rintro e w' ⟨rfl, ⟨nd, rfl⟩⟩; (try first | exact ⟨rfl, _, World.drewN_drewN _ _ _⟩ | exact ⟨rfl, _, Eq.trans (World.drewN_drewN _ _ _) (congrArg (World.drewN _) (Nat.add_assoc _ _ _))⟩))))
     (try simp only [Act.put, List.setIfInBounds_toArray, List.set_cons_zero, List.set_cons_succ])
     go_cut [55] (fun v55 wc => ∃ (kq : Nat) (x55_8 : Bool), v55 = .bool x55_8 ∧ Aside0 (minuetlaw3_ApplyLengths.j0 kq l1 t102 x55_8 = some r) ∧ Aside0 (kq ≤ k) ∧ Aside0 (Below w.heap.size w wc))
     case first =>
      have H := HC9.out
      clear HC9
      by_cases c13 : t106 = 0
      · rw [if_pos c13] at H
        have c13b0 : (t106 == 0) = true := beq_iff_eq.mpr c13
        have c13b1 : (t106 != 0) = false := bne_eq_false_iff_eq.mpr c13
        clear c13
        (first | rw [c13b0] | (simp only [i64_w, i32_w]; rw [c13b0]) | skip)
        by_cases c14 : t104 = (a0.size : Int)
        · rw [if_pos c14] at H
          have c14b0 : (t104 == (a0.size : Int)) = true := beq_iff_eq.mpr c14
          have c14b1 : (t104 != (a0.size : Int)) = false := bne_eq_false_iff_eq.mpr c14
          clear c14
          have H' := Aside0.mk H
          clear H
          go_wp2
          repeat (go_quiet (fail); try go_wp2)
          go_meet
          case rel => exact ⟨_, ((t105 != (t102.size : Int))), (by first | rfl | (simp; done) | (simp [*]; done)), H', ⟨by first | omega | exact Nat.le_refl _⟩, ⟨by repeat (first | (with_reducible first | exact HB.out | apply below_alloc | apply pw_below_drewN | apply below_drew1) | exact HB.out)⟩⟩
        · rw [if_neg c14] at H
          have c14b0 : (t104 == (a0.size : Int)) = false := beq_eq_false_iff_ne.mpr c14
          have c14b1 : (t104 != (a0.size : Int)) = true := bne_iff_ne.mpr c14
          have H' := Aside0.mk H
          clear H
          go_wp2
          repeat (go_quiet (fail); try go_wp2)
          go_meet
          case rel => exact ⟨_, (true), (by first | rfl | (simp; done) | (simp [*]; done)), H', ⟨by first | omega | exact Nat.le_refl _⟩, ⟨by repeat (first | (with_reducible first | exact HB.out | apply below_alloc | apply pw_below_drewN | apply below_drew1) | exact HB.out)⟩⟩
      · rw [if_neg c13] at H
        have c13b0 : (t106 == 0) = false := beq_eq_false_iff_ne.mpr c13
        have c13b1 : (t106 != 0) = true := bne_iff_ne.mpr c13
        (first | rw [c13b0] | (simp only [i64_w, i32_w]; rw [c13b0]) | skip)
        have H' := Aside0.mk H
        clear H
        go_wp2
        repeat (go_quiet (fail); try go_wp2)
        go_meet
        case rel => exact ⟨_, (true), (by first | rfl | (simp; done) | (simp [*]; done)), H', ⟨by first | omega | exact Nat.le_refl _⟩, ⟨by repeat (first | (with_reducible first | exact HB.out | apply below_alloc | apply pw_below_drewN | apply below_drew1) | exact HB.out)⟩⟩
     case rest =>
      clear HC9
      try clear c1
      try clear p2
      try clear c4
      try clear c5
      try clear c8
      try clear c8b0
      try clear c8b1
      try clear c13
      try clear c13b0
      try clear c13b1
      try clear c14
      try clear c14b0
      try clear c14b1
      obtain ⟨kq, x55_8, rfl, HA, HJ8, HB⟩ := hcut
      cases kq with
      | zero => exact absurd HA.out (by simp [minuetlaw3_ApplyLengths.j0])
      | succ kj8 =>
       have H := HA.out
       clear HA
       simp only [minuetlaw3_ApplyLengths.j0] at H
       by_cases c15 : x55_8 = true
       · subst c15
         have H1 : (none) = some r := by rw [if_pos rfl] at H; exact H
         clear H
         have H := H1
         clear H1
         exact absurd H (by simp)
       · replace c15 := Bool.eq_false_iff.mpr c15
         subst c15
         have H1 : (minuetlaw3_ApplyLengths.l0 kj8 l1 t102 0 0) = some r := by rw [if_neg (show ¬ (false = true) by decide)] at H; exact H
         clear H
         have H := H1
         clear H1
         have H' := Aside0.mk H
         clear H
         go_wp2
         repeat (go_quiet (fail); try go_wp2)
         go_loopg [10, 11] kj8 (fun kq v10 v11 w' => ∃ (x10_2 : Int) (x11_2 : Int), v10 = .int .i64 x10_2 ∧ v11 = .int .i64 x11_2 ∧ Aside0 (minuetlaw3_ApplyLengths.l0 kq l1 t102 x10_2 x11_2 = some r) ∧ Aside0 (kq ≤ kj8) ∧ Aside0 (Below w.heap.size w w'))
         case atStart => exact ⟨(0), (0), (by first | rfl | (simp; done) | (simp [*]; done)), (by first | rfl | (simp; done) | (simp [*]; done)), H', ⟨Nat.le_refl _⟩, ⟨by repeat (first | (with_reducible first | exact HB.out | apply below_alloc | apply pw_below_drewN | apply below_drew1) | exact HB.out)⟩⟩
         case round =>
          clear H'
          try clear c1
          try clear p2
          try clear c4
          try clear c5
          try clear c8
          try clear c8b0
          try clear c8b1
          try clear c13
          try clear c13b0
          try clear c13b1
          try clear c14
          try clear c14b0
          try clear c14b1
          try clear c15
          try clear p2
          obtain ⟨x10_2, x11_2, rfl, rfl, HA, HK2, HB⟩ := hrel
          cases gk with
          | zero => exact absurd HA.out (by simp [minuetlaw3_ApplyLengths.l0])
          | succ k2 =>
           have H := HA.out
           clear HA
           simp only [minuetlaw3_ApplyLengths.l0] at H
           by_cases c16 : x11_2 < (l1.length : Int)
           · rw [if_pos c16] at H
             have c16b0 : decide (x11_2 < (l1.length : Int)) = true := decide_eq_true c16
             clear c16
             by_cases c17 : 0 ≤ x11_2
             · rw [if_pos c17] at H
               have c17b0 : decide (0 ≤ x11_2) = true := decide_eq_true c17
               clear c17
               by_cases c18 : ((rd_T30 l1 x11_2).f0) = 0
               · rw [if_pos c18] at H
                 have c18b0 : (((rd_T30 l1 x11_2).f0) == 0) = true := beq_iff_eq.mpr c18
                 have c18b1 : (((rd_T30 l1 x11_2).f0) != 0) = false := bne_eq_false_iff_eq.mpr c18
                 clear c18
                 have H' := Aside0.mk H
                 clear H
                 have p108 : 0 ≤ (x11_2 : Int) := of_decide_eq_true (by first | (with_reducible assumption) | assumption)
                 have q108 : x11_2 < (l1.length : Int) := of_decide_eq_true (by first | (with_reducible assumption) | assumption)
                 obtain ⟨ad108, e108, hx108_0, hx108_1, hx108_2⟩ := at_T30 HR1.out x11_2 p108 q108
                 cases e108
                 replace hx108_0 := (HB.out.cell (World.block_lt_of_cell? w _ hx108_0)).trans hx108_0
                 replace hx108_1 := (HB.out.cell (World.block_lt_of_cell? w _ hx108_1)).trans hx108_1
                 replace hx108_2 := (HB.out.cell (World.block_lt_of_cell? w _ hx108_2)).trans hx108_2
                 replace p108 := eq_true p108
                 replace q108 := eq_true q108
                 have p109 : 0 ≤ (x11_2 : Int) := of_decide_eq_true (by first | (with_reducible assumption) | assumption)
                 have q109 : x11_2 < (l1.length : Int) := of_decide_eq_true (by first | (with_reducible assumption) | assumption)
                 obtain ⟨ad109, e109, hx109_0, hx109_1, hx109_2⟩ := at_T30 HR1.out x11_2 p109 q109
                 obtain rfl : ad108 = ad109 := (by injection e109)
                 replace hx109_0 := (HB.out.cell (World.block_lt_of_cell? w _ hx109_0)).trans hx109_0
                 replace hx109_1 := (HB.out.cell (World.block_lt_of_cell? w _ hx109_1)).trans hx109_1
                 replace hx109_2 := (HB.out.cell (World.block_lt_of_cell? w _ hx109_2)).trans hx109_2
                 replace p109 := eq_true p109
                 replace q109 := eq_true q109
                 go_wp2
                 repeat (go_quiet (fail); try go_wp2)
                 go_roundg k2
                 case measure => have := HJ8.out; have := HK2.out; omega
                 case rel => exact ⟨(wrap64 (x10_2 + ((rd_T30 l1 x11_2).f1))), (wrap64 (x11_2 + 1)), (by first | rfl | (simp; done) | (simp [*]; done)), (by first | rfl | (simp; done) | (simp [*]; done)), H', ⟨by have := HJ8.out; have := HK2.out; omega⟩, ⟨by repeat (first | (with_reducible first | exact HB.out | apply below_alloc | apply pw_below_drewN | apply below_drew1) | exact HB.out)⟩⟩
               · rw [if_neg c18] at H
                 have c18b0 : (((rd_T30 l1 x11_2).f0) == 0) = false := beq_eq_false_iff_ne.mpr c18
                 have c18b1 : (((rd_T30 l1 x11_2).f0) != 0) = true := bne_iff_ne.mpr c18
                 by_cases c19 : ((rd_T30 l1 x11_2).f0) = 1
                 · rw [if_pos c19] at H
                   have c19b0 : (((rd_T30 l1 x11_2).f0) == 1) = true := beq_iff_eq.mpr c19
                   have c19b1 : (((rd_T30 l1 x11_2).f0) != 1) = false := bne_eq_false_iff_eq.mpr c19
                   clear c19
                   by_cases c20 : x10_2 > (wrap64 ((t102.size : Int) - (((rd_T30 l1 x11_2).f2).size : Int)))
                   · rw [if_pos c20] at H
                     exact absurd H (by simp)
                   · rw [if_neg c20] at H
                     have c20b0 : decide ((wrap64 ((t102.size : Int) - (((rd_T30 l1 x11_2).f2).size : Int))) < x10_2) = false := decide_eq_false c20
                     clear c20
                     by_cases c21 : 0 ≤ x10_2
                     · rw [if_pos c21] at H
                       have c21b0 := eq_true c21
                       have c21b1 : decide (0 ≤ x10_2) = true := decide_eq_true c21
                       clear c21
                       by_cases c22 : x10_2 ≤ (wrap64 (x10_2 + (((rd_T30 l1 x11_2).f2).size : Int)))
                       · rw [if_pos c22] at H
                         have c22b0 := eq_true c22
                         have c22b1 : decide (x10_2 ≤ (wrap64 (x10_2 + (((rd_T30 l1 x11_2).f2).size : Int)))) = true := decide_eq_true c22
                         by_cases c23 : (wrap64 (x10_2 + (((rd_T30 l1 x11_2).f2).size : Int))) ≤ (t102.size : Int)
                         · rw [if_pos c23] at H
                           have c23b0 := eq_true c23
                           have c23b1 : decide ((wrap64 (x10_2 + (((rd_T30 l1 x11_2).f2).size : Int))) ≤ (t102.size : Int)) = true := decide_eq_true c23
                           by_cases c24 : (t102.extract (x10_2 : Int).toNat ((wrap64 (x10_2 + (((rd_T30 l1 x11_2).f2).size : Int))) : Int).toNat).toList = ((rd_T30 l1 x11_2).f2).toList
                           · rw [if_pos c24] at H
                             have c24b0 : ((t102.extract (x10_2 : Int).toNat ((wrap64 (x10_2 + (((rd_T30 l1 x11_2).f2).size : Int))) : Int).toNat).toList == ((rd_T30 l1 x11_2).f2).toList) = true := beq_iff_eq.mpr c24
                             have c24b1 : ((t102.extract (x10_2 : Int).toNat ((wrap64 (x10_2 + (((rd_T30 l1 x11_2).f2).size : Int))) : Int).toNat).toList != ((rd_T30 l1 x11_2).f2).toList) = false := bne_eq_false_iff_eq.mpr c24
                             clear c24
                             have H' := Aside0.mk H
                             clear H
                             have p108 : 0 ≤ (x11_2 : Int) := of_decide_eq_true (by first | (with_reducible assumption) | assumption)
                             have q108 : x11_2 < (l1.length : Int) := of_decide_eq_true (by first | (with_reducible assumption) | assumption)
                             obtain ⟨ad108, e108, hx108_0, hx108_1, hx108_2⟩ := at_T30 HR1.out x11_2 p108 q108
                             cases e108
                             replace hx108_0 := (HB.out.cell (World.block_lt_of_cell? w _ hx108_0)).trans hx108_0
                             replace hx108_1 := (HB.out.cell (World.block_lt_of_cell? w _ hx108_1)).trans hx108_1
                             replace hx108_2 := (HB.out.cell (World.block_lt_of_cell? w _ hx108_2)).trans hx108_2
                             replace p108 := eq_true p108
                             replace q108 := eq_true q108
                             have p110 : 0 ≤ (x11_2 : Int) := of_decide_eq_true (by first | (with_reducible assumption) | assumption)
                             have q110 : x11_2 < (l1.length : Int) := of_decide_eq_true (by first | (with_reducible assumption) | assumption)
                             obtain ⟨ad110, e110, hx110_0, hx110_1, hx110_2⟩ := at_T30 HR1.out x11_2 p110 q110
                             obtain rfl : ad108 = ad110 := (by injection e110)
                             replace hx110_0 := (HB.out.cell (World.block_lt_of_cell? w _ hx110_0)).trans hx110_0
                             replace hx110_1 := (HB.out.cell (World.block_lt_of_cell? w _ hx110_1)).trans hx110_1
                             replace hx110_2 := (HB.out.cell (World.block_lt_of_cell? w _ hx110_2)).trans hx110_2
                             replace p110 := eq_true p110
                             replace q110 := eq_true q110
                             have p111 : 0 ≤ (x11_2 : Int) := of_decide_eq_true (by first | (with_reducible assumption) | assumption)
                             have q111 : x11_2 < (l1.length : Int) := of_decide_eq_true (by first | (with_reducible assumption) | assumption)
                             obtain ⟨ad111, e111, hx111_0, hx111_1, hx111_2⟩ := at_T30 HR1.out x11_2 p111 q111
                             obtain rfl : ad108 = ad111 := (by injection e111)
                             replace hx111_0 := (HB.out.cell (World.block_lt_of_cell? w _ hx111_0)).trans hx111_0
                             replace hx111_1 := (HB.out.cell (World.block_lt_of_cell? w _ hx111_1)).trans hx111_1
                             replace hx111_2 := (HB.out.cell (World.block_lt_of_cell? w _ hx111_2)).trans hx111_2
                             replace p111 := eq_true p111
                             replace q111 := eq_true q111
                             go_wp2
                             repeat (go_quiet (fail); try go_wp2)
                             go_roundg k2
                             case measure => have := HJ8.out; have := HK2.out; omega
                             case rel => exact ⟨(wrap64 (x10_2 + (((rd_T30 l1 x11_2).f2).size : Int))), (wrap64 (x11_2 + 1)), (by first | rfl | (simp; done) | (simp [*]; done)), (by first | rfl | (simp; done) | (simp [*]; done)), H', ⟨by have := HJ8.out; have := HK2.out; omega⟩, ⟨by repeat (first | (with_reducible first | exact HB.out | apply below_alloc | apply pw_below_drewN | apply below_drew1) | exact HB.out)⟩⟩
                           · rw [if_neg c24] at H
                             exact absurd H (by simp)
                         · rw [if_neg c23] at H
                           exact absurd H (by simp)
                       · rw [if_neg c22] at H
                         exact absurd H (by simp)
                     · rw [if_neg c21] at H
                       exact absurd H (by simp)
                 · rw [if_neg c19] at H
                   have c19b0 : (((rd_T30 l1 x11_2).f0) == 1) = false := beq_eq_false_iff_ne.mpr c19
                   have c19b1 : (((rd_T30 l1 x11_2).f0) != 1) = true := bne_iff_ne.mpr c19
                   have H' := Aside0.mk H
                   clear H
                   have p108 : 0 ≤ (x11_2 : Int) := of_decide_eq_true (by first | (with_reducible assumption) | assumption)
                   have q108 : x11_2 < (l1.length : Int) := of_decide_eq_true (by first | (with_reducible assumption) | assumption)
                   obtain ⟨ad108, e108, hx108_0, hx108_1, hx108_2⟩ := at_T30 HR1.out x11_2 p108 q108
                   cases e108
                   replace hx108_0 := (HB.out.cell (World.block_lt_of_cell? w _ hx108_0)).trans hx108_0
                   replace hx108_1 := (HB.out.cell (World.block_lt_of_cell? w _ hx108_1)).trans hx108_1
                   replace hx108_2 := (HB.out.cell (World.block_lt_of_cell? w _ hx108_2)).trans hx108_2
                   replace p108 := eq_true p108
                   replace q108 := eq_true q108
                   go_wp2
                   repeat (go_quiet (fail); try go_wp2)
                   go_roundg k2
                   case measure => have := HJ8.out; have := HK2.out; omega
                   case rel => exact ⟨(x10_2), (wrap64 (x11_2 + 1)), (by first | rfl | (simp; done) | (simp [*]; done)), (by first | rfl | (simp; done) | (simp [*]; done)), H', ⟨by have := HJ8.out; have := HK2.out; omega⟩, ⟨by repeat (first | (with_reducible first | exact HB.out | apply below_alloc | apply pw_below_drewN | apply below_drew1) | exact HB.out)⟩⟩
             · rw [if_neg c17] at H
               exact absurd H (by simp)
           · rw [if_neg c16] at H
             have c16b0 : decide (x11_2 < (l1.length : Int)) = false := decide_eq_false c16
             clear c16
             obtain rfl := Option.some.inj H
             go_wp2
             repeat (go_quiet (fail); try go_wp2)
             go_ret
             exact ⟨by first | rfl | (simp [errW_none, errW_some] <;> rfl) | (simp [*, errW_none, errW_some] <;> rfl), by repeat (first | (with_reducible first | exact HB.out | apply below_alloc | apply pw_below_drewN | apply below_drew1) | exact HB.out)⟩
   · rw [if_neg c8] at H
     have c8b0 : (t107 == 0) = false := beq_eq_false_iff_ne.mpr c8
     have c8b1 : (t107 != 0) = true := bne_iff_ne.mpr c8
     by_cases c25 : t102.toList = ([] : List UInt8)
     · rw [if_pos c25] at H
       have c25b0 : (t102.toList == ([] : List UInt8)) = true := beq_iff_eq.mpr c25
       have c25b1 : (t102.toList != ([] : List UInt8)) = false := bne_eq_false_iff_eq.mpr c25
       clear c25
       by_cases c26 : t106 = 0
       · rw [if_pos c26] at H
         have c26b0 : (t106 == 0) = true := beq_iff_eq.mpr c26
         have c26b1 : (t106 != 0) = false := bne_eq_false_iff_eq.mpr c26
         clear c26
         obtain rfl := Option.some.inj H
         go_enter Try.func5, Try.ntmps5
         go_wp2_with (first | (go_at_call 15; (with_reducible refine (minuetlaw3_awake.calls k  true _ A3.out).mono ?_); rintro e w27 ⟨rfl, hb⟩; have n0_ := Aside0.mk (below_step (by repeat (first | (with_reducible first | exact HB.out | apply below_alloc | apply pw_below_drewN | apply below_drew1) | exact HB.out)) hb); clear HB; have HB := n0_; clear n0_; (try clear hb); (try clear hb2); (try clear hk); (try clear hi)) | (go_at_call 16; (with_reducible refine (apply_Apply.calls k a0 _ _ l1 t102 t103 _ ?side1 ?side2 A5.out).mono ?_); (case side1 => repeat (first | exact (Kd.C_below HR1.out HB.out) | (with_reducible refine Kd.C_alloc ?_ _) | (with_reducible refine Kd.C_drewN ?_ _) | (with_reducible refine Kd.C_drew ?_))); (case side2 => exact HC1.out); rintro e w28 ⟨rfl, hb⟩; have n0_ := Aside0.mk (below_step (by repeat (first | (with_reducible first | exact HB.out | apply below_alloc | apply pw_below_drewN | apply below_drew1) | exact HB.out)) hb); clear HB; have HB := n0_; clear n0_; (try clear hb); (try clear hb2); (try clear hk); (try clear hi)) | (go_at_call 20; (with_reducible refine (minuetref1_Lengths.calls k _ _ l1 t104 t105 t106 _ ?side1 ?side2 A6.out).mono ?_); (case side1 => repeat (first | exact (Kd.C_below HR1.out HB.out) | (with_reducible refine Kd.C_alloc ?_ _) | (with_reducible refine Kd.C_drewN ?_ _) | (with_reducible refine Kd.C_drew ?_))); (case side2 => exact HC1.out); rintro e w29 ⟨rfl, hb⟩; have n0_ := Aside0.mk (below_step (by repeat (first | (with_reducible first | exact HB.out | apply below_alloc | apply pw_below_drewN | apply below_drew1) | exact HB.out)) hb); clear HB; have HB := n0_; clear n0_; (try clear hb); (try clear hb2); (try clear hk); (try clear hi)) | (go_at_call 17; (with_reducible refine (minuetlaw0_Num.calls t103 t107 _ A7.out).mono ?_); rintro e w' ⟨rfl, ⟨nd, rfl⟩⟩; (try first | exact ⟨rfl, _, World.drewN_drewN _ _ _⟩ | exact ⟨rfl, _, Eq.trans (World.drewN_drewN _ _ _) (congrArg (World.drewN _) (Nat.add_assoc _ _ _))⟩)))
         repeat (go_quiet (first | (go_at_call 15; (with_reducible refine (minuetlaw3_awake.calls k  true _ A3.out).mono ?_); rintro e w27 ⟨rfl, hb⟩; have n0_ := Aside0.mk (below_step (by repeat (first | (with_reducible first | exact HB.out | apply below_alloc | apply pw_below_drewN | apply below_drew1) | exact HB.out)) hb); clear HB; have HB := n0_; clear n0_; (try clear hb); (try clear hb2); (try clear hk); (try clear hi)) | (go_at_call 16; (with_reducible refine (apply_Apply.calls k a0 _ _ l1 t102 t103 _ ?side1 ?side2 A5.out).mono ?_); (case side1 => repeat (first | exact (Kd.C_below HR1.out HB.out) | (with_reducible refine Kd.C_alloc ?_ _) | (with_reducible refine Kd.C_drewN ?_ _) | (with_reducible refine Kd.C_drew ?_))); (case side2 => exact HC1.out); rintro e w28 ⟨rfl, hb⟩; have n0_ := Aside0.mk (below_step (by repeat (first | (with_reducible first | exact HB.out | apply below_alloc | apply pw_below_drewN | apply below_drew1) | exact HB.out)) hb); clear HB; have HB := n0_; clear n0_; (try clear hb); (try clear hb2); (try clear hk); (try clear hi)) | (go_at_call 20; (with_reducible refine (minuetref1_Lengths.calls k _ _ l1 t104 t105 t106 _ ?side1 ?side2 A6.out).mono ?_); (case side1 => repeat (first | exact (Kd.C_below HR1.out HB.out) | (with_reducible refine Kd.C_alloc ?_ _) | (with_reducible refine Kd.C_drewN ?_ _) | (with_reducible refine Kd.C_drew ?_))); (case side2 => exact HC1.out); rintro e w29 ⟨rfl, hb⟩; have n0_ := Aside0.mk (below_step (by repeat (first | (with_reducible first | exact HB.out | apply below_alloc | apply pw_below_drewN | apply below_drew1) | exact HB.out)) hb); clear HB; have HB := n0_; clear n0_; (try clear hb); (try clear hb2); (try clear hk); (try clear hi)) | (go_at_call 17; (with_reducible refine (minuetlaw0_Num.calls t103 t107 _ A7.out).mono ?_); rintro e w' ⟨rfl, ⟨nd, rfl⟩⟩; (try first | exact ⟨rfl, _, World.drewN_drewN _ _ _⟩ | exact ⟨rfl, _, Eq.trans (World.drewN_drewN _ _ _) (congrArg (World.drewN _) (Nat.add_assoc _ _ _))⟩))); try go_wp2_with (first | (go_at_call 15; (with_reducible refine (minuetlaw3_awake.calls k  true _ A3.out).mono ?_); rintro e w27 ⟨rfl, hb⟩; have n0_ := Aside0.mk (below_step (by repeat (first | (with_reducible first | exact HB.out | apply below_alloc | apply pw_below_drewN | apply below_drew1) | exact HB.out)) hb); clear HB; have HB := n0_; clear n0_; (try clear hb); (try clear hb2); (try clear hk); (try clear hi)) | (go_at_call 16; (with_reducible refine (apply_Apply.calls k a0 _ _ l1 t102 t103 _ ?side1 ?side2 A5.out).mono ?_); (case side1 => repeat (first | exact (Kd.C_below HR1.out HB.out) | (with_reducible refine Kd.C_alloc ?_ _) | (with_reducible refine Kd.C_drewN ?_ _) | (with_reducible refine Kd.C_drew ?_))); (case side2 => exact HC1.out); rintro e w28 ⟨rfl, hb⟩; have n0_ := Aside0.mk (below_step (by repeat (first | (with_reducible first | exact HB.out | apply below_alloc | apply pw_below_drewN | apply below_drew1) | exact HB.out)) hb); clear HB; have HB := n0_; clear n0_; (try clear hb); (try clear hb2); (try clear hk); (try clear hi)) | (go_at_call 20; (with_reducible refine (minuetref1_Lengths.calls k _ _ l1 t104 t105 t106 _ ?side1 ?side2 A6.out).mono ?_); (case side1 => repeat (first | exact (Kd.C_below HR1.out HB.out) | (with_reducible refine Kd.C_alloc ?_ _) | (with_reducible refine Kd.C_drewN ?_ _) | (with_reducible refine Kd.C_drew ?_))); (case side2 => exact HC1.out); rintro e w29 ⟨rfl, hb⟩; have n0_ := Aside0.mk (below_step (by repeat (first | (with_reducible first | exact HB.out | apply below_alloc | apply pw_below_drewN | apply below_drew1) | exact HB.out)) hb); clear HB; have HB := n0_; clear n0_; (try clear hb); (try clear hb2); (try clear hk); (try clear hi)) | (go_at_call 17; (with_reducible refine (minuetlaw0_Num.calls t103 t107 _ A7.out).mono ?_); rintro e w' ⟨rfl, ⟨nd, rfl⟩⟩; (try first | exact ⟨rfl, _, World.drewN_drewN _ _ _⟩ | exact ⟨rfl, _, Eq.trans (World.drewN_drewN _ _ _) (congrArg (World.drewN _) (Nat.add_assoc _ _ _))⟩))))
         go_ret
         exact ⟨by first | rfl | (simp [errW_none, errW_some] <;> rfl) | (simp [*, errW_none, errW_some] <;> rfl), by repeat (first | (with_reducible first | exact HB.out | apply below_alloc | apply pw_below_drewN | apply below_drew1) | exact HB.out)⟩
       · rw [if_neg c26] at H
         have c26b0 : (t106 == 0) = false := beq_eq_false_iff_ne.mpr c26
         have c26b1 : (t106 != 0) = true := bne_iff_ne.mpr c26
         obtain rfl := Option.some.inj H
         go_enter Try.func5, Try.ntmps5
         go_wp2_with (first | (go_at_call 15; (with_reducible refine (minuetlaw3_awake.calls k  true _ A3.out).mono ?_); rintro e w30 ⟨rfl, hb⟩; have n0_ := Aside0.mk (below_step (by repeat (first | (with_reducible first | exact HB.out | apply below_alloc | apply pw_below_drewN | apply below_drew1) | exact HB.out)) hb); clear HB; have HB := n0_; clear n0_; (try clear hb); (try clear hb2); (try clear hk); (try clear hi)) | (go_at_call 16; (with_reducible refine (apply_Apply.calls k a0 _ _ l1 t102 t103 _ ?side1 ?side2 A5.out).mono ?_); (case side1 => repeat (first | exact (Kd.C_below HR1.out HB.out) | (with_reducible refine Kd.C_alloc ?_ _) | (with_reducible refine Kd.C_drewN ?_ _) | (with_reducible refine Kd.C_drew ?_))); (case side2 => exact HC1.out); rintro e w31 ⟨rfl, hb⟩; have n0_ := Aside0.mk (below_step (by repeat (first | (with_reducible first | exact HB.out | apply below_alloc | apply pw_below_drewN | apply below_drew1) | exact HB.out)) hb); clear HB; have HB := n0_; clear n0_; (try clear hb); (try clear hb2); (try clear hk); (try clear hi)) | (go_at_call 20; (with_reducible refine (minuetref1_Lengths.calls k _ _ l1 t104 t105 t106 _ ?side1 ?side2 A6.out).mono ?_); (case side1 => repeat (first | exact (Kd.C_below HR1.out HB.out) | (with_reducible refine Kd.C_alloc ?_ _) | (with_reducible refine Kd.C_drewN ?_ _) | (with_reducible refine Kd.C_drew ?_))); (case side2 => exact HC1.out); rintro e w32 ⟨rfl, hb⟩; have n0_ := Aside0.mk (below_step (by repeat (first | (with_reducible first | exact HB.out | apply below_alloc | apply pw_below_drewN | apply below_drew1) | exact HB.out)) hb); clear HB; have HB := n0_; clear n0_; (try clear hb); (try clear hb2); (try clear hk); (try clear hi)) | (go_at_call 17; (with_reducible refine (minuetlaw0_Num.calls t103 t107 _ A7.out).mono ?_); rintro e w' ⟨rfl, ⟨nd, rfl⟩⟩; (try first | exact ⟨rfl, _, World.drewN_drewN _ _ _⟩ | exact ⟨rfl, _, Eq.trans (World.drewN_drewN _ _ _) (congrArg (World.drewN _) (Nat.add_assoc _ _ _))⟩)))
         repeat (go_quiet (first | (go_at_call 15; (with_reducible refine (minuetlaw3_awake.calls k  true _ A3.out).mono ?_); rintro e w30 ⟨rfl, hb⟩; have n0_ := Aside0.mk (below_step (by repeat (first | (with_reducible first | exact HB.out | apply below_alloc | apply pw_below_drewN | apply below_drew1) | exact HB.out)) hb); clear HB; have HB := n0_; clear n0_; (try clear hb); (try clear hb2); (try clear hk); (try clear hi)) | (go_at_call 16; (with_reducible refine (apply_Apply.calls k a0 _ _ l1 t102 t103 _ ?side1 ?side2 A5.out).mono ?_); (case side1 => repeat (first | exact (Kd.C_below HR1.out HB.out) | (with_reducible refine Kd.C_alloc ?_ _) | (with_reducible refine Kd.C_drewN ?_ _) | (with_reducible refine Kd.C_drew ?_))); (case side2 => exact HC1.out); rintro e w31 ⟨rfl, hb⟩; have n0_ := Aside0.mk (below_step (by repeat (first | (with_reducible first | exact HB.out | apply below_alloc | apply pw_below_drewN | apply below_drew1) | exact HB.out)) hb); clear HB; have HB := n0_; clear n0_; (try clear hb); (try clear hb2); (try clear hk); (try clear hi)) | (go_at_call 20; (with_reducible refine (minuetref1_Lengths.calls k _ _ l1 t104 t105 t106 _ ?side1 ?side2 A6.out).mono ?_); (case side1 => repeat (first | exact (Kd.C_below HR1.out HB.out) | (with_reducible refine Kd.C_alloc ?_ _) | (with_reducible refine Kd.C_drewN ?_ _) | (with_reducible refine Kd.C_drew ?_))); (case side2 => exact HC1.out); rintro e w32 ⟨rfl, hb⟩; have n0_ := Aside0.mk (below_step (by repeat (first | (with_reducible first | exact HB.out | apply below_alloc | apply pw_below_drewN | apply below_drew1) | exact HB.out)) hb); clear HB; have HB := n0_; clear n0_; (try clear hb); (try clear hb2); (try clear hk); (try clear hi)) | (go_at_call 17; (with_reducible refine (minuetlaw0_Num.calls t103 t107 _ A7.out).mono ?_); rintro e w' ⟨rfl, ⟨nd, rfl⟩⟩; (try first | exact ⟨rfl, _, World.drewN_drewN _ _ _⟩ | exact ⟨rfl, _, Eq.trans (World.drewN_drewN _ _ _) (congrArg (World.drewN _) (Nat.add_assoc _ _ _))⟩))); try go_wp2_with (first | (go_at_call 15; (with_reducible refine (minuetlaw3_awake.calls k  true _ A3.out).mono ?_); rintro e w30 ⟨rfl, hb⟩; have n0_ := Aside0.mk (below_step (by repeat (first | (with_reducible first | exact HB.out | apply below_alloc | apply pw_below_drewN | apply below_drew1) | exact HB.out)) hb); clear HB; have HB := n0_; clear n0_; (try clear hb); (try clear hb2); (try clear hk); (try clear hi)) | (go_at_call 16; (with_reducible refine (apply_Apply.calls k a0 _ _ l1 t102 t103 _ ?side1 ?side2 A5.out).mono ?_); (case side1 => repeat (first | exact (Kd.C_below HR1.out HB.out) | (with_reducible refine Kd.C_alloc ?_ _) | (with_reducible refine Kd.C_drewN ?_ _) | (with_reducible refine Kd.C_drew ?_))); (case side2 => exact HC1.out); rintro e w31 ⟨rfl, hb⟩; have n0_ := Aside0.mk (below_step (by repeat (first | (with_reducible first | exact HB.out | apply below_alloc | apply pw_below_drewN | apply below_drew1) | exact HB.out)) hb); clear HB; have HB := n0_; clear n0_; (try clear hb); (try clear hb2); (try clear hk); (try clear hi)) | (go_at_call 20; (with_reducible refine (minuetref1_Lengths.calls k _ _ l1 t104 t105 t106 _ ?side1 ?side2 A6.out).mono ?_); (case side1 => repeat (first | exact (Kd.C_below HR1.out HB.out) | (with_reducible refine Kd.C_alloc ?_ _) | (with_reducible refine Kd.C_drewN ?_ _) | (with_reducible refine Kd.C_drew ?_))); (case side2 => exact HC1.out); rintro e w32 ⟨rfl, hb⟩; have n0_ := Aside0.mk (below_step (by repeat (first | (with_reducible first | exact HB.out | apply below_alloc | apply pw_below_drewN | apply below_drew1) | exact HB.out)) hb); clear HB; have HB := n0_; clear n0_; (try clear hb); (try clear hb2); (try clear hk); (try clear hi)) | (go_at_call 17; (with_reducible refine (minuetlaw0_Num.calls t103 t107 _ A7.out).mono ?_); rintro e w' ⟨rfl, ⟨nd, rfl⟩⟩; (try first | exact ⟨rfl, _, World.drewN_drewN _ _ _⟩ | exact ⟨rfl, _, Eq.trans (World.drewN_drewN _ _ _) (congrArg (World.drewN _) (Nat.add_assoc _ _ _))⟩))))
         go_ret
         exact ⟨by first | rfl | (simp [errW_none, errW_some] <;> rfl) | (simp [*, errW_none, errW_some] <;> rfl), by repeat (first | (with_reducible first | exact HB.out | apply below_alloc | apply pw_below_drewN | apply below_drew1) | exact HB.out)⟩
     · rw [if_neg c25] at H
       exact absurd H (by simp)
 · replace c4 := Bool.eq_false_iff.mpr c4
   subst c4
   have H1 : (none) = some r := by rw [if_neg (show ¬ (false = true) by decide)] at H; exact H
   clear H
   have H := H1
   clear H1
   exact absurd H (by simp)

end Go.Proofs.Ytbkkcoppncgegab.G
