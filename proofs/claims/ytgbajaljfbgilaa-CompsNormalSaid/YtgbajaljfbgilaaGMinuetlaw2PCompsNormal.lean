-- Laid by this session's own program gprint.py (wip/tools), out of the kit's print and of texts of this session. Lean checks it.
import Derived.Test.YtgbajaljfbgilaaGx0
import Derived.Test.YtgbajaljfbgilaaGZ3
import Derived.Test.YtgbajaljfbgilaaGCompPNormal
import Derived.Test.YtgbajaljfbgilaaGZ0
import Derived.Test.YtgbajaljfbgilaaGMinuetlaw2qawake
namespace Go.Proofs.Ytgbajaljfbgilaa.G
open Go.RowKit Go.Proofs.YtgbajaljfbgilaaW.PrintWords Go.Proofs.YtgbajaljfbgilaaW.PrintLast Go.Proofs.YtgbajaljfbgilaaW.PrintMore
attribute [local go_sem] max2_int min2_int max_two min_two max_three min_three max_four min_four   -- for this text's walks alone
set_option linter.unusedVariables false
set_option linter.unusedSimpArgs false

/-! ### minuetlaw2_CompsNormal: function 4 -/
mutual
def minuetlaw2_CompsNormal.j0 : Nat → List (S36) → List (S36) → Bool → Option (Bool)
 | 0, _, _, _ => none
 | k + 1, x0, x3, x49 => if x49 = true then (none) else (minuetlaw2_CompsNormal.l0 k x0 x3 0 0 (⟨#[]⟩ : ByteArray) 0)
def minuetlaw2_CompsNormal.l0 : Nat → List (S36) → List (S36) → Int → Int → ByteArray → Int → Option (Bool)
 | 0, _, _, _, _, _, _ => none
 | k + 1, x0, x3, x7, x8, x9, x10 => if x10 < (x0.length : Int) then (if 0 ≤ x10 then (if ((rd_T36 x0 x10).f0) = 0 then (minuetlaw2_CompsNormal.l0 k x0 x3 (wrap64 (x7 + ((rd_T36 x0 x10).f1))) x8 x9 (wrap64 (x10 + 1))) else (if ((rd_T36 x0 x10).f0) = 2 then (minuetlaw2_CompsNormal.l0 k x0 x3 x7 (wrap64 (x8 + ((rd_T36 x0 x10).f1))) x9 (wrap64 (x10 + 1))) else (if x9.size + ((rd_T36 x0 x10).f2).size ≤ 9223372036854775807 then (minuetlaw2_CompsNormal.l0 k x0 x3 x7 x8 (x9 ++ ((rd_T36 x0 x10).f2)) (wrap64 (x10 + 1))) else (none)))) else (none)) else (minuetlaw2_CompsNormal.l1 k x3 x7 x8 x9 0)
def minuetlaw2_CompsNormal.l1 : Nat → List (S36) → Int → Int → ByteArray → Int → Option (Bool)
 | 0, _, _, _, _, _ => none
 | k + 1, x3, x7, x8, x9, x11 => if x11 < (x3.length : Int) then (if 0 ≤ x11 then (if x11 > 0 then (if 0 ≤ (wrap64 (x11 - 1)) then (if (wrap64 (x11 - 1)) < (x3.length : Int) then (if ((rd_T36 x3 (wrap64 (x11 - 1))).f0) = ((rd_T36 x3 x11).f0) then (minuetlaw2_CompsNormal.j3 k x3 x7 x8 x9 x11 true ((rd_T36 x3 x11).f0) ((rd_T36 x3 x11).f1) ((rd_T36 x3 x11).f2)) else (if ((rd_T36 x3 (wrap64 (x11 - 1))).f0) = 2 then (if ((rd_T36 x3 x11).f0) = 1 then (minuetlaw2_CompsNormal.j3 k x3 x7 x8 x9 x11 true ((rd_T36 x3 x11).f0) ((rd_T36 x3 x11).f1) ((rd_T36 x3 x11).f2)) else (if ((rd_T36 x3 x11).f1) = 0 then (minuetlaw2_CompsNormal.j3 k x3 x7 x8 x9 x11 (((rd_T36 x3 x11).f2).toList == ([] : List UInt8)) ((rd_T36 x3 x11).f0) ((rd_T36 x3 x11).f1) ((rd_T36 x3 x11).f2)) else (minuetlaw2_CompsNormal.j3 k x3 x7 x8 x9 x11 false ((rd_T36 x3 x11).f0) ((rd_T36 x3 x11).f1) ((rd_T36 x3 x11).f2)))) else (if ((rd_T36 x3 x11).f1) = 0 then (minuetlaw2_CompsNormal.j3 k x3 x7 x8 x9 x11 (((rd_T36 x3 x11).f2).toList == ([] : List UInt8)) ((rd_T36 x3 x11).f0) ((rd_T36 x3 x11).f1) ((rd_T36 x3 x11).f2)) else (minuetlaw2_CompsNormal.j3 k x3 x7 x8 x9 x11 false ((rd_T36 x3 x11).f0) ((rd_T36 x3 x11).f1) ((rd_T36 x3 x11).f2))))) else (none)) else (none)) else (if ((rd_T36 x3 x11).f1) = 0 then (minuetlaw2_CompsNormal.j3 k x3 x7 x8 x9 x11 (((rd_T36 x3 x11).f2).toList == ([] : List UInt8)) ((rd_T36 x3 x11).f0) ((rd_T36 x3 x11).f1) ((rd_T36 x3 x11).f2)) else (minuetlaw2_CompsNormal.j3 k x3 x7 x8 x9 x11 false ((rd_T36 x3 x11).f0) ((rd_T36 x3 x11).f1) ((rd_T36 x3 x11).f2)))) else (none)) else (if x7 = 0 then (if x8 = 0 then (some (x9.toList == ([] : List UInt8))) else (none)) else (none))
def minuetlaw2_CompsNormal.j3 : Nat → List (S36) → Int → Int → ByteArray → Int → Bool → Int → Int → ByteArray → Option (Bool)
 | 0, _, _, _, _, _, _, _, _, _ => none
 | k + 1, x3, x7, x8, x9, x11, x132, x121000, x121001, x121002 => if x132 = true then (none) else (if x121000 = 0 then (minuetlaw2_CompsNormal.l1 k x3 (wrap64 (x7 - x121001)) x8 x9 (wrap64 (x11 + 1))) else (if x121000 = 2 then (minuetlaw2_CompsNormal.l1 k x3 x7 (wrap64 (x8 - x121001)) x9 (wrap64 (x11 + 1))) else (if (x121002.size : Int) > (x9.size : Int) then (none) else (if 0 ≤ (x121002.size : Int) then (if (x121002.size : Int) ≤ (x9.size : Int) then (if (x9.extract 0 ((x121002.size : Int) : Int).toNat).toList = x121002.toList then (minuetlaw2_CompsNormal.l1 k x3 x7 x8 (x9.extract ((x121002.size : Int) : Int).toNat x9.size) (wrap64 (x11 + 1))) else (none)) else (none)) else (none)))))
end
def minuetlaw2_CompsNormal.f (k : Nat) (l0 : List (S36)) : Option (Bool) := (minuetlaw2_awake.f k).bind fun t101 => (if t101 = true then ((comp_Normal.f k l0).bind fun bt102 => ((minuetlaw0_Num.f bt102.2).bind fun t106 => (if t106 = 0 then ((comp_Normal.f k bt102.1).bind fun bt108 => ((minuetlaw0_Num.f bt108.2).bind fun t112 => (if t112 = 0 then ((minuetlaw0_SameComps.f k bt102.1 bt108.1).bind fun t113 => (if t113 = true then ((comp_May.f k bt102.1).bind fun t114 => (minuetlaw2_CompsNormal.j0 k l0 bt102.1 (!t114))) else (minuetlaw2_CompsNormal.j0 k l0 bt102.1 true))) else (minuetlaw2_CompsNormal.j0 k l0 bt102.1 true)))) else (if (bt102.1.length : Int) = 0 then ((minuetlaw0_Num.f bt102.2).bind fun t107 => (some (t107 == 200))) else (none))))) else (none))
theorem minuetlaw2_CompsNormal.mono_l : ∀ k, (∀ y0 y1 y2, LeO (minuetlaw2_CompsNormal.j0 k y0 y1 y2) (minuetlaw2_CompsNormal.j0 (k + 1) y0 y1 y2)) ∧ (∀ y0 y1 y2 y3 y4 y5, LeO (minuetlaw2_CompsNormal.l0 k y0 y1 y2 y3 y4 y5) (minuetlaw2_CompsNormal.l0 (k + 1) y0 y1 y2 y3 y4 y5)) ∧ (∀ y0 y1 y2 y3 y4, LeO (minuetlaw2_CompsNormal.l1 k y0 y1 y2 y3 y4) (minuetlaw2_CompsNormal.l1 (k + 1) y0 y1 y2 y3 y4)) ∧ (∀ y0 y1 y2 y3 y4 y5 y6 y7 y8, LeO (minuetlaw2_CompsNormal.j3 k y0 y1 y2 y3 y4 y5 y6 y7 y8) (minuetlaw2_CompsNormal.j3 (k + 1) y0 y1 y2 y3 y4 y5 y6 y7 y8))
 | 0 => ⟨fun _ _ _ r h => by simp [minuetlaw2_CompsNormal.j0] at h, fun _ _ _ _ _ _ r h => by simp [minuetlaw2_CompsNormal.l0] at h, fun _ _ _ _ _ r h => by simp [minuetlaw2_CompsNormal.l1] at h, fun _ _ _ _ _ _ _ _ _ r h => by simp [minuetlaw2_CompsNormal.j3] at h⟩
 | k + 1 => by
  obtain ⟨ih0, ih1, ih2, ih3⟩ := minuetlaw2_CompsNormal.mono_l k
  refine ⟨?_, ?_, ?_, ?_⟩
  · intro y0 y1 y2
    unfold minuetlaw2_CompsNormal.j0
    repeat' first
    | (with_reducible exact ih0 _ _ _)
    | (with_reducible exact ih1 _ _ _ _ _ _)
    | (with_reducible exact ih2 _ _ _ _ _)
    | (with_reducible exact ih3 _ _ _ _ _ _ _ _ _)
    | (with_reducible exact comp_May.mono _ _)
    | (with_reducible exact comp_Normal.mono _ _)
    | (with_reducible exact minuetlaw0_SameComps.mono _ _ _)
    | (with_reducible exact minuetlaw2_awake.mono _)
    | (with_reducible exact LeO.refl _)
    | (with_reducible exact LeO.none _)
    | (with_reducible refine LeO.ite ?_ ?_)
    | (with_reducible refine LeO.bind ?_ (fun _ => ?_))
    | exact ih0 _ _ _
    | exact ih1 _ _ _ _ _ _
    | exact ih2 _ _ _ _ _
    | exact ih3 _ _ _ _ _ _ _ _ _
    | exact comp_May.mono _ _
    | exact comp_Normal.mono _ _
    | exact minuetlaw0_SameComps.mono _ _ _
    | exact minuetlaw2_awake.mono _
    | exact LeO.none _
    | refine LeO.ite ?_ ?_
    | refine LeO.bind ?_ (fun _ => ?_)
  · intro y0 y1 y2 y3 y4 y5
    unfold minuetlaw2_CompsNormal.l0
    repeat' first
    | (with_reducible exact ih0 _ _ _)
    | (with_reducible exact ih1 _ _ _ _ _ _)
    | (with_reducible exact ih2 _ _ _ _ _)
    | (with_reducible exact ih3 _ _ _ _ _ _ _ _ _)
    | (with_reducible exact comp_May.mono _ _)
    | (with_reducible exact comp_Normal.mono _ _)
    | (with_reducible exact minuetlaw0_SameComps.mono _ _ _)
    | (with_reducible exact minuetlaw2_awake.mono _)
    | (with_reducible exact LeO.refl _)
    | (with_reducible exact LeO.none _)
    | (with_reducible refine LeO.ite ?_ ?_)
    | (with_reducible refine LeO.bind ?_ (fun _ => ?_))
    | exact ih0 _ _ _
    | exact ih1 _ _ _ _ _ _
    | exact ih2 _ _ _ _ _
    | exact ih3 _ _ _ _ _ _ _ _ _
    | exact comp_May.mono _ _
    | exact comp_Normal.mono _ _
    | exact minuetlaw0_SameComps.mono _ _ _
    | exact minuetlaw2_awake.mono _
    | exact LeO.none _
    | refine LeO.ite ?_ ?_
    | refine LeO.bind ?_ (fun _ => ?_)
  · intro y0 y1 y2 y3 y4
    unfold minuetlaw2_CompsNormal.l1
    repeat' first
    | (with_reducible exact ih0 _ _ _)
    | (with_reducible exact ih1 _ _ _ _ _ _)
    | (with_reducible exact ih2 _ _ _ _ _)
    | (with_reducible exact ih3 _ _ _ _ _ _ _ _ _)
    | (with_reducible exact comp_May.mono _ _)
    | (with_reducible exact comp_Normal.mono _ _)
    | (with_reducible exact minuetlaw0_SameComps.mono _ _ _)
    | (with_reducible exact minuetlaw2_awake.mono _)
    | (with_reducible exact LeO.refl _)
    | (with_reducible exact LeO.none _)
    | (with_reducible refine LeO.ite ?_ ?_)
    | (with_reducible refine LeO.bind ?_ (fun _ => ?_))
    | exact ih0 _ _ _
    | exact ih1 _ _ _ _ _ _
    | exact ih2 _ _ _ _ _
    | exact ih3 _ _ _ _ _ _ _ _ _
    | exact comp_May.mono _ _
    | exact comp_Normal.mono _ _
    | exact minuetlaw0_SameComps.mono _ _ _
    | exact minuetlaw2_awake.mono _
    | exact LeO.none _
    | refine LeO.ite ?_ ?_
    | refine LeO.bind ?_ (fun _ => ?_)
  · intro y0 y1 y2 y3 y4 y5 y6 y7 y8
    unfold minuetlaw2_CompsNormal.j3
    repeat' first
    | (with_reducible exact ih0 _ _ _)
    | (with_reducible exact ih1 _ _ _ _ _ _)
    | (with_reducible exact ih2 _ _ _ _ _)
    | (with_reducible exact ih3 _ _ _ _ _ _ _ _ _)
    | (with_reducible exact comp_May.mono _ _)
    | (with_reducible exact comp_Normal.mono _ _)
    | (with_reducible exact minuetlaw0_SameComps.mono _ _ _)
    | (with_reducible exact minuetlaw2_awake.mono _)
    | (with_reducible exact LeO.refl _)
    | (with_reducible exact LeO.none _)
    | (with_reducible refine LeO.ite ?_ ?_)
    | (with_reducible refine LeO.bind ?_ (fun _ => ?_))
    | exact ih0 _ _ _
    | exact ih1 _ _ _ _ _ _
    | exact ih2 _ _ _ _ _
    | exact ih3 _ _ _ _ _ _ _ _ _
    | exact comp_May.mono _ _
    | exact comp_Normal.mono _ _
    | exact minuetlaw0_SameComps.mono _ _ _
    | exact minuetlaw2_awake.mono _
    | exact LeO.none _
    | refine LeO.ite ?_ ?_
    | refine LeO.bind ?_ (fun _ => ?_)
theorem minuetlaw2_CompsNormal.mono : ∀ a0 k, LeO (minuetlaw2_CompsNormal.f k a0) (minuetlaw2_CompsNormal.f (k + 1) a0) := by
 intro a0 k
 obtain ⟨ih0, ih1, ih2, ih3⟩ := minuetlaw2_CompsNormal.mono_l k
 unfold minuetlaw2_CompsNormal.f
 repeat' first
  | (with_reducible exact ih0 _ _ _)
  | (with_reducible exact ih1 _ _ _ _ _ _)
  | (with_reducible exact ih2 _ _ _ _ _)
  | (with_reducible exact ih3 _ _ _ _ _ _ _ _ _)
  | (with_reducible exact comp_May.mono _ _)
  | (with_reducible exact comp_Normal.mono _ _)
  | (with_reducible exact minuetlaw0_SameComps.mono _ _ _)
  | (with_reducible exact minuetlaw2_awake.mono _)
  | (with_reducible exact LeO.refl _)
  | (with_reducible exact LeO.none _)
  | (with_reducible refine LeO.ite ?_ ?_)
  | (with_reducible refine LeO.bind ?_ (fun _ => ?_))
  | exact ih0 _ _ _
  | exact ih1 _ _ _ _ _ _
  | exact ih2 _ _ _ _ _
  | exact ih3 _ _ _ _ _ _ _ _ _
  | exact comp_May.mono _ _
  | exact comp_Normal.mono _ _
  | exact minuetlaw0_SameComps.mono _ _ _
  | exact minuetlaw2_awake.mono _
  | exact LeO.none _
  | refine LeO.ite ?_ ?_
  | refine LeO.bind ?_ (fun _ => ?_)
set_option maxHeartbeats 8000000 in
set_option maxRecDepth 100000 in
theorem minuetlaw2_CompsNormal.calls (k : Nat) (A0 : Option Addr) (c0 : Nat) (l0 : List (S36)) (r : Bool) (w : World) (hr0 : Kd.C k36 w A0 l0.length l0) (hc0 : l0.length ≤ c0) (h : minuetlaw2_CompsNormal.f k l0 = some r) :
 Calls Try.prog 4 #[.slice A0 l0.length c0] w fun e w' => e = .returned (.bool r) ∧ Below w.heap.size w w' := by
 have hu36 := Try.underlying36
 have HR0 := Aside0.mk hr0
 have HC0 := Aside0.mk hc0
 clear hr0 hc0
 have HB := Aside0.mk (Below.refl w.heap.size w)
 have H : ((minuetlaw2_awake.f k).bind fun t101 => (if t101 = true then ((comp_Normal.f k l0).bind fun bt102 => ((minuetlaw0_Num.f bt102.2).bind fun t106 => (if t106 = 0 then ((comp_Normal.f k bt102.1).bind fun bt108 => ((minuetlaw0_Num.f bt108.2).bind fun t112 => (if t112 = 0 then ((minuetlaw0_SameComps.f k bt102.1 bt108.1).bind fun t113 => (if t113 = true then ((comp_May.f k bt102.1).bind fun t114 => (minuetlaw2_CompsNormal.j0 k l0 bt102.1 (!t114))) else (minuetlaw2_CompsNormal.j0 k l0 bt102.1 true))) else (minuetlaw2_CompsNormal.j0 k l0 bt102.1 true)))) else (if (bt102.1.length : Int) = 0 then ((minuetlaw0_Num.f bt102.2).bind fun t107 => (some (t107 == 200))) else (none))))) else (none))) = some r := h
 clear h
 replace H := Option.bind_eq_some_iff.mp H
 obtain ⟨t101, A20, H⟩ := H
 replace H : (if t101 = true then ((comp_Normal.f k l0).bind fun bt102 => ((minuetlaw0_Num.f bt102.2).bind fun t106 => (if t106 = 0 then ((comp_Normal.f k bt102.1).bind fun bt108 => ((minuetlaw0_Num.f bt108.2).bind fun t112 => (if t112 = 0 then ((minuetlaw0_SameComps.f k bt102.1 bt108.1).bind fun t113 => (if t113 = true then ((comp_May.f k bt102.1).bind fun t114 => (minuetlaw2_CompsNormal.j0 k l0 bt102.1 (!t114))) else (minuetlaw2_CompsNormal.j0 k l0 bt102.1 true))) else (minuetlaw2_CompsNormal.j0 k l0 bt102.1 true)))) else (if (bt102.1.length : Int) = 0 then ((minuetlaw0_Num.f bt102.2).bind fun t107 => (some (t107 == 200))) else (none))))) else (none)) = some r := H
 have A2 := Aside0.mk A20
 clear A20
 by_cases c3 : t101 = true
 · subst c3
   have H1 : ((comp_Normal.f k l0).bind fun bt102 => ((minuetlaw0_Num.f bt102.2).bind fun t106 => (if t106 = 0 then ((comp_Normal.f k bt102.1).bind fun bt108 => ((minuetlaw0_Num.f bt108.2).bind fun t112 => (if t112 = 0 then ((minuetlaw0_SameComps.f k bt102.1 bt108.1).bind fun t113 => (if t113 = true then ((comp_May.f k bt102.1).bind fun t114 => (minuetlaw2_CompsNormal.j0 k l0 bt102.1 (!t114))) else (minuetlaw2_CompsNormal.j0 k l0 bt102.1 true))) else (minuetlaw2_CompsNormal.j0 k l0 bt102.1 true)))) else (if (bt102.1.length : Int) = 0 then ((minuetlaw0_Num.f bt102.2).bind fun t107 => (some (t107 == 200))) else (none))))) = some r := by rw [if_pos rfl] at H; exact H
   clear H
   have H := H1
   clear H1
   replace H := Option.bind_eq_some_iff.mp H
   obtain ⟨⟨t102, t103⟩, A40, H⟩ := H
   replace H : ((minuetlaw0_Num.f t103).bind fun t106 => (if t106 = 0 then ((comp_Normal.f k t102).bind fun bt108 => ((minuetlaw0_Num.f bt108.2).bind fun t112 => (if t112 = 0 then ((minuetlaw0_SameComps.f k t102 bt108.1).bind fun t113 => (if t113 = true then ((comp_May.f k t102).bind fun t114 => (minuetlaw2_CompsNormal.j0 k l0 t102 (!t114))) else (minuetlaw2_CompsNormal.j0 k l0 t102 true))) else (minuetlaw2_CompsNormal.j0 k l0 t102 true)))) else (if (t102.length : Int) = 0 then ((minuetlaw0_Num.f t103).bind fun t107 => (some (t107 == 200))) else (none)))) = some r := H
   have A4 := Aside0.mk A40
   clear A40
   replace H := Option.bind_eq_some_iff.mp H
   obtain ⟨t106, A50, H⟩ := H
   replace H : (if t106 = 0 then ((comp_Normal.f k t102).bind fun bt108 => ((minuetlaw0_Num.f bt108.2).bind fun t112 => (if t112 = 0 then ((minuetlaw0_SameComps.f k t102 bt108.1).bind fun t113 => (if t113 = true then ((comp_May.f k t102).bind fun t114 => (minuetlaw2_CompsNormal.j0 k l0 t102 (!t114))) else (minuetlaw2_CompsNormal.j0 k l0 t102 true))) else (minuetlaw2_CompsNormal.j0 k l0 t102 true)))) else (if (t102.length : Int) = 0 then ((minuetlaw0_Num.f t103).bind fun t107 => (some (t107 == 200))) else (none))) = some r := H
   have A5 := Aside0.mk A50
   clear A50
   by_cases c6 : t106 = 0
   · rw [if_pos c6] at H
     have c6b0 : (t106 == 0) = true := beq_iff_eq.mpr c6
     have c6b1 : (t106 != 0) = false := bne_eq_false_iff_eq.mpr c6
     clear c6
     replace H := Option.bind_eq_some_iff.mp H
     obtain ⟨⟨t108, t109⟩, A70, H⟩ := H
     replace H : ((minuetlaw0_Num.f t109).bind fun t112 => (if t112 = 0 then ((minuetlaw0_SameComps.f k t102 t108).bind fun t113 => (if t113 = true then ((comp_May.f k t102).bind fun t114 => (minuetlaw2_CompsNormal.j0 k l0 t102 (!t114))) else (minuetlaw2_CompsNormal.j0 k l0 t102 true))) else (minuetlaw2_CompsNormal.j0 k l0 t102 true))) = some r := H
     have A7 := Aside0.mk A70
     clear A70
     have HC8 := Aside0.mk H
     clear H
     go_enter Try.func4, Try.ntmps4
     go_upto_region 7 with (first | (go_at_call 11; (with_reducible refine (minuetlaw2_awake.calls k  true _ A2.out).mono ?_); rintro e w9 ⟨rfl, hb⟩; have n0_ := Aside0.mk (below_step (by repeat (first | (with_reducible first | exact HB.out | apply below_alloc | apply pw_below_drewN | apply below_drew1) | exact HB.out)) hb); clear HB; have HB := n0_; clear n0_; (try clear hb); (try clear hb2); (try clear hk); (try clear hi)) | (go_at_call 12; (with_reducible refine (comp_Normal.calls k _ _ l0 t102 t103 _ ?side1 ?side2 A4.out).mono ?_); (case side1 => repeat (first | exact (Kd.C_below HR0.out HB.out) | (with_reducible refine Kd.C_alloc ?_ _) | (with_reducible refine Kd.C_drewN ?_ _) | (with_reducible refine Kd.C_drew ?_))); (case side2 => exact HC0.out); rintro e w10 ⟨v104, rfl, ho0, hb⟩; have n0_ := Aside0.mk (Kd.R_lower ho0 (below_size (by repeat (first | (with_reducible first | exact HB.out | apply below_alloc | apply pw_below_drewN | apply below_drew1) | exact HB.out)))); have n1_ := Aside0.mk (below_step (by repeat (first | (with_reducible first | exact HB.out | apply below_alloc | apply pw_below_drewN | apply below_drew1) | exact HB.out)) hb); clear HB; have HO105 := n0_; have HB := n1_; clear n0_ n1_; (try clear hb); (try clear hb2); (try clear hk); (try clear hi); (try clear ho0)) | (go_at_call 8; (with_reducible refine (minuetlaw0_Num.calls t103 t106 _ A5.out).mono ?_); rintro e w' ⟨rfl, ⟨nd, rfl⟩⟩; (try first | exact ⟨rfl, _, World.drewN_drewN _ _ _⟩ | exact ⟨rfl, _, Eq.trans (World.drewN_drewN _ _ _) (congrArg (World.drewN _) (Nat.add_assoc _ _ _))⟩); obtain ⟨Ao11, co11, eo11⟩ := Kd.R_slice HO105.out; subst eo11) | (go_at_call 12; (with_reducible refine (comp_Normal.calls k _ _ t102 t108 t109 _ ?side1 ?side2 A7.out).mono ?_); (case side1 => repeat (first | exact (Kd.R_reads' HO105.out).2.2 | (with_reducible refine Kd.C_alloc ?_ _) | (with_reducible refine Kd.C_drewN ?_ _) | (with_reducible refine Kd.C_drew ?_))); (case side2 => exact (Kd.R_reads' HO105.out).2.1); rintro e w12 ⟨v110, rfl, ho0, hb⟩; have n0_ := Aside0.mk (Kd.R_elder' (by (with_reducible repeat (first | apply Kd.R_alloc | apply Kd.R_drewN | apply Kd.R_drew)); exact HO105.out) (Kd.R_base ho0) hb); have n1_ := Aside0.mk (Kd.R_lower (Kd.R_new' ho0 (Kd.R_lt (by (with_reducible repeat (first | apply Kd.R_alloc | apply Kd.R_drewN | apply Kd.R_drew)); exact HO105.out))) (below_size (by repeat (first | (with_reducible first | exact HB.out | apply below_alloc | apply pw_below_drewN | apply below_drew1) | exact HB.out)))); have n2_ := Aside0.mk (below_step (by repeat (first | (with_reducible first | exact HB.out | apply below_alloc | apply pw_below_drewN | apply below_drew1) | exact HB.out)) hb); clear HO105; clear HB; have HO105 := n0_; have HO111 := n1_; have HB := n2_; clear n0_ n1_ n2_; (try clear hb); (try clear hb2); (try clear hk); (try clear hi); (try clear ho0)))
     repeat (go_quiet (first | (go_at_call 11; (with_reducible refine (minuetlaw2_awake.calls k  true _ A2.out).mono ?_); rintro e w9 ⟨rfl, hb⟩; have n0_ := Aside0.mk (below_step (by repeat (first | (with_reducible first | exact HB.out | apply below_alloc | apply pw_below_drewN | apply below_drew1) | exact HB.out)) hb); clear HB; have HB := n0_; clear n0_; (try clear hb); (try clear hb2); (try clear hk); (try clear hi)) | (go_at_call 12; (with_reducible refine (comp_Normal.calls k _ _ l0 t102 t103 _ ?side1 ?side2 A4.out).mono ?_); (case side1 => repeat (first | exact (Kd.C_below HR0.out HB.out) | (with_reducible refine Kd.C_alloc ?_ _) | (with_reducible refine Kd.C_drewN ?_ _) | (with_reducible refine Kd.C_drew ?_))); (case side2 => exact HC0.out); rintro e w10 ⟨v104, rfl, ho0, hb⟩; have n0_ := Aside0.mk (Kd.R_lower ho0 (below_size (by repeat (first | (with_reducible first | exact HB.out | apply below_alloc | apply pw_below_drewN | apply below_drew1) | exact HB.out)))); have n1_ := Aside0.mk (below_step (by repeat (first | (with_reducible first | exact HB.out | apply below_alloc | apply pw_below_drewN | apply below_drew1) | exact HB.out)) hb); clear HB; have HO105 := n0_; have HB := n1_; clear n0_ n1_; (try clear hb); (try clear hb2); (try clear hk); (try clear hi); (try clear ho0)) | (go_at_call 8; (with_reducible refine (minuetlaw0_Num.calls t103 t106 _ A5.out).mono ?_); rintro e w' ⟨rfl, ⟨nd, rfl⟩⟩; (try first | exact ⟨rfl, _, World.drewN_drewN _ _ _⟩ | exact ⟨rfl, _, Eq.trans (World.drewN_drewN _ _ _) (congrArg (World.drewN _) (Nat.add_assoc _ _ _))⟩); obtain ⟨Ao11, co11, eo11⟩ := Kd.R_slice HO105.out; subst eo11) | (go_at_call 12; (with_reducible refine (comp_Normal.calls k _ _ t102 t108 t109 _ ?side1 ?side2 A7.out).mono ?_); (case side1 => repeat (first | exact (Kd.R_reads' HO105.out).2.2 | (with_reducible refine Kd.C_alloc ?_ _) | (with_reducible refine Kd.C_drewN ?_ _) | (with_reducible refine Kd.C_drew ?_))); (case side2 => exact (Kd.R_reads' HO105.out).2.1); rintro e w12 ⟨v110, rfl, ho0, hb⟩; have n0_ := Aside0.mk (Kd.R_elder' (by (with_reducible repeat (first | apply Kd.R_alloc | apply Kd.R_drewN | apply Kd.R_drew)); exact HO105.out) (Kd.R_base ho0) hb); have n1_ := Aside0.mk (Kd.R_lower (Kd.R_new' ho0 (Kd.R_lt (by (with_reducible repeat (first | apply Kd.R_alloc | apply Kd.R_drewN | apply Kd.R_drew)); exact HO105.out))) (below_size (by repeat (first | (with_reducible first | exact HB.out | apply below_alloc | apply pw_below_drewN | apply below_drew1) | exact HB.out)))); have n2_ := Aside0.mk (below_step (by repeat (first | (with_reducible first | exact HB.out | apply below_alloc | apply pw_below_drewN | apply below_drew1) | exact HB.out)) hb); clear HO105; clear HB; have HO105 := n0_; have HO111 := n1_; have HB := n2_; clear n0_ n1_ n2_; (try clear hb); (try clear hb2); (try clear hk); (try clear hi); (try clear ho0))); go_upto_region 7 with (first | (go_at_call 11; (with_reducible refine (minuetlaw2_awake.calls k  true _ A2.out).mono ?_); rintro e w9 ⟨rfl, hb⟩; have n0_ := Aside0.mk (below_step (by repeat (first | (with_reducible first | exact HB.out | apply below_alloc | apply pw_below_drewN | apply below_drew1) | exact HB.out)) hb); clear HB; have HB := n0_; clear n0_; (try clear hb); (try clear hb2); (try clear hk); (try clear hi)) | (go_at_call 12; (with_reducible refine (comp_Normal.calls k _ _ l0 t102 t103 _ ?side1 ?side2 A4.out).mono ?_); (case side1 => repeat (first | exact (Kd.C_below HR0.out HB.out) | (with_reducible refine Kd.C_alloc ?_ _) | (with_reducible refine Kd.C_drewN ?_ _) | (with_reducible refine Kd.C_drew ?_))); (case side2 => exact HC0.out); rintro e w10 ⟨v104, rfl, ho0, hb⟩; have n0_ := Aside0.mk (Kd.R_lower ho0 (below_size (by repeat (first | (with_reducible first | exact HB.out | apply below_alloc | apply pw_below_drewN | apply below_drew1) | exact HB.out)))); have n1_ := Aside0.mk (below_step (by repeat (first | (with_reducible first | exact HB.out | apply below_alloc | apply pw_below_drewN | apply below_drew1) | exact HB.out)) hb); clear HB; have HO105 := n0_; have HB := n1_; clear n0_ n1_; (try clear hb); (try clear hb2); (try clear hk); (try clear hi); (try clear ho0)) | (go_at_call 8; (with_reducible refine (minuetlaw0_Num.calls t103 t106 _ A5.out).mono ?_); rintro e w' ⟨rfl, ⟨nd, rfl⟩⟩; (try first | exact ⟨rfl, _, World.drewN_drewN _ _ _⟩ | exact ⟨rfl, _, Eq.trans (World.drewN_drewN _ _ _) (congrArg (World.drewN _) (Nat.add_assoc _ _ _))⟩); obtain ⟨Ao11, co11, eo11⟩ := Kd.R_slice HO105.out; subst eo11) | (go_at_call 12; (with_reducible refine (comp_Normal.calls k _ _ t102 t108 t109 _ ?side1 ?side2 A7.out).mono ?_); (case side1 => repeat (first | exact (Kd.R_reads' HO105.out).2.2 | (with_reducible refine Kd.C_alloc ?_ _) | (with_reducible refine Kd.C_drewN ?_ _) | (with_reducible refine Kd.C_drew ?_))); (case side2 => exact (Kd.R_reads' HO105.out).2.1); rintro e w12 ⟨v110, rfl, ho0, hb⟩; have n0_ := Aside0.mk (Kd.R_elder' (by (with_reducible repeat (first | apply Kd.R_alloc | apply Kd.R_drewN | apply Kd.R_drew)); exact HO105.out) (Kd.R_base ho0) hb); have n1_ := Aside0.mk (Kd.R_lower (Kd.R_new' ho0 (Kd.R_lt (by (with_reducible repeat (first | apply Kd.R_alloc | apply Kd.R_drewN | apply Kd.R_drew)); exact HO105.out))) (below_size (by repeat (first | (with_reducible first | exact HB.out | apply below_alloc | apply pw_below_drewN | apply below_drew1) | exact HB.out)))); have n2_ := Aside0.mk (below_step (by repeat (first | (with_reducible first | exact HB.out | apply below_alloc | apply pw_below_drewN | apply below_drew1) | exact HB.out)) hb); clear HO105; clear HB; have HO105 := n0_; have HO111 := n1_; have HB := n2_; clear n0_ n1_ n2_; (try clear hb); (try clear hb2); (try clear hk); (try clear hi); (try clear ho0))))
     (try simp only [Act.put, List.setIfInBounds_toArray, List.set_cons_zero, List.set_cons_succ])
     go_cut [49] (fun v49 wc => ∃ (kq : Nat) (x49_7 : Bool), v49 = .bool x49_7 ∧ Aside0 (minuetlaw2_CompsNormal.j0 kq l0 t102 x49_7 = some r) ∧ Aside0 (kq ≤ k) ∧ Aside0 (Kd.R k36 36 wc w.heap.size (fun _ => True) (.slice Ao11 t102.length co11) t102) ∧ Aside0 (Below w.heap.size w wc))
     case first =>
      have H := HC8.out
      clear HC8
      replace H := Option.bind_eq_some_iff.mp H
      obtain ⟨t112, A130, H⟩ := H
      replace H : (if t112 = 0 then ((minuetlaw0_SameComps.f k t102 t108).bind fun t113 => (if t113 = true then ((comp_May.f k t102).bind fun t114 => (minuetlaw2_CompsNormal.j0 k l0 t102 (!t114))) else (minuetlaw2_CompsNormal.j0 k l0 t102 true))) else (minuetlaw2_CompsNormal.j0 k l0 t102 true)) = some r := H
      have A13 := Aside0.mk A130
      clear A130
      by_cases c14 : t112 = 0
      · rw [if_pos c14] at H
        have c14b0 : (t112 == 0) = true := beq_iff_eq.mpr c14
        have c14b1 : (t112 != 0) = false := bne_eq_false_iff_eq.mpr c14
        clear c14
        (first | rw [c14b0] | (simp only [i64_w, i32_w]; rw [c14b0]) | skip)
        replace H := Option.bind_eq_some_iff.mp H
        obtain ⟨t113, A150, H⟩ := H
        replace H : (if t113 = true then ((comp_May.f k t102).bind fun t114 => (minuetlaw2_CompsNormal.j0 k l0 t102 (!t114))) else (minuetlaw2_CompsNormal.j0 k l0 t102 true)) = some r := H
        have A15 := Aside0.mk A150
        clear A150
        by_cases c16 : t113 = true
        · subst c16
          have H1 : ((comp_May.f k t102).bind fun t114 => (minuetlaw2_CompsNormal.j0 k l0 t102 (!t114))) = some r := by rw [if_pos rfl] at H; exact H
          clear H
          have H := H1
          clear H1
          replace H := Option.bind_eq_some_iff.mp H
          obtain ⟨t114, A170, H⟩ := H
          replace H : (minuetlaw2_CompsNormal.j0 k l0 t102 (!t114)) = some r := H
          have A17 := Aside0.mk A170
          clear A170
          have H' := Aside0.mk H
          clear H
          go_wp2_with (first | (go_at_call 8; (with_reducible refine (minuetlaw0_Num.calls t109 t112 _ A13.out).mono ?_); rintro e w' ⟨rfl, ⟨nd, rfl⟩⟩; (try first | exact ⟨rfl, _, World.drewN_drewN _ _ _⟩ | exact ⟨rfl, _, Eq.trans (World.drewN_drewN _ _ _) (congrArg (World.drewN _) (Nat.add_assoc _ _ _))⟩); obtain ⟨Ao18, co18, eo18⟩ := Kd.R_slice HO111.out; subst eo18) | (go_at_call 13; (with_reducible refine (minuetlaw0_SameComps.calls k _ _ t102 _ _ t108 true _ ?side1 ?side2 ?side3 ?side4 A15.out).mono ?_); (case side1 => repeat (first | exact (Kd.R_reads' HO105.out).2.2 | (with_reducible refine Kd.C_alloc ?_ _) | (with_reducible refine Kd.C_drewN ?_ _) | (with_reducible refine Kd.C_drew ?_))); (case side2 => exact (Kd.R_reads' HO105.out).2.1); (case side3 => repeat (first | exact (Kd.R_reads' HO111.out).2.2 | (with_reducible refine Kd.C_alloc ?_ _) | (with_reducible refine Kd.C_drewN ?_ _) | (with_reducible refine Kd.C_drew ?_))); (case side4 => exact (Kd.R_reads' HO111.out).2.1); rintro e w' ⟨rfl, ⟨nd, rfl⟩⟩; (try first | exact ⟨rfl, _, World.drewN_drewN _ _ _⟩ | exact ⟨rfl, _, Eq.trans (World.drewN_drewN _ _ _) (congrArg (World.drewN _) (Nat.add_assoc _ _ _))⟩)) | (go_at_call 14; (with_reducible refine (comp_May.calls k _ _ t102 t114 _ ?side1 ?side2 A17.out).mono ?_); (case side1 => repeat (first | exact (Kd.R_reads' HO105.out).2.2 | (with_reducible refine Kd.C_alloc ?_ _) | (with_reducible refine Kd.C_drewN ?_ _) | (with_reducible refine Kd.C_drew ?_))); (case side2 => exact (Kd.R_reads' HO105.out).2.1); rintro e w19 ⟨rfl, hb⟩; have n0_ := Aside0.mk (Kd.R_below (by (with_reducible repeat (first | apply Kd.R_alloc | apply Kd.R_drewN | apply Kd.R_drew)); exact HO105.out) hb); have n1_ := Aside0.mk (Kd.R_below (by (with_reducible repeat (first | apply Kd.R_alloc | apply Kd.R_drewN | apply Kd.R_drew)); exact HO111.out) hb); have n2_ := Aside0.mk (below_step (by repeat (first | (with_reducible first | exact HB.out | apply below_alloc | apply pw_below_drewN | apply below_drew1) | exact HB.out)) hb); clear HO105; clear HO111; clear HB; have HO105 := n0_; have HO111 := n1_; have HB := n2_; clear n0_ n1_ n2_; (try clear hb); (try clear hb2); (try clear hk); (try clear hi)))
          repeat (go_quiet (first | (go_at_call 8; (with_reducible refine (minuetlaw0_Num.calls t109 t112 _ A13.out).mono ?_); rintro e w' ⟨rfl, ⟨nd, rfl⟩⟩; (try first | exact ⟨rfl, _, World.drewN_drewN _ _ _⟩ | exact ⟨rfl, _, Eq.trans (World.drewN_drewN _ _ _) (congrArg (World.drewN _) (Nat.add_assoc _ _ _))⟩); obtain ⟨Ao18, co18, eo18⟩ := Kd.R_slice HO111.out; subst eo18) | (go_at_call 13; (with_reducible refine (minuetlaw0_SameComps.calls k _ _ t102 _ _ t108 true _ ?side1 ?side2 ?side3 ?side4 A15.out).mono ?_); (case side1 => repeat (first | exact (Kd.R_reads' HO105.out).2.2 | (with_reducible refine Kd.C_alloc ?_ _) | (with_reducible refine Kd.C_drewN ?_ _) | (with_reducible refine Kd.C_drew ?_))); (case side2 => exact (Kd.R_reads' HO105.out).2.1); (case side3 => repeat (first | exact (Kd.R_reads' HO111.out).2.2 | (with_reducible refine Kd.C_alloc ?_ _) | (with_reducible refine Kd.C_drewN ?_ _) | (with_reducible refine Kd.C_drew ?_))); (case side4 => exact (Kd.R_reads' HO111.out).2.1); rintro e w' ⟨rfl, ⟨nd, rfl⟩⟩; (try first | exact ⟨rfl, _, World.drewN_drewN _ _ _⟩ | exact ⟨rfl, _, Eq.trans (World.drewN_drewN _ _ _) (congrArg (World.drewN _) (Nat.add_assoc _ _ _))⟩)) | (go_at_call 14; (with_reducible refine (comp_May.calls k _ _ t102 t114 _ ?side1 ?side2 A17.out).mono ?_); (case side1 => repeat (first | exact (Kd.R_reads' HO105.out).2.2 | (with_reducible refine Kd.C_alloc ?_ _) | (with_reducible refine Kd.C_drewN ?_ _) | (with_reducible refine Kd.C_drew ?_))); (case side2 => exact (Kd.R_reads' HO105.out).2.1); rintro e w19 ⟨rfl, hb⟩; have n0_ := Aside0.mk (Kd.R_below (by (with_reducible repeat (first | apply Kd.R_alloc | apply Kd.R_drewN | apply Kd.R_drew)); exact HO105.out) hb); have n1_ := Aside0.mk (Kd.R_below (by (with_reducible repeat (first | apply Kd.R_alloc | apply Kd.R_drewN | apply Kd.R_drew)); exact HO111.out) hb); have n2_ := Aside0.mk (below_step (by repeat (first | (with_reducible first | exact HB.out | apply below_alloc | apply pw_below_drewN | apply below_drew1) | exact HB.out)) hb); clear HO105; clear HO111; clear HB; have HO105 := n0_; have HO111 := n1_; have HB := n2_; clear n0_ n1_ n2_; (try clear hb); (try clear hb2); (try clear hk); (try clear hi))); try go_wp2_with (first | (go_at_call 8; (with_reducible refine (minuetlaw0_Num.calls t109 t112 _ A13.out).mono ?_); rintro e w' ⟨rfl, ⟨nd, rfl⟩⟩; (try first | exact ⟨rfl, _, World.drewN_drewN _ _ _⟩ | exact ⟨rfl, _, Eq.trans (World.drewN_drewN _ _ _) (congrArg (World.drewN _) (Nat.add_assoc _ _ _))⟩); obtain ⟨Ao18, co18, eo18⟩ := Kd.R_slice HO111.out; subst eo18) | (go_at_call 13; (with_reducible refine (minuetlaw0_SameComps.calls k _ _ t102 _ _ t108 true _ ?side1 ?side2 ?side3 ?side4 A15.out).mono ?_); (case side1 => repeat (first | exact (Kd.R_reads' HO105.out).2.2 | (with_reducible refine Kd.C_alloc ?_ _) | (with_reducible refine Kd.C_drewN ?_ _) | (with_reducible refine Kd.C_drew ?_))); (case side2 => exact (Kd.R_reads' HO105.out).2.1); (case side3 => repeat (first | exact (Kd.R_reads' HO111.out).2.2 | (with_reducible refine Kd.C_alloc ?_ _) | (with_reducible refine Kd.C_drewN ?_ _) | (with_reducible refine Kd.C_drew ?_))); (case side4 => exact (Kd.R_reads' HO111.out).2.1); rintro e w' ⟨rfl, ⟨nd, rfl⟩⟩; (try first | exact ⟨rfl, _, World.drewN_drewN _ _ _⟩ | exact ⟨rfl, _, Eq.trans (World.drewN_drewN _ _ _) (congrArg (World.drewN _) (Nat.add_assoc _ _ _))⟩)) | (go_at_call 14; (with_reducible refine (comp_May.calls k _ _ t102 t114 _ ?side1 ?side2 A17.out).mono ?_); (case side1 => repeat (first | exact (Kd.R_reads' HO105.out).2.2 | (with_reducible refine Kd.C_alloc ?_ _) | (with_reducible refine Kd.C_drewN ?_ _) | (with_reducible refine Kd.C_drew ?_))); (case side2 => exact (Kd.R_reads' HO105.out).2.1); rintro e w19 ⟨rfl, hb⟩; have n0_ := Aside0.mk (Kd.R_below (by (with_reducible repeat (first | apply Kd.R_alloc | apply Kd.R_drewN | apply Kd.R_drew)); exact HO105.out) hb); have n1_ := Aside0.mk (Kd.R_below (by (with_reducible repeat (first | apply Kd.R_alloc | apply Kd.R_drewN | apply Kd.R_drew)); exact HO111.out) hb); have n2_ := Aside0.mk (below_step (by repeat (first | (with_reducible first | exact HB.out | apply below_alloc | apply pw_below_drewN | apply below_drew1) | exact HB.out)) hb); clear HO105; clear HO111; clear HB; have HO105 := n0_; have HO111 := n1_; have HB := n2_; clear n0_ n1_ n2_; (try clear hb); (try clear hb2); (try clear hk); (try clear hi))))
          go_meet
          case rel => exact ⟨_, (!t114), (by first | rfl | (simp; done) | (simp [*]; done)), H', ⟨by first | omega | exact Nat.le_refl _⟩, ⟨by (with_reducible repeat (first | apply Kd.R_alloc | apply Kd.R_drewN | apply Kd.R_drew)); exact Kd.R_mono HO105.out (fun _ hk => trivial)⟩, ⟨by repeat (first | (with_reducible first | exact HB.out | apply below_alloc | apply pw_below_drewN | apply below_drew1) | exact HB.out)⟩⟩
        · replace c16 := Bool.eq_false_iff.mpr c16
          subst c16
          have H1 : (minuetlaw2_CompsNormal.j0 k l0 t102 true) = some r := by rw [if_neg (show ¬ (false = true) by decide)] at H; exact H
          clear H
          have H := H1
          clear H1
          have H' := Aside0.mk H
          clear H
          go_wp2_with (first | (go_at_call 8; (with_reducible refine (minuetlaw0_Num.calls t109 t112 _ A13.out).mono ?_); rintro e w' ⟨rfl, ⟨nd, rfl⟩⟩; (try first | exact ⟨rfl, _, World.drewN_drewN _ _ _⟩ | exact ⟨rfl, _, Eq.trans (World.drewN_drewN _ _ _) (congrArg (World.drewN _) (Nat.add_assoc _ _ _))⟩); obtain ⟨Ao20, co20, eo20⟩ := Kd.R_slice HO111.out; subst eo20) | (go_at_call 13; (with_reducible refine (minuetlaw0_SameComps.calls k _ _ t102 _ _ t108 false _ ?side1 ?side2 ?side3 ?side4 A15.out).mono ?_); (case side1 => repeat (first | exact (Kd.R_reads' HO105.out).2.2 | (with_reducible refine Kd.C_alloc ?_ _) | (with_reducible refine Kd.C_drewN ?_ _) | (with_reducible refine Kd.C_drew ?_))); (case side2 => exact (Kd.R_reads' HO105.out).2.1); (case side3 => repeat (first | exact (Kd.R_reads' HO111.out).2.2 | (with_reducible refine Kd.C_alloc ?_ _) | (with_reducible refine Kd.C_drewN ?_ _) | (with_reducible refine Kd.C_drew ?_))); (case side4 => exact (Kd.R_reads' HO111.out).2.1); rintro e w' ⟨rfl, ⟨nd, rfl⟩⟩; (try first | exact ⟨rfl, _, World.drewN_drewN _ _ _⟩ | exact ⟨rfl, _, Eq.trans (World.drewN_drewN _ _ _) (congrArg (World.drewN _) (Nat.add_assoc _ _ _))⟩)))
          repeat (go_quiet (first | (go_at_call 8; (with_reducible refine (minuetlaw0_Num.calls t109 t112 _ A13.out).mono ?_); rintro e w' ⟨rfl, ⟨nd, rfl⟩⟩; (try first | exact ⟨rfl, _, World.drewN_drewN _ _ _⟩ | exact ⟨rfl, _, Eq.trans (World.drewN_drewN _ _ _) (congrArg (World.drewN _) (Nat.add_assoc _ _ _))⟩); obtain ⟨Ao20, co20, eo20⟩ := Kd.R_slice HO111.out; subst eo20) | (go_at_call 13; (with_reducible refine (minuetlaw0_SameComps.calls k _ _ t102 _ _ t108 false _ ?side1 ?side2 ?side3 ?side4 A15.out).mono ?_); (case side1 => repeat (first | exact (Kd.R_reads' HO105.out).2.2 | (with_reducible refine Kd.C_alloc ?_ _) | (with_reducible refine Kd.C_drewN ?_ _) | (with_reducible refine Kd.C_drew ?_))); (case side2 => exact (Kd.R_reads' HO105.out).2.1); (case side3 => repeat (first | exact (Kd.R_reads' HO111.out).2.2 | (with_reducible refine Kd.C_alloc ?_ _) | (with_reducible refine Kd.C_drewN ?_ _) | (with_reducible refine Kd.C_drew ?_))); (case side4 => exact (Kd.R_reads' HO111.out).2.1); rintro e w' ⟨rfl, ⟨nd, rfl⟩⟩; (try first | exact ⟨rfl, _, World.drewN_drewN _ _ _⟩ | exact ⟨rfl, _, Eq.trans (World.drewN_drewN _ _ _) (congrArg (World.drewN _) (Nat.add_assoc _ _ _))⟩))); try go_wp2_with (first | (go_at_call 8; (with_reducible refine (minuetlaw0_Num.calls t109 t112 _ A13.out).mono ?_); rintro e w' ⟨rfl, ⟨nd, rfl⟩⟩; (try first | exact ⟨rfl, _, World.drewN_drewN _ _ _⟩ | exact ⟨rfl, _, Eq.trans (World.drewN_drewN _ _ _) (congrArg (World.drewN _) (Nat.add_assoc _ _ _))⟩); obtain ⟨Ao20, co20, eo20⟩ := Kd.R_slice HO111.out; subst eo20) | (go_at_call 13; (with_reducible refine (minuetlaw0_SameComps.calls k _ _ t102 _ _ t108 false _ ?side1 ?side2 ?side3 ?side4 A15.out).mono ?_); (case side1 => repeat (first | exact (Kd.R_reads' HO105.out).2.2 | (with_reducible refine Kd.C_alloc ?_ _) | (with_reducible refine Kd.C_drewN ?_ _) | (with_reducible refine Kd.C_drew ?_))); (case side2 => exact (Kd.R_reads' HO105.out).2.1); (case side3 => repeat (first | exact (Kd.R_reads' HO111.out).2.2 | (with_reducible refine Kd.C_alloc ?_ _) | (with_reducible refine Kd.C_drewN ?_ _) | (with_reducible refine Kd.C_drew ?_))); (case side4 => exact (Kd.R_reads' HO111.out).2.1); rintro e w' ⟨rfl, ⟨nd, rfl⟩⟩; (try first | exact ⟨rfl, _, World.drewN_drewN _ _ _⟩ | exact ⟨rfl, _, Eq.trans (World.drewN_drewN _ _ _) (congrArg (World.drewN _) (Nat.add_assoc _ _ _))⟩))))
          go_meet
          case rel => exact ⟨_, (true), (by first | rfl | (simp; done) | (simp [*]; done)), H', ⟨by first | omega | exact Nat.le_refl _⟩, ⟨by (with_reducible repeat (first | apply Kd.R_alloc | apply Kd.R_drewN | apply Kd.R_drew)); exact Kd.R_mono HO105.out (fun _ hk => trivial)⟩, ⟨by repeat (first | (with_reducible first | exact HB.out | apply below_alloc | apply pw_below_drewN | apply below_drew1) | exact HB.out)⟩⟩
      · rw [if_neg c14] at H
        have c14b0 : (t112 == 0) = false := beq_eq_false_iff_ne.mpr c14
        have c14b1 : (t112 != 0) = true := bne_iff_ne.mpr c14
        (first | rw [c14b0] | (simp only [i64_w, i32_w]; rw [c14b0]) | skip)
        have H' := Aside0.mk H
        clear H
        go_wp2_with (first | (go_at_call 8; (with_reducible refine (minuetlaw0_Num.calls t109 t112 _ A13.out).mono ?_); rintro e w' ⟨rfl, ⟨nd, rfl⟩⟩; (try first | exact ⟨rfl, _, World.drewN_drewN _ _ _⟩ | exact ⟨rfl, _, Eq.trans (World.drewN_drewN _ _ _) (congrArg (World.drewN _) (Nat.add_assoc _ _ _))⟩)))
        repeat (go_quiet (first | (go_at_call 8; (with_reducible refine (minuetlaw0_Num.calls t109 t112 _ A13.out).mono ?_); rintro e w' ⟨rfl, ⟨nd, rfl⟩⟩; (try first | exact ⟨rfl, _, World.drewN_drewN _ _ _⟩ | exact ⟨rfl, _, Eq.trans (World.drewN_drewN _ _ _) (congrArg (World.drewN _) (Nat.add_assoc _ _ _))⟩))); try go_wp2_with (first | (go_at_call 8; (with_reducible refine (minuetlaw0_Num.calls t109 t112 _ A13.out).mono ?_); rintro e w' ⟨rfl, ⟨nd, rfl⟩⟩; (try first | exact ⟨rfl, _, World.drewN_drewN _ _ _⟩ | exact ⟨rfl, _, Eq.trans (World.drewN_drewN _ _ _) (congrArg (World.drewN _) (Nat.add_assoc _ _ _))⟩))))
        go_meet
        case rel => exact ⟨_, (true), (by first | rfl | (simp; done) | (simp [*]; done)), H', ⟨by first | omega | exact Nat.le_refl _⟩, ⟨by (with_reducible repeat (first | apply Kd.R_alloc | apply Kd.R_drewN | apply Kd.R_drew)); exact Kd.R_mono HO105.out (fun _ hk => trivial)⟩, ⟨by repeat (first | (with_reducible first | exact HB.out | apply below_alloc | apply pw_below_drewN | apply below_drew1) | exact HB.out)⟩⟩
     case rest =>
      clear HC8
      try clear c1
      try clear p2
      try clear c3
      try clear c4
      try clear c6
      try clear c6b0
      try clear c6b1
      try clear c14
      try clear c14b0
      try clear c14b1
      try clear c16
      obtain ⟨kq, x49_7, rfl, HA, HJ7, HO_3, HB⟩ := hcut
      cases kq with
      | zero => exact absurd HA.out (by simp [minuetlaw2_CompsNormal.j0])
      | succ kj7 =>
       have H := HA.out
       clear HA
       simp only [minuetlaw2_CompsNormal.j0] at H
       by_cases c21 : x49_7 = true
       · subst c21
         have H1 : (none) = some r := by rw [if_pos rfl] at H; exact H
         clear H
         have H := H1
         clear H1
         exact absurd H (by simp)
       · replace c21 := Bool.eq_false_iff.mpr c21
         subst c21
         have H1 : (minuetlaw2_CompsNormal.l0 kj7 l0 t102 0 0 (⟨#[]⟩ : ByteArray) 0) = some r := by rw [if_neg (show ¬ (false = true) by decide)] at H; exact H
         clear H
         have H := H1
         clear H1
         have H' := Aside0.mk H
         clear H
         go_wp2
         repeat (go_quiet (fail); try go_wp2)
         go_loopg [7, 8, 9, 10] kj7 (fun kq v7 v8 v9 v10 w' => ∃ (x7_2 : Int) (x8_2 : Int) (x9_2 : ByteArray) (x10_2 : Int), v7 = .int .i64 x7_2 ∧ v8 = .int .i64 x8_2 ∧ v9 = .string x9_2 ∧ v10 = .int .i64 x10_2 ∧ Aside0 (minuetlaw2_CompsNormal.l0 kq l0 t102 x7_2 x8_2 x9_2 x10_2 = some r) ∧ Aside0 (kq ≤ kj7) ∧ Aside0 (Kd.R k36 36 w' w.heap.size (fun _ => True) (.slice Ao11 t102.length co11) t102) ∧ Aside0 (Below w.heap.size w w'))
         case atStart => exact ⟨(0), (0), ((⟨#[]⟩ : ByteArray)), (0), (by first | rfl | (simp; done) | (simp [*]; done)), (by first | rfl | (simp; done) | (simp [*]; done)), (by first | rfl | (simp; done) | (simp [*]; done)), (by first | rfl | (simp; done) | (simp [*]; done)), H', ⟨Nat.le_refl _⟩, ⟨by (with_reducible repeat (first | apply Kd.R_alloc | apply Kd.R_drewN | apply Kd.R_drew)); exact HO_3.out⟩, ⟨by repeat (first | (with_reducible first | exact HB.out | apply below_alloc | apply pw_below_drewN | apply below_drew1) | exact HB.out)⟩⟩
         case round =>
          clear H'
          try clear c1
          try clear c2
          try clear p2
          try clear c3
          try clear c4
          try clear c6
          try clear c6b0
          try clear c6b1
          try clear c14
          try clear c14b0
          try clear c14b1
          try clear c16
          try clear c21
          try clear p2
          obtain ⟨x7_2, x8_2, x9_2, x10_2, rfl, rfl, rfl, rfl, HA, HK2, HO_3, HB⟩ := hrel
          cases gk with
          | zero => exact absurd HA.out (by simp [minuetlaw2_CompsNormal.l0])
          | succ k2 =>
           have H := HA.out
           clear HA
           simp only [minuetlaw2_CompsNormal.l0] at H
           by_cases c22 : x10_2 < (l0.length : Int)
           · rw [if_pos c22] at H
             have c22b0 : decide (x10_2 < (l0.length : Int)) = true := decide_eq_true c22
             clear c22
             by_cases c23 : 0 ≤ x10_2
             · rw [if_pos c23] at H
               have c23b0 : decide (0 ≤ x10_2) = true := decide_eq_true c23
               clear c23
               by_cases c24 : ((rd_T36 l0 x10_2).f0) = 0
               · rw [if_pos c24] at H
                 have c24b0 : (((rd_T36 l0 x10_2).f0) == 0) = true := beq_iff_eq.mpr c24
                 have c24b1 : (((rd_T36 l0 x10_2).f0) != 0) = false := bne_eq_false_iff_eq.mpr c24
                 clear c24
                 have H' := Aside0.mk H
                 clear H
                 have p115 : 0 ≤ (x10_2 : Int) := of_decide_eq_true (by first | (with_reducible assumption) | assumption)
                 have q115 : x10_2 < (l0.length : Int) := of_decide_eq_true (by first | (with_reducible assumption) | assumption)
                 obtain ⟨ad115, e115, hx115_0, hx115_1, hx115_2⟩ := at_T36 HR0.out x10_2 p115 q115
                 cases e115
                 replace hx115_0 := (HB.out.cell (World.block_lt_of_cell? w _ hx115_0)).trans hx115_0
                 replace hx115_1 := (HB.out.cell (World.block_lt_of_cell? w _ hx115_1)).trans hx115_1
                 replace hx115_2 := (HB.out.cell (World.block_lt_of_cell? w _ hx115_2)).trans hx115_2
                 replace p115 := eq_true p115
                 replace q115 := eq_true q115
                 have p116 : 0 ≤ (x10_2 : Int) := of_decide_eq_true (by first | (with_reducible assumption) | assumption)
                 have q116 : x10_2 < (l0.length : Int) := of_decide_eq_true (by first | (with_reducible assumption) | assumption)
                 obtain ⟨ad116, e116, hx116_0, hx116_1, hx116_2⟩ := at_T36 HR0.out x10_2 p116 q116
                 obtain rfl : ad115 = ad116 := (by injection e116)
                 replace hx116_0 := (HB.out.cell (World.block_lt_of_cell? w _ hx116_0)).trans hx116_0
                 replace hx116_1 := (HB.out.cell (World.block_lt_of_cell? w _ hx116_1)).trans hx116_1
                 replace hx116_2 := (HB.out.cell (World.block_lt_of_cell? w _ hx116_2)).trans hx116_2
                 replace p116 := eq_true p116
                 replace q116 := eq_true q116
                 go_wp2
                 repeat (go_quiet (fail); try go_wp2)
                 go_roundg k2
                 case measure => have := HJ7.out; have := HK2.out; omega
                 case rel => exact ⟨(wrap64 (x7_2 + ((rd_T36 l0 x10_2).f1))), (x8_2), (x9_2), (wrap64 (x10_2 + 1)), (by first | rfl | (simp; done) | (simp [*]; done)), (by first | rfl | (simp; done) | (simp [*]; done)), (by first | rfl | (simp; done) | (simp [*]; done)), (by first | rfl | (simp; done) | (simp [*]; done)), H', ⟨by have := HJ7.out; have := HK2.out; omega⟩, ⟨by (with_reducible repeat (first | apply Kd.R_alloc | apply Kd.R_drewN | apply Kd.R_drew)); exact HO_3.out⟩, ⟨by repeat (first | (with_reducible first | exact HB.out | apply below_alloc | apply pw_below_drewN | apply below_drew1) | exact HB.out)⟩⟩
               · rw [if_neg c24] at H
                 have c24b0 : (((rd_T36 l0 x10_2).f0) == 0) = false := beq_eq_false_iff_ne.mpr c24
                 have c24b1 : (((rd_T36 l0 x10_2).f0) != 0) = true := bne_iff_ne.mpr c24
                 by_cases c25 : ((rd_T36 l0 x10_2).f0) = 2
                 · rw [if_pos c25] at H
                   have c25b0 : (((rd_T36 l0 x10_2).f0) == 2) = true := beq_iff_eq.mpr c25
                   have c25b1 : (((rd_T36 l0 x10_2).f0) != 2) = false := bne_eq_false_iff_eq.mpr c25
                   clear c25
                   have H' := Aside0.mk H
                   clear H
                   have p115 : 0 ≤ (x10_2 : Int) := of_decide_eq_true (by first | (with_reducible assumption) | assumption)
                   have q115 : x10_2 < (l0.length : Int) := of_decide_eq_true (by first | (with_reducible assumption) | assumption)
                   obtain ⟨ad115, e115, hx115_0, hx115_1, hx115_2⟩ := at_T36 HR0.out x10_2 p115 q115
                   cases e115
                   replace hx115_0 := (HB.out.cell (World.block_lt_of_cell? w _ hx115_0)).trans hx115_0
                   replace hx115_1 := (HB.out.cell (World.block_lt_of_cell? w _ hx115_1)).trans hx115_1
                   replace hx115_2 := (HB.out.cell (World.block_lt_of_cell? w _ hx115_2)).trans hx115_2
                   replace p115 := eq_true p115
                   replace q115 := eq_true q115
                   have p117 : 0 ≤ (x10_2 : Int) := of_decide_eq_true (by first | (with_reducible assumption) | assumption)
                   have q117 : x10_2 < (l0.length : Int) := of_decide_eq_true (by first | (with_reducible assumption) | assumption)
                   obtain ⟨ad117, e117, hx117_0, hx117_1, hx117_2⟩ := at_T36 HR0.out x10_2 p117 q117
                   obtain rfl : ad115 = ad117 := (by injection e117)
                   replace hx117_0 := (HB.out.cell (World.block_lt_of_cell? w _ hx117_0)).trans hx117_0
                   replace hx117_1 := (HB.out.cell (World.block_lt_of_cell? w _ hx117_1)).trans hx117_1
                   replace hx117_2 := (HB.out.cell (World.block_lt_of_cell? w _ hx117_2)).trans hx117_2
                   replace p117 := eq_true p117
                   replace q117 := eq_true q117
                   go_wp2
                   repeat (go_quiet (fail); try go_wp2)
                   go_roundg k2
                   case measure => have := HJ7.out; have := HK2.out; omega
                   case rel => exact ⟨(x7_2), (wrap64 (x8_2 + ((rd_T36 l0 x10_2).f1))), (x9_2), (wrap64 (x10_2 + 1)), (by first | rfl | (simp; done) | (simp [*]; done)), (by first | rfl | (simp; done) | (simp [*]; done)), (by first | rfl | (simp; done) | (simp [*]; done)), (by first | rfl | (simp; done) | (simp [*]; done)), H', ⟨by have := HJ7.out; have := HK2.out; omega⟩, ⟨by (with_reducible repeat (first | apply Kd.R_alloc | apply Kd.R_drewN | apply Kd.R_drew)); exact HO_3.out⟩, ⟨by repeat (first | (with_reducible first | exact HB.out | apply below_alloc | apply pw_below_drewN | apply below_drew1) | exact HB.out)⟩⟩
                 · rw [if_neg c25] at H
                   have c25b0 : (((rd_T36 l0 x10_2).f0) == 2) = false := beq_eq_false_iff_ne.mpr c25
                   have c25b1 : (((rd_T36 l0 x10_2).f0) != 2) = true := bne_iff_ne.mpr c25
                   by_cases c26 : x9_2.size + ((rd_T36 l0 x10_2).f2).size ≤ 9223372036854775807
                   · rw [if_pos c26] at H
                     have c26b0 := eq_true c26
                     have c26b1 : decide (x9_2.size + ((rd_T36 l0 x10_2).f2).size ≤ 9223372036854775807) = true := decide_eq_true c26
                     try have c26b2 : (9223372036854775807 < x9_2.size + ((rd_T36 l0 x10_2).f2).size) = False := eq_false (Nat.not_lt.2 c26)
                     have H' := Aside0.mk H
                     clear H
                     have p115 : 0 ≤ (x10_2 : Int) := of_decide_eq_true (by first | (with_reducible assumption) | assumption)
                     have q115 : x10_2 < (l0.length : Int) := of_decide_eq_true (by first | (with_reducible assumption) | assumption)
                     obtain ⟨ad115, e115, hx115_0, hx115_1, hx115_2⟩ := at_T36 HR0.out x10_2 p115 q115
                     cases e115
                     replace hx115_0 := (HB.out.cell (World.block_lt_of_cell? w _ hx115_0)).trans hx115_0
                     replace hx115_1 := (HB.out.cell (World.block_lt_of_cell? w _ hx115_1)).trans hx115_1
                     replace hx115_2 := (HB.out.cell (World.block_lt_of_cell? w _ hx115_2)).trans hx115_2
                     replace p115 := eq_true p115
                     replace q115 := eq_true q115
                     have p118 : 0 ≤ (x10_2 : Int) := of_decide_eq_true (by first | (with_reducible assumption) | assumption)
                     have q118 : x10_2 < (l0.length : Int) := of_decide_eq_true (by first | (with_reducible assumption) | assumption)
                     obtain ⟨ad118, e118, hx118_0, hx118_1, hx118_2⟩ := at_T36 HR0.out x10_2 p118 q118
                     obtain rfl : ad115 = ad118 := (by injection e118)
                     replace hx118_0 := (HB.out.cell (World.block_lt_of_cell? w _ hx118_0)).trans hx118_0
                     replace hx118_1 := (HB.out.cell (World.block_lt_of_cell? w _ hx118_1)).trans hx118_1
                     replace hx118_2 := (HB.out.cell (World.block_lt_of_cell? w _ hx118_2)).trans hx118_2
                     replace p118 := eq_true p118
                     replace q118 := eq_true q118
                     go_wp2
                     repeat (go_quiet (fail); try go_wp2)
                     go_roundg k2
                     case measure => have := HJ7.out; have := HK2.out; omega
                     case rel => exact ⟨(x7_2), (x8_2), (x9_2 ++ ((rd_T36 l0 x10_2).f2)), (wrap64 (x10_2 + 1)), (by first | rfl | (simp; done) | (simp [*]; done)), (by first | rfl | (simp; done) | (simp [*]; done)), (by first | rfl | (simp; done) | (simp [*]; done)), (by first | rfl | (simp; done) | (simp [*]; done)), H', ⟨by have := HJ7.out; have := HK2.out; omega⟩, ⟨by (with_reducible repeat (first | apply Kd.R_alloc | apply Kd.R_drewN | apply Kd.R_drew)); exact HO_3.out⟩, ⟨by repeat (first | (with_reducible first | exact HB.out | apply below_alloc | apply pw_below_drewN | apply below_drew1) | exact HB.out)⟩⟩
                   · rw [if_neg c26] at H
                     exact absurd H (by simp)
             · rw [if_neg c23] at H
               exact absurd H (by simp)
           · rw [if_neg c22] at H
             have c22b0 : decide (x10_2 < (l0.length : Int)) = false := decide_eq_false c22
             clear c22
             have H' := Aside0.mk H
             clear H
             go_wp2
             repeat (go_quiet (fail); try go_wp2)
             go_loopg [7, 8, 9, 11] k2 (fun kq v7 v8 v9 v11 w' => ∃ (x7_3 : Int) (x8_3 : Int) (x9_3 : ByteArray) (x11_3 : Int), v7 = .int .i64 x7_3 ∧ v8 = .int .i64 x8_3 ∧ v9 = .string x9_3 ∧ v11 = .int .i64 x11_3 ∧ Aside0 (minuetlaw2_CompsNormal.l1 kq t102 x7_3 x8_3 x9_3 x11_3 = some r) ∧ Aside0 (kq ≤ k2) ∧ Aside0 (Kd.R k36 36 w' w.heap.size (fun _ => True) (.slice Ao11 t102.length co11) t102) ∧ Aside0 (Below w.heap.size w w'))
             case atStart => exact ⟨(x7_2), (x8_2), (x9_2), (0), (by first | rfl | (simp; done) | (simp [*]; done)), (by first | rfl | (simp; done) | (simp [*]; done)), (by first | rfl | (simp; done) | (simp [*]; done)), (by first | rfl | (simp; done) | (simp [*]; done)), H', ⟨Nat.le_refl _⟩, ⟨by (with_reducible repeat (first | apply Kd.R_alloc | apply Kd.R_drewN | apply Kd.R_drew)); exact HO_3.out⟩, ⟨by repeat (first | (with_reducible first | exact HB.out | apply below_alloc | apply pw_below_drewN | apply below_drew1) | exact HB.out)⟩⟩
             case round =>
              clear H'
              try clear c1
              try clear p1
              try clear q1
              try clear hx1
              try clear c2
              try clear p2
              try clear c3
              try clear c4
              try clear c6
              try clear c6b0
              try clear c6b1
              try clear p6
              try clear p11
              try clear q11
              try clear hx11
              try clear c14
              try clear c14b0
              try clear c14b1
              try clear c16
              try clear c21
              try clear c22
              try clear c22b0
              try clear c23
              try clear c23b0
              try clear c24
              try clear c24b0
              try clear c24b1
              try clear c25
              try clear c25b0
              try clear c25b1
              try clear c26
              try clear c26b0
              try clear c26b1
              try clear c26b2
              try clear hx115_0
              try clear hx115_1
              try clear hx115_2
              try clear hx116_0
              try clear hx116_1
              try clear hx116_2
              try clear hx117_0
              try clear hx117_1
              try clear hx117_2
              try clear hx118_0
              try clear hx118_1
              try clear hx118_2
              try clear p115
              try clear p116
              try clear p117
              try clear p118
              try clear p2
              try clear q115
              try clear q116
              try clear q117
              try clear q118
              obtain ⟨x7_3, x8_3, x9_3, x11_3, rfl, rfl, rfl, rfl, HA, HK3, HO_3, HB⟩ := hrel
              cases gk with
              | zero => exact absurd HA.out (by simp [minuetlaw2_CompsNormal.l1])
              | succ k3 =>
               have H := HA.out
               clear HA
               simp only [minuetlaw2_CompsNormal.l1] at H
               by_cases c27 : x11_3 < (t102.length : Int)
               · rw [if_pos c27] at H
                 have c27b0 : decide (x11_3 < (t102.length : Int)) = true := decide_eq_true c27
                 clear c27
                 by_cases c28 : 0 ≤ x11_3
                 · rw [if_pos c28] at H
                   have c28b0 : decide (0 ≤ x11_3) = true := decide_eq_true c28
                   clear c28
                   have HC29 := Aside0.mk H
                   clear H
                   have p119 : 0 ≤ (x11_3 : Int) := of_decide_eq_true (by first | (with_reducible assumption) | assumption)
                   have q119 : x11_3 < (t102.length : Int) := of_decide_eq_true (by first | (with_reducible assumption) | assumption)
                   obtain ⟨ad119, e119, hx119_0, hx119_1, hx119_2⟩ := at_T36 (Kd.R_reads' HO_3.out).2.2 x11_3 p119 q119
                   cases e119
                   replace p119 := eq_true p119
                   replace q119 := eq_true q119
                   go_upto_region 23 with (first | ((with_reducible refine gate_dst (N := 12) rfl ?_); (try (refine gate_guard (by rfl) ?_; dsimp only)); refine box_event ?hg (N := 12) ?hd (cs := #[.int .i64 0, .int .i64 0, .string (⟨#[]⟩ : ByteArray)]) (t := 36) ?hr ?_; (case hd => rfl); (case hg => rfl); (case hr => first | (go_simp; done) | (go_simp; rfl)); intro gb120 hg w30 hbox hb; have n0_ := Aside0.mk (Kd.R_below (Kd.R_elderB (by (with_reducible repeat (first | apply Kd.R_alloc | apply Kd.R_drewN | apply Kd.R_drew)); exact HO_3.out) gb120 (Nat.le_of_eq hg.symm)) hb); have n1_ := Aside0.mk (below_step (by repeat (first | (with_reducible first | exact HB.out | apply below_alloc | apply pw_below_drewN | apply below_drew1) | exact HB.out)) hb); have n2_ := Aside0.mk (hbox); have n3_ := Aside0.mk ((by rw [hg]; exact (below_size (by repeat (first | (with_reducible first | exact HB.out | apply below_alloc | apply pw_below_drewN | apply below_drew1) | exact HB.out))) : w.heap.size ≤ gb120)); have n4_ := Aside0.mk ((by rw [hg]; exact (below_size (by repeat (first | (with_reducible first | exact HB.out | apply below_alloc | apply pw_below_drewN | apply below_drew1) | exact HB.out))) : w.heap.size ≤ gb120)); clear HO_3; clear HB; have HO_3 := n0_; have HB := n1_; have BK120 := n2_; have GW120 := n3_; have GE120 := n4_; clear n0_ n1_ n2_ n3_ n4_; clear hb hbox hg; have hcz31_0 : w30.cell? ⟨gb120, 0, none⟩ = some (.int .i64 0) := (blk_cell BK120.out 0).trans rfl; have hcz31_1 : w30.cell? ⟨gb120, 1, none⟩ = some (.int .i64 0) := (blk_cell BK120.out 1).trans rfl; have hcz31_2 : w30.cell? ⟨gb120, 2, none⟩ = some (.string (⟨#[]⟩ : ByteArray)) := (blk_cell BK120.out 2).trans rfl; have hfz31_0 := blk_frozen BK120.out 0; have hfz31_1 := blk_frozen BK120.out 1; have hfz31_2 := blk_frozen BK120.out 2))
                   repeat (go_quiet (first | ((with_reducible refine gate_dst (N := 12) rfl ?_); (try (refine gate_guard (by rfl) ?_; dsimp only)); refine box_event ?hg (N := 12) ?hd (cs := #[.int .i64 0, .int .i64 0, .string (⟨#[]⟩ : ByteArray)]) (t := 36) ?hr ?_; (case hd => rfl); (case hg => rfl); (case hr => first | (go_simp; done) | (go_simp; rfl)); intro gb120 hg w30 hbox hb; have n0_ := Aside0.mk (Kd.R_below (Kd.R_elderB (by (with_reducible repeat (first | apply Kd.R_alloc | apply Kd.R_drewN | apply Kd.R_drew)); exact HO_3.out) gb120 (Nat.le_of_eq hg.symm)) hb); have n1_ := Aside0.mk (below_step (by repeat (first | (with_reducible first | exact HB.out | apply below_alloc | apply pw_below_drewN | apply below_drew1) | exact HB.out)) hb); have n2_ := Aside0.mk (hbox); have n3_ := Aside0.mk ((by rw [hg]; exact (below_size (by repeat (first | (with_reducible first | exact HB.out | apply below_alloc | apply pw_below_drewN | apply below_drew1) | exact HB.out))) : w.heap.size ≤ gb120)); have n4_ := Aside0.mk ((by rw [hg]; exact (below_size (by repeat (first | (with_reducible first | exact HB.out | apply below_alloc | apply pw_below_drewN | apply below_drew1) | exact HB.out))) : w.heap.size ≤ gb120)); clear HO_3; clear HB; have HO_3 := n0_; have HB := n1_; have BK120 := n2_; have GW120 := n3_; have GE120 := n4_; clear n0_ n1_ n2_ n3_ n4_; clear hb hbox hg; have hcz31_0 : w30.cell? ⟨gb120, 0, none⟩ = some (.int .i64 0) := (blk_cell BK120.out 0).trans rfl; have hcz31_1 : w30.cell? ⟨gb120, 1, none⟩ = some (.int .i64 0) := (blk_cell BK120.out 1).trans rfl; have hcz31_2 : w30.cell? ⟨gb120, 2, none⟩ = some (.string (⟨#[]⟩ : ByteArray)) := (blk_cell BK120.out 2).trans rfl; have hfz31_0 := blk_frozen BK120.out 0; have hfz31_1 := blk_frozen BK120.out 1; have hfz31_2 := blk_frozen BK120.out 2)); go_upto_region 23 with (first | ((with_reducible refine gate_dst (N := 12) rfl ?_); (try (refine gate_guard (by rfl) ?_; dsimp only)); refine box_event ?hg (N := 12) ?hd (cs := #[.int .i64 0, .int .i64 0, .string (⟨#[]⟩ : ByteArray)]) (t := 36) ?hr ?_; (case hd => rfl); (case hg => rfl); (case hr => first | (go_simp; done) | (go_simp; rfl)); intro gb120 hg w30 hbox hb; have n0_ := Aside0.mk (Kd.R_below (Kd.R_elderB (by (with_reducible repeat (first | apply Kd.R_alloc | apply Kd.R_drewN | apply Kd.R_drew)); exact HO_3.out) gb120 (Nat.le_of_eq hg.symm)) hb); have n1_ := Aside0.mk (below_step (by repeat (first | (with_reducible first | exact HB.out | apply below_alloc | apply pw_below_drewN | apply below_drew1) | exact HB.out)) hb); have n2_ := Aside0.mk (hbox); have n3_ := Aside0.mk ((by rw [hg]; exact (below_size (by repeat (first | (with_reducible first | exact HB.out | apply below_alloc | apply pw_below_drewN | apply below_drew1) | exact HB.out))) : w.heap.size ≤ gb120)); have n4_ := Aside0.mk ((by rw [hg]; exact (below_size (by repeat (first | (with_reducible first | exact HB.out | apply below_alloc | apply pw_below_drewN | apply below_drew1) | exact HB.out))) : w.heap.size ≤ gb120)); clear HO_3; clear HB; have HO_3 := n0_; have HB := n1_; have BK120 := n2_; have GW120 := n3_; have GE120 := n4_; clear n0_ n1_ n2_ n3_ n4_; clear hb hbox hg; have hcz31_0 : w30.cell? ⟨gb120, 0, none⟩ = some (.int .i64 0) := (blk_cell BK120.out 0).trans rfl; have hcz31_1 : w30.cell? ⟨gb120, 1, none⟩ = some (.int .i64 0) := (blk_cell BK120.out 1).trans rfl; have hcz31_2 : w30.cell? ⟨gb120, 2, none⟩ = some (.string (⟨#[]⟩ : ByteArray)) := (blk_cell BK120.out 2).trans rfl; have hfz31_0 := blk_frozen BK120.out 0; have hfz31_1 := blk_frozen BK120.out 1; have hfz31_2 := blk_frozen BK120.out 2)))
                   (try simp only [Act.put, List.setIfInBounds_toArray, List.set_cons_zero, List.set_cons_succ])
                   go_cut [132] (fun v132 wc => ∃ (kq : Nat) (x132_28 : Bool), v132 = .bool x132_28 ∧ Aside0 (minuetlaw2_CompsNormal.j3 kq t102 x7_3 x8_3 x9_3 x11_3 x132_28 ((rd_T36 t102 x11_3).f0) ((rd_T36 t102 x11_3).f1) ((rd_T36 t102 x11_3).f2) = some r) ∧ Aside0 (kq ≤ k3) ∧ Aside0 (Kd.R k36 36 wc w.heap.size (fun k_ => k_ ≠ gb120) (.slice (some ad119) t102.length co11) t102) ∧ Aside0 (wc.heap[gb120]? = some (.cells #[.int .i64 ((rd_T36 t102 x11_3).f0), .int .i64 ((rd_T36 t102 x11_3).f1), .string ((rd_T36 t102 x11_3).f2)] 36 (0, 0))) ∧ Aside0 (Below w.heap.size w wc))
                   case first =>
                    have H := HC29.out
                    clear HC29
                    by_cases c32 : x11_3 > 0
                    · rw [if_pos c32] at H
                      have c32b0 : decide (0 < x11_3) = true := decide_eq_true c32
                      clear c32
                      (first | rw [c32b0] | (simp only [i64_w, i32_w]; rw [c32b0]) | skip)
                      obtain ⟨ji33, hji33⟩ : ∃ j_ : Int, (wrap64 (x11_3 - 1)) = j_ := ⟨_, rfl⟩
                      replace H : (if 0 ≤ (ji33) then (if (ji33) < (t102.length : Int) then (if ((rd_T36 t102 (ji33)).f0) = ((rd_T36 t102 x11_3).f0) then (minuetlaw2_CompsNormal.j3 k3 t102 x7_3 x8_3 x9_3 x11_3 true ((rd_T36 t102 x11_3).f0) ((rd_T36 t102 x11_3).f1) ((rd_T36 t102 x11_3).f2)) else (if ((rd_T36 t102 (ji33)).f0) = 2 then (if ((rd_T36 t102 x11_3).f0) = 1 then (minuetlaw2_CompsNormal.j3 k3 t102 x7_3 x8_3 x9_3 x11_3 true ((rd_T36 t102 x11_3).f0) ((rd_T36 t102 x11_3).f1) ((rd_T36 t102 x11_3).f2)) else (if ((rd_T36 t102 x11_3).f1) = 0 then (minuetlaw2_CompsNormal.j3 k3 t102 x7_3 x8_3 x9_3 x11_3 (((rd_T36 t102 x11_3).f2).toList == ([] : List UInt8)) ((rd_T36 t102 x11_3).f0) ((rd_T36 t102 x11_3).f1) ((rd_T36 t102 x11_3).f2)) else (minuetlaw2_CompsNormal.j3 k3 t102 x7_3 x8_3 x9_3 x11_3 false ((rd_T36 t102 x11_3).f0) ((rd_T36 t102 x11_3).f1) ((rd_T36 t102 x11_3).f2)))) else (if ((rd_T36 t102 x11_3).f1) = 0 then (minuetlaw2_CompsNormal.j3 k3 t102 x7_3 x8_3 x9_3 x11_3 (((rd_T36 t102 x11_3).f2).toList == ([] : List UInt8)) ((rd_T36 t102 x11_3).f0) ((rd_T36 t102 x11_3).f1) ((rd_T36 t102 x11_3).f2)) else (minuetlaw2_CompsNormal.j3 k3 t102 x7_3 x8_3 x9_3 x11_3 false ((rd_T36 t102 x11_3).f0) ((rd_T36 t102 x11_3).f1) ((rd_T36 t102 x11_3).f2))))) else (none)) else (none)) = some r := by first | (rw [hji33] at H; exact H) | (simp only [hji33] at H ⊢; exact H)
                      have hji33w : (IntKind.i64.wrap (x11_3 - 1)) = ji33 := (i64_w _).trans hji33
                      by_cases c34 : 0 ≤ (ji33)
                      · rw [if_pos c34] at H
                        have c34b0 : decide (0 ≤ (ji33)) = true := decide_eq_true c34
                        clear c34
                        by_cases c35 : (ji33) < (t102.length : Int)
                        · rw [if_pos c35] at H
                          have c35b0 : decide ((ji33) < (t102.length : Int)) = true := decide_eq_true c35
                          clear c35
                          by_cases c36 : ((rd_T36 t102 (ji33)).f0) = ((rd_T36 t102 x11_3).f0)
                          · rw [if_pos c36] at H
                            have c36b0 : (((rd_T36 t102 (ji33)).f0) == ((rd_T36 t102 x11_3).f0)) = true := beq_iff_eq.mpr c36
                            have c36b1 : (((rd_T36 t102 (ji33)).f0) != ((rd_T36 t102 x11_3).f0)) = false := bne_eq_false_iff_eq.mpr c36
                            clear c36
                            have H' := Aside0.mk H
                            clear H
                            have p121 : 0 ≤ ((ji33) : Int) := of_decide_eq_true (by first | (with_reducible assumption) | assumption)
                            have q121 : (ji33) < (t102.length : Int) := of_decide_eq_true (by first | (with_reducible assumption) | assumption)
                            obtain ⟨ad121, e121, hx121_0, hx121_1, hx121_2⟩ := at_T36 (Kd.R_reads' HO_3.out).2.2 (ji33) p121 q121
                            obtain rfl : ad119 = ad121 := (by injection e121)
                            have hn121_0 : ad119.block ≠ gb120 := Kd.own_blk (fun h_ => by first | exact ((HO_3.out).1 _ h_.symm).2 rfl | exact (HO_3.out).1 _ h_.symm rfl)
                            have hn121_1 : ad119.block ≠ gb120 := Kd.own_blk (fun h_ => by first | exact ((HO_3.out).1 _ h_.symm).2 rfl | exact (HO_3.out).1 _ h_.symm rfl)
                            have hn121_2 : ad119.block ≠ gb120 := Kd.own_blk (fun h_ => by first | exact ((HO_3.out).1 _ h_.symm).2 rfl | exact (HO_3.out).1 _ h_.symm rfl)
                            replace hx121_0 := (cell_far (p := ⟨gb120, 0, none⟩) (by first | (rw [add_block]; exact hn121_0) | (show (Addr.add _ _).block ≠ _; rw [add_block]; exact hn121_0) | exact hn121_0) (.int .i64 ((rd_T36 t102 x11_3).f0))).trans hx121_0
                            replace hx121_1 := (cell_far (p := ⟨gb120, 0, none⟩) (by first | (rw [add_block]; exact hn121_0) | (show (Addr.add _ _).block ≠ _; rw [add_block]; exact hn121_0) | exact hn121_0) (.int .i64 ((rd_T36 t102 x11_3).f0))).trans hx121_1
                            replace hx121_2 := (cell_far (p := ⟨gb120, 0, none⟩) (by first | (rw [add_block]; exact hn121_0) | (show (Addr.add _ _).block ≠ _; rw [add_block]; exact hn121_0) | exact hn121_0) (.int .i64 ((rd_T36 t102 x11_3).f0))).trans hx121_2
                            replace hx121_0 := (cell_far (p := ⟨gb120, 1, none⟩) (by first | (rw [add_block]; exact hn121_1) | (show (Addr.add _ _).block ≠ _; rw [add_block]; exact hn121_1) | exact hn121_1) (.int .i64 ((rd_T36 t102 x11_3).f1))).trans hx121_0
                            replace hx121_1 := (cell_far (p := ⟨gb120, 1, none⟩) (by first | (rw [add_block]; exact hn121_1) | (show (Addr.add _ _).block ≠ _; rw [add_block]; exact hn121_1) | exact hn121_1) (.int .i64 ((rd_T36 t102 x11_3).f1))).trans hx121_1
                            replace hx121_2 := (cell_far (p := ⟨gb120, 1, none⟩) (by first | (rw [add_block]; exact hn121_1) | (show (Addr.add _ _).block ≠ _; rw [add_block]; exact hn121_1) | exact hn121_1) (.int .i64 ((rd_T36 t102 x11_3).f1))).trans hx121_2
                            replace hx121_0 := (cell_far (p := ⟨gb120, 2, none⟩) (by first | (rw [add_block]; exact hn121_2) | (show (Addr.add _ _).block ≠ _; rw [add_block]; exact hn121_2) | exact hn121_2) (.string ((rd_T36 t102 x11_3).f2))).trans hx121_0
                            replace hx121_1 := (cell_far (p := ⟨gb120, 2, none⟩) (by first | (rw [add_block]; exact hn121_2) | (show (Addr.add _ _).block ≠ _; rw [add_block]; exact hn121_2) | exact hn121_2) (.string ((rd_T36 t102 x11_3).f2))).trans hx121_1
                            replace hx121_2 := (cell_far (p := ⟨gb120, 2, none⟩) (by first | (rw [add_block]; exact hn121_2) | (show (Addr.add _ _).block ≠ _; rw [add_block]; exact hn121_2) | exact hn121_2) (.string ((rd_T36 t102 x11_3).f2))).trans hx121_2
                            (try have hy121_0 := fun (n_ : Nat) => (show (((((w30.drewN n_).setCell ⟨gb120, 0, none⟩ (.int .i64 ((rd_T36 t102 x11_3).f0))).setCell ⟨gb120, 1, none⟩ (.int .i64 ((rd_T36 t102 x11_3).f1))).setCell ⟨gb120, 2, none⟩ (.string ((rd_T36 t102 x11_3).f2)))).cell? _ = some _ from hx121_0))
                            (try have hy121_1 := fun (n_ : Nat) => (show (((((w30.drewN n_).setCell ⟨gb120, 0, none⟩ (.int .i64 ((rd_T36 t102 x11_3).f0))).setCell ⟨gb120, 1, none⟩ (.int .i64 ((rd_T36 t102 x11_3).f1))).setCell ⟨gb120, 2, none⟩ (.string ((rd_T36 t102 x11_3).f2)))).cell? _ = some _ from hx121_1))
                            (try have hy121_2 := fun (n_ : Nat) => (show (((((w30.drewN n_).setCell ⟨gb120, 0, none⟩ (.int .i64 ((rd_T36 t102 x11_3).f0))).setCell ⟨gb120, 1, none⟩ (.int .i64 ((rd_T36 t102 x11_3).f1))).setCell ⟨gb120, 2, none⟩ (.string ((rd_T36 t102 x11_3).f2)))).cell? _ = some _ from hx121_2))
                            clear hn121_0
                            clear hn121_1
                            clear hn121_2
                            replace p121 := eq_true p121
                            replace q121 := eq_true q121
                            have hcz37_0 : w30.cell? ⟨gb120, 0, none⟩ = some (.int .i64 0) := (blk_cell BK120.out 0).trans rfl
                            have hcz37_1 : w30.cell? ⟨gb120, 1, none⟩ = some (.int .i64 0) := (blk_cell BK120.out 1).trans rfl
                            have hcz37_2 : w30.cell? ⟨gb120, 2, none⟩ = some (.string (⟨#[]⟩ : ByteArray)) := (blk_cell BK120.out 2).trans rfl
                            have hfz37_0 := blk_frozen BK120.out 0
                            have hfz37_1 := blk_frozen BK120.out 1
                            have hfz37_2 := blk_frozen BK120.out 2
                            go_wp2
                            repeat (go_quiet (fail); try go_wp2)
                            go_meet
                            case rel => exact ⟨_, (true), (by first | rfl | (simp; done) | (simp [*]; done)), H', ⟨by have := HJ7.out; have := HK2.out; have := HK3.out; first | omega | exact Nat.le_refl _⟩, ⟨by (with_reducible repeat (first | apply Kd.R_alloc | apply Kd.R_drewN | apply Kd.R_drew)); exact Kd.R_mono (Kd.R_far (p := ⟨gb120, 2, none⟩) (Kd.R_far (p := ⟨gb120, 1, none⟩) (Kd.R_far (p := ⟨gb120, 0, none⟩) (Kd.R_mono HO_3.out (fun k_ hk => (⟨hk, hk.2⟩ : _ ∧ k_ ≠ gb120))) (fun _ hk => hk.2) (.int .i64 ((rd_T36 t102 x11_3).f0))) (fun _ hk => hk.2) (.int .i64 ((rd_T36 t102 x11_3).f1))) (fun _ hk => hk.2) (.string ((rd_T36 t102 x11_3).f2))) (fun _ hk => hk.1.2)⟩, ⟨by (with_reducible repeat (first | refine blk_drewN ?_ _ | refine blk_drew ?_ | refine blk_alloc ?_ _)); refine blk_put (cs := #[.int .i64 ((rd_T36 t102 x11_3).f0), .int .i64 ((rd_T36 t102 x11_3).f1), .string (⟨#[]⟩ : ByteArray)]) ?_ 2 _ rfl; (with_reducible repeat (first | refine blk_drewN ?_ _ | refine blk_drew ?_ | refine blk_alloc ?_ _)); refine blk_put (cs := #[.int .i64 ((rd_T36 t102 x11_3).f0), .int .i64 0, .string (⟨#[]⟩ : ByteArray)]) ?_ 1 _ rfl; (with_reducible repeat (first | refine blk_drewN ?_ _ | refine blk_drew ?_ | refine blk_alloc ?_ _)); refine blk_put (cs := #[.int .i64 0, .int .i64 0, .string (⟨#[]⟩ : ByteArray)]) ?_ 0 _ rfl; (with_reducible repeat (first | refine blk_drewN ?_ _ | refine blk_drew ?_ | refine blk_alloc ?_ _)); exact BK120.out⟩, ⟨by repeat (first | (with_reducible first | exact HB.out | apply below_alloc | apply pw_below_drewN | apply below_drew1 | refine below_set ?_ GE120.out) | exact HB.out)⟩⟩
                          · rw [if_neg c36] at H
                            have c36b0 : (((rd_T36 t102 (ji33)).f0) == ((rd_T36 t102 x11_3).f0)) = false := beq_eq_false_iff_ne.mpr c36
                            have c36b1 : (((rd_T36 t102 (ji33)).f0) != ((rd_T36 t102 x11_3).f0)) = true := bne_iff_ne.mpr c36
                            by_cases c38 : ((rd_T36 t102 (ji33)).f0) = 2
                            · rw [if_pos c38] at H
                              have c38b0 : (((rd_T36 t102 (ji33)).f0) == 2) = true := beq_iff_eq.mpr c38
                              have c38b1 : (((rd_T36 t102 (ji33)).f0) != 2) = false := bne_eq_false_iff_eq.mpr c38
                              clear c38
                              by_cases c39 : ((rd_T36 t102 x11_3).f0) = 1
                              · rw [if_pos c39] at H
                                have c39b0 : (((rd_T36 t102 x11_3).f0) == 1) = true := beq_iff_eq.mpr c39
                                have c39b1 : (((rd_T36 t102 x11_3).f0) != 1) = false := bne_eq_false_iff_eq.mpr c39
                                clear c39
                                have H' := Aside0.mk H
                                clear H
                                have p121 : 0 ≤ ((ji33) : Int) := of_decide_eq_true (by first | (with_reducible assumption) | assumption)
                                have q121 : (ji33) < (t102.length : Int) := of_decide_eq_true (by first | (with_reducible assumption) | assumption)
                                obtain ⟨ad121, e121, hx121_0, hx121_1, hx121_2⟩ := at_T36 (Kd.R_reads' HO_3.out).2.2 (ji33) p121 q121
                                obtain rfl : ad119 = ad121 := (by injection e121)
                                have hn121_0 : ad119.block ≠ gb120 := Kd.own_blk (fun h_ => by first | exact ((HO_3.out).1 _ h_.symm).2 rfl | exact (HO_3.out).1 _ h_.symm rfl)
                                have hn121_1 : ad119.block ≠ gb120 := Kd.own_blk (fun h_ => by first | exact ((HO_3.out).1 _ h_.symm).2 rfl | exact (HO_3.out).1 _ h_.symm rfl)
                                have hn121_2 : ad119.block ≠ gb120 := Kd.own_blk (fun h_ => by first | exact ((HO_3.out).1 _ h_.symm).2 rfl | exact (HO_3.out).1 _ h_.symm rfl)
                                replace hx121_0 := (cell_far (p := ⟨gb120, 0, none⟩) (by first | (rw [add_block]; exact hn121_0) | (show (Addr.add _ _).block ≠ _; rw [add_block]; exact hn121_0) | exact hn121_0) (.int .i64 ((rd_T36 t102 x11_3).f0))).trans hx121_0
                                replace hx121_1 := (cell_far (p := ⟨gb120, 0, none⟩) (by first | (rw [add_block]; exact hn121_0) | (show (Addr.add _ _).block ≠ _; rw [add_block]; exact hn121_0) | exact hn121_0) (.int .i64 ((rd_T36 t102 x11_3).f0))).trans hx121_1
                                replace hx121_2 := (cell_far (p := ⟨gb120, 0, none⟩) (by first | (rw [add_block]; exact hn121_0) | (show (Addr.add _ _).block ≠ _; rw [add_block]; exact hn121_0) | exact hn121_0) (.int .i64 ((rd_T36 t102 x11_3).f0))).trans hx121_2
                                replace hx121_0 := (cell_far (p := ⟨gb120, 1, none⟩) (by first | (rw [add_block]; exact hn121_1) | (show (Addr.add _ _).block ≠ _; rw [add_block]; exact hn121_1) | exact hn121_1) (.int .i64 ((rd_T36 t102 x11_3).f1))).trans hx121_0
                                replace hx121_1 := (cell_far (p := ⟨gb120, 1, none⟩) (by first | (rw [add_block]; exact hn121_1) | (show (Addr.add _ _).block ≠ _; rw [add_block]; exact hn121_1) | exact hn121_1) (.int .i64 ((rd_T36 t102 x11_3).f1))).trans hx121_1
                                replace hx121_2 := (cell_far (p := ⟨gb120, 1, none⟩) (by first | (rw [add_block]; exact hn121_1) | (show (Addr.add _ _).block ≠ _; rw [add_block]; exact hn121_1) | exact hn121_1) (.int .i64 ((rd_T36 t102 x11_3).f1))).trans hx121_2
                                replace hx121_0 := (cell_far (p := ⟨gb120, 2, none⟩) (by first | (rw [add_block]; exact hn121_2) | (show (Addr.add _ _).block ≠ _; rw [add_block]; exact hn121_2) | exact hn121_2) (.string ((rd_T36 t102 x11_3).f2))).trans hx121_0
                                replace hx121_1 := (cell_far (p := ⟨gb120, 2, none⟩) (by first | (rw [add_block]; exact hn121_2) | (show (Addr.add _ _).block ≠ _; rw [add_block]; exact hn121_2) | exact hn121_2) (.string ((rd_T36 t102 x11_3).f2))).trans hx121_1
                                replace hx121_2 := (cell_far (p := ⟨gb120, 2, none⟩) (by first | (rw [add_block]; exact hn121_2) | (show (Addr.add _ _).block ≠ _; rw [add_block]; exact hn121_2) | exact hn121_2) (.string ((rd_T36 t102 x11_3).f2))).trans hx121_2
                                (try have hy121_0 := fun (n_ : Nat) => (show (((((w30.drewN n_).setCell ⟨gb120, 0, none⟩ (.int .i64 ((rd_T36 t102 x11_3).f0))).setCell ⟨gb120, 1, none⟩ (.int .i64 ((rd_T36 t102 x11_3).f1))).setCell ⟨gb120, 2, none⟩ (.string ((rd_T36 t102 x11_3).f2)))).cell? _ = some _ from hx121_0))
                                (try have hy121_1 := fun (n_ : Nat) => (show (((((w30.drewN n_).setCell ⟨gb120, 0, none⟩ (.int .i64 ((rd_T36 t102 x11_3).f0))).setCell ⟨gb120, 1, none⟩ (.int .i64 ((rd_T36 t102 x11_3).f1))).setCell ⟨gb120, 2, none⟩ (.string ((rd_T36 t102 x11_3).f2)))).cell? _ = some _ from hx121_1))
                                (try have hy121_2 := fun (n_ : Nat) => (show (((((w30.drewN n_).setCell ⟨gb120, 0, none⟩ (.int .i64 ((rd_T36 t102 x11_3).f0))).setCell ⟨gb120, 1, none⟩ (.int .i64 ((rd_T36 t102 x11_3).f1))).setCell ⟨gb120, 2, none⟩ (.string ((rd_T36 t102 x11_3).f2)))).cell? _ = some _ from hx121_2))
                                clear hn121_0
                                clear hn121_1
                                clear hn121_2
                                replace p121 := eq_true p121
                                replace q121 := eq_true q121
                                have hcz40_0 : w30.cell? ⟨gb120, 0, none⟩ = some (.int .i64 0) := (blk_cell BK120.out 0).trans rfl
                                have hcz40_1 : w30.cell? ⟨gb120, 1, none⟩ = some (.int .i64 0) := (blk_cell BK120.out 1).trans rfl
                                have hcz40_2 : w30.cell? ⟨gb120, 2, none⟩ = some (.string (⟨#[]⟩ : ByteArray)) := (blk_cell BK120.out 2).trans rfl
                                have hfz40_0 := blk_frozen BK120.out 0
                                have hfz40_1 := blk_frozen BK120.out 1
                                have hfz40_2 := blk_frozen BK120.out 2
                                have p122 : 0 ≤ ((ji33) : Int) := of_decide_eq_true (by first | (with_reducible assumption) | assumption)
                                have q122 : (ji33) < (t102.length : Int) := of_decide_eq_true (by first | (with_reducible assumption) | assumption)
                                obtain ⟨ad122, e122, hx122_0, hx122_1, hx122_2⟩ := at_T36 (Kd.R_reads' HO_3.out).2.2 (ji33) p122 q122
                                obtain rfl : ad119 = ad122 := (by injection e122)
                                have hn122_0 : ad119.block ≠ gb120 := Kd.own_blk (fun h_ => by first | exact ((HO_3.out).1 _ h_.symm).2 rfl | exact (HO_3.out).1 _ h_.symm rfl)
                                have hn122_1 : ad119.block ≠ gb120 := Kd.own_blk (fun h_ => by first | exact ((HO_3.out).1 _ h_.symm).2 rfl | exact (HO_3.out).1 _ h_.symm rfl)
                                have hn122_2 : ad119.block ≠ gb120 := Kd.own_blk (fun h_ => by first | exact ((HO_3.out).1 _ h_.symm).2 rfl | exact (HO_3.out).1 _ h_.symm rfl)
                                replace hx122_0 := (cell_far (p := ⟨gb120, 0, none⟩) (by first | (rw [add_block]; exact hn122_0) | (show (Addr.add _ _).block ≠ _; rw [add_block]; exact hn122_0) | exact hn122_0) (.int .i64 ((rd_T36 t102 x11_3).f0))).trans hx122_0
                                replace hx122_1 := (cell_far (p := ⟨gb120, 0, none⟩) (by first | (rw [add_block]; exact hn122_0) | (show (Addr.add _ _).block ≠ _; rw [add_block]; exact hn122_0) | exact hn122_0) (.int .i64 ((rd_T36 t102 x11_3).f0))).trans hx122_1
                                replace hx122_2 := (cell_far (p := ⟨gb120, 0, none⟩) (by first | (rw [add_block]; exact hn122_0) | (show (Addr.add _ _).block ≠ _; rw [add_block]; exact hn122_0) | exact hn122_0) (.int .i64 ((rd_T36 t102 x11_3).f0))).trans hx122_2
                                replace hx122_0 := (cell_far (p := ⟨gb120, 1, none⟩) (by first | (rw [add_block]; exact hn122_1) | (show (Addr.add _ _).block ≠ _; rw [add_block]; exact hn122_1) | exact hn122_1) (.int .i64 ((rd_T36 t102 x11_3).f1))).trans hx122_0
                                replace hx122_1 := (cell_far (p := ⟨gb120, 1, none⟩) (by first | (rw [add_block]; exact hn122_1) | (show (Addr.add _ _).block ≠ _; rw [add_block]; exact hn122_1) | exact hn122_1) (.int .i64 ((rd_T36 t102 x11_3).f1))).trans hx122_1
                                replace hx122_2 := (cell_far (p := ⟨gb120, 1, none⟩) (by first | (rw [add_block]; exact hn122_1) | (show (Addr.add _ _).block ≠ _; rw [add_block]; exact hn122_1) | exact hn122_1) (.int .i64 ((rd_T36 t102 x11_3).f1))).trans hx122_2
                                replace hx122_0 := (cell_far (p := ⟨gb120, 2, none⟩) (by first | (rw [add_block]; exact hn122_2) | (show (Addr.add _ _).block ≠ _; rw [add_block]; exact hn122_2) | exact hn122_2) (.string ((rd_T36 t102 x11_3).f2))).trans hx122_0
                                replace hx122_1 := (cell_far (p := ⟨gb120, 2, none⟩) (by first | (rw [add_block]; exact hn122_2) | (show (Addr.add _ _).block ≠ _; rw [add_block]; exact hn122_2) | exact hn122_2) (.string ((rd_T36 t102 x11_3).f2))).trans hx122_1
                                replace hx122_2 := (cell_far (p := ⟨gb120, 2, none⟩) (by first | (rw [add_block]; exact hn122_2) | (show (Addr.add _ _).block ≠ _; rw [add_block]; exact hn122_2) | exact hn122_2) (.string ((rd_T36 t102 x11_3).f2))).trans hx122_2
                                (try have hy122_0 := fun (n_ : Nat) => (show (((((w30.drewN n_).setCell ⟨gb120, 0, none⟩ (.int .i64 ((rd_T36 t102 x11_3).f0))).setCell ⟨gb120, 1, none⟩ (.int .i64 ((rd_T36 t102 x11_3).f1))).setCell ⟨gb120, 2, none⟩ (.string ((rd_T36 t102 x11_3).f2)))).cell? _ = some _ from hx122_0))
                                (try have hy122_1 := fun (n_ : Nat) => (show (((((w30.drewN n_).setCell ⟨gb120, 0, none⟩ (.int .i64 ((rd_T36 t102 x11_3).f0))).setCell ⟨gb120, 1, none⟩ (.int .i64 ((rd_T36 t102 x11_3).f1))).setCell ⟨gb120, 2, none⟩ (.string ((rd_T36 t102 x11_3).f2)))).cell? _ = some _ from hx122_1))
                                (try have hy122_2 := fun (n_ : Nat) => (show (((((w30.drewN n_).setCell ⟨gb120, 0, none⟩ (.int .i64 ((rd_T36 t102 x11_3).f0))).setCell ⟨gb120, 1, none⟩ (.int .i64 ((rd_T36 t102 x11_3).f1))).setCell ⟨gb120, 2, none⟩ (.string ((rd_T36 t102 x11_3).f2)))).cell? _ = some _ from hx122_2))
                                clear hn122_0
                                clear hn122_1
                                clear hn122_2
                                replace p122 := eq_true p122
                                replace q122 := eq_true q122
                                go_wp2
                                repeat (go_quiet (fail); try go_wp2)
                                go_meet
                                case rel => exact ⟨_, (true), (by first | rfl | (simp; done) | (simp [*]; done)), H', ⟨by have := HJ7.out; have := HK2.out; have := HK3.out; first | omega | exact Nat.le_refl _⟩, ⟨by (with_reducible repeat (first | apply Kd.R_alloc | apply Kd.R_drewN | apply Kd.R_drew)); exact Kd.R_mono (Kd.R_far (p := ⟨gb120, 2, none⟩) (Kd.R_far (p := ⟨gb120, 1, none⟩) (Kd.R_far (p := ⟨gb120, 0, none⟩) (Kd.R_mono HO_3.out (fun k_ hk => (⟨hk, hk.2⟩ : _ ∧ k_ ≠ gb120))) (fun _ hk => hk.2) (.int .i64 ((rd_T36 t102 x11_3).f0))) (fun _ hk => hk.2) (.int .i64 ((rd_T36 t102 x11_3).f1))) (fun _ hk => hk.2) (.string ((rd_T36 t102 x11_3).f2))) (fun _ hk => hk.1.2)⟩, ⟨by (with_reducible repeat (first | refine blk_drewN ?_ _ | refine blk_drew ?_ | refine blk_alloc ?_ _)); refine blk_put (cs := #[.int .i64 ((rd_T36 t102 x11_3).f0), .int .i64 ((rd_T36 t102 x11_3).f1), .string (⟨#[]⟩ : ByteArray)]) ?_ 2 _ rfl; (with_reducible repeat (first | refine blk_drewN ?_ _ | refine blk_drew ?_ | refine blk_alloc ?_ _)); refine blk_put (cs := #[.int .i64 ((rd_T36 t102 x11_3).f0), .int .i64 0, .string (⟨#[]⟩ : ByteArray)]) ?_ 1 _ rfl; (with_reducible repeat (first | refine blk_drewN ?_ _ | refine blk_drew ?_ | refine blk_alloc ?_ _)); refine blk_put (cs := #[.int .i64 0, .int .i64 0, .string (⟨#[]⟩ : ByteArray)]) ?_ 0 _ rfl; (with_reducible repeat (first | refine blk_drewN ?_ _ | refine blk_drew ?_ | refine blk_alloc ?_ _)); exact BK120.out⟩, ⟨by repeat (first | (with_reducible first | exact HB.out | apply below_alloc | apply pw_below_drewN | apply below_drew1 | refine below_set ?_ GE120.out) | exact HB.out)⟩⟩
                              · rw [if_neg c39] at H
                                have c39b0 : (((rd_T36 t102 x11_3).f0) == 1) = false := beq_eq_false_iff_ne.mpr c39
                                have c39b1 : (((rd_T36 t102 x11_3).f0) != 1) = true := bne_iff_ne.mpr c39
                                by_cases c41 : ((rd_T36 t102 x11_3).f1) = 0
                                · rw [if_pos c41] at H
                                  have c41b0 : (((rd_T36 t102 x11_3).f1) == 0) = true := beq_iff_eq.mpr c41
                                  have c41b1 : (((rd_T36 t102 x11_3).f1) != 0) = false := bne_eq_false_iff_eq.mpr c41
                                  clear c41
                                  have H' := Aside0.mk H
                                  clear H
                                  have p121 : 0 ≤ ((ji33) : Int) := of_decide_eq_true (by first | (with_reducible assumption) | assumption)
                                  have q121 : (ji33) < (t102.length : Int) := of_decide_eq_true (by first | (with_reducible assumption) | assumption)
                                  obtain ⟨ad121, e121, hx121_0, hx121_1, hx121_2⟩ := at_T36 (Kd.R_reads' HO_3.out).2.2 (ji33) p121 q121
                                  obtain rfl : ad119 = ad121 := (by injection e121)
                                  have hn121_0 : ad119.block ≠ gb120 := Kd.own_blk (fun h_ => by first | exact ((HO_3.out).1 _ h_.symm).2 rfl | exact (HO_3.out).1 _ h_.symm rfl)
                                  have hn121_1 : ad119.block ≠ gb120 := Kd.own_blk (fun h_ => by first | exact ((HO_3.out).1 _ h_.symm).2 rfl | exact (HO_3.out).1 _ h_.symm rfl)
                                  have hn121_2 : ad119.block ≠ gb120 := Kd.own_blk (fun h_ => by first | exact ((HO_3.out).1 _ h_.symm).2 rfl | exact (HO_3.out).1 _ h_.symm rfl)
                                  replace hx121_0 := (cell_far (p := ⟨gb120, 0, none⟩) (by first | (rw [add_block]; exact hn121_0) | (show (Addr.add _ _).block ≠ _; rw [add_block]; exact hn121_0) | exact hn121_0) (.int .i64 ((rd_T36 t102 x11_3).f0))).trans hx121_0
                                  replace hx121_1 := (cell_far (p := ⟨gb120, 0, none⟩) (by first | (rw [add_block]; exact hn121_0) | (show (Addr.add _ _).block ≠ _; rw [add_block]; exact hn121_0) | exact hn121_0) (.int .i64 ((rd_T36 t102 x11_3).f0))).trans hx121_1
                                  replace hx121_2 := (cell_far (p := ⟨gb120, 0, none⟩) (by first | (rw [add_block]; exact hn121_0) | (show (Addr.add _ _).block ≠ _; rw [add_block]; exact hn121_0) | exact hn121_0) (.int .i64 ((rd_T36 t102 x11_3).f0))).trans hx121_2
                                  replace hx121_0 := (cell_far (p := ⟨gb120, 1, none⟩) (by first | (rw [add_block]; exact hn121_1) | (show (Addr.add _ _).block ≠ _; rw [add_block]; exact hn121_1) | exact hn121_1) (.int .i64 ((rd_T36 t102 x11_3).f1))).trans hx121_0
                                  replace hx121_1 := (cell_far (p := ⟨gb120, 1, none⟩) (by first | (rw [add_block]; exact hn121_1) | (show (Addr.add _ _).block ≠ _; rw [add_block]; exact hn121_1) | exact hn121_1) (.int .i64 ((rd_T36 t102 x11_3).f1))).trans hx121_1
                                  replace hx121_2 := (cell_far (p := ⟨gb120, 1, none⟩) (by first | (rw [add_block]; exact hn121_1) | (show (Addr.add _ _).block ≠ _; rw [add_block]; exact hn121_1) | exact hn121_1) (.int .i64 ((rd_T36 t102 x11_3).f1))).trans hx121_2
                                  replace hx121_0 := (cell_far (p := ⟨gb120, 2, none⟩) (by first | (rw [add_block]; exact hn121_2) | (show (Addr.add _ _).block ≠ _; rw [add_block]; exact hn121_2) | exact hn121_2) (.string ((rd_T36 t102 x11_3).f2))).trans hx121_0
                                  replace hx121_1 := (cell_far (p := ⟨gb120, 2, none⟩) (by first | (rw [add_block]; exact hn121_2) | (show (Addr.add _ _).block ≠ _; rw [add_block]; exact hn121_2) | exact hn121_2) (.string ((rd_T36 t102 x11_3).f2))).trans hx121_1
                                  replace hx121_2 := (cell_far (p := ⟨gb120, 2, none⟩) (by first | (rw [add_block]; exact hn121_2) | (show (Addr.add _ _).block ≠ _; rw [add_block]; exact hn121_2) | exact hn121_2) (.string ((rd_T36 t102 x11_3).f2))).trans hx121_2
                                  (try have hy121_0 := fun (n_ : Nat) => (show (((((w30.drewN n_).setCell ⟨gb120, 0, none⟩ (.int .i64 ((rd_T36 t102 x11_3).f0))).setCell ⟨gb120, 1, none⟩ (.int .i64 ((rd_T36 t102 x11_3).f1))).setCell ⟨gb120, 2, none⟩ (.string ((rd_T36 t102 x11_3).f2)))).cell? _ = some _ from hx121_0))
                                  (try have hy121_1 := fun (n_ : Nat) => (show (((((w30.drewN n_).setCell ⟨gb120, 0, none⟩ (.int .i64 ((rd_T36 t102 x11_3).f0))).setCell ⟨gb120, 1, none⟩ (.int .i64 ((rd_T36 t102 x11_3).f1))).setCell ⟨gb120, 2, none⟩ (.string ((rd_T36 t102 x11_3).f2)))).cell? _ = some _ from hx121_1))
                                  (try have hy121_2 := fun (n_ : Nat) => (show (((((w30.drewN n_).setCell ⟨gb120, 0, none⟩ (.int .i64 ((rd_T36 t102 x11_3).f0))).setCell ⟨gb120, 1, none⟩ (.int .i64 ((rd_T36 t102 x11_3).f1))).setCell ⟨gb120, 2, none⟩ (.string ((rd_T36 t102 x11_3).f2)))).cell? _ = some _ from hx121_2))
                                  clear hn121_0
                                  clear hn121_1
                                  clear hn121_2
                                  replace p121 := eq_true p121
                                  replace q121 := eq_true q121
                                  have hcz42_0 : w30.cell? ⟨gb120, 0, none⟩ = some (.int .i64 0) := (blk_cell BK120.out 0).trans rfl
                                  have hcz42_1 : w30.cell? ⟨gb120, 1, none⟩ = some (.int .i64 0) := (blk_cell BK120.out 1).trans rfl
                                  have hcz42_2 : w30.cell? ⟨gb120, 2, none⟩ = some (.string (⟨#[]⟩ : ByteArray)) := (blk_cell BK120.out 2).trans rfl
                                  have hfz42_0 := blk_frozen BK120.out 0
                                  have hfz42_1 := blk_frozen BK120.out 1
                                  have hfz42_2 := blk_frozen BK120.out 2
                                  have p122 : 0 ≤ ((ji33) : Int) := of_decide_eq_true (by first | (with_reducible assumption) | assumption)
                                  have q122 : (ji33) < (t102.length : Int) := of_decide_eq_true (by first | (with_reducible assumption) | assumption)
                                  obtain ⟨ad122, e122, hx122_0, hx122_1, hx122_2⟩ := at_T36 (Kd.R_reads' HO_3.out).2.2 (ji33) p122 q122
                                  obtain rfl : ad119 = ad122 := (by injection e122)
                                  have hn122_0 : ad119.block ≠ gb120 := Kd.own_blk (fun h_ => by first | exact ((HO_3.out).1 _ h_.symm).2 rfl | exact (HO_3.out).1 _ h_.symm rfl)
                                  have hn122_1 : ad119.block ≠ gb120 := Kd.own_blk (fun h_ => by first | exact ((HO_3.out).1 _ h_.symm).2 rfl | exact (HO_3.out).1 _ h_.symm rfl)
                                  have hn122_2 : ad119.block ≠ gb120 := Kd.own_blk (fun h_ => by first | exact ((HO_3.out).1 _ h_.symm).2 rfl | exact (HO_3.out).1 _ h_.symm rfl)
                                  replace hx122_0 := (cell_far (p := ⟨gb120, 0, none⟩) (by first | (rw [add_block]; exact hn122_0) | (show (Addr.add _ _).block ≠ _; rw [add_block]; exact hn122_0) | exact hn122_0) (.int .i64 ((rd_T36 t102 x11_3).f0))).trans hx122_0
                                  replace hx122_1 := (cell_far (p := ⟨gb120, 0, none⟩) (by first | (rw [add_block]; exact hn122_0) | (show (Addr.add _ _).block ≠ _; rw [add_block]; exact hn122_0) | exact hn122_0) (.int .i64 ((rd_T36 t102 x11_3).f0))).trans hx122_1
                                  replace hx122_2 := (cell_far (p := ⟨gb120, 0, none⟩) (by first | (rw [add_block]; exact hn122_0) | (show (Addr.add _ _).block ≠ _; rw [add_block]; exact hn122_0) | exact hn122_0) (.int .i64 ((rd_T36 t102 x11_3).f0))).trans hx122_2
                                  replace hx122_0 := (cell_far (p := ⟨gb120, 1, none⟩) (by first | (rw [add_block]; exact hn122_1) | (show (Addr.add _ _).block ≠ _; rw [add_block]; exact hn122_1) | exact hn122_1) (.int .i64 ((rd_T36 t102 x11_3).f1))).trans hx122_0
                                  replace hx122_1 := (cell_far (p := ⟨gb120, 1, none⟩) (by first | (rw [add_block]; exact hn122_1) | (show (Addr.add _ _).block ≠ _; rw [add_block]; exact hn122_1) | exact hn122_1) (.int .i64 ((rd_T36 t102 x11_3).f1))).trans hx122_1
                                  replace hx122_2 := (cell_far (p := ⟨gb120, 1, none⟩) (by first | (rw [add_block]; exact hn122_1) | (show (Addr.add _ _).block ≠ _; rw [add_block]; exact hn122_1) | exact hn122_1) (.int .i64 ((rd_T36 t102 x11_3).f1))).trans hx122_2
                                  replace hx122_0 := (cell_far (p := ⟨gb120, 2, none⟩) (by first | (rw [add_block]; exact hn122_2) | (show (Addr.add _ _).block ≠ _; rw [add_block]; exact hn122_2) | exact hn122_2) (.string ((rd_T36 t102 x11_3).f2))).trans hx122_0
                                  replace hx122_1 := (cell_far (p := ⟨gb120, 2, none⟩) (by first | (rw [add_block]; exact hn122_2) | (show (Addr.add _ _).block ≠ _; rw [add_block]; exact hn122_2) | exact hn122_2) (.string ((rd_T36 t102 x11_3).f2))).trans hx122_1
                                  replace hx122_2 := (cell_far (p := ⟨gb120, 2, none⟩) (by first | (rw [add_block]; exact hn122_2) | (show (Addr.add _ _).block ≠ _; rw [add_block]; exact hn122_2) | exact hn122_2) (.string ((rd_T36 t102 x11_3).f2))).trans hx122_2
                                  (try have hy122_0 := fun (n_ : Nat) => (show (((((w30.drewN n_).setCell ⟨gb120, 0, none⟩ (.int .i64 ((rd_T36 t102 x11_3).f0))).setCell ⟨gb120, 1, none⟩ (.int .i64 ((rd_T36 t102 x11_3).f1))).setCell ⟨gb120, 2, none⟩ (.string ((rd_T36 t102 x11_3).f2)))).cell? _ = some _ from hx122_0))
                                  (try have hy122_1 := fun (n_ : Nat) => (show (((((w30.drewN n_).setCell ⟨gb120, 0, none⟩ (.int .i64 ((rd_T36 t102 x11_3).f0))).setCell ⟨gb120, 1, none⟩ (.int .i64 ((rd_T36 t102 x11_3).f1))).setCell ⟨gb120, 2, none⟩ (.string ((rd_T36 t102 x11_3).f2)))).cell? _ = some _ from hx122_1))
                                  (try have hy122_2 := fun (n_ : Nat) => (show (((((w30.drewN n_).setCell ⟨gb120, 0, none⟩ (.int .i64 ((rd_T36 t102 x11_3).f0))).setCell ⟨gb120, 1, none⟩ (.int .i64 ((rd_T36 t102 x11_3).f1))).setCell ⟨gb120, 2, none⟩ (.string ((rd_T36 t102 x11_3).f2)))).cell? _ = some _ from hx122_2))
                                  clear hn122_0
                                  clear hn122_1
                                  clear hn122_2
                                  replace p122 := eq_true p122
                                  replace q122 := eq_true q122
                                  go_wp2
                                  repeat (go_quiet (fail); try go_wp2)
                                  go_meet
                                  case rel => exact ⟨_, ((((rd_T36 t102 x11_3).f2).toList == ([] : List UInt8))), (by first | rfl | (simp; done) | (simp [*]; done)), H', ⟨by have := HJ7.out; have := HK2.out; have := HK3.out; first | omega | exact Nat.le_refl _⟩, ⟨by (with_reducible repeat (first | apply Kd.R_alloc | apply Kd.R_drewN | apply Kd.R_drew)); exact Kd.R_mono (Kd.R_far (p := ⟨gb120, 2, none⟩) (Kd.R_far (p := ⟨gb120, 1, none⟩) (Kd.R_far (p := ⟨gb120, 0, none⟩) (Kd.R_mono HO_3.out (fun k_ hk => (⟨hk, hk.2⟩ : _ ∧ k_ ≠ gb120))) (fun _ hk => hk.2) (.int .i64 ((rd_T36 t102 x11_3).f0))) (fun _ hk => hk.2) (.int .i64 ((rd_T36 t102 x11_3).f1))) (fun _ hk => hk.2) (.string ((rd_T36 t102 x11_3).f2))) (fun _ hk => hk.1.2)⟩, ⟨by (with_reducible repeat (first | refine blk_drewN ?_ _ | refine blk_drew ?_ | refine blk_alloc ?_ _)); refine blk_put (cs := #[.int .i64 ((rd_T36 t102 x11_3).f0), .int .i64 ((rd_T36 t102 x11_3).f1), .string (⟨#[]⟩ : ByteArray)]) ?_ 2 _ rfl; (with_reducible repeat (first | refine blk_drewN ?_ _ | refine blk_drew ?_ | refine blk_alloc ?_ _)); refine blk_put (cs := #[.int .i64 ((rd_T36 t102 x11_3).f0), .int .i64 0, .string (⟨#[]⟩ : ByteArray)]) ?_ 1 _ rfl; (with_reducible repeat (first | refine blk_drewN ?_ _ | refine blk_drew ?_ | refine blk_alloc ?_ _)); refine blk_put (cs := #[.int .i64 0, .int .i64 0, .string (⟨#[]⟩ : ByteArray)]) ?_ 0 _ rfl; (with_reducible repeat (first | refine blk_drewN ?_ _ | refine blk_drew ?_ | refine blk_alloc ?_ _)); exact BK120.out⟩, ⟨by repeat (first | (with_reducible first | exact HB.out | apply below_alloc | apply pw_below_drewN | apply below_drew1 | refine below_set ?_ GE120.out) | exact HB.out)⟩⟩
                                · rw [if_neg c41] at H
                                  have c41b0 : (((rd_T36 t102 x11_3).f1) == 0) = false := beq_eq_false_iff_ne.mpr c41
                                  have c41b1 : (((rd_T36 t102 x11_3).f1) != 0) = true := bne_iff_ne.mpr c41
                                  have H' := Aside0.mk H
                                  clear H
                                  have p121 : 0 ≤ ((ji33) : Int) := of_decide_eq_true (by first | (with_reducible assumption) | assumption)
                                  have q121 : (ji33) < (t102.length : Int) := of_decide_eq_true (by first | (with_reducible assumption) | assumption)
                                  obtain ⟨ad121, e121, hx121_0, hx121_1, hx121_2⟩ := at_T36 (Kd.R_reads' HO_3.out).2.2 (ji33) p121 q121
                                  obtain rfl : ad119 = ad121 := (by injection e121)
                                  have hn121_0 : ad119.block ≠ gb120 := Kd.own_blk (fun h_ => by first | exact ((HO_3.out).1 _ h_.symm).2 rfl | exact (HO_3.out).1 _ h_.symm rfl)
                                  have hn121_1 : ad119.block ≠ gb120 := Kd.own_blk (fun h_ => by first | exact ((HO_3.out).1 _ h_.symm).2 rfl | exact (HO_3.out).1 _ h_.symm rfl)
                                  have hn121_2 : ad119.block ≠ gb120 := Kd.own_blk (fun h_ => by first | exact ((HO_3.out).1 _ h_.symm).2 rfl | exact (HO_3.out).1 _ h_.symm rfl)
                                  replace hx121_0 := (cell_far (p := ⟨gb120, 0, none⟩) (by first | (rw [add_block]; exact hn121_0) | (show (Addr.add _ _).block ≠ _; rw [add_block]; exact hn121_0) | exact hn121_0) (.int .i64 ((rd_T36 t102 x11_3).f0))).trans hx121_0
                                  replace hx121_1 := (cell_far (p := ⟨gb120, 0, none⟩) (by first | (rw [add_block]; exact hn121_0) | (show (Addr.add _ _).block ≠ _; rw [add_block]; exact hn121_0) | exact hn121_0) (.int .i64 ((rd_T36 t102 x11_3).f0))).trans hx121_1
                                  replace hx121_2 := (cell_far (p := ⟨gb120, 0, none⟩) (by first | (rw [add_block]; exact hn121_0) | (show (Addr.add _ _).block ≠ _; rw [add_block]; exact hn121_0) | exact hn121_0) (.int .i64 ((rd_T36 t102 x11_3).f0))).trans hx121_2
                                  replace hx121_0 := (cell_far (p := ⟨gb120, 1, none⟩) (by first | (rw [add_block]; exact hn121_1) | (show (Addr.add _ _).block ≠ _; rw [add_block]; exact hn121_1) | exact hn121_1) (.int .i64 ((rd_T36 t102 x11_3).f1))).trans hx121_0
                                  replace hx121_1 := (cell_far (p := ⟨gb120, 1, none⟩) (by first | (rw [add_block]; exact hn121_1) | (show (Addr.add _ _).block ≠ _; rw [add_block]; exact hn121_1) | exact hn121_1) (.int .i64 ((rd_T36 t102 x11_3).f1))).trans hx121_1
                                  replace hx121_2 := (cell_far (p := ⟨gb120, 1, none⟩) (by first | (rw [add_block]; exact hn121_1) | (show (Addr.add _ _).block ≠ _; rw [add_block]; exact hn121_1) | exact hn121_1) (.int .i64 ((rd_T36 t102 x11_3).f1))).trans hx121_2
                                  replace hx121_0 := (cell_far (p := ⟨gb120, 2, none⟩) (by first | (rw [add_block]; exact hn121_2) | (show (Addr.add _ _).block ≠ _; rw [add_block]; exact hn121_2) | exact hn121_2) (.string ((rd_T36 t102 x11_3).f2))).trans hx121_0
                                  replace hx121_1 := (cell_far (p := ⟨gb120, 2, none⟩) (by first | (rw [add_block]; exact hn121_2) | (show (Addr.add _ _).block ≠ _; rw [add_block]; exact hn121_2) | exact hn121_2) (.string ((rd_T36 t102 x11_3).f2))).trans hx121_1
                                  replace hx121_2 := (cell_far (p := ⟨gb120, 2, none⟩) (by first | (rw [add_block]; exact hn121_2) | (show (Addr.add _ _).block ≠ _; rw [add_block]; exact hn121_2) | exact hn121_2) (.string ((rd_T36 t102 x11_3).f2))).trans hx121_2
                                  (try have hy121_0 := fun (n_ : Nat) => (show (((((w30.drewN n_).setCell ⟨gb120, 0, none⟩ (.int .i64 ((rd_T36 t102 x11_3).f0))).setCell ⟨gb120, 1, none⟩ (.int .i64 ((rd_T36 t102 x11_3).f1))).setCell ⟨gb120, 2, none⟩ (.string ((rd_T36 t102 x11_3).f2)))).cell? _ = some _ from hx121_0))
                                  (try have hy121_1 := fun (n_ : Nat) => (show (((((w30.drewN n_).setCell ⟨gb120, 0, none⟩ (.int .i64 ((rd_T36 t102 x11_3).f0))).setCell ⟨gb120, 1, none⟩ (.int .i64 ((rd_T36 t102 x11_3).f1))).setCell ⟨gb120, 2, none⟩ (.string ((rd_T36 t102 x11_3).f2)))).cell? _ = some _ from hx121_1))
                                  (try have hy121_2 := fun (n_ : Nat) => (show (((((w30.drewN n_).setCell ⟨gb120, 0, none⟩ (.int .i64 ((rd_T36 t102 x11_3).f0))).setCell ⟨gb120, 1, none⟩ (.int .i64 ((rd_T36 t102 x11_3).f1))).setCell ⟨gb120, 2, none⟩ (.string ((rd_T36 t102 x11_3).f2)))).cell? _ = some _ from hx121_2))
                                  clear hn121_0
                                  clear hn121_1
                                  clear hn121_2
                                  replace p121 := eq_true p121
                                  replace q121 := eq_true q121
                                  have hcz43_0 : w30.cell? ⟨gb120, 0, none⟩ = some (.int .i64 0) := (blk_cell BK120.out 0).trans rfl
                                  have hcz43_1 : w30.cell? ⟨gb120, 1, none⟩ = some (.int .i64 0) := (blk_cell BK120.out 1).trans rfl
                                  have hcz43_2 : w30.cell? ⟨gb120, 2, none⟩ = some (.string (⟨#[]⟩ : ByteArray)) := (blk_cell BK120.out 2).trans rfl
                                  have hfz43_0 := blk_frozen BK120.out 0
                                  have hfz43_1 := blk_frozen BK120.out 1
                                  have hfz43_2 := blk_frozen BK120.out 2
                                  have p122 : 0 ≤ ((ji33) : Int) := of_decide_eq_true (by first | (with_reducible assumption) | assumption)
                                  have q122 : (ji33) < (t102.length : Int) := of_decide_eq_true (by first | (with_reducible assumption) | assumption)
                                  obtain ⟨ad122, e122, hx122_0, hx122_1, hx122_2⟩ := at_T36 (Kd.R_reads' HO_3.out).2.2 (ji33) p122 q122
                                  obtain rfl : ad119 = ad122 := (by injection e122)
                                  have hn122_0 : ad119.block ≠ gb120 := Kd.own_blk (fun h_ => by first | exact ((HO_3.out).1 _ h_.symm).2 rfl | exact (HO_3.out).1 _ h_.symm rfl)
                                  have hn122_1 : ad119.block ≠ gb120 := Kd.own_blk (fun h_ => by first | exact ((HO_3.out).1 _ h_.symm).2 rfl | exact (HO_3.out).1 _ h_.symm rfl)
                                  have hn122_2 : ad119.block ≠ gb120 := Kd.own_blk (fun h_ => by first | exact ((HO_3.out).1 _ h_.symm).2 rfl | exact (HO_3.out).1 _ h_.symm rfl)
                                  replace hx122_0 := (cell_far (p := ⟨gb120, 0, none⟩) (by first | (rw [add_block]; exact hn122_0) | (show (Addr.add _ _).block ≠ _; rw [add_block]; exact hn122_0) | exact hn122_0) (.int .i64 ((rd_T36 t102 x11_3).f0))).trans hx122_0
                                  replace hx122_1 := (cell_far (p := ⟨gb120, 0, none⟩) (by first | (rw [add_block]; exact hn122_0) | (show (Addr.add _ _).block ≠ _; rw [add_block]; exact hn122_0) | exact hn122_0) (.int .i64 ((rd_T36 t102 x11_3).f0))).trans hx122_1
                                  replace hx122_2 := (cell_far (p := ⟨gb120, 0, none⟩) (by first | (rw [add_block]; exact hn122_0) | (show (Addr.add _ _).block ≠ _; rw [add_block]; exact hn122_0) | exact hn122_0) (.int .i64 ((rd_T36 t102 x11_3).f0))).trans hx122_2
                                  replace hx122_0 := (cell_far (p := ⟨gb120, 1, none⟩) (by first | (rw [add_block]; exact hn122_1) | (show (Addr.add _ _).block ≠ _; rw [add_block]; exact hn122_1) | exact hn122_1) (.int .i64 ((rd_T36 t102 x11_3).f1))).trans hx122_0
                                  replace hx122_1 := (cell_far (p := ⟨gb120, 1, none⟩) (by first | (rw [add_block]; exact hn122_1) | (show (Addr.add _ _).block ≠ _; rw [add_block]; exact hn122_1) | exact hn122_1) (.int .i64 ((rd_T36 t102 x11_3).f1))).trans hx122_1
                                  replace hx122_2 := (cell_far (p := ⟨gb120, 1, none⟩) (by first | (rw [add_block]; exact hn122_1) | (show (Addr.add _ _).block ≠ _; rw [add_block]; exact hn122_1) | exact hn122_1) (.int .i64 ((rd_T36 t102 x11_3).f1))).trans hx122_2
                                  replace hx122_0 := (cell_far (p := ⟨gb120, 2, none⟩) (by first | (rw [add_block]; exact hn122_2) | (show (Addr.add _ _).block ≠ _; rw [add_block]; exact hn122_2) | exact hn122_2) (.string ((rd_T36 t102 x11_3).f2))).trans hx122_0
                                  replace hx122_1 := (cell_far (p := ⟨gb120, 2, none⟩) (by first | (rw [add_block]; exact hn122_2) | (show (Addr.add _ _).block ≠ _; rw [add_block]; exact hn122_2) | exact hn122_2) (.string ((rd_T36 t102 x11_3).f2))).trans hx122_1
                                  replace hx122_2 := (cell_far (p := ⟨gb120, 2, none⟩) (by first | (rw [add_block]; exact hn122_2) | (show (Addr.add _ _).block ≠ _; rw [add_block]; exact hn122_2) | exact hn122_2) (.string ((rd_T36 t102 x11_3).f2))).trans hx122_2
                                  (try have hy122_0 := fun (n_ : Nat) => (show (((((w30.drewN n_).setCell ⟨gb120, 0, none⟩ (.int .i64 ((rd_T36 t102 x11_3).f0))).setCell ⟨gb120, 1, none⟩ (.int .i64 ((rd_T36 t102 x11_3).f1))).setCell ⟨gb120, 2, none⟩ (.string ((rd_T36 t102 x11_3).f2)))).cell? _ = some _ from hx122_0))
                                  (try have hy122_1 := fun (n_ : Nat) => (show (((((w30.drewN n_).setCell ⟨gb120, 0, none⟩ (.int .i64 ((rd_T36 t102 x11_3).f0))).setCell ⟨gb120, 1, none⟩ (.int .i64 ((rd_T36 t102 x11_3).f1))).setCell ⟨gb120, 2, none⟩ (.string ((rd_T36 t102 x11_3).f2)))).cell? _ = some _ from hx122_1))
                                  (try have hy122_2 := fun (n_ : Nat) => (show (((((w30.drewN n_).setCell ⟨gb120, 0, none⟩ (.int .i64 ((rd_T36 t102 x11_3).f0))).setCell ⟨gb120, 1, none⟩ (.int .i64 ((rd_T36 t102 x11_3).f1))).setCell ⟨gb120, 2, none⟩ (.string ((rd_T36 t102 x11_3).f2)))).cell? _ = some _ from hx122_2))
                                  clear hn122_0
                                  clear hn122_1
                                  clear hn122_2
                                  replace p122 := eq_true p122
                                  replace q122 := eq_true q122
                                  go_wp2
                                  repeat (go_quiet (fail); try go_wp2)
                                  go_meet
                                  case rel => exact ⟨_, (false), (by first | rfl | (simp; done) | (simp [*]; done)), H', ⟨by have := HJ7.out; have := HK2.out; have := HK3.out; first | omega | exact Nat.le_refl _⟩, ⟨by (with_reducible repeat (first | apply Kd.R_alloc | apply Kd.R_drewN | apply Kd.R_drew)); exact Kd.R_mono (Kd.R_far (p := ⟨gb120, 2, none⟩) (Kd.R_far (p := ⟨gb120, 1, none⟩) (Kd.R_far (p := ⟨gb120, 0, none⟩) (Kd.R_mono HO_3.out (fun k_ hk => (⟨hk, hk.2⟩ : _ ∧ k_ ≠ gb120))) (fun _ hk => hk.2) (.int .i64 ((rd_T36 t102 x11_3).f0))) (fun _ hk => hk.2) (.int .i64 ((rd_T36 t102 x11_3).f1))) (fun _ hk => hk.2) (.string ((rd_T36 t102 x11_3).f2))) (fun _ hk => hk.1.2)⟩, ⟨by (with_reducible repeat (first | refine blk_drewN ?_ _ | refine blk_drew ?_ | refine blk_alloc ?_ _)); refine blk_put (cs := #[.int .i64 ((rd_T36 t102 x11_3).f0), .int .i64 ((rd_T36 t102 x11_3).f1), .string (⟨#[]⟩ : ByteArray)]) ?_ 2 _ rfl; (with_reducible repeat (first | refine blk_drewN ?_ _ | refine blk_drew ?_ | refine blk_alloc ?_ _)); refine blk_put (cs := #[.int .i64 ((rd_T36 t102 x11_3).f0), .int .i64 0, .string (⟨#[]⟩ : ByteArray)]) ?_ 1 _ rfl; (with_reducible repeat (first | refine blk_drewN ?_ _ | refine blk_drew ?_ | refine blk_alloc ?_ _)); refine blk_put (cs := #[.int .i64 0, .int .i64 0, .string (⟨#[]⟩ : ByteArray)]) ?_ 0 _ rfl; (with_reducible repeat (first | refine blk_drewN ?_ _ | refine blk_drew ?_ | refine blk_alloc ?_ _)); exact BK120.out⟩, ⟨by repeat (first | (with_reducible first | exact HB.out | apply below_alloc | apply pw_below_drewN | apply below_drew1 | refine below_set ?_ GE120.out) | exact HB.out)⟩⟩
                            · rw [if_neg c38] at H
                              have c38b0 : (((rd_T36 t102 (ji33)).f0) == 2) = false := beq_eq_false_iff_ne.mpr c38
                              have c38b1 : (((rd_T36 t102 (ji33)).f0) != 2) = true := bne_iff_ne.mpr c38
                              by_cases c44 : ((rd_T36 t102 x11_3).f1) = 0
                              · rw [if_pos c44] at H
                                have c44b0 : (((rd_T36 t102 x11_3).f1) == 0) = true := beq_iff_eq.mpr c44
                                have c44b1 : (((rd_T36 t102 x11_3).f1) != 0) = false := bne_eq_false_iff_eq.mpr c44
                                clear c44
                                have H' := Aside0.mk H
                                clear H
                                have p121 : 0 ≤ ((ji33) : Int) := of_decide_eq_true (by first | (with_reducible assumption) | assumption)
                                have q121 : (ji33) < (t102.length : Int) := of_decide_eq_true (by first | (with_reducible assumption) | assumption)
                                obtain ⟨ad121, e121, hx121_0, hx121_1, hx121_2⟩ := at_T36 (Kd.R_reads' HO_3.out).2.2 (ji33) p121 q121
                                obtain rfl : ad119 = ad121 := (by injection e121)
                                have hn121_0 : ad119.block ≠ gb120 := Kd.own_blk (fun h_ => by first | exact ((HO_3.out).1 _ h_.symm).2 rfl | exact (HO_3.out).1 _ h_.symm rfl)
                                have hn121_1 : ad119.block ≠ gb120 := Kd.own_blk (fun h_ => by first | exact ((HO_3.out).1 _ h_.symm).2 rfl | exact (HO_3.out).1 _ h_.symm rfl)
                                have hn121_2 : ad119.block ≠ gb120 := Kd.own_blk (fun h_ => by first | exact ((HO_3.out).1 _ h_.symm).2 rfl | exact (HO_3.out).1 _ h_.symm rfl)
                                replace hx121_0 := (cell_far (p := ⟨gb120, 0, none⟩) (by first | (rw [add_block]; exact hn121_0) | (show (Addr.add _ _).block ≠ _; rw [add_block]; exact hn121_0) | exact hn121_0) (.int .i64 ((rd_T36 t102 x11_3).f0))).trans hx121_0
                                replace hx121_1 := (cell_far (p := ⟨gb120, 0, none⟩) (by first | (rw [add_block]; exact hn121_0) | (show (Addr.add _ _).block ≠ _; rw [add_block]; exact hn121_0) | exact hn121_0) (.int .i64 ((rd_T36 t102 x11_3).f0))).trans hx121_1
                                replace hx121_2 := (cell_far (p := ⟨gb120, 0, none⟩) (by first | (rw [add_block]; exact hn121_0) | (show (Addr.add _ _).block ≠ _; rw [add_block]; exact hn121_0) | exact hn121_0) (.int .i64 ((rd_T36 t102 x11_3).f0))).trans hx121_2
                                replace hx121_0 := (cell_far (p := ⟨gb120, 1, none⟩) (by first | (rw [add_block]; exact hn121_1) | (show (Addr.add _ _).block ≠ _; rw [add_block]; exact hn121_1) | exact hn121_1) (.int .i64 ((rd_T36 t102 x11_3).f1))).trans hx121_0
                                replace hx121_1 := (cell_far (p := ⟨gb120, 1, none⟩) (by first | (rw [add_block]; exact hn121_1) | (show (Addr.add _ _).block ≠ _; rw [add_block]; exact hn121_1) | exact hn121_1) (.int .i64 ((rd_T36 t102 x11_3).f1))).trans hx121_1
                                replace hx121_2 := (cell_far (p := ⟨gb120, 1, none⟩) (by first | (rw [add_block]; exact hn121_1) | (show (Addr.add _ _).block ≠ _; rw [add_block]; exact hn121_1) | exact hn121_1) (.int .i64 ((rd_T36 t102 x11_3).f1))).trans hx121_2
                                replace hx121_0 := (cell_far (p := ⟨gb120, 2, none⟩) (by first | (rw [add_block]; exact hn121_2) | (show (Addr.add _ _).block ≠ _; rw [add_block]; exact hn121_2) | exact hn121_2) (.string ((rd_T36 t102 x11_3).f2))).trans hx121_0
                                replace hx121_1 := (cell_far (p := ⟨gb120, 2, none⟩) (by first | (rw [add_block]; exact hn121_2) | (show (Addr.add _ _).block ≠ _; rw [add_block]; exact hn121_2) | exact hn121_2) (.string ((rd_T36 t102 x11_3).f2))).trans hx121_1
                                replace hx121_2 := (cell_far (p := ⟨gb120, 2, none⟩) (by first | (rw [add_block]; exact hn121_2) | (show (Addr.add _ _).block ≠ _; rw [add_block]; exact hn121_2) | exact hn121_2) (.string ((rd_T36 t102 x11_3).f2))).trans hx121_2
                                (try have hy121_0 := fun (n_ : Nat) => (show (((((w30.drewN n_).setCell ⟨gb120, 0, none⟩ (.int .i64 ((rd_T36 t102 x11_3).f0))).setCell ⟨gb120, 1, none⟩ (.int .i64 ((rd_T36 t102 x11_3).f1))).setCell ⟨gb120, 2, none⟩ (.string ((rd_T36 t102 x11_3).f2)))).cell? _ = some _ from hx121_0))
                                (try have hy121_1 := fun (n_ : Nat) => (show (((((w30.drewN n_).setCell ⟨gb120, 0, none⟩ (.int .i64 ((rd_T36 t102 x11_3).f0))).setCell ⟨gb120, 1, none⟩ (.int .i64 ((rd_T36 t102 x11_3).f1))).setCell ⟨gb120, 2, none⟩ (.string ((rd_T36 t102 x11_3).f2)))).cell? _ = some _ from hx121_1))
                                (try have hy121_2 := fun (n_ : Nat) => (show (((((w30.drewN n_).setCell ⟨gb120, 0, none⟩ (.int .i64 ((rd_T36 t102 x11_3).f0))).setCell ⟨gb120, 1, none⟩ (.int .i64 ((rd_T36 t102 x11_3).f1))).setCell ⟨gb120, 2, none⟩ (.string ((rd_T36 t102 x11_3).f2)))).cell? _ = some _ from hx121_2))
                                clear hn121_0
                                clear hn121_1
                                clear hn121_2
                                replace p121 := eq_true p121
                                replace q121 := eq_true q121
                                have hcz45_0 : w30.cell? ⟨gb120, 0, none⟩ = some (.int .i64 0) := (blk_cell BK120.out 0).trans rfl
                                have hcz45_1 : w30.cell? ⟨gb120, 1, none⟩ = some (.int .i64 0) := (blk_cell BK120.out 1).trans rfl
                                have hcz45_2 : w30.cell? ⟨gb120, 2, none⟩ = some (.string (⟨#[]⟩ : ByteArray)) := (blk_cell BK120.out 2).trans rfl
                                have hfz45_0 := blk_frozen BK120.out 0
                                have hfz45_1 := blk_frozen BK120.out 1
                                have hfz45_2 := blk_frozen BK120.out 2
                                have p122 : 0 ≤ ((ji33) : Int) := of_decide_eq_true (by first | (with_reducible assumption) | assumption)
                                have q122 : (ji33) < (t102.length : Int) := of_decide_eq_true (by first | (with_reducible assumption) | assumption)
                                obtain ⟨ad122, e122, hx122_0, hx122_1, hx122_2⟩ := at_T36 (Kd.R_reads' HO_3.out).2.2 (ji33) p122 q122
                                obtain rfl : ad119 = ad122 := (by injection e122)
                                have hn122_0 : ad119.block ≠ gb120 := Kd.own_blk (fun h_ => by first | exact ((HO_3.out).1 _ h_.symm).2 rfl | exact (HO_3.out).1 _ h_.symm rfl)
                                have hn122_1 : ad119.block ≠ gb120 := Kd.own_blk (fun h_ => by first | exact ((HO_3.out).1 _ h_.symm).2 rfl | exact (HO_3.out).1 _ h_.symm rfl)
                                have hn122_2 : ad119.block ≠ gb120 := Kd.own_blk (fun h_ => by first | exact ((HO_3.out).1 _ h_.symm).2 rfl | exact (HO_3.out).1 _ h_.symm rfl)
                                replace hx122_0 := (cell_far (p := ⟨gb120, 0, none⟩) (by first | (rw [add_block]; exact hn122_0) | (show (Addr.add _ _).block ≠ _; rw [add_block]; exact hn122_0) | exact hn122_0) (.int .i64 ((rd_T36 t102 x11_3).f0))).trans hx122_0
                                replace hx122_1 := (cell_far (p := ⟨gb120, 0, none⟩) (by first | (rw [add_block]; exact hn122_0) | (show (Addr.add _ _).block ≠ _; rw [add_block]; exact hn122_0) | exact hn122_0) (.int .i64 ((rd_T36 t102 x11_3).f0))).trans hx122_1
                                replace hx122_2 := (cell_far (p := ⟨gb120, 0, none⟩) (by first | (rw [add_block]; exact hn122_0) | (show (Addr.add _ _).block ≠ _; rw [add_block]; exact hn122_0) | exact hn122_0) (.int .i64 ((rd_T36 t102 x11_3).f0))).trans hx122_2
                                replace hx122_0 := (cell_far (p := ⟨gb120, 1, none⟩) (by first | (rw [add_block]; exact hn122_1) | (show (Addr.add _ _).block ≠ _; rw [add_block]; exact hn122_1) | exact hn122_1) (.int .i64 ((rd_T36 t102 x11_3).f1))).trans hx122_0
                                replace hx122_1 := (cell_far (p := ⟨gb120, 1, none⟩) (by first | (rw [add_block]; exact hn122_1) | (show (Addr.add _ _).block ≠ _; rw [add_block]; exact hn122_1) | exact hn122_1) (.int .i64 ((rd_T36 t102 x11_3).f1))).trans hx122_1
                                replace hx122_2 := (cell_far (p := ⟨gb120, 1, none⟩) (by first | (rw [add_block]; exact hn122_1) | (show (Addr.add _ _).block ≠ _; rw [add_block]; exact hn122_1) | exact hn122_1) (.int .i64 ((rd_T36 t102 x11_3).f1))).trans hx122_2
                                replace hx122_0 := (cell_far (p := ⟨gb120, 2, none⟩) (by first | (rw [add_block]; exact hn122_2) | (show (Addr.add _ _).block ≠ _; rw [add_block]; exact hn122_2) | exact hn122_2) (.string ((rd_T36 t102 x11_3).f2))).trans hx122_0
                                replace hx122_1 := (cell_far (p := ⟨gb120, 2, none⟩) (by first | (rw [add_block]; exact hn122_2) | (show (Addr.add _ _).block ≠ _; rw [add_block]; exact hn122_2) | exact hn122_2) (.string ((rd_T36 t102 x11_3).f2))).trans hx122_1
                                replace hx122_2 := (cell_far (p := ⟨gb120, 2, none⟩) (by first | (rw [add_block]; exact hn122_2) | (show (Addr.add _ _).block ≠ _; rw [add_block]; exact hn122_2) | exact hn122_2) (.string ((rd_T36 t102 x11_3).f2))).trans hx122_2
                                (try have hy122_0 := fun (n_ : Nat) => (show (((((w30.drewN n_).setCell ⟨gb120, 0, none⟩ (.int .i64 ((rd_T36 t102 x11_3).f0))).setCell ⟨gb120, 1, none⟩ (.int .i64 ((rd_T36 t102 x11_3).f1))).setCell ⟨gb120, 2, none⟩ (.string ((rd_T36 t102 x11_3).f2)))).cell? _ = some _ from hx122_0))
                                (try have hy122_1 := fun (n_ : Nat) => (show (((((w30.drewN n_).setCell ⟨gb120, 0, none⟩ (.int .i64 ((rd_T36 t102 x11_3).f0))).setCell ⟨gb120, 1, none⟩ (.int .i64 ((rd_T36 t102 x11_3).f1))).setCell ⟨gb120, 2, none⟩ (.string ((rd_T36 t102 x11_3).f2)))).cell? _ = some _ from hx122_1))
                                (try have hy122_2 := fun (n_ : Nat) => (show (((((w30.drewN n_).setCell ⟨gb120, 0, none⟩ (.int .i64 ((rd_T36 t102 x11_3).f0))).setCell ⟨gb120, 1, none⟩ (.int .i64 ((rd_T36 t102 x11_3).f1))).setCell ⟨gb120, 2, none⟩ (.string ((rd_T36 t102 x11_3).f2)))).cell? _ = some _ from hx122_2))
                                clear hn122_0
                                clear hn122_1
                                clear hn122_2
                                replace p122 := eq_true p122
                                replace q122 := eq_true q122
                                go_wp2
                                repeat (go_quiet (fail); try go_wp2)
                                go_meet
                                case rel => exact ⟨_, ((((rd_T36 t102 x11_3).f2).toList == ([] : List UInt8))), (by first | rfl | (simp; done) | (simp [*]; done)), H', ⟨by have := HJ7.out; have := HK2.out; have := HK3.out; first | omega | exact Nat.le_refl _⟩, ⟨by (with_reducible repeat (first | apply Kd.R_alloc | apply Kd.R_drewN | apply Kd.R_drew)); exact Kd.R_mono (Kd.R_far (p := ⟨gb120, 2, none⟩) (Kd.R_far (p := ⟨gb120, 1, none⟩) (Kd.R_far (p := ⟨gb120, 0, none⟩) (Kd.R_mono HO_3.out (fun k_ hk => (⟨hk, hk.2⟩ : _ ∧ k_ ≠ gb120))) (fun _ hk => hk.2) (.int .i64 ((rd_T36 t102 x11_3).f0))) (fun _ hk => hk.2) (.int .i64 ((rd_T36 t102 x11_3).f1))) (fun _ hk => hk.2) (.string ((rd_T36 t102 x11_3).f2))) (fun _ hk => hk.1.2)⟩, ⟨by (with_reducible repeat (first | refine blk_drewN ?_ _ | refine blk_drew ?_ | refine blk_alloc ?_ _)); refine blk_put (cs := #[.int .i64 ((rd_T36 t102 x11_3).f0), .int .i64 ((rd_T36 t102 x11_3).f1), .string (⟨#[]⟩ : ByteArray)]) ?_ 2 _ rfl; (with_reducible repeat (first | refine blk_drewN ?_ _ | refine blk_drew ?_ | refine blk_alloc ?_ _)); refine blk_put (cs := #[.int .i64 ((rd_T36 t102 x11_3).f0), .int .i64 0, .string (⟨#[]⟩ : ByteArray)]) ?_ 1 _ rfl; (with_reducible repeat (first | refine blk_drewN ?_ _ | refine blk_drew ?_ | refine blk_alloc ?_ _)); refine blk_put (cs := #[.int .i64 0, .int .i64 0, .string (⟨#[]⟩ : ByteArray)]) ?_ 0 _ rfl; (with_reducible repeat (first | refine blk_drewN ?_ _ | refine blk_drew ?_ | refine blk_alloc ?_ _)); exact BK120.out⟩, ⟨by repeat (first | (with_reducible first | exact HB.out | apply below_alloc | apply pw_below_drewN | apply below_drew1 | refine below_set ?_ GE120.out) | exact HB.out)⟩⟩
                              · rw [if_neg c44] at H
                                have c44b0 : (((rd_T36 t102 x11_3).f1) == 0) = false := beq_eq_false_iff_ne.mpr c44
                                have c44b1 : (((rd_T36 t102 x11_3).f1) != 0) = true := bne_iff_ne.mpr c44
                                have H' := Aside0.mk H
                                clear H
                                have p121 : 0 ≤ ((ji33) : Int) := of_decide_eq_true (by first | (with_reducible assumption) | assumption)
                                have q121 : (ji33) < (t102.length : Int) := of_decide_eq_true (by first | (with_reducible assumption) | assumption)
                                obtain ⟨ad121, e121, hx121_0, hx121_1, hx121_2⟩ := at_T36 (Kd.R_reads' HO_3.out).2.2 (ji33) p121 q121
                                obtain rfl : ad119 = ad121 := (by injection e121)
                                have hn121_0 : ad119.block ≠ gb120 := Kd.own_blk (fun h_ => by first | exact ((HO_3.out).1 _ h_.symm).2 rfl | exact (HO_3.out).1 _ h_.symm rfl)
                                have hn121_1 : ad119.block ≠ gb120 := Kd.own_blk (fun h_ => by first | exact ((HO_3.out).1 _ h_.symm).2 rfl | exact (HO_3.out).1 _ h_.symm rfl)
                                have hn121_2 : ad119.block ≠ gb120 := Kd.own_blk (fun h_ => by first | exact ((HO_3.out).1 _ h_.symm).2 rfl | exact (HO_3.out).1 _ h_.symm rfl)
                                replace hx121_0 := (cell_far (p := ⟨gb120, 0, none⟩) (by first | (rw [add_block]; exact hn121_0) | (show (Addr.add _ _).block ≠ _; rw [add_block]; exact hn121_0) | exact hn121_0) (.int .i64 ((rd_T36 t102 x11_3).f0))).trans hx121_0
                                replace hx121_1 := (cell_far (p := ⟨gb120, 0, none⟩) (by first | (rw [add_block]; exact hn121_0) | (show (Addr.add _ _).block ≠ _; rw [add_block]; exact hn121_0) | exact hn121_0) (.int .i64 ((rd_T36 t102 x11_3).f0))).trans hx121_1
                                replace hx121_2 := (cell_far (p := ⟨gb120, 0, none⟩) (by first | (rw [add_block]; exact hn121_0) | (show (Addr.add _ _).block ≠ _; rw [add_block]; exact hn121_0) | exact hn121_0) (.int .i64 ((rd_T36 t102 x11_3).f0))).trans hx121_2
                                replace hx121_0 := (cell_far (p := ⟨gb120, 1, none⟩) (by first | (rw [add_block]; exact hn121_1) | (show (Addr.add _ _).block ≠ _; rw [add_block]; exact hn121_1) | exact hn121_1) (.int .i64 ((rd_T36 t102 x11_3).f1))).trans hx121_0
                                replace hx121_1 := (cell_far (p := ⟨gb120, 1, none⟩) (by first | (rw [add_block]; exact hn121_1) | (show (Addr.add _ _).block ≠ _; rw [add_block]; exact hn121_1) | exact hn121_1) (.int .i64 ((rd_T36 t102 x11_3).f1))).trans hx121_1
                                replace hx121_2 := (cell_far (p := ⟨gb120, 1, none⟩) (by first | (rw [add_block]; exact hn121_1) | (show (Addr.add _ _).block ≠ _; rw [add_block]; exact hn121_1) | exact hn121_1) (.int .i64 ((rd_T36 t102 x11_3).f1))).trans hx121_2
                                replace hx121_0 := (cell_far (p := ⟨gb120, 2, none⟩) (by first | (rw [add_block]; exact hn121_2) | (show (Addr.add _ _).block ≠ _; rw [add_block]; exact hn121_2) | exact hn121_2) (.string ((rd_T36 t102 x11_3).f2))).trans hx121_0
                                replace hx121_1 := (cell_far (p := ⟨gb120, 2, none⟩) (by first | (rw [add_block]; exact hn121_2) | (show (Addr.add _ _).block ≠ _; rw [add_block]; exact hn121_2) | exact hn121_2) (.string ((rd_T36 t102 x11_3).f2))).trans hx121_1
                                replace hx121_2 := (cell_far (p := ⟨gb120, 2, none⟩) (by first | (rw [add_block]; exact hn121_2) | (show (Addr.add _ _).block ≠ _; rw [add_block]; exact hn121_2) | exact hn121_2) (.string ((rd_T36 t102 x11_3).f2))).trans hx121_2
                                (try have hy121_0 := fun (n_ : Nat) => (show (((((w30.drewN n_).setCell ⟨gb120, 0, none⟩ (.int .i64 ((rd_T36 t102 x11_3).f0))).setCell ⟨gb120, 1, none⟩ (.int .i64 ((rd_T36 t102 x11_3).f1))).setCell ⟨gb120, 2, none⟩ (.string ((rd_T36 t102 x11_3).f2)))).cell? _ = some _ from hx121_0))
                                (try have hy121_1 := fun (n_ : Nat) => (show (((((w30.drewN n_).setCell ⟨gb120, 0, none⟩ (.int .i64 ((rd_T36 t102 x11_3).f0))).setCell ⟨gb120, 1, none⟩ (.int .i64 ((rd_T36 t102 x11_3).f1))).setCell ⟨gb120, 2, none⟩ (.string ((rd_T36 t102 x11_3).f2)))).cell? _ = some _ from hx121_1))
                                (try have hy121_2 := fun (n_ : Nat) => (show (((((w30.drewN n_).setCell ⟨gb120, 0, none⟩ (.int .i64 ((rd_T36 t102 x11_3).f0))).setCell ⟨gb120, 1, none⟩ (.int .i64 ((rd_T36 t102 x11_3).f1))).setCell ⟨gb120, 2, none⟩ (.string ((rd_T36 t102 x11_3).f2)))).cell? _ = some _ from hx121_2))
                                clear hn121_0
                                clear hn121_1
                                clear hn121_2
                                replace p121 := eq_true p121
                                replace q121 := eq_true q121
                                have hcz46_0 : w30.cell? ⟨gb120, 0, none⟩ = some (.int .i64 0) := (blk_cell BK120.out 0).trans rfl
                                have hcz46_1 : w30.cell? ⟨gb120, 1, none⟩ = some (.int .i64 0) := (blk_cell BK120.out 1).trans rfl
                                have hcz46_2 : w30.cell? ⟨gb120, 2, none⟩ = some (.string (⟨#[]⟩ : ByteArray)) := (blk_cell BK120.out 2).trans rfl
                                have hfz46_0 := blk_frozen BK120.out 0
                                have hfz46_1 := blk_frozen BK120.out 1
                                have hfz46_2 := blk_frozen BK120.out 2
                                have p122 : 0 ≤ ((ji33) : Int) := of_decide_eq_true (by first | (with_reducible assumption) | assumption)
                                have q122 : (ji33) < (t102.length : Int) := of_decide_eq_true (by first | (with_reducible assumption) | assumption)
                                obtain ⟨ad122, e122, hx122_0, hx122_1, hx122_2⟩ := at_T36 (Kd.R_reads' HO_3.out).2.2 (ji33) p122 q122
                                obtain rfl : ad119 = ad122 := (by injection e122)
                                have hn122_0 : ad119.block ≠ gb120 := Kd.own_blk (fun h_ => by first | exact ((HO_3.out).1 _ h_.symm).2 rfl | exact (HO_3.out).1 _ h_.symm rfl)
                                have hn122_1 : ad119.block ≠ gb120 := Kd.own_blk (fun h_ => by first | exact ((HO_3.out).1 _ h_.symm).2 rfl | exact (HO_3.out).1 _ h_.symm rfl)
                                have hn122_2 : ad119.block ≠ gb120 := Kd.own_blk (fun h_ => by first | exact ((HO_3.out).1 _ h_.symm).2 rfl | exact (HO_3.out).1 _ h_.symm rfl)
                                replace hx122_0 := (cell_far (p := ⟨gb120, 0, none⟩) (by first | (rw [add_block]; exact hn122_0) | (show (Addr.add _ _).block ≠ _; rw [add_block]; exact hn122_0) | exact hn122_0) (.int .i64 ((rd_T36 t102 x11_3).f0))).trans hx122_0
                                replace hx122_1 := (cell_far (p := ⟨gb120, 0, none⟩) (by first | (rw [add_block]; exact hn122_0) | (show (Addr.add _ _).block ≠ _; rw [add_block]; exact hn122_0) | exact hn122_0) (.int .i64 ((rd_T36 t102 x11_3).f0))).trans hx122_1
                                replace hx122_2 := (cell_far (p := ⟨gb120, 0, none⟩) (by first | (rw [add_block]; exact hn122_0) | (show (Addr.add _ _).block ≠ _; rw [add_block]; exact hn122_0) | exact hn122_0) (.int .i64 ((rd_T36 t102 x11_3).f0))).trans hx122_2
                                replace hx122_0 := (cell_far (p := ⟨gb120, 1, none⟩) (by first | (rw [add_block]; exact hn122_1) | (show (Addr.add _ _).block ≠ _; rw [add_block]; exact hn122_1) | exact hn122_1) (.int .i64 ((rd_T36 t102 x11_3).f1))).trans hx122_0
                                replace hx122_1 := (cell_far (p := ⟨gb120, 1, none⟩) (by first | (rw [add_block]; exact hn122_1) | (show (Addr.add _ _).block ≠ _; rw [add_block]; exact hn122_1) | exact hn122_1) (.int .i64 ((rd_T36 t102 x11_3).f1))).trans hx122_1
                                replace hx122_2 := (cell_far (p := ⟨gb120, 1, none⟩) (by first | (rw [add_block]; exact hn122_1) | (show (Addr.add _ _).block ≠ _; rw [add_block]; exact hn122_1) | exact hn122_1) (.int .i64 ((rd_T36 t102 x11_3).f1))).trans hx122_2
                                replace hx122_0 := (cell_far (p := ⟨gb120, 2, none⟩) (by first | (rw [add_block]; exact hn122_2) | (show (Addr.add _ _).block ≠ _; rw [add_block]; exact hn122_2) | exact hn122_2) (.string ((rd_T36 t102 x11_3).f2))).trans hx122_0
                                replace hx122_1 := (cell_far (p := ⟨gb120, 2, none⟩) (by first | (rw [add_block]; exact hn122_2) | (show (Addr.add _ _).block ≠ _; rw [add_block]; exact hn122_2) | exact hn122_2) (.string ((rd_T36 t102 x11_3).f2))).trans hx122_1
                                replace hx122_2 := (cell_far (p := ⟨gb120, 2, none⟩) (by first | (rw [add_block]; exact hn122_2) | (show (Addr.add _ _).block ≠ _; rw [add_block]; exact hn122_2) | exact hn122_2) (.string ((rd_T36 t102 x11_3).f2))).trans hx122_2
                                (try have hy122_0 := fun (n_ : Nat) => (show (((((w30.drewN n_).setCell ⟨gb120, 0, none⟩ (.int .i64 ((rd_T36 t102 x11_3).f0))).setCell ⟨gb120, 1, none⟩ (.int .i64 ((rd_T36 t102 x11_3).f1))).setCell ⟨gb120, 2, none⟩ (.string ((rd_T36 t102 x11_3).f2)))).cell? _ = some _ from hx122_0))
                                (try have hy122_1 := fun (n_ : Nat) => (show (((((w30.drewN n_).setCell ⟨gb120, 0, none⟩ (.int .i64 ((rd_T36 t102 x11_3).f0))).setCell ⟨gb120, 1, none⟩ (.int .i64 ((rd_T36 t102 x11_3).f1))).setCell ⟨gb120, 2, none⟩ (.string ((rd_T36 t102 x11_3).f2)))).cell? _ = some _ from hx122_1))
                                (try have hy122_2 := fun (n_ : Nat) => (show (((((w30.drewN n_).setCell ⟨gb120, 0, none⟩ (.int .i64 ((rd_T36 t102 x11_3).f0))).setCell ⟨gb120, 1, none⟩ (.int .i64 ((rd_T36 t102 x11_3).f1))).setCell ⟨gb120, 2, none⟩ (.string ((rd_T36 t102 x11_3).f2)))).cell? _ = some _ from hx122_2))
                                clear hn122_0
                                clear hn122_1
                                clear hn122_2
                                replace p122 := eq_true p122
                                replace q122 := eq_true q122
                                go_wp2
                                repeat (go_quiet (fail); try go_wp2)
                                go_meet
                                case rel => exact ⟨_, (false), (by first | rfl | (simp; done) | (simp [*]; done)), H', ⟨by have := HJ7.out; have := HK2.out; have := HK3.out; first | omega | exact Nat.le_refl _⟩, ⟨by (with_reducible repeat (first | apply Kd.R_alloc | apply Kd.R_drewN | apply Kd.R_drew)); exact Kd.R_mono (Kd.R_far (p := ⟨gb120, 2, none⟩) (Kd.R_far (p := ⟨gb120, 1, none⟩) (Kd.R_far (p := ⟨gb120, 0, none⟩) (Kd.R_mono HO_3.out (fun k_ hk => (⟨hk, hk.2⟩ : _ ∧ k_ ≠ gb120))) (fun _ hk => hk.2) (.int .i64 ((rd_T36 t102 x11_3).f0))) (fun _ hk => hk.2) (.int .i64 ((rd_T36 t102 x11_3).f1))) (fun _ hk => hk.2) (.string ((rd_T36 t102 x11_3).f2))) (fun _ hk => hk.1.2)⟩, ⟨by (with_reducible repeat (first | refine blk_drewN ?_ _ | refine blk_drew ?_ | refine blk_alloc ?_ _)); refine blk_put (cs := #[.int .i64 ((rd_T36 t102 x11_3).f0), .int .i64 ((rd_T36 t102 x11_3).f1), .string (⟨#[]⟩ : ByteArray)]) ?_ 2 _ rfl; (with_reducible repeat (first | refine blk_drewN ?_ _ | refine blk_drew ?_ | refine blk_alloc ?_ _)); refine blk_put (cs := #[.int .i64 ((rd_T36 t102 x11_3).f0), .int .i64 0, .string (⟨#[]⟩ : ByteArray)]) ?_ 1 _ rfl; (with_reducible repeat (first | refine blk_drewN ?_ _ | refine blk_drew ?_ | refine blk_alloc ?_ _)); refine blk_put (cs := #[.int .i64 0, .int .i64 0, .string (⟨#[]⟩ : ByteArray)]) ?_ 0 _ rfl; (with_reducible repeat (first | refine blk_drewN ?_ _ | refine blk_drew ?_ | refine blk_alloc ?_ _)); exact BK120.out⟩, ⟨by repeat (first | (with_reducible first | exact HB.out | apply below_alloc | apply pw_below_drewN | apply below_drew1 | refine below_set ?_ GE120.out) | exact HB.out)⟩⟩
                        · rw [if_neg c35] at H
                          exact absurd H (by simp)
                      · rw [if_neg c34] at H
                        exact absurd H (by simp)
                    · rw [if_neg c32] at H
                      have c32b0 : decide (0 < x11_3) = false := decide_eq_false c32
                      clear c32
                      (first | rw [c32b0] | (simp only [i64_w, i32_w]; rw [c32b0]) | skip)
                      by_cases c47 : ((rd_T36 t102 x11_3).f1) = 0
                      · rw [if_pos c47] at H
                        have c47b0 : (((rd_T36 t102 x11_3).f1) == 0) = true := beq_iff_eq.mpr c47
                        have c47b1 : (((rd_T36 t102 x11_3).f1) != 0) = false := bne_eq_false_iff_eq.mpr c47
                        clear c47
                        have H' := Aside0.mk H
                        clear H
                        have hcz48_0 : w30.cell? ⟨gb120, 0, none⟩ = some (.int .i64 0) := (blk_cell BK120.out 0).trans rfl
                        have hcz48_1 : w30.cell? ⟨gb120, 1, none⟩ = some (.int .i64 0) := (blk_cell BK120.out 1).trans rfl
                        have hcz48_2 : w30.cell? ⟨gb120, 2, none⟩ = some (.string (⟨#[]⟩ : ByteArray)) := (blk_cell BK120.out 2).trans rfl
                        have hfz48_0 := blk_frozen BK120.out 0
                        have hfz48_1 := blk_frozen BK120.out 1
                        have hfz48_2 := blk_frozen BK120.out 2
                        go_wp2
                        repeat (go_quiet (fail); try go_wp2)
                        go_meet
                        case rel => exact ⟨_, ((((rd_T36 t102 x11_3).f2).toList == ([] : List UInt8))), (by first | rfl | (simp; done) | (simp [*]; done)), H', ⟨by have := HJ7.out; have := HK2.out; have := HK3.out; first | omega | exact Nat.le_refl _⟩, ⟨by (with_reducible repeat (first | apply Kd.R_alloc | apply Kd.R_drewN | apply Kd.R_drew)); exact Kd.R_mono (Kd.R_far (p := ⟨gb120, 2, none⟩) (Kd.R_far (p := ⟨gb120, 1, none⟩) (Kd.R_far (p := ⟨gb120, 0, none⟩) (Kd.R_mono HO_3.out (fun k_ hk => (⟨hk, hk.2⟩ : _ ∧ k_ ≠ gb120))) (fun _ hk => hk.2) (.int .i64 ((rd_T36 t102 x11_3).f0))) (fun _ hk => hk.2) (.int .i64 ((rd_T36 t102 x11_3).f1))) (fun _ hk => hk.2) (.string ((rd_T36 t102 x11_3).f2))) (fun _ hk => hk.1.2)⟩, ⟨by (with_reducible repeat (first | refine blk_drewN ?_ _ | refine blk_drew ?_ | refine blk_alloc ?_ _)); refine blk_put (cs := #[.int .i64 ((rd_T36 t102 x11_3).f0), .int .i64 ((rd_T36 t102 x11_3).f1), .string (⟨#[]⟩ : ByteArray)]) ?_ 2 _ rfl; (with_reducible repeat (first | refine blk_drewN ?_ _ | refine blk_drew ?_ | refine blk_alloc ?_ _)); refine blk_put (cs := #[.int .i64 ((rd_T36 t102 x11_3).f0), .int .i64 0, .string (⟨#[]⟩ : ByteArray)]) ?_ 1 _ rfl; (with_reducible repeat (first | refine blk_drewN ?_ _ | refine blk_drew ?_ | refine blk_alloc ?_ _)); refine blk_put (cs := #[.int .i64 0, .int .i64 0, .string (⟨#[]⟩ : ByteArray)]) ?_ 0 _ rfl; (with_reducible repeat (first | refine blk_drewN ?_ _ | refine blk_drew ?_ | refine blk_alloc ?_ _)); exact BK120.out⟩, ⟨by repeat (first | (with_reducible first | exact HB.out | apply below_alloc | apply pw_below_drewN | apply below_drew1 | refine below_set ?_ GE120.out) | exact HB.out)⟩⟩
                      · rw [if_neg c47] at H
                        have c47b0 : (((rd_T36 t102 x11_3).f1) == 0) = false := beq_eq_false_iff_ne.mpr c47
                        have c47b1 : (((rd_T36 t102 x11_3).f1) != 0) = true := bne_iff_ne.mpr c47
                        have H' := Aside0.mk H
                        clear H
                        have hcz49_0 : w30.cell? ⟨gb120, 0, none⟩ = some (.int .i64 0) := (blk_cell BK120.out 0).trans rfl
                        have hcz49_1 : w30.cell? ⟨gb120, 1, none⟩ = some (.int .i64 0) := (blk_cell BK120.out 1).trans rfl
                        have hcz49_2 : w30.cell? ⟨gb120, 2, none⟩ = some (.string (⟨#[]⟩ : ByteArray)) := (blk_cell BK120.out 2).trans rfl
                        have hfz49_0 := blk_frozen BK120.out 0
                        have hfz49_1 := blk_frozen BK120.out 1
                        have hfz49_2 := blk_frozen BK120.out 2
                        go_wp2
                        repeat (go_quiet (fail); try go_wp2)
                        go_meet
                        case rel => exact ⟨_, (false), (by first | rfl | (simp; done) | (simp [*]; done)), H', ⟨by have := HJ7.out; have := HK2.out; have := HK3.out; first | omega | exact Nat.le_refl _⟩, ⟨by (with_reducible repeat (first | apply Kd.R_alloc | apply Kd.R_drewN | apply Kd.R_drew)); exact Kd.R_mono (Kd.R_far (p := ⟨gb120, 2, none⟩) (Kd.R_far (p := ⟨gb120, 1, none⟩) (Kd.R_far (p := ⟨gb120, 0, none⟩) (Kd.R_mono HO_3.out (fun k_ hk => (⟨hk, hk.2⟩ : _ ∧ k_ ≠ gb120))) (fun _ hk => hk.2) (.int .i64 ((rd_T36 t102 x11_3).f0))) (fun _ hk => hk.2) (.int .i64 ((rd_T36 t102 x11_3).f1))) (fun _ hk => hk.2) (.string ((rd_T36 t102 x11_3).f2))) (fun _ hk => hk.1.2)⟩, ⟨by (with_reducible repeat (first | refine blk_drewN ?_ _ | refine blk_drew ?_ | refine blk_alloc ?_ _)); refine blk_put (cs := #[.int .i64 ((rd_T36 t102 x11_3).f0), .int .i64 ((rd_T36 t102 x11_3).f1), .string (⟨#[]⟩ : ByteArray)]) ?_ 2 _ rfl; (with_reducible repeat (first | refine blk_drewN ?_ _ | refine blk_drew ?_ | refine blk_alloc ?_ _)); refine blk_put (cs := #[.int .i64 ((rd_T36 t102 x11_3).f0), .int .i64 0, .string (⟨#[]⟩ : ByteArray)]) ?_ 1 _ rfl; (with_reducible repeat (first | refine blk_drewN ?_ _ | refine blk_drew ?_ | refine blk_alloc ?_ _)); refine blk_put (cs := #[.int .i64 0, .int .i64 0, .string (⟨#[]⟩ : ByteArray)]) ?_ 0 _ rfl; (with_reducible repeat (first | refine blk_drewN ?_ _ | refine blk_drew ?_ | refine blk_alloc ?_ _)); exact BK120.out⟩, ⟨by repeat (first | (with_reducible first | exact HB.out | apply below_alloc | apply pw_below_drewN | apply below_drew1 | refine below_set ?_ GE120.out) | exact HB.out)⟩⟩
                   case rest =>
                    clear HC29
                    try clear c1
                    try clear p1
                    try clear q1
                    try clear hx1
                    try clear c2
                    try clear p2
                    try clear c3
                    try clear c4
                    try clear c6
                    try clear c6b0
                    try clear c6b1
                    try clear p6
                    try clear p11
                    try clear q11
                    try clear hx11
                    try clear p12
                    try clear q12
                    try clear hx12
                    try clear c14
                    try clear c14b0
                    try clear c14b1
                    try clear c16
                    try clear c21
                    try clear c22
                    try clear c22b0
                    try clear c23
                    try clear c23b0
                    try clear c24
                    try clear c24b0
                    try clear c24b1
                    try clear c25
                    try clear c25b0
                    try clear c25b1
                    try clear c26
                    try clear c26b0
                    try clear c26b1
                    try clear c26b2
                    try clear c27
                    try clear c27b0
                    try clear c28
                    try clear c28b0
                    try clear c32
                    try clear c32b0
                    try clear c34
                    try clear c34b0
                    try clear c35
                    try clear c35b0
                    try clear c36
                    try clear c36b0
                    try clear c36b1
                    try clear c38
                    try clear c38b0
                    try clear c38b1
                    try clear c39
                    try clear c39b0
                    try clear c39b1
                    try clear c41
                    try clear c41b0
                    try clear c41b1
                    try clear c44
                    try clear c44b0
                    try clear c44b1
                    try clear c47
                    try clear c47b0
                    try clear c47b1
                    try clear hcz31_0
                    try clear hcz31_1
                    try clear hcz31_2
                    try clear hcz37_0
                    try clear hcz37_1
                    try clear hcz37_2
                    try clear hcz40_0
                    try clear hcz40_1
                    try clear hcz40_2
                    try clear hcz42_0
                    try clear hcz42_1
                    try clear hcz42_2
                    try clear hcz43_0
                    try clear hcz43_1
                    try clear hcz43_2
                    try clear hcz45_0
                    try clear hcz45_1
                    try clear hcz45_2
                    try clear hcz46_0
                    try clear hcz46_1
                    try clear hcz46_2
                    try clear hcz48_0
                    try clear hcz48_1
                    try clear hcz48_2
                    try clear hcz49_0
                    try clear hcz49_1
                    try clear hcz49_2
                    try clear hfz31_0
                    try clear hfz31_1
                    try clear hfz31_2
                    try clear hfz37_0
                    try clear hfz37_1
                    try clear hfz37_2
                    try clear hfz40_0
                    try clear hfz40_1
                    try clear hfz40_2
                    try clear hfz42_0
                    try clear hfz42_1
                    try clear hfz42_2
                    try clear hfz43_0
                    try clear hfz43_1
                    try clear hfz43_2
                    try clear hfz45_0
                    try clear hfz45_1
                    try clear hfz45_2
                    try clear hfz46_0
                    try clear hfz46_1
                    try clear hfz46_2
                    try clear hfz48_0
                    try clear hfz48_1
                    try clear hfz48_2
                    try clear hfz49_0
                    try clear hfz49_1
                    try clear hfz49_2
                    try clear hx115_0
                    try clear hx115_1
                    try clear hx115_2
                    try clear hx116_0
                    try clear hx116_1
                    try clear hx116_2
                    try clear hx117_0
                    try clear hx117_1
                    try clear hx117_2
                    try clear hx118_0
                    try clear hx118_1
                    try clear hx118_2
                    try clear hx119_0
                    try clear hx119_1
                    try clear hx119_2
                    try clear hx121_0
                    try clear hx121_1
                    try clear hx121_2
                    try clear hx122_0
                    try clear hx122_1
                    try clear hx122_2
                    try clear p1
                    try clear p11
                    try clear p115
                    try clear p116
                    try clear p117
                    try clear p118
                    try clear p119
                    try clear p121
                    try clear p122
                    try clear p2
                    try clear p6
                    try clear q1
                    try clear q11
                    try clear q115
                    try clear q116
                    try clear q117
                    try clear q118
                    try clear q119
                    try clear q121
                    try clear q122
                    obtain ⟨kq, x132_28, rfl, HA, HJ28, HO_3, BK120, HB⟩ := hcut
                    cases kq with
                    | zero => exact absurd HA.out (by simp [minuetlaw2_CompsNormal.j3])
                    | succ kj28 =>
                     have H := HA.out
                     clear HA
                     simp only [minuetlaw2_CompsNormal.j3] at H
                     by_cases c50 : x132_28 = true
                     · subst c50
                       have H1 : (none) = some r := by rw [if_pos rfl] at H; exact H
                       clear H
                       have H := H1
                       clear H1
                       exact absurd H (by simp)
                     · replace c50 := Bool.eq_false_iff.mpr c50
                       subst c50
                       have H1 : (if ((rd_T36 t102 x11_3).f0) = 0 then (minuetlaw2_CompsNormal.l1 kj28 t102 (wrap64 (x7_3 - ((rd_T36 t102 x11_3).f1))) x8_3 x9_3 (wrap64 (x11_3 + 1))) else (if ((rd_T36 t102 x11_3).f0) = 2 then (minuetlaw2_CompsNormal.l1 kj28 t102 x7_3 (wrap64 (x8_3 - ((rd_T36 t102 x11_3).f1))) x9_3 (wrap64 (x11_3 + 1))) else (if (((rd_T36 t102 x11_3).f2).size : Int) > (x9_3.size : Int) then (none) else (if 0 ≤ (((rd_T36 t102 x11_3).f2).size : Int) then (if (((rd_T36 t102 x11_3).f2).size : Int) ≤ (x9_3.size : Int) then (if (x9_3.extract 0 ((((rd_T36 t102 x11_3).f2).size : Int) : Int).toNat).toList = ((rd_T36 t102 x11_3).f2).toList then (minuetlaw2_CompsNormal.l1 kj28 t102 x7_3 x8_3 (x9_3.extract ((((rd_T36 t102 x11_3).f2).size : Int) : Int).toNat x9_3.size) (wrap64 (x11_3 + 1))) else (none)) else (none)) else (none))))) = some r := by rw [if_neg (show ¬ (false = true) by decide)] at H; exact H
                       clear H
                       have H := H1
                       clear H1
                       by_cases c51 : ((rd_T36 t102 x11_3).f0) = 0
                       · rw [if_pos c51] at H
                         have c51b0 : (((rd_T36 t102 x11_3).f0) == 0) = true := beq_iff_eq.mpr c51
                         have c51b1 : (((rd_T36 t102 x11_3).f0) != 0) = false := bne_eq_false_iff_eq.mpr c51
                         clear c51
                         have H' := Aside0.mk H
                         clear H
                         have hcz52_0 : wc.cell? ⟨gb120, 0, none⟩ = some (.int .i64 ((rd_T36 t102 x11_3).f0)) := (blk_cell BK120.out 0).trans rfl
                         have hcz52_1 : wc.cell? ⟨gb120, 1, none⟩ = some (.int .i64 ((rd_T36 t102 x11_3).f1)) := (blk_cell BK120.out 1).trans rfl
                         have hcz52_2 : wc.cell? ⟨gb120, 2, none⟩ = some (.string ((rd_T36 t102 x11_3).f2)) := (blk_cell BK120.out 2).trans rfl
                         have hfz52_0 := blk_frozen BK120.out 0
                         have hfz52_1 := blk_frozen BK120.out 1
                         have hfz52_2 := blk_frozen BK120.out 2
                         go_wp2
                         repeat (go_quiet (fail); try go_wp2)
                         go_roundg kj28
                         case measure => have := HJ7.out; have := HK2.out; have := HK3.out; have := HJ28.out; omega
                         case rel => exact ⟨(wrap64 (x7_3 - ((rd_T36 t102 x11_3).f1))), (x8_3), (x9_3), (wrap64 (x11_3 + 1)), (by first | rfl | (simp; done) | (simp [*]; done)), (by first | rfl | (simp; done) | (simp [*]; done)), (by first | rfl | (simp; done) | (simp [*]; done)), (by first | rfl | (simp; done) | (simp [*]; done)), H', ⟨by have := HJ7.out; have := HK2.out; have := HK3.out; have := HJ28.out; omega⟩, ⟨by (with_reducible repeat (first | apply Kd.R_alloc | apply Kd.R_drewN | apply Kd.R_drew)); exact Kd.R_mono HO_3.out (fun _ hk => trivial)⟩, ⟨by repeat (first | (with_reducible first | exact HB.out | apply below_alloc | apply pw_below_drewN | apply below_drew1 | refine below_set ?_ GE120.out) | exact HB.out)⟩⟩
                       · rw [if_neg c51] at H
                         have c51b0 : (((rd_T36 t102 x11_3).f0) == 0) = false := beq_eq_false_iff_ne.mpr c51
                         have c51b1 : (((rd_T36 t102 x11_3).f0) != 0) = true := bne_iff_ne.mpr c51
                         by_cases c53 : ((rd_T36 t102 x11_3).f0) = 2
                         · rw [if_pos c53] at H
                           have c53b0 : (((rd_T36 t102 x11_3).f0) == 2) = true := beq_iff_eq.mpr c53
                           have c53b1 : (((rd_T36 t102 x11_3).f0) != 2) = false := bne_eq_false_iff_eq.mpr c53
                           clear c53
                           have H' := Aside0.mk H
                           clear H
                           have hcz54_0 : wc.cell? ⟨gb120, 0, none⟩ = some (.int .i64 ((rd_T36 t102 x11_3).f0)) := (blk_cell BK120.out 0).trans rfl
                           have hcz54_1 : wc.cell? ⟨gb120, 1, none⟩ = some (.int .i64 ((rd_T36 t102 x11_3).f1)) := (blk_cell BK120.out 1).trans rfl
                           have hcz54_2 : wc.cell? ⟨gb120, 2, none⟩ = some (.string ((rd_T36 t102 x11_3).f2)) := (blk_cell BK120.out 2).trans rfl
                           have hfz54_0 := blk_frozen BK120.out 0
                           have hfz54_1 := blk_frozen BK120.out 1
                           have hfz54_2 := blk_frozen BK120.out 2
                           go_wp2
                           repeat (go_quiet (fail); try go_wp2)
                           go_roundg kj28
                           case measure => have := HJ7.out; have := HK2.out; have := HK3.out; have := HJ28.out; omega
                           case rel => exact ⟨(x7_3), (wrap64 (x8_3 - ((rd_T36 t102 x11_3).f1))), (x9_3), (wrap64 (x11_3 + 1)), (by first | rfl | (simp; done) | (simp [*]; done)), (by first | rfl | (simp; done) | (simp [*]; done)), (by first | rfl | (simp; done) | (simp [*]; done)), (by first | rfl | (simp; done) | (simp [*]; done)), H', ⟨by have := HJ7.out; have := HK2.out; have := HK3.out; have := HJ28.out; omega⟩, ⟨by (with_reducible repeat (first | apply Kd.R_alloc | apply Kd.R_drewN | apply Kd.R_drew)); exact Kd.R_mono HO_3.out (fun _ hk => trivial)⟩, ⟨by repeat (first | (with_reducible first | exact HB.out | apply below_alloc | apply pw_below_drewN | apply below_drew1 | refine below_set ?_ GE120.out) | exact HB.out)⟩⟩
                         · rw [if_neg c53] at H
                           have c53b0 : (((rd_T36 t102 x11_3).f0) == 2) = false := beq_eq_false_iff_ne.mpr c53
                           have c53b1 : (((rd_T36 t102 x11_3).f0) != 2) = true := bne_iff_ne.mpr c53
                           by_cases c55 : (((rd_T36 t102 x11_3).f2).size : Int) > (x9_3.size : Int)
                           · rw [if_pos c55] at H
                             exact absurd H (by simp)
                           · rw [if_neg c55] at H
                             have c55b0 : decide ((x9_3.size : Int) < (((rd_T36 t102 x11_3).f2).size : Int)) = false := decide_eq_false c55
                             have c55b1 : decide (x9_3.size < ((rd_T36 t102 x11_3).f2).size) = false := decide_eq_false (fun h => c55 (Int.ofNat_lt.mpr h))
                             clear c55
                             by_cases c56 : 0 ≤ (((rd_T36 t102 x11_3).f2).size : Int)
                             · rw [if_pos c56] at H
                               have c56b0 := eq_true c56
                               have c56b1 : decide (0 ≤ (((rd_T36 t102 x11_3).f2).size : Int)) = true := decide_eq_true c56
                               clear c56
                               by_cases c57 : (((rd_T36 t102 x11_3).f2).size : Int) ≤ (x9_3.size : Int)
                               · rw [if_pos c57] at H
                                 have c57b0 := eq_true c57
                                 have c57b1 : decide ((((rd_T36 t102 x11_3).f2).size : Int) ≤ (x9_3.size : Int)) = true := decide_eq_true c57
                                 clear c57
                                 by_cases c58 : (x9_3.extract 0 ((((rd_T36 t102 x11_3).f2).size : Int) : Int).toNat).toList = ((rd_T36 t102 x11_3).f2).toList
                                 · rw [if_pos c58] at H
                                   have c58b0 : ((x9_3.extract 0 ((((rd_T36 t102 x11_3).f2).size : Int) : Int).toNat).toList == ((rd_T36 t102 x11_3).f2).toList) = true := beq_iff_eq.mpr c58
                                   have c58b1 : ((x9_3.extract 0 ((((rd_T36 t102 x11_3).f2).size : Int) : Int).toNat).toList != ((rd_T36 t102 x11_3).f2).toList) = false := bne_eq_false_iff_eq.mpr c58
                                   have c58e : (x9_3.extract 0 ((rd_T36 t102 x11_3).f2).size).toList = ((rd_T36 t102 x11_3).f2).toList := by have h_ := c58; rw [Int.toNat_natCast] at h_; exact h_
                                   have c58b8 : ((x9_3.extract 0 ((rd_T36 t102 x11_3).f2).size).toList == ((rd_T36 t102 x11_3).f2).toList) = true := beq_iff_eq.mpr c58e
                                   have c58b9 : ((x9_3.extract 0 ((rd_T36 t102 x11_3).f2).size).toList != ((rd_T36 t102 x11_3).f2).toList) = false := bne_eq_false_iff_eq.mpr c58e
                                   clear c58e
                                   clear c58
                                   have c59b0 := eq_true (of_decide_eq_true (by first | (with_reducible assumption) | assumption) : 0 ≤ (((rd_T36 t102 x11_3).f2).size : Int))
                                   have c60b0 := eq_true (of_decide_eq_true (by first | (with_reducible assumption) | assumption) : (((rd_T36 t102 x11_3).f2).size : Int) ≤ (x9_3.size : Int))
                                   have H' := Aside0.mk H
                                   clear H
                                   have hcz61_0 : wc.cell? ⟨gb120, 0, none⟩ = some (.int .i64 ((rd_T36 t102 x11_3).f0)) := (blk_cell BK120.out 0).trans rfl
                                   have hcz61_1 : wc.cell? ⟨gb120, 1, none⟩ = some (.int .i64 ((rd_T36 t102 x11_3).f1)) := (blk_cell BK120.out 1).trans rfl
                                   have hcz61_2 : wc.cell? ⟨gb120, 2, none⟩ = some (.string ((rd_T36 t102 x11_3).f2)) := (blk_cell BK120.out 2).trans rfl
                                   have hfz61_0 := blk_frozen BK120.out 0
                                   have hfz61_1 := blk_frozen BK120.out 1
                                   have hfz61_2 := blk_frozen BK120.out 2
                                   go_wp2
                                   repeat (go_quiet (fail); try go_wp2)
                                   go_roundg kj28
                                   case measure => have := HJ7.out; have := HK2.out; have := HK3.out; have := HJ28.out; omega
                                   case rel => exact ⟨(x7_3), (x8_3), (x9_3.extract ((((rd_T36 t102 x11_3).f2).size : Int) : Int).toNat x9_3.size), (wrap64 (x11_3 + 1)), (by first | rfl | (simp; done) | (simp [*]; done)), (by first | rfl | (simp; done) | (simp [*]; done)), (by first | rfl | (simp; done) | (simp [*]; done)), (by first | rfl | (simp; done) | (simp [*]; done)), H', ⟨by have := HJ7.out; have := HK2.out; have := HK3.out; have := HJ28.out; omega⟩, ⟨by (with_reducible repeat (first | apply Kd.R_alloc | apply Kd.R_drewN | apply Kd.R_drew)); exact Kd.R_mono HO_3.out (fun _ hk => trivial)⟩, ⟨by repeat (first | (with_reducible first | exact HB.out | apply below_alloc | apply pw_below_drewN | apply below_drew1 | refine below_set ?_ GE120.out) | exact HB.out)⟩⟩
                                 · rw [if_neg c58] at H
                                   exact absurd H (by simp)
                               · rw [if_neg c57] at H
                                 exact absurd H (by simp)
                             · rw [if_neg c56] at H
                               exact absurd H (by simp)
                 · rw [if_neg c28] at H
                   exact absurd H (by simp)
               · rw [if_neg c27] at H
                 have c27b0 : decide (x11_3 < (t102.length : Int)) = false := decide_eq_false c27
                 clear c27
                 by_cases c62 : x7_3 = 0
                 · rw [if_pos c62] at H
                   have c62b0 : (x7_3 == 0) = true := beq_iff_eq.mpr c62
                   have c62b1 : (x7_3 != 0) = false := bne_eq_false_iff_eq.mpr c62
                   clear c62
                   by_cases c63 : x8_3 = 0
                   · rw [if_pos c63] at H
                     have c63b0 : (x8_3 == 0) = true := beq_iff_eq.mpr c63
                     have c63b1 : (x8_3 != 0) = false := bne_eq_false_iff_eq.mpr c63
                     clear c63
                     obtain rfl := Option.some.inj H
                     go_wp2
                     repeat (go_quiet (fail); try go_wp2)
                     go_ret
                     exact ⟨by first | rfl | (simp [errW_none, errW_some] <;> rfl) | (simp [*, errW_none, errW_some] <;> rfl), by repeat (first | (with_reducible first | exact HB.out | apply below_alloc | apply pw_below_drewN | apply below_drew1) | exact HB.out)⟩
                   · rw [if_neg c63] at H
                     exact absurd H (by simp)
                 · rw [if_neg c62] at H
                   exact absurd H (by simp)
   · rw [if_neg c6] at H
     have c6b0 : (t106 == 0) = false := beq_eq_false_iff_ne.mpr c6
     have c6b1 : (t106 != 0) = true := bne_iff_ne.mpr c6
     by_cases c64 : (t102.length : Int) = 0
     · rw [if_pos c64] at H
       have c64b0 : ((t102.length : Int) == 0) = true := beq_iff_eq.mpr c64
       have c64b1 : ((t102.length : Int) != 0) = false := bne_eq_false_iff_eq.mpr c64
       clear c64
       replace H := Option.bind_eq_some_iff.mp H
       obtain ⟨t107, A650, H⟩ := H
       replace H : (some (t107 == 200)) = some r := H
       have A65 := Aside0.mk A650
       clear A650
       obtain rfl := Option.some.inj H
       go_enter Try.func4, Try.ntmps4
       go_wp2_with (first | (go_at_call 11; (with_reducible refine (minuetlaw2_awake.calls k  true _ A2.out).mono ?_); rintro e w66 ⟨rfl, hb⟩; have n0_ := Aside0.mk (below_step (by repeat (first | (with_reducible first | exact HB.out | apply below_alloc | apply pw_below_drewN | apply below_drew1) | exact HB.out)) hb); clear HB; have HB := n0_; clear n0_; (try clear hb); (try clear hb2); (try clear hk); (try clear hi)) | (go_at_call 12; (with_reducible refine (comp_Normal.calls k _ _ l0 t102 t103 _ ?side1 ?side2 A4.out).mono ?_); (case side1 => repeat (first | exact (Kd.C_below HR0.out HB.out) | (with_reducible refine Kd.C_alloc ?_ _) | (with_reducible refine Kd.C_drewN ?_ _) | (with_reducible refine Kd.C_drew ?_))); (case side2 => exact HC0.out); rintro e w67 ⟨v104, rfl, ho0, hb⟩; have n0_ := Aside0.mk (Kd.R_lower ho0 (below_size (by repeat (first | (with_reducible first | exact HB.out | apply below_alloc | apply pw_below_drewN | apply below_drew1) | exact HB.out)))); have n1_ := Aside0.mk (below_step (by repeat (first | (with_reducible first | exact HB.out | apply below_alloc | apply pw_below_drewN | apply below_drew1) | exact HB.out)) hb); clear HB; have HO105 := n0_; have HB := n1_; clear n0_ n1_; (try clear hb); (try clear hb2); (try clear hk); (try clear hi); (try clear ho0)) | (go_at_call 8; (with_reducible refine (minuetlaw0_Num.calls t103 t106 _ A5.out).mono ?_); rintro e w' ⟨rfl, ⟨nd, rfl⟩⟩; (try first | exact ⟨rfl, _, World.drewN_drewN _ _ _⟩ | exact ⟨rfl, _, Eq.trans (World.drewN_drewN _ _ _) (congrArg (World.drewN _) (Nat.add_assoc _ _ _))⟩); obtain ⟨Ao68, co68, eo68⟩ := Kd.R_slice HO105.out; subst eo68) | (go_at_call 8; (with_reducible refine (minuetlaw0_Num.calls t103 t107 _ A65.out).mono ?_); rintro e w' ⟨rfl, ⟨nd, rfl⟩⟩; (try first | exact ⟨rfl, _, World.drewN_drewN _ _ _⟩ | exact ⟨rfl, _, Eq.trans (World.drewN_drewN _ _ _) (congrArg (World.drewN _) (Nat.add_assoc _ _ _))⟩)))
       repeat (go_quiet (first | (go_at_call 11; (with_reducible refine (minuetlaw2_awake.calls k  true _ A2.out).mono ?_); rintro e w66 ⟨rfl, hb⟩; have n0_ := Aside0.mk (below_step (by repeat (first | (with_reducible first | exact HB.out | apply below_alloc | apply pw_below_drewN | apply below_drew1) | exact HB.out)) hb); clear HB; have HB := n0_; clear n0_; (try clear hb); (try clear hb2); (try clear hk); (try clear hi)) | (go_at_call 12; (with_reducible refine (comp_Normal.calls k _ _ l0 t102 t103 _ ?side1 ?side2 A4.out).mono ?_); (case side1 => repeat (first | exact (Kd.C_below HR0.out HB.out) | (with_reducible refine Kd.C_alloc ?_ _) | (with_reducible refine Kd.C_drewN ?_ _) | (with_reducible refine Kd.C_drew ?_))); (case side2 => exact HC0.out); rintro e w67 ⟨v104, rfl, ho0, hb⟩; have n0_ := Aside0.mk (Kd.R_lower ho0 (below_size (by repeat (first | (with_reducible first | exact HB.out | apply below_alloc | apply pw_below_drewN | apply below_drew1) | exact HB.out)))); have n1_ := Aside0.mk (below_step (by repeat (first | (with_reducible first | exact HB.out | apply below_alloc | apply pw_below_drewN | apply below_drew1) | exact HB.out)) hb); clear HB; have HO105 := n0_; have HB := n1_; clear n0_ n1_; (try clear hb); (try clear hb2); (try clear hk); (try clear hi); (try clear ho0)) | (go_at_call 8; (with_reducible refine (minuetlaw0_Num.calls t103 t106 _ A5.out).mono ?_); rintro e w' ⟨rfl, ⟨nd, rfl⟩⟩; (try first | exact ⟨rfl, _, World.drewN_drewN _ _ _⟩ | exact ⟨rfl, _, Eq.trans (World.drewN_drewN _ _ _) (congrArg (World.drewN _) (Nat.add_assoc _ _ _))⟩); obtain ⟨Ao68, co68, eo68⟩ := Kd.R_slice HO105.out; subst eo68) | (go_at_call 8; (with_reducible refine (minuetlaw0_Num.calls t103 t107 _ A65.out).mono ?_); rintro e w' ⟨rfl, ⟨nd, rfl⟩⟩; (try first | exact ⟨rfl, _, World.drewN_drewN _ _ _⟩ | exact ⟨rfl, _, Eq.trans (World.drewN_drewN _ _ _) (congrArg (World.drewN _) (Nat.add_assoc _ _ _))⟩))); try go_wp2_with (first | (go_at_call 11; (with_reducible refine (minuetlaw2_awake.calls k  true _ A2.out).mono ?_); rintro e w66 ⟨rfl, hb⟩; have n0_ := Aside0.mk (below_step (by repeat (first | (with_reducible first | exact HB.out | apply below_alloc | apply pw_below_drewN | apply below_drew1) | exact HB.out)) hb); clear HB; have HB := n0_; clear n0_; (try clear hb); (try clear hb2); (try clear hk); (try clear hi)) | (go_at_call 12; (with_reducible refine (comp_Normal.calls k _ _ l0 t102 t103 _ ?side1 ?side2 A4.out).mono ?_); (case side1 => repeat (first | exact (Kd.C_below HR0.out HB.out) | (with_reducible refine Kd.C_alloc ?_ _) | (with_reducible refine Kd.C_drewN ?_ _) | (with_reducible refine Kd.C_drew ?_))); (case side2 => exact HC0.out); rintro e w67 ⟨v104, rfl, ho0, hb⟩; have n0_ := Aside0.mk (Kd.R_lower ho0 (below_size (by repeat (first | (with_reducible first | exact HB.out | apply below_alloc | apply pw_below_drewN | apply below_drew1) | exact HB.out)))); have n1_ := Aside0.mk (below_step (by repeat (first | (with_reducible first | exact HB.out | apply below_alloc | apply pw_below_drewN | apply below_drew1) | exact HB.out)) hb); clear HB; have HO105 := n0_; have HB := n1_; clear n0_ n1_; (try clear hb); (try clear hb2); (try clear hk); (try clear hi); (try clear ho0)) | (go_at_call 8; (with_reducible refine (minuetlaw0_Num.calls t103 t106 _ A5.out).mono ?_); rintro e w' ⟨rfl, ⟨nd, rfl⟩⟩; (try first | exact ⟨rfl, _, World.drewN_drewN _ _ _⟩ | exact ⟨rfl, _, Eq.trans (World.drewN_drewN _ _ _) (congrArg (World.drewN _) (Nat.add_assoc _ _ _))⟩); obtain ⟨Ao68, co68, eo68⟩ := Kd.R_slice HO105.out; subst eo68) | (go_at_call 8; (with_reducible refine (minuetlaw0_Num.calls t103 t107 _ A65.out).mono ?_); rintro e w' ⟨rfl, ⟨nd, rfl⟩⟩; (try first | exact ⟨rfl, _, World.drewN_drewN _ _ _⟩ | exact ⟨rfl, _, Eq.trans (World.drewN_drewN _ _ _) (congrArg (World.drewN _) (Nat.add_assoc _ _ _))⟩))))
       go_ret
       exact ⟨by first | rfl | (simp [errW_none, errW_some] <;> rfl) | (simp [*, errW_none, errW_some] <;> rfl), by repeat (first | (with_reducible first | exact HB.out | apply below_alloc | apply pw_below_drewN | apply below_drew1) | exact HB.out)⟩
     · rw [if_neg c64] at H
       exact absurd H (by simp)
 · replace c3 := Bool.eq_false_iff.mpr c3
   subst c3
   have H1 : (none) = some r := by rw [if_neg (show ¬ (false = true) by decide)] at H; exact H
   clear H
   have H := H1
   clear H1
   exact absurd H (by simp)

end Go.Proofs.Ytgbajaljfbgilaa.G
