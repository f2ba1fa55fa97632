-- Laid by this session's own program gprint.py (wip/tools), out of the kit's print and of texts of this session. Lean checks it.
import Derived.Test.YtbkkcoppncgegabGx0
import Derived.Test.YtbkkcoppncgegabGApplyPApply
import Derived.Test.YtbkkcoppncgegabGMinuetlaw0PNum
import Derived.Test.YtbkkcoppncgegabGMinuetlaw3qawake
import Derived.Test.YtbkkcoppncgegabGMinuetlaw0PCopyComps
import Derived.Test.YtbkkcoppncgegabGMinuetref1PNormal
namespace Go.Proofs.Ytbkkcoppncgegab.G
open Go.RowKit Go.Proofs.YtbkkcoppncgegabW.PrintWords Go.Proofs.YtbkkcoppncgegabW.PrintLast Go.Proofs.YtbkkcoppncgegabW.PrintMore
attribute [local go_sem] max2_int min2_int max_two min_two max_three min_three max_four min_four   -- for this text's walks alone
set_option linter.unusedVariables false
set_option linter.unusedSimpArgs false

/-! ### minuetlaw3_ApplyParts: function 3 -/
mutual
def minuetlaw3_ApplyParts.j0 : Nat → ByteArray → List (S30) → ByteArray → List (S30) → ByteArray → Int → ByteArray → Int → Bool → Option (Bool)
 | 0, _, _, _, _, _, _, _, _, _ => none
 | k + 1, x0, x1, x2, x3, x9, x10, x11, x12, x64 => if x64 = true then ((minuetlaw0_Num.f x10).bind fun t108 => (if t108 = 0 then ((minuetlaw0_Num.f x12).bind fun t109 => (if t109 = 0 then (some true) else (some (x11.toList == ([] : List UInt8))))) else (if x9.toList = ([] : List UInt8) then ((minuetlaw0_Num.f x12).bind fun t110 => (if t110 = 0 then (some true) else (some (x11.toList == ([] : List UInt8))))) else (none)))) else ((minuetlaw0_CopyComps.f x1).bind fun t111 => (minuetlaw3_ApplyParts.l0 k x0 x2 x3 x9 x11 t111 0))
def minuetlaw3_ApplyParts.l0 : Nat → ByteArray → ByteArray → List (S30) → ByteArray → ByteArray → List (S30) → Int → Option (Bool)
 | 0, _, _, _, _, _, _, _ => none
 | k + 1, x0, x2, x3, x9, x11, x13, x14 => if x14 < (x3.length : Int) then (if 0 ≤ x14 then (if x13.length < 4398046511104 then (minuetlaw3_ApplyParts.l0 k x0 x2 x3 x9 x11 (x13 ++ [(⟨(rd_T30 x3 x14).f0, (rd_T30 x3 x14).f1, (rd_T30 x3 x14).f2⟩ : S30)]) (wrap64 (x14 + 1))) else (none)) else (none)) else ((minuetref1_Normal.f k x13).bind fun bt118 => (if x0.size + x2.size ≤ 9223372036854775807 then ((apply_Apply.f k (x0 ++ x2) bt118.1).bind fun bt122 => (if bt118.2 = 0 then ((minuetlaw0_Num.f bt122.2).bind fun t124 => (if t124 = 0 then (if x9.size + x11.size ≤ 9223372036854775807 then (some (bt122.1.toList == (x9 ++ x11).toList)) else (none)) else (none))) else (none))) else (none)))
end
def minuetlaw3_ApplyParts.f (k : Nat) (a0 : ByteArray) (l1 : List (S30)) (a2 : ByteArray) (l3 : List (S30)) : Option (Bool) := (minuetlaw3_awake.f k).bind fun t101 => (if t101 = true then ((apply_Apply.f k a0 l1).bind fun bt102 => ((apply_Apply.f k a2 l3).bind fun bt104 => ((minuetlaw0_Num.f bt102.2).bind fun t106 => (if t106 = 0 then ((minuetlaw0_Num.f bt104.2).bind fun t107 => (if t107 = 0 then (if (wrap64 ((a0.size : Int) + (a2.size : Int))) > 4096 then (minuetlaw3_ApplyParts.j0 k a0 l1 a2 l3 bt102.1 bt102.2 bt104.1 bt104.2 true) else (if (wrap64 ((bt102.1.size : Int) + (bt104.1.size : Int))) > 4096 then (minuetlaw3_ApplyParts.j0 k a0 l1 a2 l3 bt102.1 bt102.2 bt104.1 bt104.2 true) else (minuetlaw3_ApplyParts.j0 k a0 l1 a2 l3 bt102.1 bt102.2 bt104.1 bt104.2 (decide ((wrap64 ((l1.length : Int) + (l3.length : Int))) > 4096))))) else (minuetlaw3_ApplyParts.j0 k a0 l1 a2 l3 bt102.1 bt102.2 bt104.1 bt104.2 true))) else (minuetlaw3_ApplyParts.j0 k a0 l1 a2 l3 bt102.1 bt102.2 bt104.1 bt104.2 true))))) else (none))
theorem minuetlaw3_ApplyParts.mono_l : ∀ k, (∀ y0 y1 y2 y3 y4 y5 y6 y7 y8, LeO (minuetlaw3_ApplyParts.j0 k y0 y1 y2 y3 y4 y5 y6 y7 y8) (minuetlaw3_ApplyParts.j0 (k + 1) y0 y1 y2 y3 y4 y5 y6 y7 y8)) ∧ (∀ y0 y1 y2 y3 y4 y5 y6, LeO (minuetlaw3_ApplyParts.l0 k y0 y1 y2 y3 y4 y5 y6) (minuetlaw3_ApplyParts.l0 (k + 1) y0 y1 y2 y3 y4 y5 y6))
 | 0 => ⟨fun _ _ _ _ _ _ _ _ _ r h => by simp [minuetlaw3_ApplyParts.j0] at h, fun _ _ _ _ _ _ _ r h => by simp [minuetlaw3_ApplyParts.l0] at h⟩
 | k + 1 => by
  obtain ⟨ih0, ih1⟩ := minuetlaw3_ApplyParts.mono_l k
  refine ⟨?_, ?_⟩
  · intro y0 y1 y2 y3 y4 y5 y6 y7 y8
    unfold minuetlaw3_ApplyParts.j0
    repeat' first
    | (with_reducible exact ih0 _ _ _ _ _ _ _ _ _)
    | (with_reducible exact ih1 _ _ _ _ _ _ _)
    | (with_reducible exact apply_Apply.mono _ _ _)
    | (with_reducible exact minuetlaw3_awake.mono _)
    | (with_reducible exact minuetref1_Normal.mono _ _)
    | (with_reducible exact LeO.refl _)
    | (with_reducible exact LeO.none _)
    | (with_reducible refine LeO.ite ?_ ?_)
    | (with_reducible refine LeO.bind ?_ (fun _ => ?_))
    | exact ih0 _ _ _ _ _ _ _ _ _
    | exact ih1 _ _ _ _ _ _ _
    | exact apply_Apply.mono _ _ _
    | exact minuetlaw3_awake.mono _
    | exact minuetref1_Normal.mono _ _
    | exact LeO.none _
    | refine LeO.ite ?_ ?_
    | refine LeO.bind ?_ (fun _ => ?_)
  · intro y0 y1 y2 y3 y4 y5 y6
    unfold minuetlaw3_ApplyParts.l0
    repeat' first
    | (with_reducible exact ih0 _ _ _ _ _ _ _ _ _)
    | (with_reducible exact ih1 _ _ _ _ _ _ _)
    | (with_reducible exact apply_Apply.mono _ _ _)
    | (with_reducible exact minuetlaw3_awake.mono _)
    | (with_reducible exact minuetref1_Normal.mono _ _)
    | (with_reducible exact LeO.refl _)
    | (with_reducible exact LeO.none _)
    | (with_reducible refine LeO.ite ?_ ?_)
    | (with_reducible refine LeO.bind ?_ (fun _ => ?_))
    | exact ih0 _ _ _ _ _ _ _ _ _
    | exact ih1 _ _ _ _ _ _ _
    | exact apply_Apply.mono _ _ _
    | exact minuetlaw3_awake.mono _
    | exact minuetref1_Normal.mono _ _
    | exact LeO.none _
    | refine LeO.ite ?_ ?_
    | refine LeO.bind ?_ (fun _ => ?_)
theorem minuetlaw3_ApplyParts.mono : ∀ a0 a1 a2 a3 k, LeO (minuetlaw3_ApplyParts.f k a0 a1 a2 a3) (minuetlaw3_ApplyParts.f (k + 1) a0 a1 a2 a3) := by
 intro a0 a1 a2 a3 k
 obtain ⟨ih0, ih1⟩ := minuetlaw3_ApplyParts.mono_l k
 unfold minuetlaw3_ApplyParts.f
 repeat' first
  | (with_reducible exact ih0 _ _ _ _ _ _ _ _ _)
  | (with_reducible exact ih1 _ _ _ _ _ _ _)
  | (with_reducible exact apply_Apply.mono _ _ _)
  | (with_reducible exact minuetlaw3_awake.mono _)
  | (with_reducible exact minuetref1_Normal.mono _ _)
  | (with_reducible exact LeO.refl _)
  | (with_reducible exact LeO.none _)
  | (with_reducible refine LeO.ite ?_ ?_)
  | (with_reducible refine LeO.bind ?_ (fun _ => ?_))
  | exact ih0 _ _ _ _ _ _ _ _ _
  | exact ih1 _ _ _ _ _ _ _
  | exact apply_Apply.mono _ _ _
  | exact minuetlaw3_awake.mono _
  | exact minuetref1_Normal.mono _ _
  | exact LeO.none _
  | refine LeO.ite ?_ ?_
  | refine LeO.bind ?_ (fun _ => ?_)
set_option maxHeartbeats 8000000 in
set_option maxRecDepth 100000 in
theorem minuetlaw3_ApplyParts.calls (k : Nat) (a0 : ByteArray) (A1 : Option Addr) (c1 : Nat) (l1 : List (S30)) (a2 : ByteArray) (A3 : Option Addr) (c3 : Nat) (l3 : List (S30)) (r : Bool) (w : World) (hr1 : Kd.C k30 w A1 l1.length l1) (hc1 : l1.length ≤ c1) (hr3 : Kd.C k30 w A3 l3.length l3) (hc3 : l3.length ≤ c3) (h : minuetlaw3_ApplyParts.f k a0 l1 a2 l3 = some r) :
 Calls Try.prog 3 #[.string a0, .slice A1 l1.length c1, .string a2, .slice A3 l3.length c3] w fun e w' => e = .returned (.bool r) ∧ Below w.heap.size w w' := by
 have hu30 := Try.underlying30
 have HR1 := Aside0.mk hr1
 have HC1 := Aside0.mk hc1
 clear hr1 hc1
 have HR3 := Aside0.mk hr3
 have HC3 := Aside0.mk hc3
 clear hr3 hc3
 have HB := Aside0.mk (Below.refl w.heap.size w)
 have H : ((minuetlaw3_awake.f k).bind fun t101 => (if t101 = true then ((apply_Apply.f k a0 l1).bind fun bt102 => ((apply_Apply.f k a2 l3).bind fun bt104 => ((minuetlaw0_Num.f bt102.2).bind fun t106 => (if t106 = 0 then ((minuetlaw0_Num.f bt104.2).bind fun t107 => (if t107 = 0 then (if (wrap64 ((a0.size : Int) + (a2.size : Int))) > 4096 then (minuetlaw3_ApplyParts.j0 k a0 l1 a2 l3 bt102.1 bt102.2 bt104.1 bt104.2 true) else (if (wrap64 ((bt102.1.size : Int) + (bt104.1.size : Int))) > 4096 then (minuetlaw3_ApplyParts.j0 k a0 l1 a2 l3 bt102.1 bt102.2 bt104.1 bt104.2 true) else (minuetlaw3_ApplyParts.j0 k a0 l1 a2 l3 bt102.1 bt102.2 bt104.1 bt104.2 (decide ((wrap64 ((l1.length : Int) + (l3.length : Int))) > 4096))))) else (minuetlaw3_ApplyParts.j0 k a0 l1 a2 l3 bt102.1 bt102.2 bt104.1 bt104.2 true))) else (minuetlaw3_ApplyParts.j0 k a0 l1 a2 l3 bt102.1 bt102.2 bt104.1 bt104.2 true))))) else (none))) = some r := h
 clear h
 replace H := Option.bind_eq_some_iff.mp H
 obtain ⟨t101, A50, H⟩ := H
 replace H : (if t101 = true then ((apply_Apply.f k a0 l1).bind fun bt102 => ((apply_Apply.f k a2 l3).bind fun bt104 => ((minuetlaw0_Num.f bt102.2).bind fun t106 => (if t106 = 0 then ((minuetlaw0_Num.f bt104.2).bind fun t107 => (if t107 = 0 then (if (wrap64 ((a0.size : Int) + (a2.size : Int))) > 4096 then (minuetlaw3_ApplyParts.j0 k a0 l1 a2 l3 bt102.1 bt102.2 bt104.1 bt104.2 true) else (if (wrap64 ((bt102.1.size : Int) + (bt104.1.size : Int))) > 4096 then (minuetlaw3_ApplyParts.j0 k a0 l1 a2 l3 bt102.1 bt102.2 bt104.1 bt104.2 true) else (minuetlaw3_ApplyParts.j0 k a0 l1 a2 l3 bt102.1 bt102.2 bt104.1 bt104.2 (decide ((wrap64 ((l1.length : Int) + (l3.length : Int))) > 4096))))) else (minuetlaw3_ApplyParts.j0 k a0 l1 a2 l3 bt102.1 bt102.2 bt104.1 bt104.2 true))) else (minuetlaw3_ApplyParts.j0 k a0 l1 a2 l3 bt102.1 bt102.2 bt104.1 bt104.2 true))))) else (none)) = some r := H
 have A5 := Aside0.mk A50
 clear A50
 by_cases c6 : t101 = true
 · subst c6
   have H1 : ((apply_Apply.f k a0 l1).bind fun bt102 => ((apply_Apply.f k a2 l3).bind fun bt104 => ((minuetlaw0_Num.f bt102.2).bind fun t106 => (if t106 = 0 then ((minuetlaw0_Num.f bt104.2).bind fun t107 => (if t107 = 0 then (if (wrap64 ((a0.size : Int) + (a2.size : Int))) > 4096 then (minuetlaw3_ApplyParts.j0 k a0 l1 a2 l3 bt102.1 bt102.2 bt104.1 bt104.2 true) else (if (wrap64 ((bt102.1.size : Int) + (bt104.1.size : Int))) > 4096 then (minuetlaw3_ApplyParts.j0 k a0 l1 a2 l3 bt102.1 bt102.2 bt104.1 bt104.2 true) else (minuetlaw3_ApplyParts.j0 k a0 l1 a2 l3 bt102.1 bt102.2 bt104.1 bt104.2 (decide ((wrap64 ((l1.length : Int) + (l3.length : Int))) > 4096))))) else (minuetlaw3_ApplyParts.j0 k a0 l1 a2 l3 bt102.1 bt102.2 bt104.1 bt104.2 true))) else (minuetlaw3_ApplyParts.j0 k a0 l1 a2 l3 bt102.1 bt102.2 bt104.1 bt104.2 true))))) = some r := by rw [if_pos rfl] at H; exact H
   clear H
   have H := H1
   clear H1
   replace H := Option.bind_eq_some_iff.mp H
   obtain ⟨⟨t102, t103⟩, A70, H⟩ := H
   replace H : ((apply_Apply.f k a2 l3).bind fun bt104 => ((minuetlaw0_Num.f t103).bind fun t106 => (if t106 = 0 then ((minuetlaw0_Num.f bt104.2).bind fun t107 => (if t107 = 0 then (if (wrap64 ((a0.size : Int) + (a2.size : Int))) > 4096 then (minuetlaw3_ApplyParts.j0 k a0 l1 a2 l3 t102 t103 bt104.1 bt104.2 true) else (if (wrap64 ((t102.size : Int) + (bt104.1.size : Int))) > 4096 then (minuetlaw3_ApplyParts.j0 k a0 l1 a2 l3 t102 t103 bt104.1 bt104.2 true) else (minuetlaw3_ApplyParts.j0 k a0 l1 a2 l3 t102 t103 bt104.1 bt104.2 (decide ((wrap64 ((l1.length : Int) + (l3.length : Int))) > 4096))))) else (minuetlaw3_ApplyParts.j0 k a0 l1 a2 l3 t102 t103 bt104.1 bt104.2 true))) else (minuetlaw3_ApplyParts.j0 k a0 l1 a2 l3 t102 t103 bt104.1 bt104.2 true)))) = some r := H
   have A7 := Aside0.mk A70
   clear A70
   replace H := Option.bind_eq_some_iff.mp H
   obtain ⟨⟨t104, t105⟩, A80, H⟩ := H
   replace H : ((minuetlaw0_Num.f t103).bind fun t106 => (if t106 = 0 then ((minuetlaw0_Num.f t105).bind fun t107 => (if t107 = 0 then (if (wrap64 ((a0.size : Int) + (a2.size : Int))) > 4096 then (minuetlaw3_ApplyParts.j0 k a0 l1 a2 l3 t102 t103 t104 t105 true) else (if (wrap64 ((t102.size : Int) + (t104.size : Int))) > 4096 then (minuetlaw3_ApplyParts.j0 k a0 l1 a2 l3 t102 t103 t104 t105 true) else (minuetlaw3_ApplyParts.j0 k a0 l1 a2 l3 t102 t103 t104 t105 (decide ((wrap64 ((l1.length : Int) + (l3.length : Int))) > 4096))))) else (minuetlaw3_ApplyParts.j0 k a0 l1 a2 l3 t102 t103 t104 t105 true))) else (minuetlaw3_ApplyParts.j0 k a0 l1 a2 l3 t102 t103 t104 t105 true))) = some r := H
   have A8 := Aside0.mk A80
   clear A80
   have HC9 := Aside0.mk H
   clear H
   go_enter Try.func3, Try.ntmps3
   go_upto_region 5 with (first | ((with_reducible refine gate_callee (f := 15) rfl ?_); refine goesL_ (some 19) rfl rfl Try.func15 (by kernel_rfl) rfl #[] rfl (by (try simp only [List.map_toArray, List.map_cons, List.map_nil]); first | done | rfl | (simp only [List.length_drop, List.length_take]; rfl)) ?_; (with_reducible refine (minuetlaw3_awake.calls k  true _ A5.out).mono ?_); rintro e w10 ⟨rfl, hb⟩; refine ⟨_, rfl, ?_⟩; have n0_ := Aside0.mk (below_step (by repeat (first | (with_reducible first | exact HB.out | apply below_alloc | apply pw_below_drewN | apply below_drew1) | exact HB.out)) hb); clear HB; have HB := n0_; clear n0_; (try clear hb); (try clear hb2); (try clear hk); (try clear hi)) | ((with_reducible refine gate_callee (f := 16) rfl ?_); refine goesL_ (some 24) rfl rfl Try.func16 (by kernel_rfl) rfl #[.string a0, .slice A1 l1.length c1] rfl (by (try simp only [List.map_toArray, List.map_cons, List.map_nil]); first | done | rfl | (simp only [List.length_drop, List.length_take]; rfl)) ?_; (with_reducible refine (apply_Apply.calls k a0 _ _ l1 t102 t103 _ ?side1 ?side2 A7.out).mono ?_); (case side1 => repeat (first | exact (Kd.C_below HR1.out HB.out) | (with_reducible refine Kd.C_alloc ?_ _) | (with_reducible refine Kd.C_drewN ?_ _) | (with_reducible refine Kd.C_drew ?_))); (case side2 => exact HC1.out); rintro e w11 ⟨rfl, hb⟩; refine ⟨_, rfl, ?_⟩; have n0_ := Aside0.mk (below_step (by repeat (first | (with_reducible first | exact HB.out | apply below_alloc | apply pw_below_drewN | apply below_drew1) | exact HB.out)) hb); clear HB; have HB := n0_; clear n0_; (try clear hb); (try clear hb2); (try clear hk); (try clear hi)) | ((with_reducible refine gate_callee (f := 16) rfl ?_); refine goesL_ (some 30) rfl rfl Try.func16 (by kernel_rfl) rfl #[.string a2, .slice A3 l3.length c3] rfl (by (try simp only [List.map_toArray, List.map_cons, List.map_nil]); first | done | rfl | (simp only [List.length_drop, List.length_take]; rfl)) ?_; (with_reducible refine (apply_Apply.calls k a2 _ _ l3 t104 t105 _ ?side1 ?side2 A8.out).mono ?_); (case side1 => repeat (first | exact (Kd.C_below HR3.out HB.out) | (with_reducible refine Kd.C_alloc ?_ _) | (with_reducible refine Kd.C_drewN ?_ _) | (with_reducible refine Kd.C_drew ?_))); (case side2 => exact HC3.out); rintro e w12 ⟨rfl, hb⟩; refine ⟨_, rfl, ?_⟩; have n0_ := Aside0.mk (below_step (by repeat (first | (with_reducible first | exact HB.out | apply below_alloc | apply pw_below_drewN | apply below_drew1) | exact HB.out)) hb); clear HB; have HB := n0_; clear n0_; (try clear hb); (try clear hb2); (try clear hk); (try clear hi)))
   (try simp only [Act.put, List.setIfInBounds_toArray, List.set_cons_zero, List.set_cons_succ])
   go_cut [64] (fun v64 wc => ∃ (kq : Nat) (x64_8 : Bool), v64 = .bool x64_8 ∧ Aside0 (minuetlaw3_ApplyParts.j0 kq a0 l1 a2 l3 t102 t103 t104 t105 x64_8 = some r) ∧ Aside0 (kq ≤ k) ∧ Aside0 (Below w.heap.size w wc))
   case first =>
    have H := HC9.out
    clear HC9
    replace H := Option.bind_eq_some_iff.mp H
    obtain ⟨t106, A130, H⟩ := H
    replace H : (if t106 = 0 then ((minuetlaw0_Num.f t105).bind fun t107 => (if t107 = 0 then (if (wrap64 ((a0.size : Int) + (a2.size : Int))) > 4096 then (minuetlaw3_ApplyParts.j0 k a0 l1 a2 l3 t102 t103 t104 t105 true) else (if (wrap64 ((t102.size : Int) + (t104.size : Int))) > 4096 then (minuetlaw3_ApplyParts.j0 k a0 l1 a2 l3 t102 t103 t104 t105 true) else (minuetlaw3_ApplyParts.j0 k a0 l1 a2 l3 t102 t103 t104 t105 (decide ((wrap64 ((l1.length : Int) + (l3.length : Int))) > 4096))))) else (minuetlaw3_ApplyParts.j0 k a0 l1 a2 l3 t102 t103 t104 t105 true))) else (minuetlaw3_ApplyParts.j0 k a0 l1 a2 l3 t102 t103 t104 t105 true)) = some r := H
    have A13 := Aside0.mk A130
    clear A130
    by_cases c14 : t106 = 0
    · rw [if_pos c14] at H
      have c14b0 : (t106 == 0) = true := beq_iff_eq.mpr c14
      have c14b1 : (t106 != 0) = false := bne_eq_false_iff_eq.mpr c14
      clear c14
      (first | rw [c14b0] | (simp only [i64_w, i32_w]; rw [c14b0]) | skip)
      replace H := Option.bind_eq_some_iff.mp H
      obtain ⟨t107, A150, H⟩ := H
      replace H : (if t107 = 0 then (if (wrap64 ((a0.size : Int) + (a2.size : Int))) > 4096 then (minuetlaw3_ApplyParts.j0 k a0 l1 a2 l3 t102 t103 t104 t105 true) else (if (wrap64 ((t102.size : Int) + (t104.size : Int))) > 4096 then (minuetlaw3_ApplyParts.j0 k a0 l1 a2 l3 t102 t103 t104 t105 true) else (minuetlaw3_ApplyParts.j0 k a0 l1 a2 l3 t102 t103 t104 t105 (decide ((wrap64 ((l1.length : Int) + (l3.length : Int))) > 4096))))) else (minuetlaw3_ApplyParts.j0 k a0 l1 a2 l3 t102 t103 t104 t105 true)) = some r := H
      have A15 := Aside0.mk A150
      clear A150
      by_cases c16 : t107 = 0
      · rw [if_pos c16] at H
        have c16b0 : (t107 == 0) = true := beq_iff_eq.mpr c16
        have c16b1 : (t107 != 0) = false := bne_eq_false_iff_eq.mpr c16
        clear c16
        by_cases c17 : (wrap64 ((a0.size : Int) + (a2.size : Int))) > 4096
        · rw [if_pos c17] at H
          have c17b0 : decide (4096 < (wrap64 ((a0.size : Int) + (a2.size : Int)))) = true := decide_eq_true c17
          clear c17
          have H' := Aside0.mk H
          clear H
          go_wp2_with (first | ((with_reducible refine gate_callee (f := 17) rfl ?_); refine goesL_ (some 34) rfl rfl Try.func17 (by kernel_rfl) rfl #[.int .i64 t103] rfl (by (try simp only [List.map_toArray, List.map_cons, List.map_nil]); first | done | rfl | (simp only [List.length_drop, List.length_take]; rfl)) ?_; (with_reducible refine (minuetlaw0_Num.calls t103 t106 _ A13.out).mono ?_); rintro e w' ⟨rfl, ⟨nd, rfl⟩⟩; refine ⟨_, rfl, ?_⟩) | (go_at_call 17; (with_reducible refine (minuetlaw0_Num.calls t105 t107 _ A15.out).mono ?_); rintro e w' ⟨rfl, ⟨nd, rfl⟩⟩))
          go_meet
          case rel => exact ⟨_, (true), (by first | rfl | (simp; done) | (simp [*]; done)), H', ⟨by first | omega | exact Nat.le_refl _⟩, ⟨by repeat (first | (with_reducible first | exact HB.out | apply below_alloc | apply pw_below_drewN | apply below_drew1) | exact HB.out)⟩⟩
        · rw [if_neg c17] at H
          have c17b0 : decide (4096 < (wrap64 ((a0.size : Int) + (a2.size : Int)))) = false := decide_eq_false c17
          clear c17
          by_cases c18 : (wrap64 ((t102.size : Int) + (t104.size : Int))) > 4096
          · rw [if_pos c18] at H
            have c18b0 : decide (4096 < (wrap64 ((t102.size : Int) + (t104.size : Int)))) = true := decide_eq_true c18
            clear c18
            have H' := Aside0.mk H
            clear H
            go_wp2_with (first | ((with_reducible refine gate_callee (f := 17) rfl ?_); refine goesL_ (some 34) rfl rfl Try.func17 (by kernel_rfl) rfl #[.int .i64 t103] rfl (by (try simp only [List.map_toArray, List.map_cons, List.map_nil]); first | done | rfl | (simp only [List.length_drop, List.length_take]; rfl)) ?_; (with_reducible refine (minuetlaw0_Num.calls t103 t106 _ A13.out).mono ?_); rintro e w' ⟨rfl, ⟨nd, rfl⟩⟩; refine ⟨_, rfl, ?_⟩) | (go_at_call 17; (with_reducible refine (minuetlaw0_Num.calls t105 t107 _ A15.out).mono ?_); rintro e w' ⟨rfl, ⟨nd, rfl⟩⟩))
            go_meet
            case rel => exact ⟨_, (true), (by first | rfl | (simp; done) | (simp [*]; done)), H', ⟨by first | omega | exact Nat.le_refl _⟩, ⟨by repeat (first | (with_reducible first | exact HB.out | apply below_alloc | apply pw_below_drewN | apply below_drew1) | exact HB.out)⟩⟩
          · rw [if_neg c18] at H
            have c18b0 : decide (4096 < (wrap64 ((t102.size : Int) + (t104.size : Int)))) = false := decide_eq_false c18
            clear c18
            have H' := Aside0.mk H
            clear H
            go_wp2_with (first | ((with_reducible refine gate_callee (f := 17) rfl ?_); refine goesL_ (some 34) rfl rfl Try.func17 (by kernel_rfl) rfl #[.int .i64 t103] rfl (by (try simp only [List.map_toArray, List.map_cons, List.map_nil]); first | done | rfl | (simp only [List.length_drop, List.length_take]; rfl)) ?_; (with_reducible refine (minuetlaw0_Num.calls t103 t106 _ A13.out).mono ?_); rintro e w' ⟨rfl, ⟨nd, rfl⟩⟩; refine ⟨_, rfl, ?_⟩) | (go_at_call 17; (with_reducible refine (minuetlaw0_Num.calls t105 t107 _ A15.out).mono ?_); rintro e w' ⟨rfl, ⟨nd, rfl⟩⟩))
            go_meet
            case rel => exact ⟨_, (decide ((wrap64 ((l1.length : Int) + (l3.length : Int))) > 4096)), (by first | rfl | (simp; done) | (simp [*]; done)), H', ⟨by first | omega | exact Nat.le_refl _⟩, ⟨by repeat (first | (with_reducible first | exact HB.out | apply below_alloc | apply pw_below_drewN | apply below_drew1) | exact HB.out)⟩⟩
      · rw [if_neg c16] at H
        have c16b0 : (t107 == 0) = false := beq_eq_false_iff_ne.mpr c16
        have c16b1 : (t107 != 0) = true := bne_iff_ne.mpr c16
        have H' := Aside0.mk H
        clear H
        go_wp2_with (first | ((with_reducible refine gate_callee (f := 17) rfl ?_); refine goesL_ (some 34) rfl rfl Try.func17 (by kernel_rfl) rfl #[.int .i64 t103] rfl (by (try simp only [List.map_toArray, List.map_cons, List.map_nil]); first | done | rfl | (simp only [List.length_drop, List.length_take]; rfl)) ?_; (with_reducible refine (minuetlaw0_Num.calls t103 t106 _ A13.out).mono ?_); rintro e w' ⟨rfl, ⟨nd, rfl⟩⟩; refine ⟨_, rfl, ?_⟩) | (go_at_call 17; (with_reducible refine (minuetlaw0_Num.calls t105 t107 _ A15.out).mono ?_); rintro e w' ⟨rfl, ⟨nd, rfl⟩⟩))
        go_meet
        case rel => exact ⟨_, (true), (by first | rfl | (simp; done) | (simp [*]; done)), H', ⟨by first | omega | exact Nat.le_refl _⟩, ⟨by repeat (first | (with_reducible first | exact HB.out | apply below_alloc | apply pw_below_drewN | apply below_drew1) | exact HB.out)⟩⟩
    · rw [if_neg c14] at H
      have c14b0 : (t106 == 0) = false := beq_eq_false_iff_ne.mpr c14
      have c14b1 : (t106 != 0) = true := bne_iff_ne.mpr c14
      (first | rw [c14b0] | (simp only [i64_w, i32_w]; rw [c14b0]) | skip)
      have H' := Aside0.mk H
      clear H
      go_wp2_with (first | ((with_reducible refine gate_callee (f := 17) rfl ?_); refine goesL_ (some 34) rfl rfl Try.func17 (by kernel_rfl) rfl #[.int .i64 t103] rfl (by (try simp only [List.map_toArray, List.map_cons, List.map_nil]); first | done | rfl | (simp only [List.length_drop, List.length_take]; rfl)) ?_; (with_reducible refine (minuetlaw0_Num.calls t103 t106 _ A13.out).mono ?_); rintro e w' ⟨rfl, ⟨nd, rfl⟩⟩; refine ⟨_, rfl, ?_⟩))
      go_meet
      case rel => exact ⟨_, (true), (by first | rfl | (simp; done) | (simp [*]; done)), H', ⟨by first | omega | exact Nat.le_refl _⟩, ⟨by repeat (first | (with_reducible first | exact HB.out | apply below_alloc | apply pw_below_drewN | apply below_drew1) | exact HB.out)⟩⟩
   case rest =>
    clear HC9
    try clear c1
    try clear p2
    try clear c3
    try clear c6
    try clear p6
    try clear c14
    try clear c14b0
    try clear c14b1
    try clear c15
    try clear c16
    try clear c16b0
    try clear c16b1
    try clear c17
    try clear c17b0
    try clear c18
    try clear c18b0
    obtain ⟨kq, x64_8, rfl, HA, HJ8, HB⟩ := hcut
    cases kq with
    | zero => exact absurd HA.out (by simp [minuetlaw3_ApplyParts.j0])
    | succ kj8 =>
     have H := HA.out
     clear HA
     simp only [minuetlaw3_ApplyParts.j0] at H
     by_cases c19 : x64_8 = true
     · subst c19
       have H1 : ((minuetlaw0_Num.f t103).bind fun t108 => (if t108 = 0 then ((minuetlaw0_Num.f t105).bind fun t109 => (if t109 = 0 then (some true) else (some (t104.toList == ([] : List UInt8))))) else (if t102.toList = ([] : List UInt8) then ((minuetlaw0_Num.f t105).bind fun t110 => (if t110 = 0 then (some true) else (some (t104.toList == ([] : List UInt8))))) else (none)))) = some r := by rw [if_pos rfl] at H; exact H
       clear H
       have H := H1
       clear H1
       replace H := Option.bind_eq_some_iff.mp H
       obtain ⟨t108, A200, H⟩ := H
       replace H : (if t108 = 0 then ((minuetlaw0_Num.f t105).bind fun t109 => (if t109 = 0 then (some true) else (some (t104.toList == ([] : List UInt8))))) else (if t102.toList = ([] : List UInt8) then ((minuetlaw0_Num.f t105).bind fun t110 => (if t110 = 0 then (some true) else (some (t104.toList == ([] : List UInt8))))) else (none))) = some r := H
       have A20 := Aside0.mk A200
       clear A200
       by_cases c21 : t108 = 0
       · rw [if_pos c21] at H
         have c21b0 : (t108 == 0) = true := beq_iff_eq.mpr c21
         have c21b1 : (t108 != 0) = false := bne_eq_false_iff_eq.mpr c21
         clear c21
         replace H := Option.bind_eq_some_iff.mp H
         obtain ⟨t109, A220, H⟩ := H
         replace H : (if t109 = 0 then (some true) else (some (t104.toList == ([] : List UInt8)))) = some r := H
         have A22 := Aside0.mk A220
         clear A220
         by_cases c23 : t109 = 0
         · rw [if_pos c23] at H
           have c23b0 : (t109 == 0) = true := beq_iff_eq.mpr c23
           have c23b1 : (t109 != 0) = false := bne_eq_false_iff_eq.mpr c23
           clear c23
           obtain rfl := Option.some.inj H
           go_wp2_with (first | ((with_reducible refine gate_callee (f := 17) rfl ?_); refine goesL_ (some 66) rfl rfl Try.func17 (by kernel_rfl) rfl #[.int .i64 t103] rfl (by (try simp only [List.map_toArray, List.map_cons, List.map_nil]); first | done | rfl | (simp only [List.length_drop, List.length_take]; rfl)) ?_; (with_reducible refine (minuetlaw0_Num.calls t103 t108 _ A20.out).mono ?_); rintro e w' ⟨rfl, ⟨nd, rfl⟩⟩; refine ⟨_, rfl, ?_⟩) | (go_at_call 17; (with_reducible refine (minuetlaw0_Num.calls t105 t109 _ A22.out).mono ?_); rintro e w' ⟨rfl, ⟨nd, rfl⟩⟩))
           go_ret
           exact ⟨by first | rfl | (simp [errW_none, errW_some] <;> rfl) | (simp [*, errW_none, errW_some] <;> rfl), by repeat (first | (with_reducible first | exact HB.out | apply below_alloc | apply pw_below_drewN | apply below_drew1) | exact HB.out)⟩
         · rw [if_neg c23] at H
           have c23b0 : (t109 == 0) = false := beq_eq_false_iff_ne.mpr c23
           have c23b1 : (t109 != 0) = true := bne_iff_ne.mpr c23
           obtain rfl := Option.some.inj H
           go_wp2_with (first | ((with_reducible refine gate_callee (f := 17) rfl ?_); refine goesL_ (some 66) rfl rfl Try.func17 (by kernel_rfl) rfl #[.int .i64 t103] rfl (by (try simp only [List.map_toArray, List.map_cons, List.map_nil]); first | done | rfl | (simp only [List.length_drop, List.length_take]; rfl)) ?_; (with_reducible refine (minuetlaw0_Num.calls t103 t108 _ A20.out).mono ?_); rintro e w' ⟨rfl, ⟨nd, rfl⟩⟩; refine ⟨_, rfl, ?_⟩) | (go_at_call 17; (with_reducible refine (minuetlaw0_Num.calls t105 t109 _ A22.out).mono ?_); rintro e w' ⟨rfl, ⟨nd, rfl⟩⟩))
           go_ret
           exact ⟨by first | rfl | (simp [errW_none, errW_some] <;> rfl) | (simp [*, errW_none, errW_some] <;> rfl), by repeat (first | (with_reducible first | exact HB.out | apply below_alloc | apply pw_below_drewN | apply below_drew1) | exact HB.out)⟩
       · rw [if_neg c21] at H
         have c21b0 : (t108 == 0) = false := beq_eq_false_iff_ne.mpr c21
         have c21b1 : (t108 != 0) = true := bne_iff_ne.mpr c21
         by_cases c24 : t102.toList = ([] : List UInt8)
         · rw [if_pos c24] at H
           have c24b0 : (t102.toList == ([] : List UInt8)) = true := beq_iff_eq.mpr c24
           have c24b1 : (t102.toList != ([] : List UInt8)) = false := bne_eq_false_iff_eq.mpr c24
           clear c24
           replace H := Option.bind_eq_some_iff.mp H
           obtain ⟨t110, A250, H⟩ := H
           replace H : (if t110 = 0 then (some true) else (some (t104.toList == ([] : List UInt8)))) = some r := H
           have A25 := Aside0.mk A250
           clear A250
           by_cases c26 : t110 = 0
           · rw [if_pos c26] at H
             have c26b0 : (t110 == 0) = true := beq_iff_eq.mpr c26
             have c26b1 : (t110 != 0) = false := bne_eq_false_iff_eq.mpr c26
             clear c26
             obtain rfl := Option.some.inj H
             go_wp2_with (first | ((with_reducible refine gate_callee (f := 17) rfl ?_); refine goesL_ (some 66) rfl rfl Try.func17 (by kernel_rfl) rfl #[.int .i64 t103] rfl (by (try simp only [List.map_toArray, List.map_cons, List.map_nil]); first | done | rfl | (simp only [List.length_drop, List.length_take]; rfl)) ?_; (with_reducible refine (minuetlaw0_Num.calls t103 t108 _ A20.out).mono ?_); rintro e w' ⟨rfl, ⟨nd, rfl⟩⟩; refine ⟨_, rfl, ?_⟩) | (go_at_call 17; (with_reducible refine (minuetlaw0_Num.calls t105 t110 _ A25.out).mono ?_); rintro e w' ⟨rfl, ⟨nd, rfl⟩⟩))
             go_ret
             exact ⟨by first | rfl | (simp [errW_none, errW_some] <;> rfl) | (simp [*, errW_none, errW_some] <;> rfl), by repeat (first | (with_reducible first | exact HB.out | apply below_alloc | apply pw_below_drewN | apply below_drew1) | exact HB.out)⟩
           · rw [if_neg c26] at H
             have c26b0 : (t110 == 0) = false := beq_eq_false_iff_ne.mpr c26
             have c26b1 : (t110 != 0) = true := bne_iff_ne.mpr c26
             obtain rfl := Option.some.inj H
             go_wp2_with (first | ((with_reducible refine gate_callee (f := 17) rfl ?_); refine goesL_ (some 66) rfl rfl Try.func17 (by kernel_rfl) rfl #[.int .i64 t103] rfl (by (try simp only [List.map_toArray, List.map_cons, List.map_nil]); first | done | rfl | (simp only [List.length_drop, List.length_take]; rfl)) ?_; (with_reducible refine (minuetlaw0_Num.calls t103 t108 _ A20.out).mono ?_); rintro e w' ⟨rfl, ⟨nd, rfl⟩⟩; refine ⟨_, rfl, ?_⟩) | (go_at_call 17; (with_reducible refine (minuetlaw0_Num.calls t105 t110 _ A25.out).mono ?_); rintro e w' ⟨rfl, ⟨nd, rfl⟩⟩))
             go_ret
             exact ⟨by first | rfl | (simp [errW_none, errW_some] <;> rfl) | (simp [*, errW_none, errW_some] <;> rfl), by repeat (first | (with_reducible first | exact HB.out | apply below_alloc | apply pw_below_drewN | apply below_drew1) | exact HB.out)⟩
         · rw [if_neg c24] at H
           exact absurd H (by simp)
     · replace c19 := Bool.eq_false_iff.mpr c19
       subst c19
       have H1 : ((minuetlaw0_CopyComps.f l1).bind fun t111 => (minuetlaw3_ApplyParts.l0 kj8 a0 a2 l3 t102 t104 t111 0)) = some r := by rw [if_neg (show ¬ (false = true) by decide)] at H; exact H
       clear H
       have H := H1
       clear H1
       replace H := Option.bind_eq_some_iff.mp H
       obtain ⟨t111, A270, H⟩ := H
       replace H : (minuetlaw3_ApplyParts.l0 kj8 a0 a2 l3 t102 t104 t111 0) = some r := H
       have A27 := Aside0.mk A270
       clear A270
       have H' := Aside0.mk H
       clear H
       go_wp2_with (first | ((with_reducible refine gate_callee (f := 18) rfl ?_); refine goesL_ (some 82) rfl rfl Try.func18 (by kernel_rfl) rfl #[.slice A1 l1.length c1] rfl (by (try simp only [List.map_toArray, List.map_cons, List.map_nil]); first | done | rfl | (simp only [List.length_drop, List.length_take]; rfl)) ?_; (with_reducible refine (minuetlaw0_CopyComps.calls _ _ l1 t111 _ ?side1 ?side2 A27.out).mono ?_); (case side1 => repeat (first | exact (Kd.C_below HR1.out HB.out) | (with_reducible refine Kd.C_alloc ?_ _) | (with_reducible refine Kd.C_drewN ?_ _) | (with_reducible refine Kd.C_drew ?_))); (case side2 => exact HC1.out); rintro e w28 ⟨v112, rfl, ho0, hb⟩; refine ⟨_, rfl, ?_⟩; have n0_ := Aside0.mk (Kd.R_lower ho0 (below_size (by repeat (first | (with_reducible first | exact HB.out | apply below_alloc | apply pw_below_drewN | apply below_drew1) | exact HB.out)))); have n1_ := Aside0.mk (below_step (by repeat (first | (with_reducible first | exact HB.out | apply below_alloc | apply pw_below_drewN | apply below_drew1) | exact HB.out)) hb); clear HB; have HO113 := n0_; have HB := n1_; clear n0_ n1_; (try clear hb); (try clear hb2); (try clear hk); (try clear hi); (try clear ho0)))
       go_loopg [13, 14] kj8 (fun kq v13 v14 w' => ∃ (x13_2 : List (S30)) (x14_2 : Int), v14 = .int .i64 x14_2 ∧ Aside0 (minuetlaw3_ApplyParts.l0 kq a0 a2 l3 t102 t104 x13_2 x14_2 = some r) ∧ Aside0 (kq ≤ kj8) ∧ Aside0 (Kd.R k30 30 w' w.heap.size (fun _ => True) v13 x13_2) ∧ Aside0 (Below w.heap.size w w'))
       case atStart => exact ⟨(t111), (0), (by first | rfl | (simp; done) | (simp [*]; done)), H', ⟨Nat.le_refl _⟩, ⟨by (with_reducible repeat (first | apply Kd.R_alloc | apply Kd.R_drewN | apply Kd.R_drew)); exact HO113.out⟩, ⟨by repeat (first | (with_reducible first | exact HB.out | apply below_alloc | apply pw_below_drewN | apply below_drew1) | exact HB.out)⟩⟩
       case round =>
        clear H'
        try clear c1
        try clear c2
        try clear p2
        try clear c3
        try clear c6
        try clear p6
        try clear c14
        try clear c14b0
        try clear c14b1
        try clear c15
        try clear c16
        try clear c16b0
        try clear c16b1
        try clear c17
        try clear c17b0
        try clear c18
        try clear c18b0
        try clear c19
        try clear c21
        try clear c21b0
        try clear c21b1
        try clear c23
        try clear c23b0
        try clear c23b1
        try clear c24
        try clear c24b0
        try clear c24b1
        try clear c26
        try clear c26b0
        try clear c26b1
        try clear p2
        try clear p6
        obtain ⟨x13_2, x14_2, rfl, HA, HK2, HO_13, HB⟩ := hrel
        cases gk with
        | zero => exact absurd HA.out (by simp [minuetlaw3_ApplyParts.l0])
        | succ k2 =>
         have H := HA.out
         clear HA
         simp only [minuetlaw3_ApplyParts.l0] at H
         by_cases c29 : x14_2 < (l3.length : Int)
         · rw [if_pos c29] at H
           have c29b0 : decide (x14_2 < (l3.length : Int)) = true := decide_eq_true c29
           clear c29
           by_cases c30 : 0 ≤ x14_2
           · rw [if_pos c30] at H
             have c30b0 : decide (0 ≤ x14_2) = true := decide_eq_true c30
             clear c30
             by_cases c31 : x13_2.length < 4398046511104
             · rw [if_pos c31] at H
               have LMc31 := Aside0.mk c31
               clear c31
               obtain ⟨y115, hy115⟩ : ∃ y_ : List (S30), y_ = (x13_2 ++ [(⟨(rd_T30 l3 x14_2).f0, (rd_T30 l3 x14_2).f1, (rd_T30 l3 x14_2).f2⟩ : S30)]) := ⟨_, rfl⟩
               replace H : (minuetlaw3_ApplyParts.l0 k2 a0 a2 l3 t102 t104 y115 (wrap64 (x14_2 + 1))) = some r := by first | (rw [hy115]; with_reducible exact H) | (have H2_ := (Option.bind_some _ _).symm.trans H; rw [hy115]; with_reducible exact H2_) | (have H2_ := (Option.bind_some _ _).symm.trans H; with_reducible exact H2_) | with_reducible exact H | (rw [hy115]; exact H) | exact H
               have Ny115 := Aside0.mk hy115
               clear hy115
               have H' := Aside0.mk H
               clear H
               have p114 : 0 ≤ (x14_2 : Int) := of_decide_eq_true (by first | (with_reducible assumption) | assumption)
               have q114 : x14_2 < (l3.length : Int) := of_decide_eq_true (by first | (with_reducible assumption) | assumption)
               obtain ⟨ad114, e114, hx114_0, hx114_1, hx114_2⟩ := at_T30 HR3.out x14_2 p114 q114
               cases e114
               replace hx114_0 := (HB.out.cell (World.block_lt_of_cell? w _ hx114_0)).trans hx114_0
               replace hx114_1 := (HB.out.cell (World.block_lt_of_cell? w _ hx114_1)).trans hx114_1
               replace hx114_2 := (HB.out.cell (World.block_lt_of_cell? w _ hx114_2)).trans hx114_2
               replace p114 := eq_true p114
               replace q114 := eq_true q114
               go_wp2_with (first | ((with_reducible refine gate_builtin (b := .append) (xs := #[.tmp 89, .tmp 94]) rfl ?_); (try (refine gate_guard (by rfl) ?_; dsimp only)); at_builtin; refine Kd.R_append k30 (w0 := w) w.heap.size rfl (.tmp 89) (.tmp 94) 22 30 (.agg #[(.int .i64 0), (.int .i64 0), (.string ⟨#[]⟩)]) 32 rfl Try.underlying22 info30 rfl (by decide) (by omega) u13 x13_2 (⟨(rd_T30 l3 x14_2).f0, (rd_T30 l3 x14_2).f1, (rd_T30 l3 x14_2).f2⟩ : S30) [.int .i64 ((rd_T30 l3 x14_2).f0), .int .i64 ((rd_T30 l3 x14_2).f1), .string ((rd_T30 l3 x14_2).f2)] (fun _ => True) (fun _ => False) rfl rfl ?aP (fun _ hk => hk.elim) ?aF ?aO ?aB ?aS ?aL ?_; (case aP => exact k30_mkM _ _ _ (⟨(rd_T30 l3 x14_2).f0, (rd_T30 l3 x14_2).f1, (rd_T30 l3 x14_2).f2⟩ : S30)); (case aB => exact (by repeat (first | (with_reducible first | exact HB.out | apply below_alloc | apply pw_below_drewN | apply below_drew1) | exact HB.out))); (case aF => exact (fun _ _ => trivial)); (case aO => exact (by (with_reducible repeat (first | apply Kd.R_alloc | apply Kd.R_drewN | apply Kd.R_drew)); exact HO_13.out)); (case aS => exact (below_size (by repeat (first | (with_reducible first | exact HB.out | apply below_alloc | apply pw_below_drewN | apply below_drew1) | exact HB.out)))); (case aL => have := LMc31.out; omega); intro v116 w32 ho hb hg hat; rw [← Ny115.out] at ho; have n0_ := Aside0.mk (hb); have n1_ := Aside0.mk (ho); clear HB; clear HO_13; have HB := n0_; have HO117 := n1_; clear n0_ n1_; clear ho hb hg hat))
               go_roundg k2
               case measure => have := HJ8.out; have := HK2.out; omega
               case rel => exact ⟨(y115), (wrap64 (x14_2 + 1)), (by first | rfl | (simp; done) | (simp [*]; done)), H', ⟨by have := HJ8.out; have := HK2.out; omega⟩, ⟨by (with_reducible repeat (first | apply Kd.R_alloc | apply Kd.R_drewN | apply Kd.R_drew)); exact HO117.out⟩, ⟨by repeat (first | (with_reducible first | exact HB.out | apply below_alloc | apply pw_below_drewN | apply below_drew1) | exact HB.out)⟩⟩
             · rw [if_neg c31] at H
               exact absurd H (by simp)
           · rw [if_neg c30] at H
             exact absurd H (by simp)
         · rw [if_neg c29] at H
           have c29b0 : decide (x14_2 < (l3.length : Int)) = false := decide_eq_false c29
           clear c29
           replace H := Option.bind_eq_some_iff.mp H
           obtain ⟨⟨t118, t119⟩, A330, H⟩ := H
           replace H : (if a0.size + a2.size ≤ 9223372036854775807 then ((apply_Apply.f k2 (a0 ++ a2) t118).bind fun bt122 => (if t119 = 0 then ((minuetlaw0_Num.f bt122.2).bind fun t124 => (if t124 = 0 then (if t102.size + t104.size ≤ 9223372036854775807 then (some (bt122.1.toList == (t102 ++ t104).toList)) else (none)) else (none))) else (none))) else (none)) = some r := H
           have A33 := Aside0.mk A330
           clear A330
           by_cases c34 : a0.size + a2.size ≤ 9223372036854775807
           · rw [if_pos c34] at H
             have c34b0 := eq_true c34
             have c34b1 : decide (a0.size + a2.size ≤ 9223372036854775807) = true := decide_eq_true c34
             try have c34b2 : (9223372036854775807 < a0.size + a2.size) = False := eq_false (Nat.not_lt.2 c34)
             replace H := Option.bind_eq_some_iff.mp H
             obtain ⟨⟨t122, t123⟩, A350, H⟩ := H
             replace H : (if t119 = 0 then ((minuetlaw0_Num.f t123).bind fun t124 => (if t124 = 0 then (if t102.size + t104.size ≤ 9223372036854775807 then (some (t122.toList == (t102 ++ t104).toList)) else (none)) else (none))) else (none)) = some r := H
             have A35 := Aside0.mk A350
             clear A350
             by_cases c36 : t119 = 0
             · rw [if_pos c36] at H
               have c36b0 : (t119 == 0) = true := beq_iff_eq.mpr c36
               have c36b1 : (t119 != 0) = false := bne_eq_false_iff_eq.mpr c36
               clear c36
               replace H := Option.bind_eq_some_iff.mp H
               obtain ⟨t124, A370, H⟩ := H
               replace H : (if t124 = 0 then (if t102.size + t104.size ≤ 9223372036854775807 then (some (t122.toList == (t102 ++ t104).toList)) else (none)) else (none)) = some r := H
               have A37 := Aside0.mk A370
               clear A370
               by_cases c38 : t124 = 0
               · rw [if_pos c38] at H
                 have c38b0 : (t124 == 0) = true := beq_iff_eq.mpr c38
                 have c38b1 : (t124 != 0) = false := bne_eq_false_iff_eq.mpr c38
                 clear c38
                 by_cases c39 : t102.size + t104.size ≤ 9223372036854775807
                 · rw [if_pos c39] at H
                   have c39b0 := eq_true c39
                   have c39b1 : decide (t102.size + t104.size ≤ 9223372036854775807) = true := decide_eq_true c39
                   try have c39b2 : (9223372036854775807 < t102.size + t104.size) = False := eq_false (Nat.not_lt.2 c39)
                   obtain rfl := Option.some.inj H
                   obtain ⟨Ao40, co40, eo40⟩ := Kd.R_slice HO_13.out
                   subst eo40
                   go_wp2_with (first | ((with_reducible refine gate_callee (f := 19) rfl ?_); refine goesL_ (some 98) rfl rfl Try.func19 (by kernel_rfl) rfl #[.slice Ao40 x13_2.length co40] rfl (by (try simp only [List.map_toArray, List.map_cons, List.map_nil]); first | done | rfl | (simp only [List.length_drop, List.length_take]; rfl)) ?_; (with_reducible refine (minuetref1_Normal.calls k2 _ _ x13_2 t118 t119 _ ?side1 ?side2 A33.out).mono ?_); (case side1 => repeat (first | exact (Kd.R_reads' HO_13.out).2.2 | (with_reducible refine Kd.C_alloc ?_ _) | (with_reducible refine Kd.C_drewN ?_ _) | (with_reducible refine Kd.C_drew ?_))); (case side2 => exact (Kd.R_reads' HO_13.out).2.1); rintro e w41 ⟨v120, rfl, ho0, hb⟩; refine ⟨_, rfl, ?_⟩; have n0_ := Aside0.mk (Kd.R_elder' (by (with_reducible repeat (first | apply Kd.R_alloc | apply Kd.R_drewN | apply Kd.R_drew)); exact HO_13.out) (Kd.R_base ho0) hb); have n1_ := Aside0.mk (Kd.R_lower (Kd.R_new' ho0 (Kd.R_lt (by (with_reducible repeat (first | apply Kd.R_alloc | apply Kd.R_drewN | apply Kd.R_drew)); exact HO_13.out))) (below_size (by repeat (first | (with_reducible first | exact HB.out | apply below_alloc | apply pw_below_drewN | apply below_drew1) | exact HB.out)))); have n2_ := Aside0.mk (below_step (by repeat (first | (with_reducible first | exact HB.out | apply below_alloc | apply pw_below_drewN | apply below_drew1) | exact HB.out)) hb); clear HO_13; clear HB; have HO_13 := n0_; have HO121 := n1_; have HB := n2_; clear n0_ n1_ n2_; (try clear hb); (try clear hb2); (try clear hk); (try clear hi); (try clear ho0); obtain ⟨Ao42, co42, eo42⟩ := Kd.R_slice HO121.out; subst eo42) | ((with_reducible refine gate_callee (f := 16) rfl ?_); refine goesL_ (some 106) rfl rfl Try.func16 (by kernel_rfl) rfl #[.string (a0 ++ a2), .slice Ao42 t118.length co42] rfl (by (try simp only [List.map_toArray, List.map_cons, List.map_nil]); first | done | rfl | (simp only [List.length_drop, List.length_take]; rfl)) ?_; (with_reducible refine (apply_Apply.calls k2 (a0 ++ a2) _ _ t118 t122 t123 _ ?side1 ?side2 A35.out).mono ?_); (case side1 => repeat (first | exact (Kd.R_reads' HO121.out).2.2 | (with_reducible refine Kd.C_alloc ?_ _) | (with_reducible refine Kd.C_drewN ?_ _) | (with_reducible refine Kd.C_drew ?_))); (case side2 => exact (Kd.R_reads' HO121.out).2.1); rintro e w43 ⟨rfl, hb⟩; refine ⟨_, rfl, ?_⟩; have n0_ := Aside0.mk (Kd.R_below (by (with_reducible repeat (first | apply Kd.R_alloc | apply Kd.R_drewN | apply Kd.R_drew)); exact HO_13.out) hb); have n1_ := Aside0.mk (Kd.R_below (by (with_reducible repeat (first | apply Kd.R_alloc | apply Kd.R_drewN | apply Kd.R_drew)); exact HO121.out) hb); have n2_ := Aside0.mk (below_step (by repeat (first | (with_reducible first | exact HB.out | apply below_alloc | apply pw_below_drewN | apply below_drew1) | exact HB.out)) hb); clear HO_13; clear HO121; clear HB; have HO_13 := n0_; have HO121 := n1_; have HB := n2_; clear n0_ n1_ n2_; (try clear hb); (try clear hb2); (try clear hk); (try clear hi)) | (go_at_call 17; (with_reducible refine (minuetlaw0_Num.calls t123 t124 _ A37.out).mono ?_); rintro e w' ⟨rfl, ⟨nd, rfl⟩⟩))
                   go_ret
                   exact ⟨by first | rfl | (simp [errW_none, errW_some] <;> rfl) | (simp [*, errW_none, errW_some] <;> rfl), by repeat (first | (with_reducible first | exact HB.out | apply below_alloc | apply pw_below_drewN | apply below_drew1) | exact HB.out)⟩
                 · rw [if_neg c39] at H
                   exact absurd H (by simp)
               · rw [if_neg c38] at H
                 exact absurd H (by simp)
             · rw [if_neg c36] at H
               exact absurd H (by simp)
           · rw [if_neg c34] at H
             exact absurd H (by simp)
 · replace c6 := Bool.eq_false_iff.mpr c6
   subst c6
   have H1 : (none) = some r := by rw [if_neg (show ¬ (false = true) by decide)] at H; exact H
   clear H
   have H := H1
   clear H1
   exact absurd H (by simp)

end Go.Proofs.Ytbkkcoppncgegab.G
