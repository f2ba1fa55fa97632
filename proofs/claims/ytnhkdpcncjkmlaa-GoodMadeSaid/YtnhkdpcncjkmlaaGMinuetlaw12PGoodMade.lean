-- Laid by this session's own program gprint.py (wip/tools), out of the kit's print and of texts of this session. Lean checks it.
import Derived.Test.YtnhkdpcncjkmlaaGx0
import Derived.Test.YtnhkdpcncjkmlaaGMinuetlaw0PNum
import Derived.Test.YtnhkdpcncjkmlaaGGoodPGood
import Derived.Test.YtnhkdpcncjkmlaaGMinuetlaw12qawake
namespace Go.Proofs.Ytnhkdpcncjkmlaa.G
open Go.RowKit Go.Proofs.YtnhkdpcncjkmlaaW.PrintWords Go.Proofs.YtnhkdpcncjkmlaaW.PrintLast Go.Proofs.YtnhkdpcncjkmlaaW.PrintMore
attribute [local go_sem] max2_int min2_int max_two min_two max_three min_three max_four min_four   -- for this text's walks alone
set_option linter.unusedVariables false
set_option linter.unusedSimpArgs false

/-! ### minuetlaw12_GoodMade: function 10 -/
mutual
def minuetlaw12_GoodMade.j0 : Nat → ByteArray → ByteArray → Bool → Bool → Option (Bool)
 | 0, _, _, _, _ => none
 | k + 1, x0, x1, x2, x59 => if x59 = true then (some true) else (if x2 = true then (minuetlaw12_GoodMade.j1 k x0 x1 (⟨#[123]⟩ : ByteArray) (⟨#[125]⟩ : ByteArray) (⟨#[34, 107, 34, 58, 32]⟩ : ByteArray) (⟨#[34, 109, 34, 58, 32]⟩ : ByteArray)) else (minuetlaw12_GoodMade.j1 k x0 x1 (⟨#[91]⟩ : ByteArray) (⟨#[93]⟩ : ByteArray) (⟨#[]⟩ : ByteArray) (⟨#[]⟩ : ByteArray)))
def minuetlaw12_GoodMade.j1 : Nat → ByteArray → ByteArray → ByteArray → ByteArray → ByteArray → ByteArray → Option (Bool)
 | 0, _, _, _, _, _, _ => none
 | k + 1, x0, x1, x11, x12, x13, x14 => if x11.size + x13.size ≤ 9223372036854775807 then (if (x11 ++ x13).size + x0.size ≤ 9223372036854775807 then (if ((x11 ++ x13) ++ x0).size + 2 ≤ 9223372036854775807 then (if (((x11 ++ x13) ++ x0) ++ (⟨#[10, 44]⟩ : ByteArray)).size + x14.size ≤ 9223372036854775807 then (if ((((x11 ++ x13) ++ x0) ++ (⟨#[10, 44]⟩ : ByteArray)) ++ x14).size + x1.size ≤ 9223372036854775807 then (if (((((x11 ++ x13) ++ x0) ++ (⟨#[10, 44]⟩ : ByteArray)) ++ x14) ++ x1).size + 1 ≤ 9223372036854775807 then (if ((((((x11 ++ x13) ++ x0) ++ (⟨#[10, 44]⟩ : ByteArray)) ++ x14) ++ x1) ++ (⟨#[10]⟩ : ByteArray)).size + x12.size ≤ 9223372036854775807 then ((good_Good.f (((((((x11 ++ x13) ++ x0) ++ (⟨#[10, 44]⟩ : ByteArray)) ++ x14) ++ x1) ++ (⟨#[10]⟩ : ByteArray)) ++ x12)).bind fun bt108 => (if ((x11 ++ x13) ++ x0).size + 3 ≤ 9223372036854775807 then (if (((x11 ++ x13) ++ x0) ++ (⟨#[10, 44, 44]⟩ : ByteArray)).size + x14.size ≤ 9223372036854775807 then (if ((((x11 ++ x13) ++ x0) ++ (⟨#[10, 44, 44]⟩ : ByteArray)) ++ x14).size + x1.size ≤ 9223372036854775807 then (if (((((x11 ++ x13) ++ x0) ++ (⟨#[10, 44, 44]⟩ : ByteArray)) ++ x14) ++ x1).size + 1 ≤ 9223372036854775807 then (if ((((((x11 ++ x13) ++ x0) ++ (⟨#[10, 44, 44]⟩ : ByteArray)) ++ x14) ++ x1) ++ (⟨#[10]⟩ : ByteArray)).size + x12.size ≤ 9223372036854775807 then ((good_Good.f (((((((x11 ++ x13) ++ x0) ++ (⟨#[10, 44, 44]⟩ : ByteArray)) ++ x14) ++ x1) ++ (⟨#[10]⟩ : ByteArray)) ++ x12)).bind fun bt110 => (if ((x11 ++ x13) ++ x0).size + 1 ≤ 9223372036854775807 then (if (((x11 ++ x13) ++ x0) ++ (⟨#[10]⟩ : ByteArray)).size + x14.size ≤ 9223372036854775807 then (if ((((x11 ++ x13) ++ x0) ++ (⟨#[10]⟩ : ByteArray)) ++ x14).size + x1.size ≤ 9223372036854775807 then (if (((((x11 ++ x13) ++ x0) ++ (⟨#[10]⟩ : ByteArray)) ++ x14) ++ x1).size + 1 ≤ 9223372036854775807 then (if ((((((x11 ++ x13) ++ x0) ++ (⟨#[10]⟩ : ByteArray)) ++ x14) ++ x1) ++ (⟨#[10]⟩ : ByteArray)).size + x12.size ≤ 9223372036854775807 then ((good_Good.f (((((((x11 ++ x13) ++ x0) ++ (⟨#[10]⟩ : ByteArray)) ++ x14) ++ x1) ++ (⟨#[10]⟩ : ByteArray)) ++ x12)).bind fun bt112 => (minuetlaw12_GoodMade.l0 k x0 x1 bt108.1 bt108.2 bt110.1 bt110.2 bt112.1 bt112.2 0 0)) else (none)) else (none)) else (none)) else (none)) else (none))) else (none)) else (none)) else (none)) else (none)) else (none))) else (none)) else (none)) else (none)) else (none)) else (none)) else (none)) else (none)
def minuetlaw12_GoodMade.l0 : Nat → ByteArray → ByteArray → Bool → Int → Bool → Int → Bool → Int → Int → Int → Option (Bool)
 | 0, _, _, _, _, _, _, _, _, _, _ => none
 | k + 1, x0, x1, x15, x16, x17, x18, x19, x20, x21, x22 => if x22 < (wrap64 ((x0.size : Int) + (x1.size : Int))) then (if x0.size + x1.size ≤ 9223372036854775807 then (if 0 ≤ x22 then (if x22 < ((x0 ++ x1).size : Int) then (if (bt (x0 ++ x1) x22) = 91 then (minuetlaw12_GoodMade.l0 k x0 x1 x15 x16 x17 x18 x19 x20 (wrap64 (x21 + 1)) (wrap64 (x22 + 1))) else (if (bt (x0 ++ x1) x22) = 123 then (minuetlaw12_GoodMade.l0 k x0 x1 x15 x16 x17 x18 x19 x20 (wrap64 (x21 + 1)) (wrap64 (x22 + 1))) else (minuetlaw12_GoodMade.l0 k x0 x1 x15 x16 x17 x18 x19 x20 x21 (wrap64 (x22 + 1))))) else (none)) else (none)) else (none)) else (if x15 = true then ((minuetlaw0_Num.f x16).bind fun t114 => (if t114 = 0 then (if x17 = true then (none) else ((minuetlaw0_Num.f x18).bind fun t115 => (if t115 = 0 then (if x19 = true then (none) else ((minuetlaw0_Num.f x20).bind fun t116 => (some (t116 == 0)))) else (none)))) else (none))) else (if x21 ≥ 12 then ((minuetlaw0_Num.f x16).bind fun t117 => (if t117 = 0 then (if x17 = true then (none) else ((minuetlaw0_Num.f x18).bind fun t118 => (if t118 = 0 then (if x19 = true then (none) else ((minuetlaw0_Num.f x20).bind fun t119 => (some (t119 == 0)))) else (none)))) else (none))) else (none)))
end
def minuetlaw12_GoodMade.f (k : Nat) (a0 : ByteArray) (a1 : ByteArray) (a2 : Bool) : Option (Bool) := (minuetlaw12_awake.f).bind fun t101 => (if t101 = true then ((good_Good.f a0).bind fun bt102 => ((good_Good.f a1).bind fun bt104 => (if bt102.1 = true then (if bt104.1 = true then ((minuetlaw0_Num.f bt102.2).bind fun t106 => (if t106 = 0 then ((minuetlaw0_Num.f bt104.2).bind fun t107 => (if t107 = 0 then (minuetlaw12_GoodMade.j0 k a0 a1 a2 (decide ((wrap64 ((a0.size : Int) + (a1.size : Int))) > 250))) else (minuetlaw12_GoodMade.j0 k a0 a1 a2 true))) else (minuetlaw12_GoodMade.j0 k a0 a1 a2 true))) else (minuetlaw12_GoodMade.j0 k a0 a1 a2 true)) else (minuetlaw12_GoodMade.j0 k a0 a1 a2 true)))) else (none))
theorem minuetlaw12_GoodMade.mono_l : ∀ k, (∀ y0 y1 y2 y3, LeO (minuetlaw12_GoodMade.j0 k y0 y1 y2 y3) (minuetlaw12_GoodMade.j0 (k + 1) y0 y1 y2 y3)) ∧ (∀ y0 y1 y2 y3 y4 y5, LeO (minuetlaw12_GoodMade.j1 k y0 y1 y2 y3 y4 y5) (minuetlaw12_GoodMade.j1 (k + 1) y0 y1 y2 y3 y4 y5)) ∧ (∀ y0 y1 y2 y3 y4 y5 y6 y7 y8 y9, LeO (minuetlaw12_GoodMade.l0 k y0 y1 y2 y3 y4 y5 y6 y7 y8 y9) (minuetlaw12_GoodMade.l0 (k + 1) y0 y1 y2 y3 y4 y5 y6 y7 y8 y9))
 | 0 => ⟨fun _ _ _ _ r h => by simp [minuetlaw12_GoodMade.j0] at h, fun _ _ _ _ _ _ r h => by simp [minuetlaw12_GoodMade.j1] at h, fun _ _ _ _ _ _ _ _ _ _ r h => by simp [minuetlaw12_GoodMade.l0] at h⟩
 | k + 1 => by
  obtain ⟨ih0, ih1, ih2⟩ := minuetlaw12_GoodMade.mono_l k
  refine ⟨?_, ?_, ?_⟩
  · intro y0 y1 y2 y3
    unfold minuetlaw12_GoodMade.j0
    repeat' first
    | (with_reducible exact ih0 _ _ _ _)
    | (with_reducible exact ih1 _ _ _ _ _ _)
    | (with_reducible exact ih2 _ _ _ _ _ _ _ _ _ _)
    | (with_reducible exact LeO.refl _)
    | (with_reducible exact LeO.none _)
    | (with_reducible refine LeO.ite ?_ ?_)
    | (with_reducible refine LeO.bind ?_ (fun _ => ?_))
    | exact ih0 _ _ _ _
    | exact ih1 _ _ _ _ _ _
    | exact ih2 _ _ _ _ _ _ _ _ _ _
    | exact LeO.none _
    | refine LeO.ite ?_ ?_
    | refine LeO.bind ?_ (fun _ => ?_)
  · intro y0 y1 y2 y3 y4 y5
    unfold minuetlaw12_GoodMade.j1
    repeat' first
    | (with_reducible exact ih0 _ _ _ _)
    | (with_reducible exact ih1 _ _ _ _ _ _)
    | (with_reducible exact ih2 _ _ _ _ _ _ _ _ _ _)
    | (with_reducible exact LeO.refl _)
    | (with_reducible exact LeO.none _)
    | (with_reducible refine LeO.ite ?_ ?_)
    | (with_reducible refine LeO.bind ?_ (fun _ => ?_))
    | exact ih0 _ _ _ _
    | exact ih1 _ _ _ _ _ _
    | exact ih2 _ _ _ _ _ _ _ _ _ _
    | exact LeO.none _
    | refine LeO.ite ?_ ?_
    | refine LeO.bind ?_ (fun _ => ?_)
  · intro y0 y1 y2 y3 y4 y5 y6 y7 y8 y9
    unfold minuetlaw12_GoodMade.l0
    repeat' first
    | (with_reducible exact ih0 _ _ _ _)
    | (with_reducible exact ih1 _ _ _ _ _ _)
    | (with_reducible exact ih2 _ _ _ _ _ _ _ _ _ _)
    | (with_reducible exact LeO.refl _)
    | (with_reducible exact LeO.none _)
    | (with_reducible refine LeO.ite ?_ ?_)
    | (with_reducible refine LeO.bind ?_ (fun _ => ?_))
    | exact ih0 _ _ _ _
    | exact ih1 _ _ _ _ _ _
    | exact ih2 _ _ _ _ _ _ _ _ _ _
    | exact LeO.none _
    | refine LeO.ite ?_ ?_
    | refine LeO.bind ?_ (fun _ => ?_)
theorem minuetlaw12_GoodMade.mono : ∀ a0 a1 a2 k, LeO (minuetlaw12_GoodMade.f k a0 a1 a2) (minuetlaw12_GoodMade.f (k + 1) a0 a1 a2) := by
 intro a0 a1 a2 k
 obtain ⟨ih0, ih1, ih2⟩ := minuetlaw12_GoodMade.mono_l k
 unfold minuetlaw12_GoodMade.f
 repeat' first
  | (with_reducible exact ih0 _ _ _ _)
  | (with_reducible exact ih1 _ _ _ _ _ _)
  | (with_reducible exact ih2 _ _ _ _ _ _ _ _ _ _)
  | (with_reducible exact LeO.refl _)
  | (with_reducible exact LeO.none _)
  | (with_reducible refine LeO.ite ?_ ?_)
  | (with_reducible refine LeO.bind ?_ (fun _ => ?_))
  | exact ih0 _ _ _ _
  | exact ih1 _ _ _ _ _ _
  | exact ih2 _ _ _ _ _ _ _ _ _ _
  | exact LeO.none _
  | refine LeO.ite ?_ ?_
  | refine LeO.bind ?_ (fun _ => ?_)
set_option maxHeartbeats 8000000 in
set_option maxRecDepth 100000 in
theorem minuetlaw12_GoodMade.calls (k : Nat) (a0 : ByteArray) (a1 : ByteArray) (a2 : Bool) (r : Bool) (w : World) (hm_ : MaxOk w) (h : minuetlaw12_GoodMade.f k a0 a1 a2 = some r) :
 Calls Try.prog 10 #[.string a0, .string a1, .bool a2] w fun e w' => e = .returned (.bool r) ∧ Below w.heap.size w w' := by
 have HM_ := Aside0.mk hm_
 clear hm_
 have HB := Aside0.mk (Below.refl w.heap.size w)
 have H : ((minuetlaw12_awake.f).bind fun t101 => (if t101 = true then ((good_Good.f a0).bind fun bt102 => ((good_Good.f a1).bind fun bt104 => (if bt102.1 = true then (if bt104.1 = true then ((minuetlaw0_Num.f bt102.2).bind fun t106 => (if t106 = 0 then ((minuetlaw0_Num.f bt104.2).bind fun t107 => (if t107 = 0 then (minuetlaw12_GoodMade.j0 k a0 a1 a2 (decide ((wrap64 ((a0.size : Int) + (a1.size : Int))) > 250))) else (minuetlaw12_GoodMade.j0 k a0 a1 a2 true))) else (minuetlaw12_GoodMade.j0 k a0 a1 a2 true))) else (minuetlaw12_GoodMade.j0 k a0 a1 a2 true)) else (minuetlaw12_GoodMade.j0 k a0 a1 a2 true)))) else (none))) = some r := h
 clear h
 replace H := Option.bind_eq_some_iff.mp H
 obtain ⟨t101, A40, H⟩ := H
 replace H : (if t101 = true then ((good_Good.f a0).bind fun bt102 => ((good_Good.f a1).bind fun bt104 => (if bt102.1 = true then (if bt104.1 = true then ((minuetlaw0_Num.f bt102.2).bind fun t106 => (if t106 = 0 then ((minuetlaw0_Num.f bt104.2).bind fun t107 => (if t107 = 0 then (minuetlaw12_GoodMade.j0 k a0 a1 a2 (decide ((wrap64 ((a0.size : Int) + (a1.size : Int))) > 250))) else (minuetlaw12_GoodMade.j0 k a0 a1 a2 true))) else (minuetlaw12_GoodMade.j0 k a0 a1 a2 true))) else (minuetlaw12_GoodMade.j0 k a0 a1 a2 true)) else (minuetlaw12_GoodMade.j0 k a0 a1 a2 true)))) else (none)) = some r := H
 have A4 := Aside0.mk A40
 clear A40
 by_cases c5 : t101 = true
 · subst c5
   have H1 : ((good_Good.f a0).bind fun bt102 => ((good_Good.f a1).bind fun bt104 => (if bt102.1 = true then (if bt104.1 = true then ((minuetlaw0_Num.f bt102.2).bind fun t106 => (if t106 = 0 then ((minuetlaw0_Num.f bt104.2).bind fun t107 => (if t107 = 0 then (minuetlaw12_GoodMade.j0 k a0 a1 a2 (decide ((wrap64 ((a0.size : Int) + (a1.size : Int))) > 250))) else (minuetlaw12_GoodMade.j0 k a0 a1 a2 true))) else (minuetlaw12_GoodMade.j0 k a0 a1 a2 true))) else (minuetlaw12_GoodMade.j0 k a0 a1 a2 true)) else (minuetlaw12_GoodMade.j0 k a0 a1 a2 true)))) = some r := by rw [if_pos rfl] at H; exact H
   clear H
   have H := H1
   clear H1
   replace H := Option.bind_eq_some_iff.mp H
   obtain ⟨⟨t102, t103⟩, A60, H⟩ := H
   replace H : ((good_Good.f a1).bind fun bt104 => (if t102 = true then (if bt104.1 = true then ((minuetlaw0_Num.f t103).bind fun t106 => (if t106 = 0 then ((minuetlaw0_Num.f bt104.2).bind fun t107 => (if t107 = 0 then (minuetlaw12_GoodMade.j0 k a0 a1 a2 (decide ((wrap64 ((a0.size : Int) + (a1.size : Int))) > 250))) else (minuetlaw12_GoodMade.j0 k a0 a1 a2 true))) else (minuetlaw12_GoodMade.j0 k a0 a1 a2 true))) else (minuetlaw12_GoodMade.j0 k a0 a1 a2 true)) else (minuetlaw12_GoodMade.j0 k a0 a1 a2 true))) = some r := H
   have A6 := Aside0.mk A60
   clear A60
   replace H := Option.bind_eq_some_iff.mp H
   obtain ⟨⟨t104, t105⟩, A70, H⟩ := H
   replace H : (if t102 = true then (if t104 = true then ((minuetlaw0_Num.f t103).bind fun t106 => (if t106 = 0 then ((minuetlaw0_Num.f t105).bind fun t107 => (if t107 = 0 then (minuetlaw12_GoodMade.j0 k a0 a1 a2 (decide ((wrap64 ((a0.size : Int) + (a1.size : Int))) > 250))) else (minuetlaw12_GoodMade.j0 k a0 a1 a2 true))) else (minuetlaw12_GoodMade.j0 k a0 a1 a2 true))) else (minuetlaw12_GoodMade.j0 k a0 a1 a2 true)) else (minuetlaw12_GoodMade.j0 k a0 a1 a2 true)) = some r := H
   have A7 := Aside0.mk A70
   clear A70
   have HC8 := Aside0.mk H
   clear H
   go_enter Try.func10, Try.ntmps10
   go_upto_region 5 with (first | ((with_reducible refine gate_callee (f := 26) rfl ?_); refine goesL_ (some 24) rfl rfl Try.func26 (by kernel_rfl) rfl #[] rfl (by (try simp only [List.map_toArray, List.map_cons, List.map_nil]); first | done | rfl | (simp only [List.length_drop, List.length_take]; rfl)) ?_; (with_reducible refine (minuetlaw12_awake.calls  true _ (MaxOk.of HM_.out (by repeat (first | (with_reducible first | exact HB.out | apply below_alloc | apply pw_below_drewN | apply below_drew1) | exact HB.out))) A4.out).mono ?_); rintro e w9 ⟨rfl, hb⟩; refine ⟨_, rfl, ?_⟩; have n0_ := Aside0.mk (below_step (by repeat (first | (with_reducible first | exact HB.out | apply below_alloc | apply pw_below_drewN | apply below_drew1) | exact HB.out)) hb); clear HB; have HB := n0_; clear n0_; (try clear hb); (try clear hb2); (try clear hk); (try clear hi)) | ((with_reducible refine gate_callee (f := 24) rfl ?_); refine goesL_ (some 28) rfl rfl Try.func24 (by kernel_rfl) rfl #[.string a0] rfl (by (try simp only [List.map_toArray, List.map_cons, List.map_nil]); first | done | rfl | (simp only [List.length_drop, List.length_take]; rfl)) ?_; (with_reducible refine (good_Good.calls a0 t102 t103 _ (MaxOk.of HM_.out (by repeat (first | (with_reducible first | exact HB.out | apply below_alloc | apply pw_below_drewN | apply below_drew1) | exact HB.out))) A6.out).mono ?_); rintro e w10 ⟨rfl, hb⟩; refine ⟨_, rfl, ?_⟩; have n0_ := Aside0.mk (below_step (by repeat (first | (with_reducible first | exact HB.out | apply below_alloc | apply pw_below_drewN | apply below_drew1) | exact HB.out)) hb); clear HB; have HB := n0_; clear n0_; (try clear hb); (try clear hb2); (try clear hk); (try clear hi)) | ((with_reducible refine gate_callee (f := 24) rfl ?_); refine goesL_ (some 33) rfl rfl Try.func24 (by kernel_rfl) rfl #[.string a1] rfl (by (try simp only [List.map_toArray, List.map_cons, List.map_nil]); first | done | rfl | (simp only [List.length_drop, List.length_take]; rfl)) ?_; (with_reducible refine (good_Good.calls a1 t104 t105 _ (MaxOk.of HM_.out (by repeat (first | (with_reducible first | exact HB.out | apply below_alloc | apply pw_below_drewN | apply below_drew1) | exact HB.out))) A7.out).mono ?_); rintro e w11 ⟨rfl, hb⟩; refine ⟨_, rfl, ?_⟩; have n0_ := Aside0.mk (below_step (by repeat (first | (with_reducible first | exact HB.out | apply below_alloc | apply pw_below_drewN | apply below_drew1) | exact HB.out)) hb); clear HB; have HB := n0_; clear n0_; (try clear hb); (try clear hb2); (try clear hk); (try clear hi)))
   (try simp only [Act.put, List.setIfInBounds_toArray, List.set_cons_zero, List.set_cons_succ])
   go_cut [59] (fun v59 wc => ∃ (kq : Nat) (x59_7 : Bool), v59 = .bool x59_7 ∧ Aside0 (minuetlaw12_GoodMade.j0 kq a0 a1 a2 x59_7 = some r) ∧ Aside0 (kq ≤ k) ∧ Aside0 (Below w.heap.size w wc))
   case first =>
    have H := HC8.out
    clear HC8
    by_cases c12 : t102 = true
    · subst c12
      have H1 : (if t104 = true then ((minuetlaw0_Num.f t103).bind fun t106 => (if t106 = 0 then ((minuetlaw0_Num.f t105).bind fun t107 => (if t107 = 0 then (minuetlaw12_GoodMade.j0 k a0 a1 a2 (decide ((wrap64 ((a0.size : Int) + (a1.size : Int))) > 250))) else (minuetlaw12_GoodMade.j0 k a0 a1 a2 true))) else (minuetlaw12_GoodMade.j0 k a0 a1 a2 true))) else (minuetlaw12_GoodMade.j0 k a0 a1 a2 true)) = some r := by rw [if_pos rfl] at H; exact H
      clear H
      have H := H1
      clear H1
      by_cases c13 : t104 = true
      · subst c13
        have H1 : ((minuetlaw0_Num.f t103).bind fun t106 => (if t106 = 0 then ((minuetlaw0_Num.f t105).bind fun t107 => (if t107 = 0 then (minuetlaw12_GoodMade.j0 k a0 a1 a2 (decide ((wrap64 ((a0.size : Int) + (a1.size : Int))) > 250))) else (minuetlaw12_GoodMade.j0 k a0 a1 a2 true))) else (minuetlaw12_GoodMade.j0 k a0 a1 a2 true))) = some r := by rw [if_pos rfl] at H; exact H
        clear H
        have H := H1
        clear H1
        replace H := Option.bind_eq_some_iff.mp H
        obtain ⟨t106, A140, H⟩ := H
        replace H : (if t106 = 0 then ((minuetlaw0_Num.f t105).bind fun t107 => (if t107 = 0 then (minuetlaw12_GoodMade.j0 k a0 a1 a2 (decide ((wrap64 ((a0.size : Int) + (a1.size : Int))) > 250))) else (minuetlaw12_GoodMade.j0 k a0 a1 a2 true))) else (minuetlaw12_GoodMade.j0 k a0 a1 a2 true)) = some r := H
        have A14 := Aside0.mk A140
        clear A140
        by_cases c15 : t106 = 0
        · rw [if_pos c15] at H
          have c15b0 : (t106 == 0) = true := beq_iff_eq.mpr c15
          have c15b1 : (t106 != 0) = false := bne_eq_false_iff_eq.mpr c15
          clear c15
          (first | rw [c15b0] | (simp only [i64_w, i32_w]; rw [c15b0]) | skip)
          replace H := Option.bind_eq_some_iff.mp H
          obtain ⟨t107, A160, H⟩ := H
          replace H : (if t107 = 0 then (minuetlaw12_GoodMade.j0 k a0 a1 a2 (decide ((wrap64 ((a0.size : Int) + (a1.size : Int))) > 250))) else (minuetlaw12_GoodMade.j0 k a0 a1 a2 true)) = some r := H
          have A16 := Aside0.mk A160
          clear A160
          by_cases c17 : t107 = 0
          · rw [if_pos c17] at H
            have c17b0 : (t107 == 0) = true := beq_iff_eq.mpr c17
            have c17b1 : (t107 != 0) = false := bne_eq_false_iff_eq.mpr c17
            clear c17
            have H' := Aside0.mk H
            clear H
            go_wp2_with (first | (go_at_call 15; (with_reducible refine (minuetlaw0_Num.calls t103 t106 _ A14.out).mono ?_); rintro e w' ⟨rfl, ⟨nd, rfl⟩⟩) | (go_at_call 15; (with_reducible refine (minuetlaw0_Num.calls t105 t107 _ A16.out).mono ?_); rintro e w' ⟨rfl, ⟨nd, rfl⟩⟩))
            go_meet
            case rel => exact ⟨_, (decide ((wrap64 ((a0.size : Int) + (a1.size : Int))) > 250)), (by first | rfl | (simp; done) | (simp [*]; done)), H', ⟨by first | omega | exact Nat.le_refl _⟩, ⟨by repeat (first | (with_reducible first | exact HB.out | apply below_alloc | apply pw_below_drewN | apply below_drew1) | exact HB.out)⟩⟩
          · rw [if_neg c17] at H
            have c17b0 : (t107 == 0) = false := beq_eq_false_iff_ne.mpr c17
            have c17b1 : (t107 != 0) = true := bne_iff_ne.mpr c17
            have H' := Aside0.mk H
            clear H
            go_wp2_with (first | (go_at_call 15; (with_reducible refine (minuetlaw0_Num.calls t103 t106 _ A14.out).mono ?_); rintro e w' ⟨rfl, ⟨nd, rfl⟩⟩) | (go_at_call 15; (with_reducible refine (minuetlaw0_Num.calls t105 t107 _ A16.out).mono ?_); rintro e w' ⟨rfl, ⟨nd, rfl⟩⟩))
            go_meet
            case rel => exact ⟨_, (true), (by first | rfl | (simp; done) | (simp [*]; done)), H', ⟨by first | omega | exact Nat.le_refl _⟩, ⟨by repeat (first | (with_reducible first | exact HB.out | apply below_alloc | apply pw_below_drewN | apply below_drew1) | exact HB.out)⟩⟩
        · rw [if_neg c15] at H
          have c15b0 : (t106 == 0) = false := beq_eq_false_iff_ne.mpr c15
          have c15b1 : (t106 != 0) = true := bne_iff_ne.mpr c15
          (first | rw [c15b0] | (simp only [i64_w, i32_w]; rw [c15b0]) | skip)
          have H' := Aside0.mk H
          clear H
          go_wp2_with (first | (go_at_call 15; (with_reducible refine (minuetlaw0_Num.calls t103 t106 _ A14.out).mono ?_); rintro e w' ⟨rfl, ⟨nd, rfl⟩⟩))
          go_meet
          case rel => exact ⟨_, (true), (by first | rfl | (simp; done) | (simp [*]; done)), H', ⟨by first | omega | exact Nat.le_refl _⟩, ⟨by repeat (first | (with_reducible first | exact HB.out | apply below_alloc | apply pw_below_drewN | apply below_drew1) | exact HB.out)⟩⟩
      · replace c13 := Bool.eq_false_iff.mpr c13
        subst c13
        have H1 : (minuetlaw12_GoodMade.j0 k a0 a1 a2 true) = some r := by rw [if_neg (show ¬ (false = true) by decide)] at H; exact H
        clear H
        have H := H1
        clear H1
        have H' := Aside0.mk H
        clear H
        go_wp2
        go_meet
        case rel => exact ⟨_, (true), (by first | rfl | (simp; done) | (simp [*]; done)), H', ⟨by first | omega | exact Nat.le_refl _⟩, ⟨by repeat (first | (with_reducible first | exact HB.out | apply below_alloc | apply pw_below_drewN | apply below_drew1) | exact HB.out)⟩⟩
    · replace c12 := Bool.eq_false_iff.mpr c12
      subst c12
      have H1 : (minuetlaw12_GoodMade.j0 k a0 a1 a2 true) = some r := by rw [if_neg (show ¬ (false = true) by decide)] at H; exact H
      clear H
      have H := H1
      clear H1
      have H' := Aside0.mk H
      clear H
      go_wp2
      go_meet
      case rel => exact ⟨_, (true), (by first | rfl | (simp; done) | (simp [*]; done)), H', ⟨by first | omega | exact Nat.le_refl _⟩, ⟨by repeat (first | (with_reducible first | exact HB.out | apply below_alloc | apply pw_below_drewN | apply below_drew1) | exact HB.out)⟩⟩
   case rest =>
    clear HC8
    try clear c1
    try clear c2
    try clear p2
    try clear c5
    try clear p6
    try clear c10
    try clear c12
    try clear c13
    try clear c15
    try clear c15b0
    try clear c15b1
    try clear c17
    try clear c17b0
    try clear c17b1
    obtain ⟨kq, x59_7, rfl, HA, HJ7, HB⟩ := hcut
    cases kq with
    | zero => exact absurd HA.out (by simp [minuetlaw12_GoodMade.j0])
    | succ kj7 =>
     have H := HA.out
     clear HA
     simp only [minuetlaw12_GoodMade.j0] at H
     by_cases c18 : x59_7 = true
     · subst c18
       have H1 : (some true) = some r := by rw [if_pos rfl] at H; exact H
       clear H
       have H := H1
       clear H1
       obtain rfl := Option.some.inj H
       go_wp2
       go_ret
       exact ⟨by first | rfl | (simp [errW_none, errW_some] <;> rfl) | (simp [*, errW_none, errW_some] <;> rfl), by repeat (first | (with_reducible first | exact HB.out | apply below_alloc | apply pw_below_drewN | apply below_drew1) | exact HB.out)⟩
     · replace c18 := Bool.eq_false_iff.mpr c18
       subst c18
       have H1 : (if a2 = true then (minuetlaw12_GoodMade.j1 kj7 a0 a1 (⟨#[123]⟩ : ByteArray) (⟨#[125]⟩ : ByteArray) (⟨#[34, 107, 34, 58, 32]⟩ : ByteArray) (⟨#[34, 109, 34, 58, 32]⟩ : ByteArray)) else (minuetlaw12_GoodMade.j1 kj7 a0 a1 (⟨#[91]⟩ : ByteArray) (⟨#[93]⟩ : ByteArray) (⟨#[]⟩ : ByteArray) (⟨#[]⟩ : ByteArray))) = some r := by rw [if_neg (show ¬ (false = true) by decide)] at H; exact H
       clear H
       have H := H1
       clear H1
       have HC19 := Aside0.mk H
       clear H
       go_upto_if 60 with (fail)
       go_cut [11, 12, 13, 14] (fun v11 v12 v13 v14 wc => ∃ (kq : Nat) (x11_18 : ByteArray) (x12_18 : ByteArray) (x13_18 : ByteArray) (x14_18 : ByteArray), v11 = .string x11_18 ∧ v12 = .string x12_18 ∧ v13 = .string x13_18 ∧ v14 = .string x14_18 ∧ Aside0 (minuetlaw12_GoodMade.j1 kq a0 a1 x11_18 x12_18 x13_18 x14_18 = some r) ∧ Aside0 (kq ≤ kj7) ∧ Aside0 (Below w.heap.size w wc))
       case first =>
        have H := HC19.out
        clear HC19
        by_cases c20 : a2 = true
        · subst c20
          have H1 : (minuetlaw12_GoodMade.j1 kj7 a0 a1 (⟨#[123]⟩ : ByteArray) (⟨#[125]⟩ : ByteArray) (⟨#[34, 107, 34, 58, 32]⟩ : ByteArray) (⟨#[34, 109, 34, 58, 32]⟩ : ByteArray)) = some r := by rw [if_pos rfl] at H; exact H
          clear H
          have H := H1
          clear H1
          have H' := Aside0.mk H
          clear H
          go_wp2
          go_meet
          case rel => exact ⟨_, ((⟨#[123]⟩ : ByteArray)), ((⟨#[125]⟩ : ByteArray)), ((⟨#[34, 107, 34, 58, 32]⟩ : ByteArray)), ((⟨#[34, 109, 34, 58, 32]⟩ : ByteArray)), (by first | rfl | (simp; done) | (simp [*]; done)), (by first | rfl | (simp; done) | (simp [*]; done)), (by first | rfl | (simp; done) | (simp [*]; done)), (by first | rfl | (simp; done) | (simp [*]; done)), H', ⟨by have := HJ7.out; first | omega | exact Nat.le_refl _⟩, ⟨by repeat (first | (with_reducible first | exact HB.out | apply below_alloc | apply pw_below_drewN | apply below_drew1) | exact HB.out)⟩⟩
        · replace c20 := Bool.eq_false_iff.mpr c20
          subst c20
          have H1 : (minuetlaw12_GoodMade.j1 kj7 a0 a1 (⟨#[91]⟩ : ByteArray) (⟨#[93]⟩ : ByteArray) (⟨#[]⟩ : ByteArray) (⟨#[]⟩ : ByteArray)) = some r := by rw [if_neg (show ¬ (false = true) by decide)] at H; exact H
          clear H
          have H := H1
          clear H1
          have H' := Aside0.mk H
          clear H
          go_wp2
          go_meet
          case rel => exact ⟨_, ((⟨#[91]⟩ : ByteArray)), ((⟨#[93]⟩ : ByteArray)), ((⟨#[]⟩ : ByteArray)), ((⟨#[]⟩ : ByteArray)), (by first | rfl | (simp; done) | (simp [*]; done)), (by first | rfl | (simp; done) | (simp [*]; done)), (by first | rfl | (simp; done) | (simp [*]; done)), (by first | rfl | (simp; done) | (simp [*]; done)), H', ⟨by have := HJ7.out; first | omega | exact Nat.le_refl _⟩, ⟨by repeat (first | (with_reducible first | exact HB.out | apply below_alloc | apply pw_below_drewN | apply below_drew1) | exact HB.out)⟩⟩
       case rest =>
        clear HC19
        try clear c1
        try clear c2
        try clear p2
        try clear c5
        try clear p6
        try clear c10
        try clear c12
        try clear c13
        try clear c15
        try clear c15b0
        try clear c15b1
        try clear c17
        try clear c17b0
        try clear c17b1
        try clear c18
        try clear c20
        try clear p2
        try clear p6
        obtain ⟨kq, x11_18, x12_18, x13_18, x14_18, rfl, rfl, rfl, rfl, HA, HJ18, HB⟩ := hcut
        cases kq with
        | zero => exact absurd HA.out (by simp [minuetlaw12_GoodMade.j1])
        | succ kj18 =>
         have H := HA.out
         clear HA
         simp only [minuetlaw12_GoodMade.j1] at H
         by_cases c21 : x11_18.size + x13_18.size ≤ 9223372036854775807
         · rw [if_pos c21] at H
           have c21b0 := eq_true c21
           have c21b1 : decide (x11_18.size + x13_18.size ≤ 9223372036854775807) = true := decide_eq_true c21
           try have c21b2 : (9223372036854775807 < x11_18.size + x13_18.size) = False := eq_false (Nat.not_lt.2 c21)
           by_cases c22 : (x11_18 ++ x13_18).size + a0.size ≤ 9223372036854775807
           · rw [if_pos c22] at H
             have c22b0 := eq_true c22
             have c22b1 : decide ((x11_18 ++ x13_18).size + a0.size ≤ 9223372036854775807) = true := decide_eq_true c22
             try have c22b2 : (9223372036854775807 < (x11_18 ++ x13_18).size + a0.size) = False := eq_false (Nat.not_lt.2 c22)
             try have c22b3 : (9223372036854775807 < x11_18.size + x13_18.size + a0.size) = False := eq_false (Nat.not_lt.2 (by have h_ := c22; simp only [ByteArray.size_append] at h_; omega))
             by_cases c23 : ((x11_18 ++ x13_18) ++ a0).size + 2 ≤ 9223372036854775807
             · rw [if_pos c23] at H
               have c23b0 := eq_true c23
               have c23b1 : decide (((x11_18 ++ x13_18) ++ a0).size + 2 ≤ 9223372036854775807) = true := decide_eq_true c23
               try have c23b2 : (9223372036854775807 < ((x11_18 ++ x13_18) ++ a0).size + 2) = False := eq_false (Nat.not_lt.2 c23)
               try have c23b3 : (9223372036854775807 < x11_18.size + x13_18.size + a0.size + 2) = False := eq_false (Nat.not_lt.2 (by have h_ := c23; simp only [ByteArray.size_append] at h_; omega))
               by_cases c24 : (((x11_18 ++ x13_18) ++ a0) ++ (⟨#[10, 44]⟩ : ByteArray)).size + x14_18.size ≤ 9223372036854775807
               · rw [if_pos c24] at H
                 have c24b0 := eq_true c24
                 have c24b1 : decide ((((x11_18 ++ x13_18) ++ a0) ++ (⟨#[10, 44]⟩ : ByteArray)).size + x14_18.size ≤ 9223372036854775807) = true := decide_eq_true c24
                 try have c24b2 : (9223372036854775807 < (((x11_18 ++ x13_18) ++ a0) ++ (⟨#[10, 44]⟩ : ByteArray)).size + x14_18.size) = False := eq_false (Nat.not_lt.2 c24)
                 try have c24b3 : (9223372036854775807 < x11_18.size + x13_18.size + a0.size + 2 + x14_18.size) = False := eq_false (Nat.not_lt.2 (by have h_ := c24; simp only [ByteArray.size_append, show (⟨#[10, 44]⟩ : ByteArray).size = 2 from rfl] at h_; omega))
                 by_cases c25 : ((((x11_18 ++ x13_18) ++ a0) ++ (⟨#[10, 44]⟩ : ByteArray)) ++ x14_18).size + a1.size ≤ 9223372036854775807
                 · rw [if_pos c25] at H
                   have c25b0 := eq_true c25
                   have c25b1 : decide (((((x11_18 ++ x13_18) ++ a0) ++ (⟨#[10, 44]⟩ : ByteArray)) ++ x14_18).size + a1.size ≤ 9223372036854775807) = true := decide_eq_true c25
                   try have c25b2 : (9223372036854775807 < ((((x11_18 ++ x13_18) ++ a0) ++ (⟨#[10, 44]⟩ : ByteArray)) ++ x14_18).size + a1.size) = False := eq_false (Nat.not_lt.2 c25)
                   try have c25b3 : (9223372036854775807 < x11_18.size + x13_18.size + a0.size + 2 + x14_18.size + a1.size) = False := eq_false (Nat.not_lt.2 (by have h_ := c25; simp only [ByteArray.size_append, show (⟨#[10, 44]⟩ : ByteArray).size = 2 from rfl] at h_; omega))
                   by_cases c26 : (((((x11_18 ++ x13_18) ++ a0) ++ (⟨#[10, 44]⟩ : ByteArray)) ++ x14_18) ++ a1).size + 1 ≤ 9223372036854775807
                   · rw [if_pos c26] at H
                     have c26b0 := eq_true c26
                     have c26b1 : decide ((((((x11_18 ++ x13_18) ++ a0) ++ (⟨#[10, 44]⟩ : ByteArray)) ++ x14_18) ++ a1).size + 1 ≤ 9223372036854775807) = true := decide_eq_true c26
                     try have c26b2 : (9223372036854775807 < (((((x11_18 ++ x13_18) ++ a0) ++ (⟨#[10, 44]⟩ : ByteArray)) ++ x14_18) ++ a1).size + 1) = False := eq_false (Nat.not_lt.2 c26)
                     try have c26b3 : (9223372036854775807 < x11_18.size + x13_18.size + a0.size + 2 + x14_18.size + a1.size + 1) = False := eq_false (Nat.not_lt.2 (by have h_ := c26; simp only [ByteArray.size_append, show (⟨#[10, 44]⟩ : ByteArray).size = 2 from rfl] at h_; omega))
                     by_cases c27 : ((((((x11_18 ++ x13_18) ++ a0) ++ (⟨#[10, 44]⟩ : ByteArray)) ++ x14_18) ++ a1) ++ (⟨#[10]⟩ : ByteArray)).size + x12_18.size ≤ 9223372036854775807
                     · rw [if_pos c27] at H
                       have c27b0 := eq_true c27
                       have c27b1 : decide (((((((x11_18 ++ x13_18) ++ a0) ++ (⟨#[10, 44]⟩ : ByteArray)) ++ x14_18) ++ a1) ++ (⟨#[10]⟩ : ByteArray)).size + x12_18.size ≤ 9223372036854775807) = true := decide_eq_true c27
                       try have c27b2 : (9223372036854775807 < ((((((x11_18 ++ x13_18) ++ a0) ++ (⟨#[10, 44]⟩ : ByteArray)) ++ x14_18) ++ a1) ++ (⟨#[10]⟩ : ByteArray)).size + x12_18.size) = False := eq_false (Nat.not_lt.2 c27)
                       try have c27b3 : (9223372036854775807 < x11_18.size + x13_18.size + a0.size + 2 + x14_18.size + a1.size + 1 + x12_18.size) = False := eq_false (Nat.not_lt.2 (by have h_ := c27; simp only [ByteArray.size_append, show (⟨#[10, 44]⟩ : ByteArray).size = 2 from rfl, show (⟨#[10]⟩ : ByteArray).size = 1 from rfl] at h_; omega))
                       replace H := Option.bind_eq_some_iff.mp H
                       obtain ⟨⟨t108, t109⟩, A280, H⟩ := H
                       replace H : (if ((x11_18 ++ x13_18) ++ a0).size + 3 ≤ 9223372036854775807 then (if (((x11_18 ++ x13_18) ++ a0) ++ (⟨#[10, 44, 44]⟩ : ByteArray)).size + x14_18.size ≤ 9223372036854775807 then (if ((((x11_18 ++ x13_18) ++ a0) ++ (⟨#[10, 44, 44]⟩ : ByteArray)) ++ x14_18).size + a1.size ≤ 9223372036854775807 then (if (((((x11_18 ++ x13_18) ++ a0) ++ (⟨#[10, 44, 44]⟩ : ByteArray)) ++ x14_18) ++ a1).size + 1 ≤ 9223372036854775807 then (if ((((((x11_18 ++ x13_18) ++ a0) ++ (⟨#[10, 44, 44]⟩ : ByteArray)) ++ x14_18) ++ a1) ++ (⟨#[10]⟩ : ByteArray)).size + x12_18.size ≤ 9223372036854775807 then ((good_Good.f (((((((x11_18 ++ x13_18) ++ a0) ++ (⟨#[10, 44, 44]⟩ : ByteArray)) ++ x14_18) ++ a1) ++ (⟨#[10]⟩ : ByteArray)) ++ x12_18)).bind fun bt110 => (if ((x11_18 ++ x13_18) ++ a0).size + 1 ≤ 9223372036854775807 then (if (((x11_18 ++ x13_18) ++ a0) ++ (⟨#[10]⟩ : ByteArray)).size + x14_18.size ≤ 9223372036854775807 then (if ((((x11_18 ++ x13_18) ++ a0) ++ (⟨#[10]⟩ : ByteArray)) ++ x14_18).size + a1.size ≤ 9223372036854775807 then (if (((((x11_18 ++ x13_18) ++ a0) ++ (⟨#[10]⟩ : ByteArray)) ++ x14_18) ++ a1).size + 1 ≤ 9223372036854775807 then (if ((((((x11_18 ++ x13_18) ++ a0) ++ (⟨#[10]⟩ : ByteArray)) ++ x14_18) ++ a1) ++ (⟨#[10]⟩ : ByteArray)).size + x12_18.size ≤ 9223372036854775807 then ((good_Good.f (((((((x11_18 ++ x13_18) ++ a0) ++ (⟨#[10]⟩ : ByteArray)) ++ x14_18) ++ a1) ++ (⟨#[10]⟩ : ByteArray)) ++ x12_18)).bind fun bt112 => (minuetlaw12_GoodMade.l0 kj18 a0 a1 t108 t109 bt110.1 bt110.2 bt112.1 bt112.2 0 0)) else (none)) else (none)) else (none)) else (none)) else (none))) else (none)) else (none)) else (none)) else (none)) else (none)) = some r := H
                       have A28 := Aside0.mk A280
                       clear A280
                       by_cases c29 : ((x11_18 ++ x13_18) ++ a0).size + 3 ≤ 9223372036854775807
                       · rw [if_pos c29] at H
                         have c29b0 := eq_true c29
                         have c29b1 : decide (((x11_18 ++ x13_18) ++ a0).size + 3 ≤ 9223372036854775807) = true := decide_eq_true c29
                         try have c29b2 : (9223372036854775807 < ((x11_18 ++ x13_18) ++ a0).size + 3) = False := eq_false (Nat.not_lt.2 c29)
                         try have c29b3 : (9223372036854775807 < x11_18.size + x13_18.size + a0.size + 3) = False := eq_false (Nat.not_lt.2 (by have h_ := c29; simp only [ByteArray.size_append] at h_; omega))
                         by_cases c30 : (((x11_18 ++ x13_18) ++ a0) ++ (⟨#[10, 44, 44]⟩ : ByteArray)).size + x14_18.size ≤ 9223372036854775807
                         · rw [if_pos c30] at H
                           have c30b0 := eq_true c30
                           have c30b1 : decide ((((x11_18 ++ x13_18) ++ a0) ++ (⟨#[10, 44, 44]⟩ : ByteArray)).size + x14_18.size ≤ 9223372036854775807) = true := decide_eq_true c30
                           try have c30b2 : (9223372036854775807 < (((x11_18 ++ x13_18) ++ a0) ++ (⟨#[10, 44, 44]⟩ : ByteArray)).size + x14_18.size) = False := eq_false (Nat.not_lt.2 c30)
                           try have c30b3 : (9223372036854775807 < x11_18.size + x13_18.size + a0.size + 3 + x14_18.size) = False := eq_false (Nat.not_lt.2 (by have h_ := c30; simp only [ByteArray.size_append, show (⟨#[10, 44, 44]⟩ : ByteArray).size = 3 from rfl] at h_; omega))
                           by_cases c31 : ((((x11_18 ++ x13_18) ++ a0) ++ (⟨#[10, 44, 44]⟩ : ByteArray)) ++ x14_18).size + a1.size ≤ 9223372036854775807
                           · rw [if_pos c31] at H
                             have c31b0 := eq_true c31
                             have c31b1 : decide (((((x11_18 ++ x13_18) ++ a0) ++ (⟨#[10, 44, 44]⟩ : ByteArray)) ++ x14_18).size + a1.size ≤ 9223372036854775807) = true := decide_eq_true c31
                             try have c31b2 : (9223372036854775807 < ((((x11_18 ++ x13_18) ++ a0) ++ (⟨#[10, 44, 44]⟩ : ByteArray)) ++ x14_18).size + a1.size) = False := eq_false (Nat.not_lt.2 c31)
                             try have c31b3 : (9223372036854775807 < x11_18.size + x13_18.size + a0.size + 3 + x14_18.size + a1.size) = False := eq_false (Nat.not_lt.2 (by have h_ := c31; simp only [ByteArray.size_append, show (⟨#[10, 44, 44]⟩ : ByteArray).size = 3 from rfl] at h_; omega))
                             by_cases c32 : (((((x11_18 ++ x13_18) ++ a0) ++ (⟨#[10, 44, 44]⟩ : ByteArray)) ++ x14_18) ++ a1).size + 1 ≤ 9223372036854775807
                             · rw [if_pos c32] at H
                               have c32b0 := eq_true c32
                               have c32b1 : decide ((((((x11_18 ++ x13_18) ++ a0) ++ (⟨#[10, 44, 44]⟩ : ByteArray)) ++ x14_18) ++ a1).size + 1 ≤ 9223372036854775807) = true := decide_eq_true c32
                               try have c32b2 : (9223372036854775807 < (((((x11_18 ++ x13_18) ++ a0) ++ (⟨#[10, 44, 44]⟩ : ByteArray)) ++ x14_18) ++ a1).size + 1) = False := eq_false (Nat.not_lt.2 c32)
                               try have c32b3 : (9223372036854775807 < x11_18.size + x13_18.size + a0.size + 3 + x14_18.size + a1.size + 1) = False := eq_false (Nat.not_lt.2 (by have h_ := c32; simp only [ByteArray.size_append, show (⟨#[10, 44, 44]⟩ : ByteArray).size = 3 from rfl] at h_; omega))
                               by_cases c33 : ((((((x11_18 ++ x13_18) ++ a0) ++ (⟨#[10, 44, 44]⟩ : ByteArray)) ++ x14_18) ++ a1) ++ (⟨#[10]⟩ : ByteArray)).size + x12_18.size ≤ 9223372036854775807
                               · rw [if_pos c33] at H
                                 have c33b0 := eq_true c33
                                 have c33b1 : decide (((((((x11_18 ++ x13_18) ++ a0) ++ (⟨#[10, 44, 44]⟩ : ByteArray)) ++ x14_18) ++ a1) ++ (⟨#[10]⟩ : ByteArray)).size + x12_18.size ≤ 9223372036854775807) = true := decide_eq_true c33
                                 try have c33b2 : (9223372036854775807 < ((((((x11_18 ++ x13_18) ++ a0) ++ (⟨#[10, 44, 44]⟩ : ByteArray)) ++ x14_18) ++ a1) ++ (⟨#[10]⟩ : ByteArray)).size + x12_18.size) = False := eq_false (Nat.not_lt.2 c33)
                                 try have c33b3 : (9223372036854775807 < x11_18.size + x13_18.size + a0.size + 3 + x14_18.size + a1.size + 1 + x12_18.size) = False := eq_false (Nat.not_lt.2 (by have h_ := c33; simp only [ByteArray.size_append, show (⟨#[10, 44, 44]⟩ : ByteArray).size = 3 from rfl, show (⟨#[10]⟩ : ByteArray).size = 1 from rfl] at h_; omega))
                                 replace H := Option.bind_eq_some_iff.mp H
                                 obtain ⟨⟨t110, t111⟩, A340, H⟩ := H
                                 replace H : (if ((x11_18 ++ x13_18) ++ a0).size + 1 ≤ 9223372036854775807 then (if (((x11_18 ++ x13_18) ++ a0) ++ (⟨#[10]⟩ : ByteArray)).size + x14_18.size ≤ 9223372036854775807 then (if ((((x11_18 ++ x13_18) ++ a0) ++ (⟨#[10]⟩ : ByteArray)) ++ x14_18).size + a1.size ≤ 9223372036854775807 then (if (((((x11_18 ++ x13_18) ++ a0) ++ (⟨#[10]⟩ : ByteArray)) ++ x14_18) ++ a1).size + 1 ≤ 9223372036854775807 then (if ((((((x11_18 ++ x13_18) ++ a0) ++ (⟨#[10]⟩ : ByteArray)) ++ x14_18) ++ a1) ++ (⟨#[10]⟩ : ByteArray)).size + x12_18.size ≤ 9223372036854775807 then ((good_Good.f (((((((x11_18 ++ x13_18) ++ a0) ++ (⟨#[10]⟩ : ByteArray)) ++ x14_18) ++ a1) ++ (⟨#[10]⟩ : ByteArray)) ++ x12_18)).bind fun bt112 => (minuetlaw12_GoodMade.l0 kj18 a0 a1 t108 t109 t110 t111 bt112.1 bt112.2 0 0)) else (none)) else (none)) else (none)) else (none)) else (none)) = some r := H
                                 have A34 := Aside0.mk A340
                                 clear A340
                                 by_cases c35 : ((x11_18 ++ x13_18) ++ a0).size + 1 ≤ 9223372036854775807
                                 · rw [if_pos c35] at H
                                   have c35b0 := eq_true c35
                                   have c35b1 : decide (((x11_18 ++ x13_18) ++ a0).size + 1 ≤ 9223372036854775807) = true := decide_eq_true c35
                                   try have c35b2 : (9223372036854775807 < ((x11_18 ++ x13_18) ++ a0).size + 1) = False := eq_false (Nat.not_lt.2 c35)
                                   try have c35b3 : (9223372036854775807 < x11_18.size + x13_18.size + a0.size + 1) = False := eq_false (Nat.not_lt.2 (by have h_ := c35; simp only [ByteArray.size_append] at h_; omega))
                                   by_cases c36 : (((x11_18 ++ x13_18) ++ a0) ++ (⟨#[10]⟩ : ByteArray)).size + x14_18.size ≤ 9223372036854775807
                                   · rw [if_pos c36] at H
                                     have c36b0 := eq_true c36
                                     have c36b1 : decide ((((x11_18 ++ x13_18) ++ a0) ++ (⟨#[10]⟩ : ByteArray)).size + x14_18.size ≤ 9223372036854775807) = true := decide_eq_true c36
                                     try have c36b2 : (9223372036854775807 < (((x11_18 ++ x13_18) ++ a0) ++ (⟨#[10]⟩ : ByteArray)).size + x14_18.size) = False := eq_false (Nat.not_lt.2 c36)
                                     try have c36b3 : (9223372036854775807 < x11_18.size + x13_18.size + a0.size + 1 + x14_18.size) = False := eq_false (Nat.not_lt.2 (by have h_ := c36; simp only [ByteArray.size_append, show (⟨#[10]⟩ : ByteArray).size = 1 from rfl] at h_; omega))
                                     by_cases c37 : ((((x11_18 ++ x13_18) ++ a0) ++ (⟨#[10]⟩ : ByteArray)) ++ x14_18).size + a1.size ≤ 9223372036854775807
                                     · rw [if_pos c37] at H
                                       have c37b0 := eq_true c37
                                       have c37b1 : decide (((((x11_18 ++ x13_18) ++ a0) ++ (⟨#[10]⟩ : ByteArray)) ++ x14_18).size + a1.size ≤ 9223372036854775807) = true := decide_eq_true c37
                                       try have c37b2 : (9223372036854775807 < ((((x11_18 ++ x13_18) ++ a0) ++ (⟨#[10]⟩ : ByteArray)) ++ x14_18).size + a1.size) = False := eq_false (Nat.not_lt.2 c37)
                                       try have c37b3 : (9223372036854775807 < x11_18.size + x13_18.size + a0.size + 1 + x14_18.size + a1.size) = False := eq_false (Nat.not_lt.2 (by have h_ := c37; simp only [ByteArray.size_append, show (⟨#[10]⟩ : ByteArray).size = 1 from rfl] at h_; omega))
                                       by_cases c38 : (((((x11_18 ++ x13_18) ++ a0) ++ (⟨#[10]⟩ : ByteArray)) ++ x14_18) ++ a1).size + 1 ≤ 9223372036854775807
                                       · rw [if_pos c38] at H
                                         have c38b0 := eq_true c38
                                         have c38b1 : decide ((((((x11_18 ++ x13_18) ++ a0) ++ (⟨#[10]⟩ : ByteArray)) ++ x14_18) ++ a1).size + 1 ≤ 9223372036854775807) = true := decide_eq_true c38
                                         try have c38b2 : (9223372036854775807 < (((((x11_18 ++ x13_18) ++ a0) ++ (⟨#[10]⟩ : ByteArray)) ++ x14_18) ++ a1).size + 1) = False := eq_false (Nat.not_lt.2 c38)
                                         try have c38b3 : (9223372036854775807 < x11_18.size + x13_18.size + a0.size + 1 + x14_18.size + a1.size + 1) = False := eq_false (Nat.not_lt.2 (by have h_ := c38; simp only [ByteArray.size_append, show (⟨#[10]⟩ : ByteArray).size = 1 from rfl] at h_; omega))
                                         by_cases c39 : ((((((x11_18 ++ x13_18) ++ a0) ++ (⟨#[10]⟩ : ByteArray)) ++ x14_18) ++ a1) ++ (⟨#[10]⟩ : ByteArray)).size + x12_18.size ≤ 9223372036854775807
                                         · rw [if_pos c39] at H
                                           have c39b0 := eq_true c39
                                           have c39b1 : decide (((((((x11_18 ++ x13_18) ++ a0) ++ (⟨#[10]⟩ : ByteArray)) ++ x14_18) ++ a1) ++ (⟨#[10]⟩ : ByteArray)).size + x12_18.size ≤ 9223372036854775807) = true := decide_eq_true c39
                                           try have c39b2 : (9223372036854775807 < ((((((x11_18 ++ x13_18) ++ a0) ++ (⟨#[10]⟩ : ByteArray)) ++ x14_18) ++ a1) ++ (⟨#[10]⟩ : ByteArray)).size + x12_18.size) = False := eq_false (Nat.not_lt.2 c39)
                                           try have c39b3 : (9223372036854775807 < x11_18.size + x13_18.size + a0.size + 1 + x14_18.size + a1.size + 1 + x12_18.size) = False := eq_false (Nat.not_lt.2 (by have h_ := c39; simp only [ByteArray.size_append, show (⟨#[10]⟩ : ByteArray).size = 1 from rfl] at h_; omega))
                                           replace H := Option.bind_eq_some_iff.mp H
                                           obtain ⟨⟨t112, t113⟩, A400, H⟩ := H
                                           replace H : (minuetlaw12_GoodMade.l0 kj18 a0 a1 t108 t109 t110 t111 t112 t113 0 0) = some r := H
                                           have A40 := Aside0.mk A400
                                           clear A400
                                           have H' := Aside0.mk H
                                           clear H
                                           go_wp2_with (first | ((with_reducible refine gate_callee (f := 24) rfl ?_); refine goesL_ (some 75) rfl rfl Try.func24 (by kernel_rfl) rfl #[.string (((((((x11_18 ++ x13_18) ++ a0) ++ (⟨#[10, 44]⟩ : ByteArray)) ++ x14_18) ++ a1) ++ (⟨#[10]⟩ : ByteArray)) ++ x12_18)] rfl (by (try simp only [List.map_toArray, List.map_cons, List.map_nil]); first | done | rfl | (simp only [List.length_drop, List.length_take]; rfl)) ?_; (with_reducible refine (good_Good.calls (((((((x11_18 ++ x13_18) ++ a0) ++ (⟨#[10, 44]⟩ : ByteArray)) ++ x14_18) ++ a1) ++ (⟨#[10]⟩ : ByteArray)) ++ x12_18) t108 t109 _ (MaxOk.of HM_.out (by repeat (first | (with_reducible first | exact HB.out | apply below_alloc | apply pw_below_drewN | apply below_drew1) | exact HB.out))) A28.out).mono ?_); rintro e w41 ⟨rfl, hb⟩; refine ⟨_, rfl, ?_⟩; have n0_ := Aside0.mk (below_step (by repeat (first | (with_reducible first | exact HB.out | apply below_alloc | apply pw_below_drewN | apply below_drew1) | exact HB.out)) hb); clear HB; have HB := n0_; clear n0_; (try clear hb); (try clear hb2); (try clear hk); (try clear hi)) | ((with_reducible refine gate_callee (f := 24) rfl ?_); refine goesL_ (some 92) rfl rfl Try.func24 (by kernel_rfl) rfl #[.string (((((((x11_18 ++ x13_18) ++ a0) ++ (⟨#[10, 44, 44]⟩ : ByteArray)) ++ x14_18) ++ a1) ++ (⟨#[10]⟩ : ByteArray)) ++ x12_18)] rfl (by (try simp only [List.map_toArray, List.map_cons, List.map_nil]); first | done | rfl | (simp only [List.length_drop, List.length_take]; rfl)) ?_; (with_reducible refine (good_Good.calls (((((((x11_18 ++ x13_18) ++ a0) ++ (⟨#[10, 44, 44]⟩ : ByteArray)) ++ x14_18) ++ a1) ++ (⟨#[10]⟩ : ByteArray)) ++ x12_18) t110 t111 _ (MaxOk.of HM_.out (by repeat (first | (with_reducible first | exact HB.out | apply below_alloc | apply pw_below_drewN | apply below_drew1) | exact HB.out))) A34.out).mono ?_); rintro e w42 ⟨rfl, hb⟩; refine ⟨_, rfl, ?_⟩; have n0_ := Aside0.mk (below_step (by repeat (first | (with_reducible first | exact HB.out | apply below_alloc | apply pw_below_drewN | apply below_drew1) | exact HB.out)) hb); clear HB; have HB := n0_; clear n0_; (try clear hb); (try clear hb2); (try clear hk); (try clear hi)) | ((with_reducible refine gate_callee (f := 24) rfl ?_); refine goesL_ (some 109) rfl rfl Try.func24 (by kernel_rfl) rfl #[.string (((((((x11_18 ++ x13_18) ++ a0) ++ (⟨#[10]⟩ : ByteArray)) ++ x14_18) ++ a1) ++ (⟨#[10]⟩ : ByteArray)) ++ x12_18)] rfl (by (try simp only [List.map_toArray, List.map_cons, List.map_nil]); first | done | rfl | (simp only [List.length_drop, List.length_take]; rfl)) ?_; (with_reducible refine (good_Good.calls (((((((x11_18 ++ x13_18) ++ a0) ++ (⟨#[10]⟩ : ByteArray)) ++ x14_18) ++ a1) ++ (⟨#[10]⟩ : ByteArray)) ++ x12_18) t112 t113 _ (MaxOk.of HM_.out (by repeat (first | (with_reducible first | exact HB.out | apply below_alloc | apply pw_below_drewN | apply below_drew1) | exact HB.out))) A40.out).mono ?_); rintro e w43 ⟨rfl, hb⟩; refine ⟨_, rfl, ?_⟩; have n0_ := Aside0.mk (below_step (by repeat (first | (with_reducible first | exact HB.out | apply below_alloc | apply pw_below_drewN | apply below_drew1) | exact HB.out)) hb); clear HB; have HB := n0_; clear n0_; (try clear hb); (try clear hb2); (try clear hk); (try clear hi)))
                                           go_loopg [21, 22] kj18 (fun kq v21 v22 w' => ∃ (x21_3 : Int) (x22_3 : Int), v21 = .int .i64 x21_3 ∧ v22 = .int .i64 x22_3 ∧ Aside0 (minuetlaw12_GoodMade.l0 kq a0 a1 t108 t109 t110 t111 t112 t113 x21_3 x22_3 = some r) ∧ Aside0 (kq ≤ kj18) ∧ Aside0 (Below w.heap.size w w'))
                                           case atStart => exact ⟨(0), (0), (by first | rfl | (simp; done) | (simp [*]; done)), (by first | rfl | (simp; done) | (simp [*]; done)), H', ⟨Nat.le_refl _⟩, ⟨by repeat (first | (with_reducible first | exact HB.out | apply below_alloc | apply pw_below_drewN | apply below_drew1) | exact HB.out)⟩⟩
                                           case round =>
                                            clear H'
                                            try clear c1
                                            try clear c2
                                            try clear p2
                                            try clear c3
                                            try clear c5
                                            try clear p6
                                            try clear c10
                                            try clear c12
                                            try clear c13
                                            try clear c15
                                            try clear c15b0
                                            try clear c15b1
                                            try clear c17
                                            try clear c17b0
                                            try clear c17b1
                                            try clear c18
                                            try clear c20
                                            try clear c21
                                            try clear c21b0
                                            try clear c21b1
                                            try clear c21b2
                                            try clear c22
                                            try clear c22b0
                                            try clear c22b1
                                            try clear c22b2
                                            try clear c23
                                            try clear c23b0
                                            try clear c23b1
                                            try clear c23b2
                                            try clear c24
                                            try clear c24b0
                                            try clear c24b1
                                            try clear c24b2
                                            try clear c25
                                            try clear c25b0
                                            try clear c25b1
                                            try clear c25b2
                                            try clear c26
                                            try clear c26b0
                                            try clear c26b1
                                            try clear c26b2
                                            try clear c27
                                            try clear c27b0
                                            try clear c27b1
                                            try clear c27b2
                                            try clear c29
                                            try clear c29b0
                                            try clear c29b1
                                            try clear c29b2
                                            try clear c30
                                            try clear c30b0
                                            try clear c30b1
                                            try clear c30b2
                                            try clear c31
                                            try clear c31b0
                                            try clear c31b1
                                            try clear c31b2
                                            try clear c32
                                            try clear c32b0
                                            try clear c32b1
                                            try clear c32b2
                                            try clear c33
                                            try clear c33b0
                                            try clear c33b1
                                            try clear c33b2
                                            try clear c35
                                            try clear c35b0
                                            try clear c35b1
                                            try clear c35b2
                                            try clear c36
                                            try clear c36b0
                                            try clear c36b1
                                            try clear c36b2
                                            try clear c37
                                            try clear c37b0
                                            try clear c37b1
                                            try clear c37b2
                                            try clear c38
                                            try clear c38b0
                                            try clear c38b1
                                            try clear c38b2
                                            try clear c39
                                            try clear c39b0
                                            try clear c39b1
                                            try clear c39b2
                                            try clear p2
                                            try clear p6
                                            obtain ⟨x21_3, x22_3, rfl, rfl, HA, HK3, HB⟩ := hrel
                                            cases gk with
                                            | zero => exact absurd HA.out (by simp [minuetlaw12_GoodMade.l0])
                                            | succ k3 =>
                                             have H := HA.out
                                             clear HA
                                             simp only [minuetlaw12_GoodMade.l0] at H
                                             by_cases c44 : x22_3 < (wrap64 ((a0.size : Int) + (a1.size : Int)))
                                             · rw [if_pos c44] at H
                                               have c44b0 : decide (x22_3 < (wrap64 ((a0.size : Int) + (a1.size : Int)))) = true := decide_eq_true c44
                                               clear c44
                                               by_cases c45 : a0.size + a1.size ≤ 9223372036854775807
                                               · rw [if_pos c45] at H
                                                 have c45b0 := eq_true c45
                                                 have c45b1 : decide (a0.size + a1.size ≤ 9223372036854775807) = true := decide_eq_true c45
                                                 try have c44b9 : decide (x22_3 < ((a0.size : Int) + (a1.size : Int))) = true := by have h_ := c44b0; rw [show wrap64 ((a0.size : Int) + (a1.size : Int)) = (a0.size : Int) + (a1.size : Int) from by unfold wrap64; omega] at h_; exact h_
                                                 try have q44b9 := eq_true (of_decide_eq_true c44b9)
                                                 try have c45b2 : (9223372036854775807 < a0.size + a1.size) = False := eq_false (Nat.not_lt.2 c45)
                                                 by_cases c46 : 0 ≤ x22_3
                                                 · rw [if_pos c46] at H
                                                   have c46b0 : decide (0 ≤ x22_3) = true := decide_eq_true c46
                                                   clear c46
                                                   by_cases c47 : x22_3 < ((a0 ++ a1).size : Int)
                                                   · rw [if_pos c47] at H
                                                     have c47b0 : decide (x22_3 < ((a0 ++ a1).size : Int)) = true := decide_eq_true c47
                                                     clear c47
                                                     by_cases c49 : (bt (a0 ++ a1) x22_3) = 91
                                                     · rw [if_pos c49] at H
                                                       have c49b0 : ((bt (a0 ++ a1) x22_3) == 91) = true := beq_iff_eq.mpr c49
                                                       have c49b1 : ((bt (a0 ++ a1) x22_3) != 91) = false := bne_eq_false_iff_eq.mpr c49
                                                       clear c49
                                                       have H' := Aside0.mk H
                                                       clear H
                                                       have p48 : 0 ≤ (x22_3 : Int) := of_decide_eq_true (by first | (with_reducible assumption) | assumption)
                                                       have q48 : x22_3 < ((a0 ++ a1).size : Int) := of_decide_eq_true (by first | (with_reducible assumption) | assumption)
                                                       have hx48 := bt_at (a0 ++ a1) x22_3
                                                       replace p48 := eq_true p48
                                                       replace q48 := eq_true q48
                                                       go_wp2
                                                       go_roundg k3
                                                       case measure => have := HJ7.out; have := HJ18.out; have := HK3.out; omega
                                                       case rel => exact ⟨(wrap64 (x21_3 + 1)), (wrap64 (x22_3 + 1)), (by first | rfl | (simp; done) | (simp [*]; done)), (by first | rfl | (simp; done) | (simp [*]; done)), H', ⟨by have := HJ7.out; have := HJ18.out; have := HK3.out; omega⟩, ⟨by repeat (first | (with_reducible first | exact HB.out | apply below_alloc | apply pw_below_drewN | apply below_drew1) | exact HB.out)⟩⟩
                                                     · rw [if_neg c49] at H
                                                       have c49b0 : ((bt (a0 ++ a1) x22_3) == 91) = false := beq_eq_false_iff_ne.mpr c49
                                                       have c49b1 : ((bt (a0 ++ a1) x22_3) != 91) = true := bne_iff_ne.mpr c49
                                                       by_cases c51 : (bt (a0 ++ a1) x22_3) = 123
                                                       · rw [if_pos c51] at H
                                                         have c51b0 : ((bt (a0 ++ a1) x22_3) == 123) = true := beq_iff_eq.mpr c51
                                                         have c51b1 : ((bt (a0 ++ a1) x22_3) != 123) = false := bne_eq_false_iff_eq.mpr c51
                                                         clear c51
                                                         have H' := Aside0.mk H
                                                         clear H
                                                         have p48 : 0 ≤ (x22_3 : Int) := of_decide_eq_true (by first | (with_reducible assumption) | assumption)
                                                         have q48 : x22_3 < ((a0 ++ a1).size : Int) := of_decide_eq_true (by first | (with_reducible assumption) | assumption)
                                                         have hx48 := bt_at (a0 ++ a1) x22_3
                                                         replace p48 := eq_true p48
                                                         replace q48 := eq_true q48
                                                         have p50 : 0 ≤ (x22_3 : Int) := of_decide_eq_true (by first | (with_reducible assumption) | assumption)
                                                         have q50 : x22_3 < ((a0 ++ a1).size : Int) := of_decide_eq_true (by first | (with_reducible assumption) | assumption)
                                                         have hx50 := bt_at (a0 ++ a1) x22_3
                                                         replace p50 := eq_true p50
                                                         replace q50 := eq_true q50
                                                         go_wp2
                                                         go_roundg k3
                                                         case measure => have := HJ7.out; have := HJ18.out; have := HK3.out; omega
                                                         case rel => exact ⟨(wrap64 (x21_3 + 1)), (wrap64 (x22_3 + 1)), (by first | rfl | (simp; done) | (simp [*]; done)), (by first | rfl | (simp; done) | (simp [*]; done)), H', ⟨by have := HJ7.out; have := HJ18.out; have := HK3.out; omega⟩, ⟨by repeat (first | (with_reducible first | exact HB.out | apply below_alloc | apply pw_below_drewN | apply below_drew1) | exact HB.out)⟩⟩
                                                       · rw [if_neg c51] at H
                                                         have c51b0 : ((bt (a0 ++ a1) x22_3) == 123) = false := beq_eq_false_iff_ne.mpr c51
                                                         have c51b1 : ((bt (a0 ++ a1) x22_3) != 123) = true := bne_iff_ne.mpr c51
                                                         have H' := Aside0.mk H
                                                         clear H
                                                         have p48 : 0 ≤ (x22_3 : Int) := of_decide_eq_true (by first | (with_reducible assumption) | assumption)
                                                         have q48 : x22_3 < ((a0 ++ a1).size : Int) := of_decide_eq_true (by first | (with_reducible assumption) | assumption)
                                                         have hx48 := bt_at (a0 ++ a1) x22_3
                                                         replace p48 := eq_true p48
                                                         replace q48 := eq_true q48
                                                         have p50 : 0 ≤ (x22_3 : Int) := of_decide_eq_true (by first | (with_reducible assumption) | assumption)
                                                         have q50 : x22_3 < ((a0 ++ a1).size : Int) := of_decide_eq_true (by first | (with_reducible assumption) | assumption)
                                                         have hx50 := bt_at (a0 ++ a1) x22_3
                                                         replace p50 := eq_true p50
                                                         replace q50 := eq_true q50
                                                         go_wp2
                                                         go_roundg k3
                                                         case measure => have := HJ7.out; have := HJ18.out; have := HK3.out; omega
                                                         case rel => exact ⟨(x21_3), (wrap64 (x22_3 + 1)), (by first | rfl | (simp; done) | (simp [*]; done)), (by first | rfl | (simp; done) | (simp [*]; done)), H', ⟨by have := HJ7.out; have := HJ18.out; have := HK3.out; omega⟩, ⟨by repeat (first | (with_reducible first | exact HB.out | apply below_alloc | apply pw_below_drewN | apply below_drew1) | exact HB.out)⟩⟩
                                                   · rw [if_neg c47] at H
                                                     exact absurd H (by simp)
                                                 · rw [if_neg c46] at H
                                                   exact absurd H (by simp)
                                               · rw [if_neg c45] at H
                                                 exact absurd H (by simp)
                                             · rw [if_neg c44] at H
                                               have c44b0 : decide (x22_3 < (wrap64 ((a0.size : Int) + (a1.size : Int)))) = false := decide_eq_false c44
                                               clear c44
                                               by_cases c52 : t108 = true
                                               · subst c52
                                                 have H1 : ((minuetlaw0_Num.f t109).bind fun t114 => (if t114 = 0 then (if t110 = true then (none) else ((minuetlaw0_Num.f t111).bind fun t115 => (if t115 = 0 then (if t112 = true then (none) else ((minuetlaw0_Num.f t113).bind fun t116 => (some (t116 == 0)))) else (none)))) else (none))) = some r := by rw [if_pos rfl] at H; exact H
                                                 clear H
                                                 have H := H1
                                                 clear H1
                                                 replace H := Option.bind_eq_some_iff.mp H
                                                 obtain ⟨t114, A530, H⟩ := H
                                                 replace H : (if t114 = 0 then (if t110 = true then (none) else ((minuetlaw0_Num.f t111).bind fun t115 => (if t115 = 0 then (if t112 = true then (none) else ((minuetlaw0_Num.f t113).bind fun t116 => (some (t116 == 0)))) else (none)))) else (none)) = some r := H
                                                 have A53 := Aside0.mk A530
                                                 clear A530
                                                 by_cases c54 : t114 = 0
                                                 · rw [if_pos c54] at H
                                                   have c54b0 : (t114 == 0) = true := beq_iff_eq.mpr c54
                                                   have c54b1 : (t114 != 0) = false := bne_eq_false_iff_eq.mpr c54
                                                   clear c54
                                                   by_cases c55 : t110 = true
                                                   · subst c55
                                                     have H1 : (none) = some r := by rw [if_pos rfl] at H; exact H
                                                     clear H
                                                     have H := H1
                                                     clear H1
                                                     exact absurd H (by simp)
                                                   · replace c55 := Bool.eq_false_iff.mpr c55
                                                     subst c55
                                                     have H1 : ((minuetlaw0_Num.f t111).bind fun t115 => (if t115 = 0 then (if t112 = true then (none) else ((minuetlaw0_Num.f t113).bind fun t116 => (some (t116 == 0)))) else (none))) = some r := by rw [if_neg (show ¬ (false = true) by decide)] at H; exact H
                                                     clear H
                                                     have H := H1
                                                     clear H1
                                                     replace H := Option.bind_eq_some_iff.mp H
                                                     obtain ⟨t115, A560, H⟩ := H
                                                     replace H : (if t115 = 0 then (if t112 = true then (none) else ((minuetlaw0_Num.f t113).bind fun t116 => (some (t116 == 0)))) else (none)) = some r := H
                                                     have A56 := Aside0.mk A560
                                                     clear A560
                                                     by_cases c57 : t115 = 0
                                                     · rw [if_pos c57] at H
                                                       have c57b0 : (t115 == 0) = true := beq_iff_eq.mpr c57
                                                       have c57b1 : (t115 != 0) = false := bne_eq_false_iff_eq.mpr c57
                                                       clear c57
                                                       by_cases c58 : t112 = true
                                                       · subst c58
                                                         have H1 : (none) = some r := by rw [if_pos rfl] at H; exact H
                                                         clear H
                                                         have H := H1
                                                         clear H1
                                                         exact absurd H (by simp)
                                                       · replace c58 := Bool.eq_false_iff.mpr c58
                                                         subst c58
                                                         have H1 : ((minuetlaw0_Num.f t113).bind fun t116 => (some (t116 == 0))) = some r := by rw [if_neg (show ¬ (false = true) by decide)] at H; exact H
                                                         clear H
                                                         have H := H1
                                                         clear H1
                                                         replace H := Option.bind_eq_some_iff.mp H
                                                         obtain ⟨t116, A590, H⟩ := H
                                                         replace H : (some (t116 == 0)) = some r := H
                                                         have A59 := Aside0.mk A590
                                                         clear A590
                                                         obtain rfl := Option.some.inj H
                                                         go_wp2_with (first | (go_at_call 15; (with_reducible refine (minuetlaw0_Num.calls t109 t114 _ A53.out).mono ?_); rintro e w' ⟨rfl, ⟨nd, rfl⟩⟩) | (go_at_call 15; (with_reducible refine (minuetlaw0_Num.calls t111 t115 _ A56.out).mono ?_); rintro e w' ⟨rfl, ⟨nd, rfl⟩⟩) | (go_at_call 15; (with_reducible refine (minuetlaw0_Num.calls t113 t116 _ A59.out).mono ?_); rintro e w' ⟨rfl, ⟨nd, rfl⟩⟩))
                                                         go_ret
                                                         exact ⟨by first | rfl | (simp [errW_none, errW_some] <;> rfl) | (simp [*, errW_none, errW_some] <;> rfl), by repeat (first | (with_reducible first | exact HB.out | apply below_alloc | apply pw_below_drewN | apply below_drew1) | exact HB.out)⟩
                                                     · rw [if_neg c57] at H
                                                       exact absurd H (by simp)
                                                 · rw [if_neg c54] at H
                                                   exact absurd H (by simp)
                                               · replace c52 := Bool.eq_false_iff.mpr c52
                                                 subst c52
                                                 have H1 : (if x21_3 ≥ 12 then ((minuetlaw0_Num.f t109).bind fun t117 => (if t117 = 0 then (if t110 = true then (none) else ((minuetlaw0_Num.f t111).bind fun t118 => (if t118 = 0 then (if t112 = true then (none) else ((minuetlaw0_Num.f t113).bind fun t119 => (some (t119 == 0)))) else (none)))) else (none))) else (none)) = some r := by rw [if_neg (show ¬ (false = true) by decide)] at H; exact H
                                                 clear H
                                                 have H := H1
                                                 clear H1
                                                 by_cases c60 : x21_3 ≥ 12
                                                 · rw [if_pos c60] at H
                                                   have c60b0 : decide (12 ≤ x21_3) = true := decide_eq_true c60
                                                   clear c60
                                                   replace H := Option.bind_eq_some_iff.mp H
                                                   obtain ⟨t117, A610, H⟩ := H
                                                   replace H : (if t117 = 0 then (if t110 = true then (none) else ((minuetlaw0_Num.f t111).bind fun t118 => (if t118 = 0 then (if t112 = true then (none) else ((minuetlaw0_Num.f t113).bind fun t119 => (some (t119 == 0)))) else (none)))) else (none)) = some r := H
                                                   have A61 := Aside0.mk A610
                                                   clear A610
                                                   by_cases c62 : t117 = 0
                                                   · rw [if_pos c62] at H
                                                     have c62b0 : (t117 == 0) = true := beq_iff_eq.mpr c62
                                                     have c62b1 : (t117 != 0) = false := bne_eq_false_iff_eq.mpr c62
                                                     clear c62
                                                     by_cases c63 : t110 = true
                                                     · subst c63
                                                       have H1 : (none) = some r := by rw [if_pos rfl] at H; exact H
                                                       clear H
                                                       have H := H1
                                                       clear H1
                                                       exact absurd H (by simp)
                                                     · replace c63 := Bool.eq_false_iff.mpr c63
                                                       subst c63
                                                       have H1 : ((minuetlaw0_Num.f t111).bind fun t118 => (if t118 = 0 then (if t112 = true then (none) else ((minuetlaw0_Num.f t113).bind fun t119 => (some (t119 == 0)))) else (none))) = some r := by rw [if_neg (show ¬ (false = true) by decide)] at H; exact H
                                                       clear H
                                                       have H := H1
                                                       clear H1
                                                       replace H := Option.bind_eq_some_iff.mp H
                                                       obtain ⟨t118, A640, H⟩ := H
                                                       replace H : (if t118 = 0 then (if t112 = true then (none) else ((minuetlaw0_Num.f t113).bind fun t119 => (some (t119 == 0)))) else (none)) = some r := H
                                                       have A64 := Aside0.mk A640
                                                       clear A640
                                                       by_cases c65 : t118 = 0
                                                       · rw [if_pos c65] at H
                                                         have c65b0 : (t118 == 0) = true := beq_iff_eq.mpr c65
                                                         have c65b1 : (t118 != 0) = false := bne_eq_false_iff_eq.mpr c65
                                                         clear c65
                                                         by_cases c66 : t112 = true
                                                         · subst c66
                                                           have H1 : (none) = some r := by rw [if_pos rfl] at H; exact H
                                                           clear H
                                                           have H := H1
                                                           clear H1
                                                           exact absurd H (by simp)
                                                         · replace c66 := Bool.eq_false_iff.mpr c66
                                                           subst c66
                                                           have H1 : ((minuetlaw0_Num.f t113).bind fun t119 => (some (t119 == 0))) = some r := by rw [if_neg (show ¬ (false = true) by decide)] at H; exact H
                                                           clear H
                                                           have H := H1
                                                           clear H1
                                                           replace H := Option.bind_eq_some_iff.mp H
                                                           obtain ⟨t119, A670, H⟩ := H
                                                           replace H : (some (t119 == 0)) = some r := H
                                                           have A67 := Aside0.mk A670
                                                           clear A670
                                                           obtain rfl := Option.some.inj H
                                                           go_wp2_with (first | (go_at_call 15; (with_reducible refine (minuetlaw0_Num.calls t109 t117 _ A61.out).mono ?_); rintro e w' ⟨rfl, ⟨nd, rfl⟩⟩) | (go_at_call 15; (with_reducible refine (minuetlaw0_Num.calls t111 t118 _ A64.out).mono ?_); rintro e w' ⟨rfl, ⟨nd, rfl⟩⟩) | (go_at_call 15; (with_reducible refine (minuetlaw0_Num.calls t113 t119 _ A67.out).mono ?_); rintro e w' ⟨rfl, ⟨nd, rfl⟩⟩))
                                                           go_ret
                                                           exact ⟨by first | rfl | (simp [errW_none, errW_some] <;> rfl) | (simp [*, errW_none, errW_some] <;> rfl), by repeat (first | (with_reducible first | exact HB.out | apply below_alloc | apply pw_below_drewN | apply below_drew1) | exact HB.out)⟩
                                                       · rw [if_neg c65] at H
                                                         exact absurd H (by simp)
                                                   · rw [if_neg c62] at H
                                                     exact absurd H (by simp)
                                                 · rw [if_neg c60] at H
                                                   exact absurd H (by simp)
                                         · rw [if_neg c39] at H
                                           exact absurd H (by simp)
                                       · rw [if_neg c38] at H
                                         exact absurd H (by simp)
                                     · rw [if_neg c37] at H
                                       exact absurd H (by simp)
                                   · rw [if_neg c36] at H
                                     exact absurd H (by simp)
                                 · rw [if_neg c35] at H
                                   exact absurd H (by simp)
                               · rw [if_neg c33] at H
                                 exact absurd H (by simp)
                             · rw [if_neg c32] at H
                               exact absurd H (by simp)
                           · rw [if_neg c31] at H
                             exact absurd H (by simp)
                         · rw [if_neg c30] at H
                           exact absurd H (by simp)
                       · rw [if_neg c29] at H
                         exact absurd H (by simp)
                     · rw [if_neg c27] at H
                       exact absurd H (by simp)
                   · rw [if_neg c26] at H
                     exact absurd H (by simp)
                 · rw [if_neg c25] at H
                   exact absurd H (by simp)
               · rw [if_neg c24] at H
                 exact absurd H (by simp)
             · rw [if_neg c23] at H
               exact absurd H (by simp)
           · rw [if_neg c22] at H
             exact absurd H (by simp)
         · rw [if_neg c21] at H
           exact absurd H (by simp)
 · replace c5 := Bool.eq_false_iff.mpr c5
   subst c5
   have H1 : (none) = some r := by rw [if_neg (show ¬ (false = true) by decide)] at H; exact H
   clear H
   have H := H1
   clear H1
   exact absurd H (by simp)

/-- THE ONE PURE STATEMENT of minuetlaw12_GoodMade: yours. -/
def minuetlaw12_GoodMade.Pure : Prop := ∀ (a0 : ByteArray) (a1 : ByteArray) (a2 : Bool), a0.size ≤ 140737488351232 → a1.size ≤ 140737488351232 → ∃ k, minuetlaw12_GoodMade.f k a0 a1 a2 = some true
theorem minuetlaw12_GoodMade.walk (P : minuetlaw12_GoodMade.Pure) (a0 : ByteArray) (a1 : ByteArray) (a2 : Bool) (w : World) (hm_ : MaxOk w) (w0 : a0.size ≤ 140737488351232) (w1 : a1.size ≤ 140737488351232) :
 Calls Try.prog 10 #[.string a0, .string a1, .bool a2] w fun e w' => e = .returned (.bool true) ∧ Below w.heap.size w w' := by
 obtain ⟨k, h⟩ := P a0 a1 a2 w0 w1
 refine (minuetlaw12_GoodMade.calls k a0 a1 a2 true w hm_ h).mono ?_
 rintro e w' ⟨rfl, hd⟩
 exact ⟨rfl, hd⟩

end Go.Proofs.Ytnhkdpcncjkmlaa.G
