-- Laid by this session's own program gprint.py (wip/tools), out of the kit's print and of texts of this session. Lean checks it.
import Derived.Test.YtnhkdpcncjkmlaaGx0
import Derived.Test.YtnhkdpcncjkmlaaGLexPTokens
import Derived.Test.YtnhkdpcncjkmlaaGMinuetlaw0PNum
import Derived.Test.YtnhkdpcncjkmlaaGRelexPAgain
import Derived.Test.YtnhkdpcncjkmlaaGMinuetlaw10qawake
import Derived.Test.YtnhkdpcncjkmlaaGMinuetref0PDecimal
namespace Go.Proofs.Ytnhkdpcncjkmlaa.G
open Go.RowKit Go.Proofs.YtnhkdpcncjkmlaaW.PrintWords Go.Proofs.YtnhkdpcncjkmlaaW.PrintLast Go.Proofs.YtnhkdpcncjkmlaaW.PrintMore
attribute [local go_sem] max2_int min2_int max_two min_two max_three min_three max_four min_four   -- for this text's walks alone
set_option linter.unusedVariables false
set_option linter.unusedSimpArgs false

/-! ### minuetlaw10_AgainNear: function 6 -/
mutual
def minuetlaw10_AgainNear.l0 : Nat → List Int → Int → ByteArray → Int → Int → Int → Int → Option (Bool)
 | 0, _, _, _, _, _, _, _ => none
 | k + 1, x0, x2, x7, x8, x9, x10, x11 => if x11 < (x0.length : Int) then (minuetlaw10_AgainNear.j1 k x0 x2 x7 x8 x9 x10 x11 (decide (x11 < 20))) else (minuetlaw10_AgainNear.j1 k x0 x2 x7 x8 x9 x10 x11 false)
def minuetlaw10_AgainNear.j1 : Nat → List Int → Int → ByteArray → Int → Int → Int → Int → Bool → Option (Bool)
 | 0, _, _, _, _, _, _, _, _ => none
 | k + 1, x0, x2, x7, x8, x9, x10, x11, x40 => if x40 = true then (if x11 > 0 then (if x7.size + 1 ≤ 9223372036854775807 then (if 0 ≤ x11 then (if x11 < (x0.length : Int) then ((minuetref0_Decimal.f k (Go.bits .and .i64 (rd x0 x11) 4095)).bind fun t103 => (if x11 = x10 then (if (x7 ++ (⟨#[44]⟩ : ByteArray)).size + t103.size ≤ 9223372036854775807 then (minuetlaw10_AgainNear.l0 k x0 x2 ((x7 ++ (⟨#[44]⟩ : ByteArray)) ++ t103) ((x7 ++ (⟨#[44]⟩ : ByteArray)).size : Int) (t103.size : Int) x10 (wrap64 (x11 + 1))) else (none)) else (if (x7 ++ (⟨#[44]⟩ : ByteArray)).size + t103.size ≤ 9223372036854775807 then (minuetlaw10_AgainNear.l0 k x0 x2 ((x7 ++ (⟨#[44]⟩ : ByteArray)) ++ t103) x8 x9 x10 (wrap64 (x11 + 1))) else (none)))) else (none)) else (none)) else (none)) else (if 0 ≤ x11 then (if x11 < (x0.length : Int) then ((minuetref0_Decimal.f k (Go.bits .and .i64 (rd x0 x11) 4095)).bind fun t105 => (if x11 = x10 then (if x7.size + t105.size ≤ 9223372036854775807 then (minuetlaw10_AgainNear.l0 k x0 x2 (x7 ++ t105) (x7.size : Int) (t105.size : Int) x10 (wrap64 (x11 + 1))) else (none)) else (if x7.size + t105.size ≤ 9223372036854775807 then (minuetlaw10_AgainNear.l0 k x0 x2 (x7 ++ t105) x8 x9 x10 (wrap64 (x11 + 1))) else (none)))) else (none)) else (none))) else (if x7.size + 1 ≤ 9223372036854775807 then ((lex_Tokens.f (x7 ++ (⟨#[93]⟩ : ByteArray))).bind fun bt106 => ((minuetref0_Decimal.f k (wrap64 ((Go.bits .and .i64 x2 4095) + 10000))).bind fun t110 => ((relex_Again.f k (x7 ++ (⟨#[93]⟩ : ByteArray)) bt106.1 x8 x9 t110).bind fun bt111 => ((minuetlaw0_Num.f bt106.2).bind fun t117 => (if t117 = 0 then ((minuetlaw0_Num.f bt111.2.2.2).bind fun t118 => (if t118 = 0 then (if (bt111.1.length : Int) = (bt106.1.length : Int) then (if bt111.2.1 = (wrap64 (1 + (wrap64 (2 * x10)))) then (some (bt111.2.2.1 == (wrap64 ((wrap64 ((bt106.1.length : Int) - bt111.2.1)) - 1)))) else (none)) else (none)) else (none))) else (none)))))) else (none))
end
def minuetlaw10_AgainNear.f (k : Nat) (l0 : List Int) (a1 : Int) (a2 : Int) : Option (Bool) := (minuetlaw10_awake.f k).bind fun t101 => (if t101 = true then (if (l0.length : Int) < 1 then (some true) else (if (mn (l0.length : Int) 20) = 0 then (none) else (minuetlaw10_AgainNear.l0 k l0 a2 (⟨#[91]⟩ : ByteArray) 0 0 (wrap64 (Int.tmod (IntKind.u64.wrap (a1)) (mn (l0.length : Int) 20))) 0))) else (none))
theorem minuetlaw10_AgainNear.mono_l : ∀ k, (∀ y0 y1 y2 y3 y4 y5 y6, LeO (minuetlaw10_AgainNear.l0 k y0 y1 y2 y3 y4 y5 y6) (minuetlaw10_AgainNear.l0 (k + 1) y0 y1 y2 y3 y4 y5 y6)) ∧ (∀ y0 y1 y2 y3 y4 y5 y6 y7, LeO (minuetlaw10_AgainNear.j1 k y0 y1 y2 y3 y4 y5 y6 y7) (minuetlaw10_AgainNear.j1 (k + 1) y0 y1 y2 y3 y4 y5 y6 y7))
 | 0 => ⟨fun _ _ _ _ _ _ _ r h => by simp [minuetlaw10_AgainNear.l0] at h, fun _ _ _ _ _ _ _ _ r h => by simp [minuetlaw10_AgainNear.j1] at h⟩
 | k + 1 => by
  obtain ⟨ih0, ih1⟩ := minuetlaw10_AgainNear.mono_l k
  refine ⟨?_, ?_⟩
  · intro y0 y1 y2 y3 y4 y5 y6
    unfold minuetlaw10_AgainNear.l0
    repeat' first
    | (with_reducible exact ih0 _ _ _ _ _ _ _)
    | (with_reducible exact ih1 _ _ _ _ _ _ _ _)
    | (with_reducible exact minuetlaw10_awake.mono _)
    | (with_reducible exact minuetref0_Decimal.mono _ _)
    | (with_reducible exact relex_Again.mono _ _ _ _ _ _)
    | (with_reducible exact LeO.refl _)
    | (with_reducible exact LeO.none _)
    | (with_reducible refine LeO.ite ?_ ?_)
    | (with_reducible refine LeO.bind ?_ (fun _ => ?_))
    | exact ih0 _ _ _ _ _ _ _
    | exact ih1 _ _ _ _ _ _ _ _
    | exact minuetlaw10_awake.mono _
    | exact minuetref0_Decimal.mono _ _
    | exact relex_Again.mono _ _ _ _ _ _
    | exact LeO.none _
    | refine LeO.ite ?_ ?_
    | refine LeO.bind ?_ (fun _ => ?_)
  · intro y0 y1 y2 y3 y4 y5 y6 y7
    unfold minuetlaw10_AgainNear.j1
    repeat' first
    | (with_reducible exact ih0 _ _ _ _ _ _ _)
    | (with_reducible exact ih1 _ _ _ _ _ _ _ _)
    | (with_reducible exact minuetlaw10_awake.mono _)
    | (with_reducible exact minuetref0_Decimal.mono _ _)
    | (with_reducible exact relex_Again.mono _ _ _ _ _ _)
    | (with_reducible exact LeO.refl _)
    | (with_reducible exact LeO.none _)
    | (with_reducible refine LeO.ite ?_ ?_)
    | (with_reducible refine LeO.bind ?_ (fun _ => ?_))
    | exact ih0 _ _ _ _ _ _ _
    | exact ih1 _ _ _ _ _ _ _ _
    | exact minuetlaw10_awake.mono _
    | exact minuetref0_Decimal.mono _ _
    | exact relex_Again.mono _ _ _ _ _ _
    | exact LeO.none _
    | refine LeO.ite ?_ ?_
    | refine LeO.bind ?_ (fun _ => ?_)
theorem minuetlaw10_AgainNear.mono : ∀ a0 a1 a2 k, LeO (minuetlaw10_AgainNear.f k a0 a1 a2) (minuetlaw10_AgainNear.f (k + 1) a0 a1 a2) := by
 intro a0 a1 a2 k
 obtain ⟨ih0, ih1⟩ := minuetlaw10_AgainNear.mono_l k
 unfold minuetlaw10_AgainNear.f
 repeat' first
  | (with_reducible exact ih0 _ _ _ _ _ _ _)
  | (with_reducible exact ih1 _ _ _ _ _ _ _ _)
  | (with_reducible exact minuetlaw10_awake.mono _)
  | (with_reducible exact minuetref0_Decimal.mono _ _)
  | (with_reducible exact relex_Again.mono _ _ _ _ _ _)
  | (with_reducible exact LeO.refl _)
  | (with_reducible exact LeO.none _)
  | (with_reducible refine LeO.ite ?_ ?_)
  | (with_reducible refine LeO.bind ?_ (fun _ => ?_))
  | exact ih0 _ _ _ _ _ _ _
  | exact ih1 _ _ _ _ _ _ _ _
  | exact minuetlaw10_awake.mono _
  | exact minuetref0_Decimal.mono _ _
  | exact relex_Again.mono _ _ _ _ _ _
  | exact LeO.none _
  | refine LeO.ite ?_ ?_
  | refine LeO.bind ?_ (fun _ => ?_)
set_option maxHeartbeats 8000000 in
set_option maxRecDepth 100000 in
theorem minuetlaw10_AgainNear.calls (k : Nat) (A0 : Option Addr) (c0 : Nat) (l0 : List Int) (a1 : Int) (a2 : Int) (r : Bool) (w : World) (hr0 : Kd.C (Kd.int .i64) w A0 l0.length l0) (hc0 : l0.length ≤ c0) (hm_ : MaxOk w) (h : minuetlaw10_AgainNear.f k l0 a1 a2 = some r) :
 Calls Try.prog 6 #[.slice A0 l0.length c0, .int .i64 a1, .int .i64 a2] w fun e w' => e = .returned (.bool r) ∧ Below w.heap.size w w' := by
 have HM_ := Aside0.mk hm_
 clear hm_
 have HR0 := Aside0.mk hr0
 have HC0 := Aside0.mk hc0
 clear hr0 hc0
 have HB := Aside0.mk (Below.refl w.heap.size w)
 have H : ((minuetlaw10_awake.f k).bind fun t101 => (if t101 = true then (if (l0.length : Int) < 1 then (some true) else (if (mn (l0.length : Int) 20) = 0 then (none) else (minuetlaw10_AgainNear.l0 k l0 a2 (⟨#[91]⟩ : ByteArray) 0 0 (wrap64 (Int.tmod (IntKind.u64.wrap (a1)) (mn (l0.length : Int) 20))) 0))) else (none))) = some r := h
 clear h
 replace H := Option.bind_eq_some_iff.mp H
 obtain ⟨t101, A40, H⟩ := H
 replace H : (if t101 = true then (if (l0.length : Int) < 1 then (some true) else (if (mn (l0.length : Int) 20) = 0 then (none) else (minuetlaw10_AgainNear.l0 k l0 a2 (⟨#[91]⟩ : ByteArray) 0 0 (wrap64 (Int.tmod (IntKind.u64.wrap (a1)) (mn (l0.length : Int) 20))) 0))) else (none)) = some r := H
 have A4 := Aside0.mk A40
 clear A40
 by_cases c5 : t101 = true
 · subst c5
   have H1 : (if (l0.length : Int) < 1 then (some true) else (if (mn (l0.length : Int) 20) = 0 then (none) else (minuetlaw10_AgainNear.l0 k l0 a2 (⟨#[91]⟩ : ByteArray) 0 0 (wrap64 (Int.tmod (IntKind.u64.wrap (a1)) (mn (l0.length : Int) 20))) 0))) = some r := by rw [if_pos rfl] at H; exact H
   clear H
   have H := H1
   clear H1
   by_cases c6 : (l0.length : Int) < 1
   · rw [if_pos c6] at H
     have c6b0 : decide ((l0.length : Int) < 1) = true := decide_eq_true c6
     have c6b1 : decide (l0.length < 1) = true := decide_eq_true (by omega)
     clear c6
     obtain rfl := Option.some.inj H
     go_enter Try.func6, Try.ntmps6
     go_wp2_with (first | ((with_reducible refine gate_callee (f := 22) rfl ?_); refine goesL_ (some 20) rfl rfl Try.func22 (by kernel_rfl) rfl #[] rfl (by (try simp only [List.map_toArray, List.map_cons, List.map_nil]); first | done | rfl | (simp only [List.length_drop, List.length_take]; rfl)) ?_; (with_reducible refine (minuetlaw10_awake.calls k  true _ (MaxOk.of HM_.out (by repeat (first | (with_reducible first | exact HB.out | apply below_alloc | apply pw_below_drewN | apply below_drew1) | exact HB.out))) A4.out).mono ?_); rintro e w7 ⟨rfl, hb⟩; refine ⟨_, rfl, ?_⟩; have n0_ := Aside0.mk (below_step (by repeat (first | (with_reducible first | exact HB.out | apply below_alloc | apply pw_below_drewN | apply below_drew1) | exact HB.out)) hb); clear HB; have HB := n0_; clear n0_; (try clear hb); (try clear hb2); (try clear hk); (try clear hi)))
     go_ret
     exact ⟨by first | rfl | (simp [errW_none, errW_some] <;> rfl) | (simp [*, errW_none, errW_some] <;> rfl), by repeat (first | (with_reducible first | exact HB.out | apply below_alloc | apply pw_below_drewN | apply below_drew1) | exact HB.out)⟩
   · rw [if_neg c6] at H
     have c6b0 : decide ((l0.length : Int) < 1) = false := decide_eq_false c6
     have c6b1 : decide (l0.length < 1) = false := decide_eq_false (by omega)
     clear c6
     obtain ⟨ji8, hji8⟩ : ∃ j_ : Int, (mn (l0.length : Int) 20) = j_ := ⟨_, rfl⟩
     replace H : (if (ji8) = 0 then (none) else (minuetlaw10_AgainNear.l0 k l0 a2 (⟨#[91]⟩ : ByteArray) 0 0 (wrap64 (Int.tmod (IntKind.u64.wrap (a1)) (ji8))) 0)) = some r := by first | (rw [hji8] at H; exact H) | (simp only [hji8] at H ⊢; exact H)
     (try rw [hji8] at A4)
     (try (have hji8h : ji8 ≤ 20 := by (rw [← hji8]; unfold mn; (repeat' split) <;> omega)))
     (try (have hji8g : ji8 ≤ 64 := by omega))
     (try (have hji8l : 0 ≤ ji8 := by (rw [← hji8]; unfold mn; (repeat' split) <;> omega)))
     (try (have hji8m : 0 ≤ ji8 := by omega))
     have hji8_ : (if 20 < (l0.length : Int) then 20 else (l0.length : Int)) = ji8 := hji8
     by_cases c9 : (ji8) = 0
     · rw [if_pos c9] at H
       exact absurd H (by simp)
     · rw [if_neg c9] at H
       have c9b0 : ((ji8) == 0) = false := beq_eq_false_iff_ne.mpr c9
       have c9b1 : ((ji8) != 0) = true := bne_iff_ne.mpr c9
       have H' := Aside0.mk H
       clear H
       go_enter Try.func6, Try.ntmps6
       go_wp2_with (first | ((with_reducible refine gate_callee (f := 22) rfl ?_); refine goesL_ (some 20) rfl rfl Try.func22 (by kernel_rfl) rfl #[] rfl (by (try simp only [List.map_toArray, List.map_cons, List.map_nil]); first | done | rfl | (simp only [List.length_drop, List.length_take]; rfl)) ?_; (with_reducible refine (minuetlaw10_awake.calls k  true _ (MaxOk.of HM_.out (by repeat (first | (with_reducible first | exact HB.out | apply below_alloc | apply pw_below_drewN | apply below_drew1) | exact HB.out))) A4.out).mono ?_); rintro e w10 ⟨rfl, hb⟩; refine ⟨_, rfl, ?_⟩; have n0_ := Aside0.mk (below_step (by repeat (first | (with_reducible first | exact HB.out | apply below_alloc | apply pw_below_drewN | apply below_drew1) | exact HB.out)) hb); clear HB; have HB := n0_; clear n0_; (try clear hb); (try clear hb2); (try clear hk); (try clear hi)))
       go_loopg [7, 8, 9, 11] k (fun kq v7 v8 v9 v11 w' => ∃ (x7_1 : ByteArray) (x8_1 : Int) (x9_1 : Int) (x11_1 : Int), v7 = .string x7_1 ∧ v8 = .int .i64 x8_1 ∧ v9 = .int .i64 x9_1 ∧ v11 = .int .i64 x11_1 ∧ Aside0 (minuetlaw10_AgainNear.l0 kq l0 a2 x7_1 x8_1 x9_1 (wrap64 (Int.tmod (IntKind.u64.wrap (a1)) (ji8))) x11_1 = some r) ∧ Aside0 (kq ≤ k) ∧ Aside0 (Below w.heap.size w w'))
       case atStart => exact ⟨((⟨#[91]⟩ : ByteArray)), (0), (0), (0), (by first | rfl | (simp; done) | (simp; rfl) | (simp [*]; done)), (by first | rfl | (simp; done) | (simp; rfl) | (simp [*]; done)), (by first | rfl | (simp; done) | (simp; rfl) | (simp [*]; done)), (by first | rfl | (simp; done) | (simp; rfl) | (simp [*]; done)), H', ⟨Nat.le_refl _⟩, ⟨by repeat (first | (with_reducible first | exact HB.out | apply below_alloc | apply pw_below_drewN | apply below_drew1) | exact HB.out)⟩⟩
       case round =>
        clear H'
        try clear c2
        try clear p2
        try clear c5
        try clear c6
        try clear c6b0
        try clear c6b1
        try clear p6
        try clear c9
        try clear c9b0
        try clear c9b1
        obtain ⟨x7_1, x8_1, x9_1, x11_1, rfl, rfl, rfl, rfl, HA, HK1, HB⟩ := hrel
        cases gk with
        | zero => exact absurd HA.out (by simp [minuetlaw10_AgainNear.l0])
        | succ k1 =>
         have H := HA.out
         clear HA
         simp only [minuetlaw10_AgainNear.l0] at H
         have HC11 := Aside0.mk H
         clear H
         go_upto_region 8 with (fail)
         go_cut [40] (fun v40 wc => ∃ (kq : Nat) (x40_10 : Bool), v40 = .bool x40_10 ∧ Aside0 (minuetlaw10_AgainNear.j1 kq l0 a2 x7_1 x8_1 x9_1 (wrap64 (Int.tmod (IntKind.u64.wrap (a1)) (ji8))) x11_1 x40_10 = some r) ∧ Aside0 (kq ≤ k1) ∧ Aside0 (Below w.heap.size w wc))
         case first =>
          have H := HC11.out
          clear HC11
          by_cases c12 : x11_1 < (l0.length : Int)
          · rw [if_pos c12] at H
            have c12b0 : decide (x11_1 < (l0.length : Int)) = true := decide_eq_true c12
            clear c12
            (first | rw [c12b0] | (simp only [i64_w, i32_w]; rw [c12b0]) | skip)
            have H' := Aside0.mk H
            clear H
            go_wp2
            go_meet
            case rel => exact ⟨_, (decide (x11_1 < 20)), (by first | rfl | (simp; done) | (simp; rfl) | (simp [*]; done)), H', ⟨by have := HK1.out; first | omega | exact Nat.le_refl _⟩, ⟨by repeat (first | (with_reducible first | exact HB.out | apply below_alloc | apply pw_below_drewN | apply below_drew1) | exact HB.out)⟩⟩
          · rw [if_neg c12] at H
            have c12b0 : decide (x11_1 < (l0.length : Int)) = false := decide_eq_false c12
            clear c12
            (first | rw [c12b0] | (simp only [i64_w, i32_w]; rw [c12b0]) | skip)
            have H' := Aside0.mk H
            clear H
            go_wp2
            go_meet
            case rel => exact ⟨_, (false), (by first | rfl | (simp; done) | (simp; rfl) | (simp [*]; done)), H', ⟨by have := HK1.out; first | omega | exact Nat.le_refl _⟩, ⟨by repeat (first | (with_reducible first | exact HB.out | apply below_alloc | apply pw_below_drewN | apply below_drew1) | exact HB.out)⟩⟩
         case rest =>
          clear HC11
          try clear c1
          try clear c2
          try clear p2
          try clear c5
          try clear c6
          try clear c6b0
          try clear c6b1
          try clear p6
          try clear c9
          try clear c9b0
          try clear c9b1
          try clear c12
          try clear c12b0
          try clear p2
          try clear p6
          obtain ⟨kq, x40_10, rfl, HA, HJ10, HB⟩ := hcut
          cases kq with
          | zero => exact absurd HA.out (by simp [minuetlaw10_AgainNear.j1])
          | succ kj10 =>
           have H := HA.out
           clear HA
           simp only [minuetlaw10_AgainNear.j1] at H
           by_cases c13 : x40_10 = true
           · subst c13
             have H1 : (if x11_1 > 0 then (if x7_1.size + 1 ≤ 9223372036854775807 then (if 0 ≤ x11_1 then (if x11_1 < (l0.length : Int) then ((minuetref0_Decimal.f kj10 (Go.bits .and .i64 (rd l0 x11_1) 4095)).bind fun t103 => (if x11_1 = (wrap64 (Int.tmod (IntKind.u64.wrap (a1)) (ji8))) then (if (x7_1 ++ (⟨#[44]⟩ : ByteArray)).size + t103.size ≤ 9223372036854775807 then (minuetlaw10_AgainNear.l0 kj10 l0 a2 ((x7_1 ++ (⟨#[44]⟩ : ByteArray)) ++ t103) ((x7_1 ++ (⟨#[44]⟩ : ByteArray)).size : Int) (t103.size : Int) (wrap64 (Int.tmod (IntKind.u64.wrap (a1)) (ji8))) (wrap64 (x11_1 + 1))) else (none)) else (if (x7_1 ++ (⟨#[44]⟩ : ByteArray)).size + t103.size ≤ 9223372036854775807 then (minuetlaw10_AgainNear.l0 kj10 l0 a2 ((x7_1 ++ (⟨#[44]⟩ : ByteArray)) ++ t103) x8_1 x9_1 (wrap64 (Int.tmod (IntKind.u64.wrap (a1)) (ji8))) (wrap64 (x11_1 + 1))) else (none)))) else (none)) else (none)) else (none)) else (if 0 ≤ x11_1 then (if x11_1 < (l0.length : Int) then ((minuetref0_Decimal.f kj10 (Go.bits .and .i64 (rd l0 x11_1) 4095)).bind fun t105 => (if x11_1 = (wrap64 (Int.tmod (IntKind.u64.wrap (a1)) (ji8))) then (if x7_1.size + t105.size ≤ 9223372036854775807 then (minuetlaw10_AgainNear.l0 kj10 l0 a2 (x7_1 ++ t105) (x7_1.size : Int) (t105.size : Int) (wrap64 (Int.tmod (IntKind.u64.wrap (a1)) (ji8))) (wrap64 (x11_1 + 1))) else (none)) else (if x7_1.size + t105.size ≤ 9223372036854775807 then (minuetlaw10_AgainNear.l0 kj10 l0 a2 (x7_1 ++ t105) x8_1 x9_1 (wrap64 (Int.tmod (IntKind.u64.wrap (a1)) (ji8))) (wrap64 (x11_1 + 1))) else (none)))) else (none)) else (none))) = some r := by rw [if_pos rfl] at H; exact H
             clear H
             have H := H1
             clear H1
             by_cases c14 : x11_1 > 0
             · rw [if_pos c14] at H
               have c14b0 : decide (0 < x11_1) = true := decide_eq_true c14
               clear c14
               by_cases c15 : x7_1.size + 1 ≤ 9223372036854775807
               · rw [if_pos c15] at H
                 have c15b0 := eq_true c15
                 have c15b1 : decide (x7_1.size + 1 ≤ 9223372036854775807) = true := decide_eq_true c15
                 try have c15b2 : (9223372036854775807 < x7_1.size + 1) = False := eq_false (Nat.not_lt.2 c15)
                 by_cases c16 : 0 ≤ x11_1
                 · rw [if_pos c16] at H
                   have c16b0 : decide (0 ≤ x11_1) = true := decide_eq_true c16
                   clear c16
                   by_cases c17 : x11_1 < (l0.length : Int)
                   · rw [if_pos c17] at H
                     have c17b0 : decide (x11_1 < (l0.length : Int)) = true := decide_eq_true c17
                     clear c17
                     replace H := Option.bind_eq_some_iff.mp H
                     obtain ⟨t103, A180, H⟩ := H
                     replace H : (if x11_1 = (wrap64 (Int.tmod (IntKind.u64.wrap (a1)) (ji8))) then (if (x7_1 ++ (⟨#[44]⟩ : ByteArray)).size + t103.size ≤ 9223372036854775807 then (minuetlaw10_AgainNear.l0 kj10 l0 a2 ((x7_1 ++ (⟨#[44]⟩ : ByteArray)) ++ t103) ((x7_1 ++ (⟨#[44]⟩ : ByteArray)).size : Int) (t103.size : Int) (wrap64 (Int.tmod (IntKind.u64.wrap (a1)) (ji8))) (wrap64 (x11_1 + 1))) else (none)) else (if (x7_1 ++ (⟨#[44]⟩ : ByteArray)).size + t103.size ≤ 9223372036854775807 then (minuetlaw10_AgainNear.l0 kj10 l0 a2 ((x7_1 ++ (⟨#[44]⟩ : ByteArray)) ++ t103) x8_1 x9_1 (wrap64 (Int.tmod (IntKind.u64.wrap (a1)) (ji8))) (wrap64 (x11_1 + 1))) else (none))) = some r := H
                     have A18 := Aside0.mk A180
                     clear A180
                     by_cases c19 : x11_1 = (wrap64 (Int.tmod (IntKind.u64.wrap (a1)) (ji8)))
                     · rw [if_pos c19] at H
                       have c19b0 : (x11_1 == (wrap64 (Int.tmod (IntKind.u64.wrap (a1)) (ji8)))) = true := beq_iff_eq.mpr c19
                       have c19b1 : (x11_1 != (wrap64 (Int.tmod (IntKind.u64.wrap (a1)) (ji8)))) = false := bne_eq_false_iff_eq.mpr c19
                       clear c19
                       by_cases c20 : (x7_1 ++ (⟨#[44]⟩ : ByteArray)).size + t103.size ≤ 9223372036854775807
                       · rw [if_pos c20] at H
                         have c20b0 := eq_true c20
                         have c20b1 : decide ((x7_1 ++ (⟨#[44]⟩ : ByteArray)).size + t103.size ≤ 9223372036854775807) = true := decide_eq_true c20
                         try have c20b2 : (9223372036854775807 < (x7_1 ++ (⟨#[44]⟩ : ByteArray)).size + t103.size) = False := eq_false (Nat.not_lt.2 c20)
                         have H' := Aside0.mk H
                         clear H
                         have p102 : 0 ≤ (x11_1 : Int) := of_decide_eq_true (by first | (with_reducible assumption) | assumption)
                         have q102 : x11_1 < (l0.length : Int) := of_decide_eq_true (by first | (with_reducible assumption) | assumption)
                         obtain ⟨ad102, e102, hx102_0⟩ := Kd.at_int HR0.out x11_1 p102 q102
                         cases e102
                         replace hx102_0 := (HB.out.cell (World.block_lt_of_cell? w _ hx102_0)).trans hx102_0
                         replace p102 := eq_true p102
                         replace q102 := eq_true q102
                         go_wp2_with (first | ((with_reducible refine gate_callee (f := 23) rfl ?_); refine goesL_ (some 52) rfl rfl Try.func23 (by kernel_rfl) rfl #[.int .i64 (Go.bits .and .i64 (rd l0 x11_1) 4095)] rfl (by (try simp only [List.map_toArray, List.map_cons, List.map_nil]); first | done | rfl | (simp only [List.length_drop, List.length_take]; rfl)) ?_; (with_reducible refine (minuetref0_Decimal.calls kj10 (Go.bits .and .i64 (rd l0 x11_1) 4095) t103 _ A18.out).mono ?_); rintro e w21 ⟨rfl, hb⟩; refine ⟨_, rfl, ?_⟩; have n0_ := Aside0.mk (below_step (by repeat (first | (with_reducible first | exact HB.out | apply below_alloc | apply pw_below_drewN | apply below_drew1) | exact HB.out)) hb); clear HB; have HB := n0_; clear n0_; (try clear hb); (try clear hb2); (try clear hk); (try clear hi)))
                         go_roundg kj10
                         case measure => have := HK1.out; have := HJ10.out; omega
                         case rel => exact ⟨((x7_1 ++ (⟨#[44]⟩ : ByteArray)) ++ t103), (((x7_1 ++ (⟨#[44]⟩ : ByteArray)).size : Int)), ((t103.size : Int)), (wrap64 (x11_1 + 1)), (by first | rfl | (simp; done) | (simp; rfl) | (simp [*]; done)), (by first | rfl | (simp; done) | (simp; rfl) | (simp [*]; done)), (by first | rfl | (simp; done) | (simp; rfl) | (simp [*]; done)), (by first | rfl | (simp; done) | (simp; rfl) | (simp [*]; done)), H', ⟨by have := HK1.out; have := HJ10.out; omega⟩, ⟨by repeat (first | (with_reducible first | exact HB.out | apply below_alloc | apply pw_below_drewN | apply below_drew1) | exact HB.out)⟩⟩
                       · rw [if_neg c20] at H
                         exact absurd H (by simp)
                     · rw [if_neg c19] at H
                       have c19b0 : (x11_1 == (wrap64 (Int.tmod (IntKind.u64.wrap (a1)) (ji8)))) = false := beq_eq_false_iff_ne.mpr c19
                       have c19b1 : (x11_1 != (wrap64 (Int.tmod (IntKind.u64.wrap (a1)) (ji8)))) = true := bne_iff_ne.mpr c19
                       by_cases c22 : (x7_1 ++ (⟨#[44]⟩ : ByteArray)).size + t103.size ≤ 9223372036854775807
                       · rw [if_pos c22] at H
                         have c22b0 := eq_true c22
                         have c22b1 : decide ((x7_1 ++ (⟨#[44]⟩ : ByteArray)).size + t103.size ≤ 9223372036854775807) = true := decide_eq_true c22
                         try have c22b2 : (9223372036854775807 < (x7_1 ++ (⟨#[44]⟩ : ByteArray)).size + t103.size) = False := eq_false (Nat.not_lt.2 c22)
                         have H' := Aside0.mk H
                         clear H
                         have p102 : 0 ≤ (x11_1 : Int) := of_decide_eq_true (by first | (with_reducible assumption) | assumption)
                         have q102 : x11_1 < (l0.length : Int) := of_decide_eq_true (by first | (with_reducible assumption) | assumption)
                         obtain ⟨ad102, e102, hx102_0⟩ := Kd.at_int HR0.out x11_1 p102 q102
                         cases e102
                         replace hx102_0 := (HB.out.cell (World.block_lt_of_cell? w _ hx102_0)).trans hx102_0
                         replace p102 := eq_true p102
                         replace q102 := eq_true q102
                         go_wp2_with (first | ((with_reducible refine gate_callee (f := 23) rfl ?_); refine goesL_ (some 52) rfl rfl Try.func23 (by kernel_rfl) rfl #[.int .i64 (Go.bits .and .i64 (rd l0 x11_1) 4095)] rfl (by (try simp only [List.map_toArray, List.map_cons, List.map_nil]); first | done | rfl | (simp only [List.length_drop, List.length_take]; rfl)) ?_; (with_reducible refine (minuetref0_Decimal.calls kj10 (Go.bits .and .i64 (rd l0 x11_1) 4095) t103 _ A18.out).mono ?_); rintro e w23 ⟨rfl, hb⟩; refine ⟨_, rfl, ?_⟩; have n0_ := Aside0.mk (below_step (by repeat (first | (with_reducible first | exact HB.out | apply below_alloc | apply pw_below_drewN | apply below_drew1) | exact HB.out)) hb); clear HB; have HB := n0_; clear n0_; (try clear hb); (try clear hb2); (try clear hk); (try clear hi)))
                         go_roundg kj10
                         case measure => have := HK1.out; have := HJ10.out; omega
                         case rel => exact ⟨((x7_1 ++ (⟨#[44]⟩ : ByteArray)) ++ t103), (x8_1), (x9_1), (wrap64 (x11_1 + 1)), (by first | rfl | (simp; done) | (simp; rfl) | (simp [*]; done)), (by first | rfl | (simp; done) | (simp; rfl) | (simp [*]; done)), (by first | rfl | (simp; done) | (simp; rfl) | (simp [*]; done)), (by first | rfl | (simp; done) | (simp; rfl) | (simp [*]; done)), H', ⟨by have := HK1.out; have := HJ10.out; omega⟩, ⟨by repeat (first | (with_reducible first | exact HB.out | apply below_alloc | apply pw_below_drewN | apply below_drew1) | exact HB.out)⟩⟩
                       · rw [if_neg c22] at H
                         exact absurd H (by simp)
                   · rw [if_neg c17] at H
                     exact absurd H (by simp)
                 · rw [if_neg c16] at H
                   exact absurd H (by simp)
               · rw [if_neg c15] at H
                 exact absurd H (by simp)
             · rw [if_neg c14] at H
               have c14b0 : decide (0 < x11_1) = false := decide_eq_false c14
               clear c14
               by_cases c24 : 0 ≤ x11_1
               · rw [if_pos c24] at H
                 have c24b0 : decide (0 ≤ x11_1) = true := decide_eq_true c24
                 clear c24
                 by_cases c25 : x11_1 < (l0.length : Int)
                 · rw [if_pos c25] at H
                   have c25b0 : decide (x11_1 < (l0.length : Int)) = true := decide_eq_true c25
                   clear c25
                   replace H := Option.bind_eq_some_iff.mp H
                   obtain ⟨t105, A260, H⟩ := H
                   replace H : (if x11_1 = (wrap64 (Int.tmod (IntKind.u64.wrap (a1)) (ji8))) then (if x7_1.size + t105.size ≤ 9223372036854775807 then (minuetlaw10_AgainNear.l0 kj10 l0 a2 (x7_1 ++ t105) (x7_1.size : Int) (t105.size : Int) (wrap64 (Int.tmod (IntKind.u64.wrap (a1)) (ji8))) (wrap64 (x11_1 + 1))) else (none)) else (if x7_1.size + t105.size ≤ 9223372036854775807 then (minuetlaw10_AgainNear.l0 kj10 l0 a2 (x7_1 ++ t105) x8_1 x9_1 (wrap64 (Int.tmod (IntKind.u64.wrap (a1)) (ji8))) (wrap64 (x11_1 + 1))) else (none))) = some r := H
                   have A26 := Aside0.mk A260
                   clear A260
                   by_cases c27 : x11_1 = (wrap64 (Int.tmod (IntKind.u64.wrap (a1)) (ji8)))
                   · rw [if_pos c27] at H
                     have c27b0 : (x11_1 == (wrap64 (Int.tmod (IntKind.u64.wrap (a1)) (ji8)))) = true := beq_iff_eq.mpr c27
                     have c27b1 : (x11_1 != (wrap64 (Int.tmod (IntKind.u64.wrap (a1)) (ji8)))) = false := bne_eq_false_iff_eq.mpr c27
                     clear c27
                     by_cases c28 : x7_1.size + t105.size ≤ 9223372036854775807
                     · rw [if_pos c28] at H
                       have c28b0 := eq_true c28
                       have c28b1 : decide (x7_1.size + t105.size ≤ 9223372036854775807) = true := decide_eq_true c28
                       try have c28b2 : (9223372036854775807 < x7_1.size + t105.size) = False := eq_false (Nat.not_lt.2 c28)
                       have H' := Aside0.mk H
                       clear H
                       have p104 : 0 ≤ (x11_1 : Int) := of_decide_eq_true (by first | (with_reducible assumption) | assumption)
                       have q104 : x11_1 < (l0.length : Int) := of_decide_eq_true (by first | (with_reducible assumption) | assumption)
                       obtain ⟨ad104, e104, hx104_0⟩ := Kd.at_int HR0.out x11_1 p104 q104
                       cases e104
                       replace hx104_0 := (HB.out.cell (World.block_lt_of_cell? w _ hx104_0)).trans hx104_0
                       replace p104 := eq_true p104
                       replace q104 := eq_true q104
                       go_wp2_with (first | ((with_reducible refine gate_callee (f := 23) rfl ?_); refine goesL_ (some 52) rfl rfl Try.func23 (by kernel_rfl) rfl #[.int .i64 (Go.bits .and .i64 (rd l0 x11_1) 4095)] rfl (by (try simp only [List.map_toArray, List.map_cons, List.map_nil]); first | done | rfl | (simp only [List.length_drop, List.length_take]; rfl)) ?_; (with_reducible refine (minuetref0_Decimal.calls kj10 (Go.bits .and .i64 (rd l0 x11_1) 4095) t105 _ A26.out).mono ?_); rintro e w29 ⟨rfl, hb⟩; refine ⟨_, rfl, ?_⟩; have n0_ := Aside0.mk (below_step (by repeat (first | (with_reducible first | exact HB.out | apply below_alloc | apply pw_below_drewN | apply below_drew1) | exact HB.out)) hb); clear HB; have HB := n0_; clear n0_; (try clear hb); (try clear hb2); (try clear hk); (try clear hi)))
                       go_roundg kj10
                       case measure => have := HK1.out; have := HJ10.out; omega
                       case rel => exact ⟨(x7_1 ++ t105), ((x7_1.size : Int)), ((t105.size : Int)), (wrap64 (x11_1 + 1)), (by first | rfl | (simp; done) | (simp; rfl) | (simp [*]; done)), (by first | rfl | (simp; done) | (simp; rfl) | (simp [*]; done)), (by first | rfl | (simp; done) | (simp; rfl) | (simp [*]; done)), (by first | rfl | (simp; done) | (simp; rfl) | (simp [*]; done)), H', ⟨by have := HK1.out; have := HJ10.out; omega⟩, ⟨by repeat (first | (with_reducible first | exact HB.out | apply below_alloc | apply pw_below_drewN | apply below_drew1) | exact HB.out)⟩⟩
                     · rw [if_neg c28] at H
                       exact absurd H (by simp)
                   · rw [if_neg c27] at H
                     have c27b0 : (x11_1 == (wrap64 (Int.tmod (IntKind.u64.wrap (a1)) (ji8)))) = false := beq_eq_false_iff_ne.mpr c27
                     have c27b1 : (x11_1 != (wrap64 (Int.tmod (IntKind.u64.wrap (a1)) (ji8)))) = true := bne_iff_ne.mpr c27
                     by_cases c30 : x7_1.size + t105.size ≤ 9223372036854775807
                     · rw [if_pos c30] at H
                       have c30b0 := eq_true c30
                       have c30b1 : decide (x7_1.size + t105.size ≤ 9223372036854775807) = true := decide_eq_true c30
                       try have c30b2 : (9223372036854775807 < x7_1.size + t105.size) = False := eq_false (Nat.not_lt.2 c30)
                       have H' := Aside0.mk H
                       clear H
                       have p104 : 0 ≤ (x11_1 : Int) := of_decide_eq_true (by first | (with_reducible assumption) | assumption)
                       have q104 : x11_1 < (l0.length : Int) := of_decide_eq_true (by first | (with_reducible assumption) | assumption)
                       obtain ⟨ad104, e104, hx104_0⟩ := Kd.at_int HR0.out x11_1 p104 q104
                       cases e104
                       replace hx104_0 := (HB.out.cell (World.block_lt_of_cell? w _ hx104_0)).trans hx104_0
                       replace p104 := eq_true p104
                       replace q104 := eq_true q104
                       go_wp2_with (first | ((with_reducible refine gate_callee (f := 23) rfl ?_); refine goesL_ (some 52) rfl rfl Try.func23 (by kernel_rfl) rfl #[.int .i64 (Go.bits .and .i64 (rd l0 x11_1) 4095)] rfl (by (try simp only [List.map_toArray, List.map_cons, List.map_nil]); first | done | rfl | (simp only [List.length_drop, List.length_take]; rfl)) ?_; (with_reducible refine (minuetref0_Decimal.calls kj10 (Go.bits .and .i64 (rd l0 x11_1) 4095) t105 _ A26.out).mono ?_); rintro e w31 ⟨rfl, hb⟩; refine ⟨_, rfl, ?_⟩; have n0_ := Aside0.mk (below_step (by repeat (first | (with_reducible first | exact HB.out | apply below_alloc | apply pw_below_drewN | apply below_drew1) | exact HB.out)) hb); clear HB; have HB := n0_; clear n0_; (try clear hb); (try clear hb2); (try clear hk); (try clear hi)))
                       go_roundg kj10
                       case measure => have := HK1.out; have := HJ10.out; omega
                       case rel => exact ⟨(x7_1 ++ t105), (x8_1), (x9_1), (wrap64 (x11_1 + 1)), (by first | rfl | (simp; done) | (simp; rfl) | (simp [*]; done)), (by first | rfl | (simp; done) | (simp; rfl) | (simp [*]; done)), (by first | rfl | (simp; done) | (simp; rfl) | (simp [*]; done)), (by first | rfl | (simp; done) | (simp; rfl) | (simp [*]; done)), H', ⟨by have := HK1.out; have := HJ10.out; omega⟩, ⟨by repeat (first | (with_reducible first | exact HB.out | apply below_alloc | apply pw_below_drewN | apply below_drew1) | exact HB.out)⟩⟩
                     · rw [if_neg c30] at H
                       exact absurd H (by simp)
                 · rw [if_neg c25] at H
                   exact absurd H (by simp)
               · rw [if_neg c24] at H
                 exact absurd H (by simp)
           · replace c13 := Bool.eq_false_iff.mpr c13
             subst c13
             have H1 : (if x7_1.size + 1 ≤ 9223372036854775807 then ((lex_Tokens.f (x7_1 ++ (⟨#[93]⟩ : ByteArray))).bind fun bt106 => ((minuetref0_Decimal.f kj10 (wrap64 ((Go.bits .and .i64 a2 4095) + 10000))).bind fun t110 => ((relex_Again.f kj10 (x7_1 ++ (⟨#[93]⟩ : ByteArray)) bt106.1 x8_1 x9_1 t110).bind fun bt111 => ((minuetlaw0_Num.f bt106.2).bind fun t117 => (if t117 = 0 then ((minuetlaw0_Num.f bt111.2.2.2).bind fun t118 => (if t118 = 0 then (if (bt111.1.length : Int) = (bt106.1.length : Int) then (if bt111.2.1 = (wrap64 (1 + (wrap64 (2 * (wrap64 (Int.tmod (IntKind.u64.wrap (a1)) (ji8))))))) then (some (bt111.2.2.1 == (wrap64 ((wrap64 ((bt106.1.length : Int) - bt111.2.1)) - 1)))) else (none)) else (none)) else (none))) else (none)))))) else (none)) = some r := by rw [if_neg (show ¬ (false = true) by decide)] at H; exact H
             clear H
             have H := H1
             clear H1
             by_cases c32 : x7_1.size + 1 ≤ 9223372036854775807
             · rw [if_pos c32] at H
               have c32b0 := eq_true c32
               have c32b1 : decide (x7_1.size + 1 ≤ 9223372036854775807) = true := decide_eq_true c32
               try have c32b2 : (9223372036854775807 < x7_1.size + 1) = False := eq_false (Nat.not_lt.2 c32)
               replace H := Option.bind_eq_some_iff.mp H
               obtain ⟨⟨t106, t107⟩, A330, H⟩ := H
               replace H : ((minuetref0_Decimal.f kj10 (wrap64 ((Go.bits .and .i64 a2 4095) + 10000))).bind fun t110 => ((relex_Again.f kj10 (x7_1 ++ (⟨#[93]⟩ : ByteArray)) t106 x8_1 x9_1 t110).bind fun bt111 => ((minuetlaw0_Num.f t107).bind fun t117 => (if t117 = 0 then ((minuetlaw0_Num.f bt111.2.2.2).bind fun t118 => (if t118 = 0 then (if (bt111.1.length : Int) = (t106.length : Int) then (if bt111.2.1 = (wrap64 (1 + (wrap64 (2 * (wrap64 (Int.tmod (IntKind.u64.wrap (a1)) (ji8))))))) then (some (bt111.2.2.1 == (wrap64 ((wrap64 ((t106.length : Int) - bt111.2.1)) - 1)))) else (none)) else (none)) else (none))) else (none))))) = some r := H
               have A33 := Aside0.mk A330
               clear A330
               replace H := Option.bind_eq_some_iff.mp H
               obtain ⟨t110, A340, H⟩ := H
               replace H : ((relex_Again.f kj10 (x7_1 ++ (⟨#[93]⟩ : ByteArray)) t106 x8_1 x9_1 t110).bind fun bt111 => ((minuetlaw0_Num.f t107).bind fun t117 => (if t117 = 0 then ((minuetlaw0_Num.f bt111.2.2.2).bind fun t118 => (if t118 = 0 then (if (bt111.1.length : Int) = (t106.length : Int) then (if bt111.2.1 = (wrap64 (1 + (wrap64 (2 * (wrap64 (Int.tmod (IntKind.u64.wrap (a1)) (ji8))))))) then (some (bt111.2.2.1 == (wrap64 ((wrap64 ((t106.length : Int) - bt111.2.1)) - 1)))) else (none)) else (none)) else (none))) else (none)))) = some r := H
               have A34 := Aside0.mk A340
               clear A340
               replace H := Option.bind_eq_some_iff.mp H
               obtain ⟨⟨t111, t112, t113, t114⟩, A350, H⟩ := H
               replace H : ((minuetlaw0_Num.f t107).bind fun t117 => (if t117 = 0 then ((minuetlaw0_Num.f t114).bind fun t118 => (if t118 = 0 then (if (t111.length : Int) = (t106.length : Int) then (if t112 = (wrap64 (1 + (wrap64 (2 * (wrap64 (Int.tmod (IntKind.u64.wrap (a1)) (ji8))))))) then (some (t113 == (wrap64 ((wrap64 ((t106.length : Int) - t112)) - 1)))) else (none)) else (none)) else (none))) else (none))) = some r := H
               have A35 := Aside0.mk A350
               clear A350
               replace H := Option.bind_eq_some_iff.mp H
               obtain ⟨t117, A360, H⟩ := H
               replace H : (if t117 = 0 then ((minuetlaw0_Num.f t114).bind fun t118 => (if t118 = 0 then (if (t111.length : Int) = (t106.length : Int) then (if t112 = (wrap64 (1 + (wrap64 (2 * (wrap64 (Int.tmod (IntKind.u64.wrap (a1)) (ji8))))))) then (some (t113 == (wrap64 ((wrap64 ((t106.length : Int) - t112)) - 1)))) else (none)) else (none)) else (none))) else (none)) = some r := H
               have A36 := Aside0.mk A360
               clear A360
               by_cases c37 : t117 = 0
               · rw [if_pos c37] at H
                 have c37b0 : (t117 == 0) = true := beq_iff_eq.mpr c37
                 have c37b1 : (t117 != 0) = false := bne_eq_false_iff_eq.mpr c37
                 clear c37
                 replace H := Option.bind_eq_some_iff.mp H
                 obtain ⟨t118, A380, H⟩ := H
                 replace H : (if t118 = 0 then (if (t111.length : Int) = (t106.length : Int) then (if t112 = (wrap64 (1 + (wrap64 (2 * (wrap64 (Int.tmod (IntKind.u64.wrap (a1)) (ji8))))))) then (some (t113 == (wrap64 ((wrap64 ((t106.length : Int) - t112)) - 1)))) else (none)) else (none)) else (none)) = some r := H
                 have A38 := Aside0.mk A380
                 clear A380
                 by_cases c39 : t118 = 0
                 · rw [if_pos c39] at H
                   have c39b0 : (t118 == 0) = true := beq_iff_eq.mpr c39
                   have c39b1 : (t118 != 0) = false := bne_eq_false_iff_eq.mpr c39
                   clear c39
                   by_cases c40 : (t111.length : Int) = (t106.length : Int)
                   · rw [if_pos c40] at H
                     have c40b0 : ((t111.length : Int) == (t106.length : Int)) = true := beq_iff_eq.mpr c40
                     have c40b1 : ((t111.length : Int) != (t106.length : Int)) = false := bne_eq_false_iff_eq.mpr c40
                     have c40b2 : (t111.length == t106.length) = true := by first | simpa using c40 | (simp at c40 ⊢; omega)
                     clear c40
                     by_cases c41 : t112 = (wrap64 (1 + (wrap64 (2 * (wrap64 (Int.tmod (IntKind.u64.wrap (a1)) (ji8)))))))
                     · rw [if_pos c41] at H
                       have c41b0 : (t112 == (wrap64 (1 + (wrap64 (2 * (wrap64 (Int.tmod (IntKind.u64.wrap (a1)) (ji8)))))))) = true := beq_iff_eq.mpr c41
                       have c41b1 : (t112 != (wrap64 (1 + (wrap64 (2 * (wrap64 (Int.tmod (IntKind.u64.wrap (a1)) (ji8)))))))) = false := bne_eq_false_iff_eq.mpr c41
                       clear c41
                       obtain rfl := Option.some.inj H
                       go_wp2_with (first | ((with_reducible refine gate_callee (f := 12) rfl ?_); refine goesL_ (some 67) rfl rfl Try.func12 (by kernel_rfl) rfl #[.string (x7_1 ++ (⟨#[93]⟩ : ByteArray))] rfl (by (try simp only [List.map_toArray, List.map_cons, List.map_nil]); first | done | rfl | (simp only [List.length_drop, List.length_take]; rfl)) ?_; (with_reducible refine (lex_Tokens.calls (x7_1 ++ (⟨#[93]⟩ : ByteArray)) t106 t107 _ (MaxOk.of HM_.out (by repeat (first | (with_reducible first | exact HB.out | apply below_alloc | apply pw_below_drewN | apply below_drew1) | exact HB.out))) A33.out).mono ?_); rintro e w42 ⟨v108, rfl, ho0, hb⟩; refine ⟨_, rfl, ?_⟩; have n0_ := Aside0.mk (Kd.R_lower ho0 (below_size (by repeat (first | (with_reducible first | exact HB.out | apply below_alloc | apply pw_below_drewN | apply below_drew1) | exact HB.out)))); have n1_ := Aside0.mk (below_step (by repeat (first | (with_reducible first | exact HB.out | apply below_alloc | apply pw_below_drewN | apply below_drew1) | exact HB.out)) hb); clear HB; have HO109 := n0_; have HB := n1_; clear n0_ n1_; (try clear hb); (try clear hb2); (try clear hk); (try clear hi); (try clear ho0)) | ((with_reducible refine gate_callee (f := 23) rfl ?_); refine goesL_ (some 73) rfl rfl Try.func23 (by kernel_rfl) rfl #[.int .i64 (wrap64 ((Go.bits .and .i64 a2 4095) + 10000))] rfl (by (try simp only [List.map_toArray, List.map_cons, List.map_nil]); first | done | rfl | (simp only [List.length_drop, List.length_take]; rfl)) ?_; (with_reducible refine (minuetref0_Decimal.calls kj10 (wrap64 ((Go.bits .and .i64 a2 4095) + 10000)) t110 _ A34.out).mono ?_); rintro e w43 ⟨rfl, hb⟩; refine ⟨_, rfl, ?_⟩; have n0_ := Aside0.mk (Kd.R_below (by (with_reducible repeat (first | apply Kd.R_alloc | apply Kd.R_drewN | apply Kd.R_drew)); exact HO109.out) hb); have n1_ := Aside0.mk (below_step (by repeat (first | (with_reducible first | exact HB.out | apply below_alloc | apply pw_below_drewN | apply below_drew1) | exact HB.out)) hb); clear HO109; clear HB; have HO109 := n0_; have HB := n1_; clear n0_ n1_; (try clear hb); (try clear hb2); (try clear hk); (try clear hi); obtain ⟨Ao44, co44, eo44⟩ := Kd.R_slice HO109.out; subst eo44) | ((with_reducible refine gate_callee (f := 19) rfl ?_); refine goesL_ (some 80) rfl rfl Try.func19 (by kernel_rfl) rfl #[.string (x7_1 ++ (⟨#[93]⟩ : ByteArray)), .slice Ao44 t106.length co44, .int .i64 x8_1, .int .i64 x9_1, .string t110] rfl (by (try simp only [List.map_toArray, List.map_cons, List.map_nil]); first | done | rfl | (simp only [List.length_drop, List.length_take]; rfl)) ?_; (with_reducible refine (relex_Again.calls kj10 (x7_1 ++ (⟨#[93]⟩ : ByteArray)) _ _ t106 x8_1 x9_1 t110 t111 t112 t113 t114 _ ?side1 ?side2 (MaxOk.of HM_.out (by repeat (first | (with_reducible first | exact HB.out | apply below_alloc | apply pw_below_drewN | apply below_drew1) | exact HB.out))) A35.out).mono ?_); (case side1 => repeat (first | exact (Kd.R_reads' HO109.out).2.2 | (with_reducible refine Kd.C_alloc ?_ _) | (with_reducible refine Kd.C_drewN ?_ _) | (with_reducible refine Kd.C_drew ?_))); (case side2 => exact (Kd.R_reads' HO109.out).2.1); rintro e w45 ⟨v115, rfl, ho0, hb⟩; refine ⟨_, rfl, ?_⟩; have n0_ := Aside0.mk (Kd.R_elder' (by (with_reducible repeat (first | apply Kd.R_alloc | apply Kd.R_drewN | apply Kd.R_drew)); exact HO109.out) (Kd.R_base ho0) hb); have n1_ := Aside0.mk (Kd.R_lower (Kd.R_new' ho0 (Kd.R_lt (by (with_reducible repeat (first | apply Kd.R_alloc | apply Kd.R_drewN | apply Kd.R_drew)); exact HO109.out))) (below_size (by repeat (first | (with_reducible first | exact HB.out | apply below_alloc | apply pw_below_drewN | apply below_drew1) | exact HB.out)))); have n2_ := Aside0.mk (below_step (by repeat (first | (with_reducible first | exact HB.out | apply below_alloc | apply pw_below_drewN | apply below_drew1) | exact HB.out)) hb); clear HO109; clear HB; have HO109 := n0_; have HO116 := n1_; have HB := n2_; clear n0_ n1_ n2_; (try clear hb); (try clear hb2); (try clear hk); (try clear hi); (try clear ho0)) | ((with_reducible refine gate_callee (f := 15) rfl ?_); refine goesL_ (some 86) rfl rfl Try.func15 (by kernel_rfl) rfl #[.int .i64 t107] rfl (by (try simp only [List.map_toArray, List.map_cons, List.map_nil]); first | done | rfl | (simp only [List.length_drop, List.length_take]; rfl)) ?_; (with_reducible refine (minuetlaw0_Num.calls t107 t117 _ A36.out).mono ?_); rintro e w' ⟨rfl, ⟨nd, rfl⟩⟩; refine ⟨_, rfl, ?_⟩) | (go_at_call 15; (with_reducible refine (minuetlaw0_Num.calls t114 t118 _ A38.out).mono ?_); rintro e w' ⟨rfl, ⟨nd, rfl⟩⟩; obtain ⟨Ao46, co46, eo46⟩ := Kd.R_slice HO116.out; subst eo46))
                       go_ret
                       exact ⟨by first | rfl | (simp [errW_none, errW_some] <;> rfl) | (simp only [← hji8]; first | rfl | (simp [errW_none, errW_some] <;> rfl)) | (simp [*, errW_none, errW_some] <;> rfl), by repeat (first | (with_reducible first | exact HB.out | apply below_alloc | apply pw_below_drewN | apply below_drew1) | exact HB.out)⟩
                     · rw [if_neg c41] at H
                       exact absurd H (by simp)
                   · rw [if_neg c40] at H
                     exact absurd H (by simp)
                 · rw [if_neg c39] at H
                   exact absurd H (by simp)
               · rw [if_neg c37] at H
                 exact absurd H (by simp)
             · rw [if_neg c32] at H
               exact absurd H (by simp)
 · replace c5 := Bool.eq_false_iff.mpr c5
   subst c5
   have H1 : (none) = some r := by rw [if_neg (show ¬ (false = true) by decide)] at H; exact H
   clear H
   have H := H1
   clear H1
   exact absurd H (by simp)

/-- THE ONE PURE STATEMENT of minuetlaw10_AgainNear: yours. -/
def minuetlaw10_AgainNear.Pure : Prop := ∀ (l0 : List Int) (a1 : Int) (a2 : Int), l0.length ≤ maxLen → l0.length * 8 ≤ 140737488351232 → (∀ x ∈ l0, (Lit.int .i64 x).wf = true) → (Lit.int .i64 a1).wf = true → (Lit.int .i64 a2).wf = true → ∃ k, minuetlaw10_AgainNear.f k l0 a1 a2 = some true
theorem minuetlaw10_AgainNear.walk (P : minuetlaw10_AgainNear.Pure) (a0 : Option Addr) (len0 cap0 : Nat) (z0 : List Int) (a1 : Int) (a2 : Int) (w : World) (hm_ : MaxOk w) (w0 : (a0 = none ∧ len0 = 0 ∧ cap0 = 0 ∧ z0 = []) ∨ ∃ x, a0 = some x ∧ len0 ≤ cap0 ∧ cap0 ≤ maxLen ∧ z0.length = cap0 ∧ (∀ i, i < z0.length → w.cell? (x.add i) = some (.int .i64 (z0.getD i 0))) ∧ ∀ n ∈ z0, (Lit.int .i64 n).wf = true) (y0 : len0 * 8 ≤ 140737488351232) (w1 : (Lit.int .i64 a1).wf = true) (w2 : (Lit.int .i64 a2).wf = true) :
 Calls Try.prog 6 #[.slice a0 len0 cap0, .int .i64 a1, .int .i64 a2] w fun e w' => e = .returned (.bool true) ∧ Below w.heap.size w w' := by
 obtain ⟨l0, rfl, hr0, hm0, hw0, hc0⟩ := ReadsInt.ofRowC w0
 obtain ⟨k, h⟩ := P l0 a1 a2 hm0 y0 hw0 w1 w2
 refine (minuetlaw10_AgainNear.calls k _ _ l0 a1 a2 true w (Kd.C_of_reads (d := (0 : Int)) (h1 := fun _ => rfl) hr0) hc0 hm_ h).mono ?_
 rintro e w' ⟨rfl, hd⟩
 exact ⟨rfl, hd⟩

end Go.Proofs.Ytnhkdpcncjkmlaa.G
