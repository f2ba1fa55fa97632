-- Laid by this session's own program gprint.py (wip/tools), out of the kit's print and of texts of this session. Lean checks it.
import Derived.Test.YtnhkdpcncjkmlaaGx0
import Derived.Test.YtnhkdpcncjkmlaaGMinuetlaw0PNum
import Derived.Test.YtnhkdpcncjkmlaaGGoodPGood
import Derived.Test.YtnhkdpcncjkmlaaGMinuetlaw12qawake
namespace Go.Proofs.Ytnhkdpcncjkmlaa.G
open Go.RowKit Go.Proofs.YtnhkdpcncjkmlaaW.PrintWords Go.Proofs.YtnhkdpcncjkmlaaW.PrintLast Go.Proofs.YtnhkdpcncjkmlaaW.PrintMore
attribute [local go_sem] max2_int min2_int max_two min_two max_three min_three max_four min_four   -- for this text's walks alone
set_option linter.unusedVariables false
set_option linter.unusedSimpArgs false

/-! ### minuetlaw12_GoodShort: function 11 -/
mutual
def minuetlaw12_GoodShort.j0 : Nat → ByteArray → Bool → Int → Bool → Option (Bool)
 | 0, _, _, _, _ => none
 | k + 1, x0, x3, x4, x36 => if x36 = true then ((minuetlaw0_Num.f x4).bind fun t105 => (if t105 = 0 then (some true) else (some (!x3)))) else (if 0 ≤ (wrap64 ((x0.size : Int) - 1)) then (if (wrap64 ((x0.size : Int) - 1)) < (x0.size : Int) then (minuetlaw12_GoodShort.l0 k x0 (bt x0 (wrap64 ((x0.size : Int) - 1))) 0) else (none)) else (none))
def minuetlaw12_GoodShort.l0 : Nat → ByteArray → Int → Int → Option (Bool)
 | 0, _, _, _ => none
 | k + 1, x0, x5, x6 => if x6 < (x0.size : Int) then (if 0 ≤ x6 then (if (bt x0 x6) = 47 then (some true) else (if (bt x0 x6) = 34 then (some true) else (minuetlaw12_GoodShort.l0 k x0 x5 (wrap64 (x6 + 1))))) else (none)) else (if x5 = 93 then (minuetlaw12_GoodShort.j2 k x0 x5 false) else (minuetlaw12_GoodShort.j2 k x0 x5 (x5 != 125)))
def minuetlaw12_GoodShort.j2 : Nat → ByteArray → Int → Bool → Option (Bool)
 | 0, _, _, _ => none
 | k + 1, x0, x5, x70 => if x70 = true then (some true) else (if 0 ≤ (wrap64 ((x0.size : Int) - 1)) then (if (wrap64 ((x0.size : Int) - 1)) ≤ (x0.size : Int) then ((good_Good.f (x0.extract 0 ((wrap64 ((x0.size : Int) - 1)) : Int).toNat)).bind fun bt106 => ((some (([x5] : List Int) : List Int)).bind fun y108 => (if x0.size + (strOfNums y108).size ≤ 9223372036854775807 then ((good_Good.f (x0 ++ (strOfNums y108))).bind fun bt111 => (if x0.size + 1 ≤ 9223372036854775807 then ((good_Good.f (x0 ++ (⟨#[32]⟩ : ByteArray))).bind fun bt113 => (if bt106.1 = true then (none) else ((minuetlaw0_Num.f bt106.2).bind fun t115 => (if t115 = 0 then (if bt111.1 = true then (none) else ((minuetlaw0_Num.f bt111.2).bind fun t116 => (if t116 = 0 then (if bt113.1 = true then ((minuetlaw0_Num.f bt113.2).bind fun t117 => (some (t117 == 0))) else (none)) else (none)))) else (none))))) else (none))) else (none)))) else (none)) else (none))
end
def minuetlaw12_GoodShort.f (k : Nat) (a0 : ByteArray) : Option (Bool) := (minuetlaw12_awake.f).bind fun t101 => (if t101 = true then ((good_Good.f a0).bind fun bt102 => ((minuetlaw0_Num.f bt102.2).bind fun t104 => (if t104 = 0 then (if bt102.1 = true then (if (a0.size : Int) ≥ 300 then (minuetlaw12_GoodShort.j0 k a0 bt102.1 bt102.2 true) else (minuetlaw12_GoodShort.j0 k a0 bt102.1 bt102.2 (decide ((a0.size : Int) < 1)))) else (minuetlaw12_GoodShort.j0 k a0 bt102.1 bt102.2 true)) else (minuetlaw12_GoodShort.j0 k a0 bt102.1 bt102.2 true)))) else (none))
theorem minuetlaw12_GoodShort.mono_l : ∀ k, (∀ y0 y1 y2 y3, LeO (minuetlaw12_GoodShort.j0 k y0 y1 y2 y3) (minuetlaw12_GoodShort.j0 (k + 1) y0 y1 y2 y3)) ∧ (∀ y0 y1 y2, LeO (minuetlaw12_GoodShort.l0 k y0 y1 y2) (minuetlaw12_GoodShort.l0 (k + 1) y0 y1 y2)) ∧ (∀ y0 y1 y2, LeO (minuetlaw12_GoodShort.j2 k y0 y1 y2) (minuetlaw12_GoodShort.j2 (k + 1) y0 y1 y2))
 | 0 => ⟨fun _ _ _ _ r h => by simp [minuetlaw12_GoodShort.j0] at h, fun _ _ _ r h => by simp [minuetlaw12_GoodShort.l0] at h, fun _ _ _ r h => by simp [minuetlaw12_GoodShort.j2] at h⟩
 | k + 1 => by
  obtain ⟨ih0, ih1, ih2⟩ := minuetlaw12_GoodShort.mono_l k
  refine ⟨?_, ?_, ?_⟩
  · intro y0 y1 y2 y3
    unfold minuetlaw12_GoodShort.j0
    repeat' first
    | (with_reducible exact ih0 _ _ _ _)
    | (with_reducible exact ih1 _ _ _)
    | (with_reducible exact ih2 _ _ _)
    | (with_reducible exact LeO.refl _)
    | (with_reducible exact LeO.none _)
    | (with_reducible refine LeO.ite ?_ ?_)
    | (with_reducible refine LeO.bind ?_ (fun _ => ?_))
    | exact ih0 _ _ _ _
    | exact ih1 _ _ _
    | exact ih2 _ _ _
    | exact LeO.none _
    | refine LeO.ite ?_ ?_
    | refine LeO.bind ?_ (fun _ => ?_)
  · intro y0 y1 y2
    unfold minuetlaw12_GoodShort.l0
    repeat' first
    | (with_reducible exact ih0 _ _ _ _)
    | (with_reducible exact ih1 _ _ _)
    | (with_reducible exact ih2 _ _ _)
    | (with_reducible exact LeO.refl _)
    | (with_reducible exact LeO.none _)
    | (with_reducible refine LeO.ite ?_ ?_)
    | (with_reducible refine LeO.bind ?_ (fun _ => ?_))
    | exact ih0 _ _ _ _
    | exact ih1 _ _ _
    | exact ih2 _ _ _
    | exact LeO.none _
    | refine LeO.ite ?_ ?_
    | refine LeO.bind ?_ (fun _ => ?_)
  · intro y0 y1 y2
    unfold minuetlaw12_GoodShort.j2
    repeat' first
    | (with_reducible exact ih0 _ _ _ _)
    | (with_reducible exact ih1 _ _ _)
    | (with_reducible exact ih2 _ _ _)
    | (with_reducible exact LeO.refl _)
    | (with_reducible exact LeO.none _)
    | (with_reducible refine LeO.ite ?_ ?_)
    | (with_reducible refine LeO.bind ?_ (fun _ => ?_))
    | exact ih0 _ _ _ _
    | exact ih1 _ _ _
    | exact ih2 _ _ _
    | exact LeO.none _
    | refine LeO.ite ?_ ?_
    | refine LeO.bind ?_ (fun _ => ?_)
theorem minuetlaw12_GoodShort.mono : ∀ a0 k, LeO (minuetlaw12_GoodShort.f k a0) (minuetlaw12_GoodShort.f (k + 1) a0) := by
 intro a0 k
 obtain ⟨ih0, ih1, ih2⟩ := minuetlaw12_GoodShort.mono_l k
 unfold minuetlaw12_GoodShort.f
 repeat' first
  | (with_reducible exact ih0 _ _ _ _)
  | (with_reducible exact ih1 _ _ _)
  | (with_reducible exact ih2 _ _ _)
  | (with_reducible exact LeO.refl _)
  | (with_reducible exact LeO.none _)
  | (with_reducible refine LeO.ite ?_ ?_)
  | (with_reducible refine LeO.bind ?_ (fun _ => ?_))
  | exact ih0 _ _ _ _
  | exact ih1 _ _ _
  | exact ih2 _ _ _
  | exact LeO.none _
  | refine LeO.ite ?_ ?_
  | refine LeO.bind ?_ (fun _ => ?_)
set_option maxHeartbeats 8000000 in
set_option maxRecDepth 100000 in
theorem minuetlaw12_GoodShort.calls (k : Nat) (a0 : ByteArray) (r : Bool) (w : World) (hm_ : MaxOk w) (h : minuetlaw12_GoodShort.f k a0 = some r) :
 Calls Try.prog 11 #[.string a0] w fun e w' => e = .returned (.bool r) ∧ Below w.heap.size w w' := by
 have HM_ := Aside0.mk hm_
 clear hm_
 have HB := Aside0.mk (Below.refl w.heap.size w)
 have H : ((minuetlaw12_awake.f).bind fun t101 => (if t101 = true then ((good_Good.f a0).bind fun bt102 => ((minuetlaw0_Num.f bt102.2).bind fun t104 => (if t104 = 0 then (if bt102.1 = true then (if (a0.size : Int) ≥ 300 then (minuetlaw12_GoodShort.j0 k a0 bt102.1 bt102.2 true) else (minuetlaw12_GoodShort.j0 k a0 bt102.1 bt102.2 (decide ((a0.size : Int) < 1)))) else (minuetlaw12_GoodShort.j0 k a0 bt102.1 bt102.2 true)) else (minuetlaw12_GoodShort.j0 k a0 bt102.1 bt102.2 true)))) else (none))) = some r := h
 clear h
 replace H := Option.bind_eq_some_iff.mp H
 obtain ⟨t101, A20, H⟩ := H
 replace H : (if t101 = true then ((good_Good.f a0).bind fun bt102 => ((minuetlaw0_Num.f bt102.2).bind fun t104 => (if t104 = 0 then (if bt102.1 = true then (if (a0.size : Int) ≥ 300 then (minuetlaw12_GoodShort.j0 k a0 bt102.1 bt102.2 true) else (minuetlaw12_GoodShort.j0 k a0 bt102.1 bt102.2 (decide ((a0.size : Int) < 1)))) else (minuetlaw12_GoodShort.j0 k a0 bt102.1 bt102.2 true)) else (minuetlaw12_GoodShort.j0 k a0 bt102.1 bt102.2 true)))) else (none)) = some r := H
 have A2 := Aside0.mk A20
 clear A20
 by_cases c3 : t101 = true
 · subst c3
   have H1 : ((good_Good.f a0).bind fun bt102 => ((minuetlaw0_Num.f bt102.2).bind fun t104 => (if t104 = 0 then (if bt102.1 = true then (if (a0.size : Int) ≥ 300 then (minuetlaw12_GoodShort.j0 k a0 bt102.1 bt102.2 true) else (minuetlaw12_GoodShort.j0 k a0 bt102.1 bt102.2 (decide ((a0.size : Int) < 1)))) else (minuetlaw12_GoodShort.j0 k a0 bt102.1 bt102.2 true)) else (minuetlaw12_GoodShort.j0 k a0 bt102.1 bt102.2 true)))) = some r := by rw [if_pos rfl] at H; exact H
   clear H
   have H := H1
   clear H1
   replace H := Option.bind_eq_some_iff.mp H
   obtain ⟨⟨t102, t103⟩, A40, H⟩ := H
   replace H : ((minuetlaw0_Num.f t103).bind fun t104 => (if t104 = 0 then (if t102 = true then (if (a0.size : Int) ≥ 300 then (minuetlaw12_GoodShort.j0 k a0 t102 t103 true) else (minuetlaw12_GoodShort.j0 k a0 t102 t103 (decide ((a0.size : Int) < 1)))) else (minuetlaw12_GoodShort.j0 k a0 t102 t103 true)) else (minuetlaw12_GoodShort.j0 k a0 t102 t103 true))) = some r := H
   have A4 := Aside0.mk A40
   clear A40
   have HC5 := Aside0.mk H
   clear H
   go_enter Try.func11, Try.ntmps11
   go_upto_region 4 with (first | ((with_reducible refine gate_callee (f := 26) rfl ?_); refine goesL_ (some 13) rfl rfl Try.func26 (by kernel_rfl) rfl #[] rfl (by (try simp only [List.map_toArray, List.map_cons, List.map_nil]); first | done | rfl | (simp only [List.length_drop, List.length_take]; rfl)) ?_; (with_reducible refine (minuetlaw12_awake.calls  true _ (MaxOk.of HM_.out (by repeat (first | (with_reducible first | exact HB.out | apply below_alloc | apply pw_below_drewN | apply below_drew1) | exact HB.out))) A2.out).mono ?_); rintro e w6 ⟨rfl, hb⟩; refine ⟨_, rfl, ?_⟩; have n0_ := Aside0.mk (below_step (by repeat (first | (with_reducible first | exact HB.out | apply below_alloc | apply pw_below_drewN | apply below_drew1) | exact HB.out)) hb); clear HB; have HB := n0_; clear n0_; (try clear hb); (try clear hb2); (try clear hk); (try clear hi)) | ((with_reducible refine gate_callee (f := 24) rfl ?_); refine goesL_ (some 17) rfl rfl Try.func24 (by kernel_rfl) rfl #[.string a0] rfl (by (try simp only [List.map_toArray, List.map_cons, List.map_nil]); first | done | rfl | (simp only [List.length_drop, List.length_take]; rfl)) ?_; (with_reducible refine (good_Good.calls a0 t102 t103 _ (MaxOk.of HM_.out (by repeat (first | (with_reducible first | exact HB.out | apply below_alloc | apply pw_below_drewN | apply below_drew1) | exact HB.out))) A4.out).mono ?_); rintro e w7 ⟨rfl, hb⟩; refine ⟨_, rfl, ?_⟩; have n0_ := Aside0.mk (below_step (by repeat (first | (with_reducible first | exact HB.out | apply below_alloc | apply pw_below_drewN | apply below_drew1) | exact HB.out)) hb); clear HB; have HB := n0_; clear n0_; (try clear hb); (try clear hb2); (try clear hk); (try clear hi)))
   (try simp only [Act.put, List.setIfInBounds_toArray, List.set_cons_zero, List.set_cons_succ])
   go_cut [36] (fun v36 wc => ∃ (kq : Nat) (x36_4 : Bool), v36 = .bool x36_4 ∧ Aside0 (minuetlaw12_GoodShort.j0 kq a0 t102 t103 x36_4 = some r) ∧ Aside0 (kq ≤ k) ∧ Aside0 (Below w.heap.size w wc))
   case first =>
    have H := HC5.out
    clear HC5
    replace H := Option.bind_eq_some_iff.mp H
    obtain ⟨t104, A80, H⟩ := H
    replace H : (if t104 = 0 then (if t102 = true then (if (a0.size : Int) ≥ 300 then (minuetlaw12_GoodShort.j0 k a0 t102 t103 true) else (minuetlaw12_GoodShort.j0 k a0 t102 t103 (decide ((a0.size : Int) < 1)))) else (minuetlaw12_GoodShort.j0 k a0 t102 t103 true)) else (minuetlaw12_GoodShort.j0 k a0 t102 t103 true)) = some r := H
    have A8 := Aside0.mk A80
    clear A80
    by_cases c9 : t104 = 0
    · rw [if_pos c9] at H
      have c9b0 : (t104 == 0) = true := beq_iff_eq.mpr c9
      have c9b1 : (t104 != 0) = false := bne_eq_false_iff_eq.mpr c9
      clear c9
      (first | rw [c9b0] | (simp only [i64_w, i32_w]; rw [c9b0]) | skip)
      by_cases c10 : t102 = true
      · subst c10
        have H1 : (if (a0.size : Int) ≥ 300 then (minuetlaw12_GoodShort.j0 k a0 true t103 true) else (minuetlaw12_GoodShort.j0 k a0 true t103 (decide ((a0.size : Int) < 1)))) = some r := by rw [if_pos rfl] at H; exact H
        clear H
        have H := H1
        clear H1
        by_cases c11 : (a0.size : Int) ≥ 300
        · rw [if_pos c11] at H
          have c11b0 : decide (300 ≤ (a0.size : Int)) = true := decide_eq_true c11
          have c11b1 : decide (300 ≤ a0.size) = true := decide_eq_true (by omega)
          clear c11
          have H' := Aside0.mk H
          clear H
          go_wp2_with (first | ((with_reducible refine gate_callee (f := 15) rfl ?_); refine goesL_ (some 21) rfl rfl Try.func15 (by kernel_rfl) rfl #[.int .i64 t103] rfl (by (try simp only [List.map_toArray, List.map_cons, List.map_nil]); first | done | rfl | (simp only [List.length_drop, List.length_take]; rfl)) ?_; (with_reducible refine (minuetlaw0_Num.calls t103 t104 _ A8.out).mono ?_); rintro e w' ⟨rfl, ⟨nd, rfl⟩⟩; refine ⟨_, rfl, ?_⟩))
          go_meet
          case rel => exact ⟨_, (true), (by first | rfl | (simp; done) | (simp [*]; done)), H', ⟨by first | omega | exact Nat.le_refl _⟩, ⟨by repeat (first | (with_reducible first | exact HB.out | apply below_alloc | apply pw_below_drewN | apply below_drew1) | exact HB.out)⟩⟩
        · rw [if_neg c11] at H
          have c11b0 : decide (300 ≤ (a0.size : Int)) = false := decide_eq_false c11
          have c11b1 : decide (300 ≤ a0.size) = false := decide_eq_false (by omega)
          clear c11
          have H' := Aside0.mk H
          clear H
          go_wp2_with (first | ((with_reducible refine gate_callee (f := 15) rfl ?_); refine goesL_ (some 21) rfl rfl Try.func15 (by kernel_rfl) rfl #[.int .i64 t103] rfl (by (try simp only [List.map_toArray, List.map_cons, List.map_nil]); first | done | rfl | (simp only [List.length_drop, List.length_take]; rfl)) ?_; (with_reducible refine (minuetlaw0_Num.calls t103 t104 _ A8.out).mono ?_); rintro e w' ⟨rfl, ⟨nd, rfl⟩⟩; refine ⟨_, rfl, ?_⟩))
          go_meet
          case rel => exact ⟨_, (decide ((a0.size : Int) < 1)), (by first | rfl | (simp; done) | (simp [*]; done)), H', ⟨by first | omega | exact Nat.le_refl _⟩, ⟨by repeat (first | (with_reducible first | exact HB.out | apply below_alloc | apply pw_below_drewN | apply below_drew1) | exact HB.out)⟩⟩
      · replace c10 := Bool.eq_false_iff.mpr c10
        subst c10
        have H1 : (minuetlaw12_GoodShort.j0 k a0 false t103 true) = some r := by rw [if_neg (show ¬ (false = true) by decide)] at H; exact H
        clear H
        have H := H1
        clear H1
        have H' := Aside0.mk H
        clear H
        go_wp2_with (first | ((with_reducible refine gate_callee (f := 15) rfl ?_); refine goesL_ (some 21) rfl rfl Try.func15 (by kernel_rfl) rfl #[.int .i64 t103] rfl (by (try simp only [List.map_toArray, List.map_cons, List.map_nil]); first | done | rfl | (simp only [List.length_drop, List.length_take]; rfl)) ?_; (with_reducible refine (minuetlaw0_Num.calls t103 t104 _ A8.out).mono ?_); rintro e w' ⟨rfl, ⟨nd, rfl⟩⟩; refine ⟨_, rfl, ?_⟩))
        go_meet
        case rel => exact ⟨_, (true), (by first | rfl | (simp; done) | (simp [*]; done)), H', ⟨by first | omega | exact Nat.le_refl _⟩, ⟨by repeat (first | (with_reducible first | exact HB.out | apply below_alloc | apply pw_below_drewN | apply below_drew1) | exact HB.out)⟩⟩
    · rw [if_neg c9] at H
      have c9b0 : (t104 == 0) = false := beq_eq_false_iff_ne.mpr c9
      have c9b1 : (t104 != 0) = true := bne_iff_ne.mpr c9
      (first | rw [c9b0] | (simp only [i64_w, i32_w]; rw [c9b0]) | skip)
      have H' := Aside0.mk H
      clear H
      go_wp2_with (first | ((with_reducible refine gate_callee (f := 15) rfl ?_); refine goesL_ (some 21) rfl rfl Try.func15 (by kernel_rfl) rfl #[.int .i64 t103] rfl (by (try simp only [List.map_toArray, List.map_cons, List.map_nil]); first | done | rfl | (simp only [List.length_drop, List.length_take]; rfl)) ?_; (with_reducible refine (minuetlaw0_Num.calls t103 t104 _ A8.out).mono ?_); rintro e w' ⟨rfl, ⟨nd, rfl⟩⟩; refine ⟨_, rfl, ?_⟩))
      go_meet
      case rel => exact ⟨_, (true), (by first | rfl | (simp; done) | (simp [*]; done)), H', ⟨by first | omega | exact Nat.le_refl _⟩, ⟨by repeat (first | (with_reducible first | exact HB.out | apply below_alloc | apply pw_below_drewN | apply below_drew1) | exact HB.out)⟩⟩
   case rest =>
    clear HC5
    try clear c1
    try clear c2
    try clear p2
    try clear c3
    try clear c9
    try clear c9b0
    try clear c9b1
    try clear c10
    try clear c11
    try clear c11b0
    try clear c11b1
    obtain ⟨kq, x36_4, rfl, HA, HJ4, HB⟩ := hcut
    cases kq with
    | zero => exact absurd HA.out (by simp [minuetlaw12_GoodShort.j0])
    | succ kj4 =>
     have H := HA.out
     clear HA
     simp only [minuetlaw12_GoodShort.j0] at H
     by_cases c12 : x36_4 = true
     · subst c12
       have H1 : ((minuetlaw0_Num.f t103).bind fun t105 => (if t105 = 0 then (some true) else (some (!t102)))) = some r := by rw [if_pos rfl] at H; exact H
       clear H
       have H := H1
       clear H1
       replace H := Option.bind_eq_some_iff.mp H
       obtain ⟨t105, A130, H⟩ := H
       replace H : (if t105 = 0 then (some true) else (some (!t102))) = some r := H
       have A13 := Aside0.mk A130
       clear A130
       by_cases c14 : t105 = 0
       · rw [if_pos c14] at H
         have c14b0 : (t105 == 0) = true := beq_iff_eq.mpr c14
         have c14b1 : (t105 != 0) = false := bne_eq_false_iff_eq.mpr c14
         clear c14
         obtain rfl := Option.some.inj H
         go_wp2_with (first | ((with_reducible refine gate_callee (f := 15) rfl ?_); refine goesL_ (some 38) rfl rfl Try.func15 (by kernel_rfl) rfl #[.int .i64 t103] rfl (by (try simp only [List.map_toArray, List.map_cons, List.map_nil]); first | done | rfl | (simp only [List.length_drop, List.length_take]; rfl)) ?_; (with_reducible refine (minuetlaw0_Num.calls t103 t105 _ A13.out).mono ?_); rintro e w' ⟨rfl, ⟨nd, rfl⟩⟩; refine ⟨_, rfl, ?_⟩))
         go_ret
         exact ⟨by first | rfl | (simp [errW_none, errW_some] <;> rfl) | (simp [*, errW_none, errW_some] <;> rfl), by repeat (first | (with_reducible first | exact HB.out | apply below_alloc | apply pw_below_drewN | apply below_drew1) | exact HB.out)⟩
       · rw [if_neg c14] at H
         have c14b0 : (t105 == 0) = false := beq_eq_false_iff_ne.mpr c14
         have c14b1 : (t105 != 0) = true := bne_iff_ne.mpr c14
         obtain rfl := Option.some.inj H
         go_wp2_with (first | ((with_reducible refine gate_callee (f := 15) rfl ?_); refine goesL_ (some 38) rfl rfl Try.func15 (by kernel_rfl) rfl #[.int .i64 t103] rfl (by (try simp only [List.map_toArray, List.map_cons, List.map_nil]); first | done | rfl | (simp only [List.length_drop, List.length_take]; rfl)) ?_; (with_reducible refine (minuetlaw0_Num.calls t103 t105 _ A13.out).mono ?_); rintro e w' ⟨rfl, ⟨nd, rfl⟩⟩; refine ⟨_, rfl, ?_⟩))
         go_ret
         exact ⟨by first | rfl | (simp [errW_none, errW_some] <;> rfl) | (simp [*, errW_none, errW_some] <;> rfl), by repeat (first | (with_reducible first | exact HB.out | apply below_alloc | apply pw_below_drewN | apply below_drew1) | exact HB.out)⟩
     · replace c12 := Bool.eq_false_iff.mpr c12
       subst c12
       have H1 : (if 0 ≤ (wrap64 ((a0.size : Int) - 1)) then (if (wrap64 ((a0.size : Int) - 1)) < (a0.size : Int) then (minuetlaw12_GoodShort.l0 kj4 a0 (bt a0 (wrap64 ((a0.size : Int) - 1))) 0) else (none)) else (none)) = some r := by rw [if_neg (show ¬ (false = true) by decide)] at H; exact H
       clear H
       have H := H1
       clear H1
       obtain ⟨ji15, hji15⟩ : ∃ j_ : Int, (wrap64 ((a0.size : Int) - 1)) = j_ := ⟨_, rfl⟩
       replace H : (if 0 ≤ (ji15) then (if (ji15) < (a0.size : Int) then (minuetlaw12_GoodShort.l0 kj4 a0 (bt a0 (ji15)) 0) else (none)) else (none)) = some r := by first | (rw [hji15] at H; exact H) | (simp only [hji15] at H ⊢; exact H)
       have hji15w : (IntKind.i64.wrap ((a0.size : Int) - 1)) = ji15 := (i64_w _).trans hji15
       by_cases c16 : 0 ≤ (ji15)
       · rw [if_pos c16] at H
         have c16b0 : decide (0 ≤ (ji15)) = true := decide_eq_true c16
         clear c16
         by_cases c17 : (ji15) < (a0.size : Int)
         · rw [if_pos c17] at H
           have c17b0 : decide ((ji15) < (a0.size : Int)) = true := decide_eq_true c17
           clear c17
           have H' := Aside0.mk H
           clear H
           have p18 : 0 ≤ ((ji15) : Int) := of_decide_eq_true (by first | (with_reducible assumption) | assumption)
           have q18 : (ji15) < (a0.size : Int) := of_decide_eq_true (by first | (with_reducible assumption) | assumption)
           have hx18 := bt_at a0 (ji15)
           replace p18 := eq_true p18
           replace q18 := eq_true q18
           go_wp2
           go_loopg [6] kj4 (fun kq v6 w' => ∃ (x6_2 : Int), v6 = .int .i64 x6_2 ∧ Aside0 (minuetlaw12_GoodShort.l0 kq a0 (bt a0 (ji15)) x6_2 = some r) ∧ Aside0 (kq ≤ kj4) ∧ Aside0 (Below w.heap.size w w'))
           case atStart => exact ⟨(0), (by first | rfl | (simp; done) | (simp [*]; done)), H', ⟨Nat.le_refl _⟩, ⟨by repeat (first | (with_reducible first | exact HB.out | apply below_alloc | apply pw_below_drewN | apply below_drew1) | exact HB.out)⟩⟩
           case round =>
            clear H'
            try clear c1
            try clear p1
            try clear q1
            try clear hx1
            try clear c2
            try clear p2
            try clear c3
            try clear p6
            try clear c9
            try clear c9b0
            try clear c9b1
            try clear c10
            try clear c11
            try clear c11b0
            try clear c11b1
            try clear c12
            try clear c14
            try clear c14b0
            try clear c14b1
            try clear c15
            try clear c16
            try clear c16b0
            try clear c17
            try clear c17b0
            try clear p18
            try clear q18
            try clear hx18
            try clear p18
            try clear p2
            try clear q18
            obtain ⟨x6_2, rfl, HA, HK2, HB⟩ := hrel
            cases gk with
            | zero => exact absurd HA.out (by simp [minuetlaw12_GoodShort.l0])
            | succ k2 =>
             have H := HA.out
             clear HA
             simp only [minuetlaw12_GoodShort.l0] at H
             by_cases c19 : x6_2 < (a0.size : Int)
             · rw [if_pos c19] at H
               have c19b0 : decide (x6_2 < (a0.size : Int)) = true := decide_eq_true c19
               clear c19
               by_cases c20 : 0 ≤ x6_2
               · rw [if_pos c20] at H
                 have c20b0 : decide (0 ≤ x6_2) = true := decide_eq_true c20
                 clear c20
                 by_cases c22 : (bt a0 x6_2) = 47
                 · rw [if_pos c22] at H
                   have c22b0 : ((bt a0 x6_2) == 47) = true := beq_iff_eq.mpr c22
                   have c22b1 : ((bt a0 x6_2) != 47) = false := bne_eq_false_iff_eq.mpr c22
                   clear c22
                   obtain rfl := Option.some.inj H
                   have p21 : 0 ≤ (x6_2 : Int) := of_decide_eq_true (by first | (with_reducible assumption) | assumption)
                   have q21 : x6_2 < (a0.size : Int) := of_decide_eq_true (by first | (with_reducible assumption) | assumption)
                   have hx21 := bt_at a0 x6_2
                   replace p21 := eq_true p21
                   replace q21 := eq_true q21
                   go_wp2
                   go_ret
                   exact ⟨by first | rfl | (simp [errW_none, errW_some] <;> rfl) | (simp only [← hji15]; first | rfl | (simp [errW_none, errW_some] <;> rfl)) | (simp [*, errW_none, errW_some] <;> rfl), by repeat (first | (with_reducible first | exact HB.out | apply below_alloc | apply pw_below_drewN | apply below_drew1) | exact HB.out)⟩
                 · rw [if_neg c22] at H
                   have c22b0 : ((bt a0 x6_2) == 47) = false := beq_eq_false_iff_ne.mpr c22
                   have c22b1 : ((bt a0 x6_2) != 47) = true := bne_iff_ne.mpr c22
                   by_cases c24 : (bt a0 x6_2) = 34
                   · rw [if_pos c24] at H
                     have c24b0 : ((bt a0 x6_2) == 34) = true := beq_iff_eq.mpr c24
                     have c24b1 : ((bt a0 x6_2) != 34) = false := bne_eq_false_iff_eq.mpr c24
                     clear c24
                     obtain rfl := Option.some.inj H
                     have p21 : 0 ≤ (x6_2 : Int) := of_decide_eq_true (by first | (with_reducible assumption) | assumption)
                     have q21 : x6_2 < (a0.size : Int) := of_decide_eq_true (by first | (with_reducible assumption) | assumption)
                     have hx21 := bt_at a0 x6_2
                     replace p21 := eq_true p21
                     replace q21 := eq_true q21
                     have p23 : 0 ≤ (x6_2 : Int) := of_decide_eq_true (by first | (with_reducible assumption) | assumption)
                     have q23 : x6_2 < (a0.size : Int) := of_decide_eq_true (by first | (with_reducible assumption) | assumption)
                     have hx23 := bt_at a0 x6_2
                     replace p23 := eq_true p23
                     replace q23 := eq_true q23
                     go_wp2
                     go_ret
                     exact ⟨by first | rfl | (simp [errW_none, errW_some] <;> rfl) | (simp only [← hji15]; first | rfl | (simp [errW_none, errW_some] <;> rfl)) | (simp [*, errW_none, errW_some] <;> rfl), by repeat (first | (with_reducible first | exact HB.out | apply below_alloc | apply pw_below_drewN | apply below_drew1) | exact HB.out)⟩
                   · rw [if_neg c24] at H
                     have c24b0 : ((bt a0 x6_2) == 34) = false := beq_eq_false_iff_ne.mpr c24
                     have c24b1 : ((bt a0 x6_2) != 34) = true := bne_iff_ne.mpr c24
                     have H' := Aside0.mk H
                     clear H
                     have p21 : 0 ≤ (x6_2 : Int) := of_decide_eq_true (by first | (with_reducible assumption) | assumption)
                     have q21 : x6_2 < (a0.size : Int) := of_decide_eq_true (by first | (with_reducible assumption) | assumption)
                     have hx21 := bt_at a0 x6_2
                     replace p21 := eq_true p21
                     replace q21 := eq_true q21
                     have p23 : 0 ≤ (x6_2 : Int) := of_decide_eq_true (by first | (with_reducible assumption) | assumption)
                     have q23 : x6_2 < (a0.size : Int) := of_decide_eq_true (by first | (with_reducible assumption) | assumption)
                     have hx23 := bt_at a0 x6_2
                     replace p23 := eq_true p23
                     replace q23 := eq_true q23
                     go_wp2
                     go_roundg k2
                     case measure => have := HJ4.out; have := HK2.out; omega
                     case rel => exact ⟨(wrap64 (x6_2 + 1)), (by first | rfl | (simp; done) | (simp [*]; done)), H', ⟨by have := HJ4.out; have := HK2.out; omega⟩, ⟨by repeat (first | (with_reducible first | exact HB.out | apply below_alloc | apply pw_below_drewN | apply below_drew1) | exact HB.out)⟩⟩
               · rw [if_neg c20] at H
                 exact absurd H (by simp)
             · rw [if_neg c19] at H
               have c19b0 : decide (x6_2 < (a0.size : Int)) = false := decide_eq_false c19
               clear c19
               have HC25 := Aside0.mk H
               clear H
               go_upto_region 12 with (fail)
               go_cut [70] (fun v70 wc => ∃ (kq : Nat) (x70_24 : Bool), v70 = .bool x70_24 ∧ Aside0 (minuetlaw12_GoodShort.j2 kq a0 (bt a0 (ji15)) x70_24 = some r) ∧ Aside0 (kq ≤ k2) ∧ Aside0 (Below w.heap.size w wc))
               case first =>
                have H := HC25.out
                clear HC25
                by_cases c26 : (bt a0 (ji15)) = 93
                · rw [if_pos c26] at H
                  have c26b0 : ((bt a0 (ji15)) == 93) = true := beq_iff_eq.mpr c26
                  have c26b1 : ((bt a0 (ji15)) != 93) = false := bne_eq_false_iff_eq.mpr c26
                  clear c26
                  (first | rw [c26b0] | (simp only [i64_w, i32_w]; rw [c26b0]) | skip)
                  have H' := Aside0.mk H
                  clear H
                  go_wp2
                  go_meet
                  case rel => exact ⟨_, (false), (by first | rfl | (simp; done) | (simp [*]; done)), H', ⟨by have := HJ4.out; have := HK2.out; first | omega | exact Nat.le_refl _⟩, ⟨by repeat (first | (with_reducible first | exact HB.out | apply below_alloc | apply pw_below_drewN | apply below_drew1) | exact HB.out)⟩⟩
                · rw [if_neg c26] at H
                  have c26b0 : ((bt a0 (ji15)) == 93) = false := beq_eq_false_iff_ne.mpr c26
                  have c26b1 : ((bt a0 (ji15)) != 93) = true := bne_iff_ne.mpr c26
                  (first | rw [c26b0] | (simp only [i64_w, i32_w]; rw [c26b0]) | skip)
                  have H' := Aside0.mk H
                  clear H
                  go_wp2
                  go_meet
                  case rel => exact ⟨_, (((bt a0 (ji15)) != 125)), (by first | rfl | (simp; done) | (simp only [← hji15] <;> (first | rfl | simp)) | (simp [*]; done)), (by first | exact H' | (rw [hji15]; exact H')), ⟨by have := HJ4.out; have := HK2.out; first | omega | exact Nat.le_refl _⟩, ⟨by repeat (first | (with_reducible first | exact HB.out | apply below_alloc | apply pw_below_drewN | apply below_drew1) | exact HB.out)⟩⟩
               case rest =>
                clear HC25
                try clear c1
                try clear p1
                try clear q1
                try clear hx1
                try clear c2
                try clear p2
                try clear q2
                try clear hx2
                try clear c3
                try clear p6
                try clear c9
                try clear c9b0
                try clear c9b1
                try clear c10
                try clear c11
                try clear c11b0
                try clear c11b1
                try clear c12
                try clear c14
                try clear c14b0
                try clear c14b1
                try clear c15
                try clear c16
                try clear c16b0
                try clear c17
                try clear c17b0
                try clear p18
                try clear q18
                try clear hx18
                try clear c19
                try clear c19b0
                try clear c20
                try clear c20b0
                try clear p21
                try clear q21
                try clear hx21
                try clear c22
                try clear c22b0
                try clear c22b1
                try clear p23
                try clear q23
                try clear hx23
                try clear c24
                try clear c24b0
                try clear c24b1
                try clear c26
                try clear c26b0
                try clear c26b1
                try clear p1
                try clear p18
                try clear p2
                try clear p21
                try clear p23
                try clear p6
                try clear q1
                try clear q18
                try clear q21
                try clear q23
                obtain ⟨kq, x70_24, rfl, HA, HJ24, HB⟩ := hcut
                cases kq with
                | zero => exact absurd HA.out (by simp [minuetlaw12_GoodShort.j2])
                | succ kj24 =>
                 have H := HA.out
                 clear HA
                 simp only [minuetlaw12_GoodShort.j2] at H
                 by_cases c27 : x70_24 = true
                 · subst c27
                   have H1 : (some true) = some r := by rw [if_pos rfl] at H; exact H
                   clear H
                   have H := H1
                   clear H1
                   obtain rfl := Option.some.inj H
                   go_wp2
                   go_ret
                   exact ⟨by first | rfl | (simp [errW_none, errW_some] <;> rfl) | (simp only [← hji15]; first | rfl | (simp [errW_none, errW_some] <;> rfl)) | (simp [*, errW_none, errW_some] <;> rfl), by repeat (first | (with_reducible first | exact HB.out | apply below_alloc | apply pw_below_drewN | apply below_drew1) | exact HB.out)⟩
                 · replace c27 := Bool.eq_false_iff.mpr c27
                   subst c27
                   have H1 : (if 0 ≤ (wrap64 ((a0.size : Int) - 1)) then (if (wrap64 ((a0.size : Int) - 1)) ≤ (a0.size : Int) then ((good_Good.f (a0.extract 0 ((wrap64 ((a0.size : Int) - 1)) : Int).toNat)).bind fun bt106 => ((some (([(bt a0 (ji15))] : List Int) : List Int)).bind fun y108 => (if a0.size + (strOfNums y108).size ≤ 9223372036854775807 then ((good_Good.f (a0 ++ (strOfNums y108))).bind fun bt111 => (if a0.size + 1 ≤ 9223372036854775807 then ((good_Good.f (a0 ++ (⟨#[32]⟩ : ByteArray))).bind fun bt113 => (if bt106.1 = true then (none) else ((minuetlaw0_Num.f bt106.2).bind fun t115 => (if t115 = 0 then (if bt111.1 = true then (none) else ((minuetlaw0_Num.f bt111.2).bind fun t116 => (if t116 = 0 then (if bt113.1 = true then ((minuetlaw0_Num.f bt113.2).bind fun t117 => (some (t117 == 0))) else (none)) else (none)))) else (none))))) else (none))) else (none)))) else (none)) else (none)) = some r := by rw [if_neg (show ¬ (false = true) by decide)] at H; exact H
                   clear H
                   have H := H1
                   clear H1
                   skip
                   replace H : (if 0 ≤ (ji15) then (if (ji15) ≤ (a0.size : Int) then ((good_Good.f (a0.extract 0 ((ji15) : Int).toNat)).bind fun bt106 => ((some (([(bt a0 (ji15))] : List Int) : List Int)).bind fun y108 => (if a0.size + (strOfNums y108).size ≤ 9223372036854775807 then ((good_Good.f (a0 ++ (strOfNums y108))).bind fun bt111 => (if a0.size + 1 ≤ 9223372036854775807 then ((good_Good.f (a0 ++ (⟨#[32]⟩ : ByteArray))).bind fun bt113 => (if bt106.1 = true then (none) else ((minuetlaw0_Num.f bt106.2).bind fun t115 => (if t115 = 0 then (if bt111.1 = true then (none) else ((minuetlaw0_Num.f bt111.2).bind fun t116 => (if t116 = 0 then (if bt113.1 = true then ((minuetlaw0_Num.f bt113.2).bind fun t117 => (some (t117 == 0))) else (none)) else (none)))) else (none))))) else (none))) else (none)))) else (none)) else (none)) = some r := by first | (rw [hji15] at H; exact H) | (simp only [hji15] at H ⊢; exact H)
                   have hji15w : (IntKind.i64.wrap ((a0.size : Int) - 1)) = ji15 := (i64_w _).trans hji15
                   by_cases c29 : 0 ≤ (ji15)
                   · rw [if_pos c29] at H
                     have c29b0 := eq_true c29
                     have c29b1 : decide (0 ≤ (ji15)) = true := decide_eq_true c29
                     clear c29
                     by_cases c30 : (ji15) ≤ (a0.size : Int)
                     · rw [if_pos c30] at H
                       have c30b0 := eq_true c30
                       have c30b1 : decide ((ji15) ≤ (a0.size : Int)) = true := decide_eq_true c30
                       clear c30
                       replace H := Option.bind_eq_some_iff.mp H
                       obtain ⟨⟨t106, t107⟩, A310, H⟩ := H
                       replace H : ((some (([(bt a0 (ji15))] : List Int) : List Int)).bind fun y108 => (if a0.size + (strOfNums y108).size ≤ 9223372036854775807 then ((good_Good.f (a0 ++ (strOfNums y108))).bind fun bt111 => (if a0.size + 1 ≤ 9223372036854775807 then ((good_Good.f (a0 ++ (⟨#[32]⟩ : ByteArray))).bind fun bt113 => (if t106 = true then (none) else ((minuetlaw0_Num.f t107).bind fun t115 => (if t115 = 0 then (if bt111.1 = true then (none) else ((minuetlaw0_Num.f bt111.2).bind fun t116 => (if t116 = 0 then (if bt113.1 = true then ((minuetlaw0_Num.f bt113.2).bind fun t117 => (some (t117 == 0))) else (none)) else (none)))) else (none))))) else (none))) else (none))) = some r := H
                       have A31 := Aside0.mk A310
                       clear A310
                       obtain ⟨y108, hy108⟩ : ∃ y_ : List Int, y_ = (([(bt a0 (ji15))] : List Int)) := ⟨_, rfl⟩
                       replace H : (if a0.size + (strOfNums y108).size ≤ 9223372036854775807 then ((good_Good.f (a0 ++ (strOfNums y108))).bind fun bt111 => (if a0.size + 1 ≤ 9223372036854775807 then ((good_Good.f (a0 ++ (⟨#[32]⟩ : ByteArray))).bind fun bt113 => (if t106 = true then (none) else ((minuetlaw0_Num.f t107).bind fun t115 => (if t115 = 0 then (if bt111.1 = true then (none) else ((minuetlaw0_Num.f bt111.2).bind fun t116 => (if t116 = 0 then (if bt113.1 = true then ((minuetlaw0_Num.f bt113.2).bind fun t117 => (some (t117 == 0))) else (none)) else (none)))) else (none))))) else (none))) else (none)) = some r := by first | (rw [hy108]; with_reducible exact H) | (have H2_ := (Option.bind_some _ _).symm.trans H; rw [hy108]; with_reducible exact H2_) | (have H2_ := (Option.bind_some _ _).symm.trans H; with_reducible exact H2_) | with_reducible exact H | (rw [hy108]; exact H) | exact H
                       have Ny108 := Aside0.mk hy108
                       clear hy108
                       by_cases c32 : a0.size + (strOfNums y108).size ≤ 9223372036854775807
                       · rw [if_pos c32] at H
                         have c32b0 := eq_true c32
                         have c32b1 : decide (a0.size + (strOfNums y108).size ≤ 9223372036854775807) = true := decide_eq_true c32
                         try have c32b2 : (9223372036854775807 < a0.size + (strOfNums y108).size) = False := eq_false (Nat.not_lt.2 c32)
                         replace H := Option.bind_eq_some_iff.mp H
                         obtain ⟨⟨t111, t112⟩, A330, H⟩ := H
                         replace H : (if a0.size + 1 ≤ 9223372036854775807 then ((good_Good.f (a0 ++ (⟨#[32]⟩ : ByteArray))).bind fun bt113 => (if t106 = true then (none) else ((minuetlaw0_Num.f t107).bind fun t115 => (if t115 = 0 then (if t111 = true then (none) else ((minuetlaw0_Num.f t112).bind fun t116 => (if t116 = 0 then (if bt113.1 = true then ((minuetlaw0_Num.f bt113.2).bind fun t117 => (some (t117 == 0))) else (none)) else (none)))) else (none))))) else (none)) = some r := H
                         have A33 := Aside0.mk A330
                         clear A330
                         by_cases c34 : a0.size + 1 ≤ 9223372036854775807
                         · rw [if_pos c34] at H
                           have c34b0 := eq_true c34
                           have c34b1 : decide (a0.size + 1 ≤ 9223372036854775807) = true := decide_eq_true c34
                           try have c34b2 : (9223372036854775807 < a0.size + 1) = False := eq_false (Nat.not_lt.2 c34)
                           replace H := Option.bind_eq_some_iff.mp H
                           obtain ⟨⟨t113, t114⟩, A350, H⟩ := H
                           replace H : (if t106 = true then (none) else ((minuetlaw0_Num.f t107).bind fun t115 => (if t115 = 0 then (if t111 = true then (none) else ((minuetlaw0_Num.f t112).bind fun t116 => (if t116 = 0 then (if t113 = true then ((minuetlaw0_Num.f t114).bind fun t117 => (some (t117 == 0))) else (none)) else (none)))) else (none)))) = some r := H
                           have A35 := Aside0.mk A350
                           clear A350
                           by_cases c36 : t106 = true
                           · subst c36
                             have H1 : (none) = some r := by rw [if_pos rfl] at H; exact H
                             clear H
                             have H := H1
                             clear H1
                             exact absurd H (by simp)
                           · replace c36 := Bool.eq_false_iff.mpr c36
                             subst c36
                             have H1 : ((minuetlaw0_Num.f t107).bind fun t115 => (if t115 = 0 then (if t111 = true then (none) else ((minuetlaw0_Num.f t112).bind fun t116 => (if t116 = 0 then (if t113 = true then ((minuetlaw0_Num.f t114).bind fun t117 => (some (t117 == 0))) else (none)) else (none)))) else (none))) = some r := by rw [if_neg (show ¬ (false = true) by decide)] at H; exact H
                             clear H
                             have H := H1
                             clear H1
                             replace H := Option.bind_eq_some_iff.mp H
                             obtain ⟨t115, A370, H⟩ := H
                             replace H : (if t115 = 0 then (if t111 = true then (none) else ((minuetlaw0_Num.f t112).bind fun t116 => (if t116 = 0 then (if t113 = true then ((minuetlaw0_Num.f t114).bind fun t117 => (some (t117 == 0))) else (none)) else (none)))) else (none)) = some r := H
                             have A37 := Aside0.mk A370
                             clear A370
                             by_cases c38 : t115 = 0
                             · rw [if_pos c38] at H
                               have c38b0 : (t115 == 0) = true := beq_iff_eq.mpr c38
                               have c38b1 : (t115 != 0) = false := bne_eq_false_iff_eq.mpr c38
                               clear c38
                               by_cases c39 : t111 = true
                               · subst c39
                                 have H1 : (none) = some r := by rw [if_pos rfl] at H; exact H
                                 clear H
                                 have H := H1
                                 clear H1
                                 exact absurd H (by simp)
                               · replace c39 := Bool.eq_false_iff.mpr c39
                                 subst c39
                                 have H1 : ((minuetlaw0_Num.f t112).bind fun t116 => (if t116 = 0 then (if t113 = true then ((minuetlaw0_Num.f t114).bind fun t117 => (some (t117 == 0))) else (none)) else (none))) = some r := by rw [if_neg (show ¬ (false = true) by decide)] at H; exact H
                                 clear H
                                 have H := H1
                                 clear H1
                                 replace H := Option.bind_eq_some_iff.mp H
                                 obtain ⟨t116, A400, H⟩ := H
                                 replace H : (if t116 = 0 then (if t113 = true then ((minuetlaw0_Num.f t114).bind fun t117 => (some (t117 == 0))) else (none)) else (none)) = some r := H
                                 have A40 := Aside0.mk A400
                                 clear A400
                                 by_cases c41 : t116 = 0
                                 · rw [if_pos c41] at H
                                   have c41b0 : (t116 == 0) = true := beq_iff_eq.mpr c41
                                   have c41b1 : (t116 != 0) = false := bne_eq_false_iff_eq.mpr c41
                                   clear c41
                                   by_cases c42 : t113 = true
                                   · subst c42
                                     have H1 : ((minuetlaw0_Num.f t114).bind fun t117 => (some (t117 == 0))) = some r := by rw [if_pos rfl] at H; exact H
                                     clear H
                                     have H := H1
                                     clear H1
                                     replace H := Option.bind_eq_some_iff.mp H
                                     obtain ⟨t117, A430, H⟩ := H
                                     replace H : (some (t117 == 0)) = some r := H
                                     have A43 := Aside0.mk A430
                                     clear A430
                                     obtain rfl := Option.some.inj H
                                     go_wp2_with (first | ((with_reducible refine gate_callee (f := 24) rfl ?_); refine goesL_ (some 77) rfl rfl Try.func24 (by kernel_rfl) rfl #[.string (a0.extract 0 ((ji15) : Int).toNat)] rfl (by (try simp only [List.map_toArray, List.map_cons, List.map_nil]); first | done | (simp only [hji15]; rfl) | rfl | (simp only [List.length_drop, List.length_take]; rfl)) ?_; (with_reducible refine (good_Good.calls (a0.extract 0 ((ji15) : Int).toNat) false t107 _ (MaxOk.of HM_.out (by repeat (first | (with_reducible first | exact HB.out | apply below_alloc | apply pw_below_drewN | apply below_drew1) | exact HB.out))) A31.out).mono ?_); rintro e w44 ⟨rfl, hb⟩; refine ⟨_, rfl, ?_⟩; have n0_ := Aside0.mk (below_step (by repeat (first | (with_reducible first | exact HB.out | apply below_alloc | apply pw_below_drewN | apply below_drew1) | exact HB.out)) hb); clear HB; have HB := n0_; clear n0_; (try clear hb); (try clear hb2); (try clear hk); (try clear hi)) | ((with_reducible refine gate_dst (N := 83) rfl ?_); (try (refine gate_guard (by rfl) ?_; dsimp only)); refine Kd.R_lit (Kd.int .u8) _ 5 ?hg (N := 83) ?hd (xs := ([(bt a0 (ji15))] : List Int)) (inner := [.int .u8 (bt a0 (ji15))]) (ok := fun _ => True) (okp := fun _ => True) ?hr ?hp (fun _ hk => hk) trivial (Below.refl _ _) (Nat.le_refl _) (by simp) ?_; (case hd => rfl); (case hg => rfl); (case hr => first | (go_simp; done) | (go_simp; rfl)); (case hp => exact (Reps.one (show Kd.M (Kd.int .u8) _ _ _ (bt a0 (ji15)) [.int .u8 (bt a0 (ji15))] from rfl) (Reps.none _ _))); intro v109 w45 ho46 hb hg_ hnew_; clear hg_ hnew_; (first | rw [← Ny108.out] at ho46 | (simp only [Int.reduceToNat] at ho46; rw [← Ny108.out] at ho46)); have n0_ := Aside0.mk (Kd.R_lower ho46 (below_size (by repeat (first | (with_reducible first | exact HB.out | apply below_alloc | apply pw_below_drewN | apply below_drew1) | exact HB.out)))); have n1_ := Aside0.mk (below_step (by repeat (first | (with_reducible first | exact HB.out | apply below_alloc | apply pw_below_drewN | apply below_drew1) | exact HB.out)) hb); clear HB; have HO110 := n0_; have HB := n1_; clear n0_ n1_; clear hb ho46; have hcv47 := own_string (P := Try.prog) Try.underlying54 Try.underlying5 Try.underlying9 (Kd.own_of_R HO110.out)) | ((with_reducible refine gate_callee (f := 24) rfl ?_); refine goesL_ (some 86) rfl rfl Try.func24 (by kernel_rfl) rfl #[.string (a0 ++ (strOfNums y108))] rfl (by (try simp only [List.map_toArray, List.map_cons, List.map_nil]); first | done | rfl | (simp only [List.length_drop, List.length_take]; rfl)) ?_; (with_reducible refine (good_Good.calls (a0 ++ (strOfNums y108)) false t112 _ (MaxOk.of HM_.out (by repeat (first | (with_reducible first | exact HB.out | apply below_alloc | apply pw_below_drewN | apply below_drew1) | exact HB.out))) A33.out).mono ?_); rintro e w48 ⟨rfl, hb⟩; refine ⟨_, rfl, ?_⟩; have n0_ := Aside0.mk (Kd.R_below (by (with_reducible repeat (first | apply Kd.R_alloc | apply Kd.R_drewN | apply Kd.R_drew)); exact HO110.out) hb); have n1_ := Aside0.mk (below_step (by repeat (first | (with_reducible first | exact HB.out | apply below_alloc | apply pw_below_drewN | apply below_drew1) | exact HB.out)) hb); clear HO110; clear HB; have HO110 := n0_; have HB := n1_; clear n0_ n1_; (try clear hb); (try clear hb2); (try clear hk); (try clear hi)) | ((with_reducible refine gate_callee (f := 24) rfl ?_); refine goesL_ (some 92) rfl rfl Try.func24 (by kernel_rfl) rfl #[.string (a0 ++ (⟨#[32]⟩ : ByteArray))] rfl (by (try simp only [List.map_toArray, List.map_cons, List.map_nil]); first | done | rfl | (simp only [List.length_drop, List.length_take]; rfl)) ?_; (with_reducible refine (good_Good.calls (a0 ++ (⟨#[32]⟩ : ByteArray)) true t114 _ (MaxOk.of HM_.out (by repeat (first | (with_reducible first | exact HB.out | apply below_alloc | apply pw_below_drewN | apply below_drew1) | exact HB.out))) A35.out).mono ?_); rintro e w49 ⟨rfl, hb⟩; refine ⟨_, rfl, ?_⟩; have n0_ := Aside0.mk (Kd.R_below (by (with_reducible repeat (first | apply Kd.R_alloc | apply Kd.R_drewN | apply Kd.R_drew)); exact HO110.out) hb); have n1_ := Aside0.mk (below_step (by repeat (first | (with_reducible first | exact HB.out | apply below_alloc | apply pw_below_drewN | apply below_drew1) | exact HB.out)) hb); clear HO110; clear HB; have HO110 := n0_; have HB := n1_; clear n0_ n1_; (try clear hb); (try clear hb2); (try clear hk); (try clear hi)) | (go_at_call 15; (with_reducible refine (minuetlaw0_Num.calls t107 t115 _ A37.out).mono ?_); rintro e w' ⟨rfl, ⟨nd, rfl⟩⟩) | (go_at_call 15; (with_reducible refine (minuetlaw0_Num.calls t112 t116 _ A40.out).mono ?_); rintro e w' ⟨rfl, ⟨nd, rfl⟩⟩) | (go_at_call 15; (with_reducible refine (minuetlaw0_Num.calls t114 t117 _ A43.out).mono ?_); rintro e w' ⟨rfl, ⟨nd, rfl⟩⟩))
                                     go_ret
                                     exact ⟨by first | rfl | (simp [errW_none, errW_some] <;> rfl) | (simp only [← hji15, ← hji15]; first | rfl | (simp [errW_none, errW_some] <;> rfl)) | (simp [*, errW_none, errW_some] <;> rfl), by repeat (first | (with_reducible first | exact HB.out | apply below_alloc | apply pw_below_drewN | apply below_drew1) | exact HB.out)⟩
                                   · replace c42 := Bool.eq_false_iff.mpr c42
                                     subst c42
                                     have H1 : (none) = some r := by rw [if_neg (show ¬ (false = true) by decide)] at H; exact H
                                     clear H
                                     have H := H1
                                     clear H1
                                     exact absurd H (by simp)
                                 · rw [if_neg c41] at H
                                   exact absurd H (by simp)
                             · rw [if_neg c38] at H
                               exact absurd H (by simp)
                         · rw [if_neg c34] at H
                           exact absurd H (by simp)
                       · rw [if_neg c32] at H
                         exact absurd H (by simp)
                     · rw [if_neg c30] at H
                       exact absurd H (by simp)
                   · rw [if_neg c29] at H
                     exact absurd H (by simp)
         · rw [if_neg c17] at H
           exact absurd H (by simp)
       · rw [if_neg c16] at H
         exact absurd H (by simp)
 · replace c3 := Bool.eq_false_iff.mpr c3
   subst c3
   have H1 : (none) = some r := by rw [if_neg (show ¬ (false = true) by decide)] at H; exact H
   clear H
   have H := H1
   clear H1
   exact absurd H (by simp)

/-- THE ONE PURE STATEMENT of minuetlaw12_GoodShort: yours. -/
def minuetlaw12_GoodShort.Pure : Prop := ∀ (a0 : ByteArray), a0.size ≤ 140737488351232 → ∃ k, minuetlaw12_GoodShort.f k a0 = some true
theorem minuetlaw12_GoodShort.walk (P : minuetlaw12_GoodShort.Pure) (a0 : ByteArray) (w : World) (hm_ : MaxOk w) (w0 : a0.size ≤ 140737488351232) :
 Calls Try.prog 11 #[.string a0] w fun e w' => e = .returned (.bool true) ∧ Below w.heap.size w w' := by
 obtain ⟨k, h⟩ := P a0 w0
 refine (minuetlaw12_GoodShort.calls k a0 true w hm_ h).mono ?_
 rintro e w' ⟨rfl, hd⟩
 exact ⟨rfl, hd⟩

end Go.Proofs.Ytnhkdpcncjkmlaa.G
