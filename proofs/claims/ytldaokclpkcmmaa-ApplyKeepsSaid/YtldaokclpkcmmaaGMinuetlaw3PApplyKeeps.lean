-- Laid by this session's own program gprint.py (wip/tools), out of the kit's print and of texts of this session. Lean checks it.
import Derived.Test.YtldaokclpkcmmaaGx0
import Derived.Test.YtldaokclpkcmmaaGZ3
import Derived.Test.YtldaokclpkcmmaaGApplyPApply
import Derived.Test.YtldaokclpkcmmaaGMinuetlaw3qawake
namespace Go.Proofs.Ytldaokclpkcmmaa.G
open Go.RowKit Go.Proofs.YtldaokclpkcmmaaW.PrintWords Go.Proofs.YtldaokclpkcmmaaW.PrintLast Go.Proofs.YtldaokclpkcmmaaW.PrintMore
attribute [local go_sem] max2_int min2_int max_two min_two max_three min_three max_four min_four   -- for this text's walks alone
set_option linter.unusedVariables false
set_option linter.unusedSimpArgs false

/-! ### minuetlaw3_ApplyKeeps: function 5 -/
mutual
def minuetlaw3_ApplyKeeps.j0 : Nat → ByteArray → ByteArray → Bool → Option (Bool)
 | 0, _, _, _ => none
 | k + 1, x0, x1, x22 => if x22 = true then (some true) else (if (x1.size : Int) > 0 then (if ([] : List (S31)).length < 4398046511104 then (minuetlaw3_ApplyKeeps.j1 k x0 x1 ([] : List (S31)) (([] : List (S31)) ++ [(⟨1, 0, x1⟩ : S31)])) else (none)) else (minuetlaw3_ApplyKeeps.j1 k x0 x1 ([] : List (S31)) ([] : List (S31))))
def minuetlaw3_ApplyKeeps.j1 : Nat → ByteArray → ByteArray → List (S31) → List (S31) → Option (Bool)
 | 0, _, _, _, _ => none
 | k + 1, x0, x1, x5, x6 => if (x0.size : Int) > 0 then (if x5.length < 4398046511104 then (if x6.length < 4398046511104 then (minuetlaw3_ApplyKeeps.j2 k x0 x1 (x5 ++ [(⟨0, (x0.size : Int), (⟨#[]⟩ : ByteArray)⟩ : S31)]) (x6 ++ [(⟨2, (x0.size : Int), (⟨#[]⟩ : ByteArray)⟩ : S31)])) else (none)) else (none)) else (minuetlaw3_ApplyKeeps.j2 k x0 x1 x5 x6)
def minuetlaw3_ApplyKeeps.j2 : Nat → ByteArray → ByteArray → List (S31) → List (S31) → Option (Bool)
 | 0, _, _, _, _ => none
 | k + 1, x0, x1, x5, x6 => (apply_Apply.f k x0 x5).bind fun bt111 => ((apply_Apply.f k x0 x6).bind fun bt113 => (if x0.size + 1 ≤ 9223372036854775807 then ((apply_Apply.f k (x0 ++ (⟨#[120]⟩ : ByteArray)) x5).bind fun bt115 => (if bt111.1.toList = x0.toList then ((minuetlaw0_Num.f bt111.2).bind fun t117 => (if t117 = 0 then (if bt113.1.toList = x1.toList then ((minuetlaw0_Num.f bt113.2).bind fun t118 => (if t118 = 0 then ((minuetlaw0_Num.f bt115.2).bind fun t119 => (some (t119 == 300))) else (none))) else (none)) else (none))) else (none))) else (none)))
end
def minuetlaw3_ApplyKeeps.f (k : Nat) (a0 : ByteArray) (a1 : ByteArray) : Option (Bool) := (minuetlaw3_awake.f k).bind fun t101 => (if t101 = true then (if (a0.size : Int) > 4096 then (minuetlaw3_ApplyKeeps.j0 k a0 a1 true) else (minuetlaw3_ApplyKeeps.j0 k a0 a1 (decide ((a1.size : Int) > 4096)))) else (none))
theorem minuetlaw3_ApplyKeeps.mono_l : ∀ k, (∀ y0 y1 y2, LeO (minuetlaw3_ApplyKeeps.j0 k y0 y1 y2) (minuetlaw3_ApplyKeeps.j0 (k + 1) y0 y1 y2)) ∧ (∀ y0 y1 y2 y3, LeO (minuetlaw3_ApplyKeeps.j1 k y0 y1 y2 y3) (minuetlaw3_ApplyKeeps.j1 (k + 1) y0 y1 y2 y3)) ∧ (∀ y0 y1 y2 y3, LeO (minuetlaw3_ApplyKeeps.j2 k y0 y1 y2 y3) (minuetlaw3_ApplyKeeps.j2 (k + 1) y0 y1 y2 y3))
 | 0 => ⟨fun _ _ _ r h => by simp [minuetlaw3_ApplyKeeps.j0] at h, fun _ _ _ _ r h => by simp [minuetlaw3_ApplyKeeps.j1] at h, fun _ _ _ _ r h => by simp [minuetlaw3_ApplyKeeps.j2] at h⟩
 | k + 1 => by
  obtain ⟨ih0, ih1, ih2⟩ := minuetlaw3_ApplyKeeps.mono_l k
  refine ⟨?_, ?_, ?_⟩
  · intro y0 y1 y2
    unfold minuetlaw3_ApplyKeeps.j0
    repeat' first
    | (with_reducible exact ih0 _ _ _)
    | (with_reducible exact ih1 _ _ _ _)
    | (with_reducible exact ih2 _ _ _ _)
    | (with_reducible exact apply_Apply.mono _ _ _)
    | (with_reducible exact minuetlaw3_awake.mono _)
    | (with_reducible exact LeO.refl _)
    | (with_reducible exact LeO.none _)
    | (with_reducible refine LeO.ite ?_ ?_)
    | (with_reducible refine LeO.bind ?_ (fun _ => ?_))
    | exact ih0 _ _ _
    | exact ih1 _ _ _ _
    | exact ih2 _ _ _ _
    | exact apply_Apply.mono _ _ _
    | exact minuetlaw3_awake.mono _
    | exact LeO.none _
    | refine LeO.ite ?_ ?_
    | refine LeO.bind ?_ (fun _ => ?_)
  · intro y0 y1 y2 y3
    unfold minuetlaw3_ApplyKeeps.j1
    repeat' first
    | (with_reducible exact ih0 _ _ _)
    | (with_reducible exact ih1 _ _ _ _)
    | (with_reducible exact ih2 _ _ _ _)
    | (with_reducible exact apply_Apply.mono _ _ _)
    | (with_reducible exact minuetlaw3_awake.mono _)
    | (with_reducible exact LeO.refl _)
    | (with_reducible exact LeO.none _)
    | (with_reducible refine LeO.ite ?_ ?_)
    | (with_reducible refine LeO.bind ?_ (fun _ => ?_))
    | exact ih0 _ _ _
    | exact ih1 _ _ _ _
    | exact ih2 _ _ _ _
    | exact apply_Apply.mono _ _ _
    | exact minuetlaw3_awake.mono _
    | exact LeO.none _
    | refine LeO.ite ?_ ?_
    | refine LeO.bind ?_ (fun _ => ?_)
  · intro y0 y1 y2 y3
    unfold minuetlaw3_ApplyKeeps.j2
    repeat' first
    | (with_reducible exact ih0 _ _ _)
    | (with_reducible exact ih1 _ _ _ _)
    | (with_reducible exact ih2 _ _ _ _)
    | (with_reducible exact apply_Apply.mono _ _ _)
    | (with_reducible exact minuetlaw3_awake.mono _)
    | (with_reducible exact LeO.refl _)
    | (with_reducible exact LeO.none _)
    | (with_reducible refine LeO.ite ?_ ?_)
    | (with_reducible refine LeO.bind ?_ (fun _ => ?_))
    | exact ih0 _ _ _
    | exact ih1 _ _ _ _
    | exact ih2 _ _ _ _
    | exact apply_Apply.mono _ _ _
    | exact minuetlaw3_awake.mono _
    | exact LeO.none _
    | refine LeO.ite ?_ ?_
    | refine LeO.bind ?_ (fun _ => ?_)
theorem minuetlaw3_ApplyKeeps.mono : ∀ a0 a1 k, LeO (minuetlaw3_ApplyKeeps.f k a0 a1) (minuetlaw3_ApplyKeeps.f (k + 1) a0 a1) := by
 intro a0 a1 k
 obtain ⟨ih0, ih1, ih2⟩ := minuetlaw3_ApplyKeeps.mono_l k
 unfold minuetlaw3_ApplyKeeps.f
 repeat' first
  | (with_reducible exact ih0 _ _ _)
  | (with_reducible exact ih1 _ _ _ _)
  | (with_reducible exact ih2 _ _ _ _)
  | (with_reducible exact apply_Apply.mono _ _ _)
  | (with_reducible exact minuetlaw3_awake.mono _)
  | (with_reducible exact LeO.refl _)
  | (with_reducible exact LeO.none _)
  | (with_reducible refine LeO.ite ?_ ?_)
  | (with_reducible refine LeO.bind ?_ (fun _ => ?_))
  | exact ih0 _ _ _
  | exact ih1 _ _ _ _
  | exact ih2 _ _ _ _
  | exact apply_Apply.mono _ _ _
  | exact minuetlaw3_awake.mono _
  | exact LeO.none _
  | refine LeO.ite ?_ ?_
  | refine LeO.bind ?_ (fun _ => ?_)
set_option maxHeartbeats 8000000 in
set_option maxRecDepth 100000 in
theorem minuetlaw3_ApplyKeeps.calls (k : Nat) (a0 : ByteArray) (a1 : ByteArray) (r : Bool) (w : World) (h : minuetlaw3_ApplyKeeps.f k a0 a1 = some r) :
 Calls Try.prog 5 #[.string a0, .string a1] w fun e w' => e = .returned (.bool r) ∧ Below w.heap.size w w' := by
 have hu31 := Try.underlying31
 have HB := Aside0.mk (Below.refl w.heap.size w)
 have H : ((minuetlaw3_awake.f k).bind fun t101 => (if t101 = true then (if (a0.size : Int) > 4096 then (minuetlaw3_ApplyKeeps.j0 k a0 a1 true) else (minuetlaw3_ApplyKeeps.j0 k a0 a1 (decide ((a1.size : Int) > 4096)))) else (none))) = some r := h
 clear h
 replace H := Option.bind_eq_some_iff.mp H
 obtain ⟨t101, A30, H⟩ := H
 replace H : (if t101 = true then (if (a0.size : Int) > 4096 then (minuetlaw3_ApplyKeeps.j0 k a0 a1 true) else (minuetlaw3_ApplyKeeps.j0 k a0 a1 (decide ((a1.size : Int) > 4096)))) else (none)) = some r := H
 have A3 := Aside0.mk A30
 clear A30
 by_cases c4 : t101 = true
 · subst c4
   have H1 : (if (a0.size : Int) > 4096 then (minuetlaw3_ApplyKeeps.j0 k a0 a1 true) else (minuetlaw3_ApplyKeeps.j0 k a0 a1 (decide ((a1.size : Int) > 4096)))) = some r := by rw [if_pos rfl] at H; exact H
   clear H
   have H := H1
   clear H1
   have HC5 := Aside0.mk H
   clear H
   go_enter Try.func5, Try.ntmps5
   go_upto_region 3 with (first | ((with_reducible refine gate_callee (f := 21) rfl ?_); refine goesL_ (some 13) rfl rfl Try.func21 (by kernel_rfl) rfl #[] rfl (by (try simp only [List.map_toArray, List.map_cons, List.map_nil]); first | done | rfl | (simp only [List.length_drop, List.length_take]; rfl)) ?_; (with_reducible refine (minuetlaw3_awake.calls k  true _ A3.out).mono ?_); rintro e w6 ⟨rfl, hb⟩; refine ⟨_, rfl, ?_⟩; have n0_ := Aside0.mk (below_step (by repeat (first | (with_reducible first | exact HB.out | apply below_alloc | apply pw_below_drewN | apply below_drew1) | exact HB.out)) hb); clear HB; have HB := n0_; clear n0_; (try clear hb); (try clear hb2); (try clear hk); (try clear hi)))
   (try simp only [Act.put, List.setIfInBounds_toArray, List.set_cons_zero, List.set_cons_succ])
   go_cut [22] (fun v22 wc => ∃ (kq : Nat) (x22_4 : Bool), v22 = .bool x22_4 ∧ Aside0 (minuetlaw3_ApplyKeeps.j0 kq a0 a1 x22_4 = some r) ∧ Aside0 (kq ≤ k) ∧ Aside0 (Below w.heap.size w wc))
   case first =>
    have H := HC5.out
    clear HC5
    by_cases c7 : (a0.size : Int) > 4096
    · rw [if_pos c7] at H
      have c7b0 : decide (4096 < (a0.size : Int)) = true := decide_eq_true c7
      have c7b1 : decide (4096 < a0.size) = true := decide_eq_true (by omega)
      clear c7
      (first | rw [c7b0] | (simp only [i64_w, i32_w]; rw [c7b0]) | skip)
      have H' := Aside0.mk H
      clear H
      go_wp2
      go_meet
      case rel => exact ⟨_, (true), (by first | rfl | (simp; done) | (simp [*]; done)), H', ⟨by first | omega | exact Nat.le_refl _⟩, ⟨by repeat (first | (with_reducible first | exact HB.out | apply below_alloc | apply pw_below_drewN | apply below_drew1) | exact HB.out)⟩⟩
    · rw [if_neg c7] at H
      have c7b0 : decide (4096 < (a0.size : Int)) = false := decide_eq_false c7
      have c7b1 : decide (4096 < a0.size) = false := decide_eq_false (by omega)
      clear c7
      (first | rw [c7b0] | (simp only [i64_w, i32_w]; rw [c7b0]) | skip)
      have H' := Aside0.mk H
      clear H
      go_wp2
      go_meet
      case rel => exact ⟨_, (decide ((a1.size : Int) > 4096)), (by first | rfl | (simp; done) | (simp [*]; done)), H', ⟨by first | omega | exact Nat.le_refl _⟩, ⟨by repeat (first | (with_reducible first | exact HB.out | apply below_alloc | apply pw_below_drewN | apply below_drew1) | exact HB.out)⟩⟩
   case rest =>
    clear HC5
    try clear c2
    try clear p2
    try clear c4
    try clear c5
    try clear c7
    try clear c7b0
    try clear c7b1
    obtain ⟨kq, x22_4, rfl, HA, HJ4, HB⟩ := hcut
    cases kq with
    | zero => exact absurd HA.out (by simp [minuetlaw3_ApplyKeeps.j0])
    | succ kj4 =>
     have H := HA.out
     clear HA
     simp only [minuetlaw3_ApplyKeeps.j0] at H
     by_cases c8 : x22_4 = true
     · subst c8
       have H1 : (some true) = some r := by rw [if_pos rfl] at H; exact H
       clear H
       have H := H1
       clear H1
       obtain rfl := Option.some.inj H
       go_wp2
       go_ret
       exact ⟨by first | rfl | (simp [errW_none, errW_some] <;> rfl) | (simp [*, errW_none, errW_some] <;> rfl), by repeat (first | (with_reducible first | exact HB.out | apply below_alloc | apply pw_below_drewN | apply below_drew1) | exact HB.out)⟩
     · replace c8 := Bool.eq_false_iff.mpr c8
       subst c8
       have H1 : (if (a1.size : Int) > 0 then (if ([] : List (S31)).length < 4398046511104 then (minuetlaw3_ApplyKeeps.j1 kj4 a0 a1 ([] : List (S31)) (([] : List (S31)) ++ [(⟨1, 0, a1⟩ : S31)])) else (none)) else (minuetlaw3_ApplyKeeps.j1 kj4 a0 a1 ([] : List (S31)) ([] : List (S31)))) = some r := by rw [if_neg (show ¬ (false = true) by decide)] at H; exact H
       clear H
       have H := H1
       clear H1
       have HC9 := Aside0.mk H
       clear H
       go_upto_if 25 with (fail)
       go_cut [6] (fun v6 wc => ∃ (kq : Nat) (x6_8 : List (S31)), Aside0 (minuetlaw3_ApplyKeeps.j1 kq a0 a1 ([] : List (S31)) x6_8 = some r) ∧ Aside0 (kq ≤ kj4) ∧ Aside0 (Kd.R k31 31 wc w.heap.size (fun k_ => some k_ ≠ (v6 : Value).ownBlock) (.slice none 0 0) ([] : List (S31))) ∧ Aside0 (Kd.R k31 31 wc w.heap.size (fun k_ => some k_ ≠ ((.slice none 0 0) : Value).ownBlock) v6 x6_8) ∧ Aside0 (Below w.heap.size w wc))
       case first =>
        have H := HC9.out
        clear HC9
        by_cases c10 : (a1.size : Int) > 0
        · rw [if_pos c10] at H
          have c10b0 : decide (0 < (a1.size : Int)) = true := decide_eq_true c10
          have c10b1 : decide (0 < a1.size) = true := decide_eq_true (by omega)
          clear c10
          (first | rw [c10b0] | (simp only [i64_w, i32_w]; rw [c10b0]) | rw [c10b1] | skip)
          by_cases c11 : ([] : List (S31)).length < 4398046511104
          · rw [if_pos c11] at H
            have LMc11 := Aside0.mk c11
            clear c11
            obtain ⟨y102, hy102⟩ : ∃ y_ : List (S31), y_ = (([] : List (S31)) ++ [(⟨1, 0, a1⟩ : S31)]) := ⟨_, rfl⟩
            replace H : (minuetlaw3_ApplyKeeps.j1 kj4 a0 a1 ([] : List (S31)) y102) = some r := by first | (rw [hy102]; with_reducible exact H) | (have H2_ := (Option.bind_some _ _).symm.trans H; rw [hy102]; with_reducible exact H2_) | (have H2_ := (Option.bind_some _ _).symm.trans H; with_reducible exact H2_) | with_reducible exact H | (rw [hy102]; exact H) | exact H
            have Ny102 := Aside0.mk hy102
            clear hy102
            have H' := Aside0.mk H
            clear H
            go_wp2_with (first | ((with_reducible refine gate_builtin (b := .append) (xs := #[.tmp 26, .tmp 29]) rfl ?_); (try (refine gate_guard (by rfl) ?_; dsimp only)); at_builtin; refine Kd.R_append k31 (w0 := w) w.heap.size rfl (.tmp 26) (.tmp 29) 22 31 (.agg #[(.int .i64 0), (.int .i64 0), (.string ⟨#[]⟩)]) 32 rfl Try.underlying22 info31 rfl (by decide) (by omega) (.slice none 0 0) ([] : List (S31)) (⟨1, 0, a1⟩ : S31) [.int .i64 1, .int .i64 0, .string a1] (fun _ => True) (fun _ => False) rfl rfl ?aP (fun _ hk => hk.elim) ?aF ?aO ?aB ?aS ?aL ?_; (case aP => exact k31_mkM _ _ _ (⟨1, 0, a1⟩ : S31)); (case aB => exact (by repeat (first | (with_reducible first | exact HB.out | apply below_alloc | apply pw_below_drewN | apply below_drew1) | exact HB.out))); (case aF => exact (fun _ _ => trivial)); (case aO => exact ((Kd.R_nil _ _ _ _ (fun _ => True)))); (case aS => exact (below_size (by repeat (first | (with_reducible first | exact HB.out | apply below_alloc | apply pw_below_drewN | apply below_drew1) | exact HB.out)))); (case aL => have := LMc11.out; omega); intro v103 w12 ho hb hg hat; rw [← Ny102.out] at ho; have n0_ := Aside0.mk (hb); have n1_ := Aside0.mk (ho); clear HB; have HB := n0_; have HO104 := n1_; clear n0_ n1_; clear ho hb hg hat))
            go_meet
            case rel => exact ⟨_, (y102), H', ⟨by have := HJ4.out; first | omega | exact Nat.le_refl _⟩, ⟨by first | exact Kd.R_nil _ _ _ _ _ | exact Kd.N_nil _ _ _ _ _ | exact Kd.V_nil _ _ _ _ _ | exact Kd.Q_nil _ _ _ _ _ | exact Kd.S_nil _ _ _ _ _⟩, ⟨by (with_reducible repeat (first | apply Kd.R_alloc | apply Kd.R_drewN | apply Kd.R_drew)); exact Kd.R_mono HO104.out (fun _ hk => (by simp [Value.ownBlock]))⟩, ⟨by repeat (first | (with_reducible first | exact HB.out | apply below_alloc | apply pw_below_drewN | apply below_drew1) | exact HB.out)⟩⟩
          · rw [if_neg c11] at H
            exact absurd H (by simp)
        · rw [if_neg c10] at H
          have c10b0 : decide (0 < (a1.size : Int)) = false := decide_eq_false c10
          have c10b1 : decide (0 < a1.size) = false := decide_eq_false (by omega)
          clear c10
          (first | rw [c10b0] | (simp only [i64_w, i32_w]; rw [c10b0]) | rw [c10b1] | skip)
          have H' := Aside0.mk H
          clear H
          go_wp2
          go_meet
          case rel => exact ⟨_, (([] : List (S31))), H', ⟨by have := HJ4.out; first | omega | exact Nat.le_refl _⟩, ⟨by first | exact Kd.R_nil _ _ _ _ _ | exact Kd.N_nil _ _ _ _ _ | exact Kd.V_nil _ _ _ _ _ | exact Kd.Q_nil _ _ _ _ _ | exact Kd.S_nil _ _ _ _ _⟩, ⟨by first | exact Kd.R_nil _ _ _ _ _ | exact Kd.N_nil _ _ _ _ _ | exact Kd.V_nil _ _ _ _ _ | exact Kd.Q_nil _ _ _ _ _ | exact Kd.S_nil _ _ _ _ _⟩, ⟨by repeat (first | (with_reducible first | exact HB.out | apply below_alloc | apply pw_below_drewN | apply below_drew1) | exact HB.out)⟩⟩
       case rest =>
        clear HC9
        try clear c1
        try clear c2
        try clear p2
        try clear c4
        try clear c5
        try clear c7
        try clear c7b0
        try clear c7b1
        try clear c8
        try clear c10
        try clear c10b0
        try clear c10b1
        try clear c11
        try clear p2
        obtain ⟨kq, x6_8, HA, HJ8, HO_5, HO_6, HB⟩ := hcut
        cases kq with
        | zero => exact absurd HA.out (by simp [minuetlaw3_ApplyKeeps.j1])
        | succ kj8 =>
         have H := HA.out
         clear HA
         simp only [minuetlaw3_ApplyKeeps.j1] at H
         have HC13 := Aside0.mk H
         clear H
         go_upto_if 33 with (fail)
         go_cut [5, 6] (fun v5 v6 wc => ∃ (kq : Nat) (x5_12 : List (S31)) (x6_12 : List (S31)), Aside0 (minuetlaw3_ApplyKeeps.j2 kq a0 a1 x5_12 x6_12 = some r) ∧ Aside0 (kq ≤ kj8) ∧ Aside0 (Kd.R k31 31 wc w.heap.size (fun k_ => some k_ ≠ (v6 : Value).ownBlock) v5 x5_12) ∧ Aside0 (Kd.R k31 31 wc w.heap.size (fun k_ => some k_ ≠ (v5 : Value).ownBlock) v6 x6_12) ∧ Aside0 (Below w.heap.size w wc))
         case first =>
          have H := HC13.out
          clear HC13
          by_cases c14 : (a0.size : Int) > 0
          · rw [if_pos c14] at H
            have c14b0 : decide (0 < (a0.size : Int)) = true := decide_eq_true c14
            have c14b1 : decide (0 < a0.size) = true := decide_eq_true (by omega)
            clear c14
            (first | rw [c14b0] | (simp only [i64_w, i32_w]; rw [c14b0]) | rw [c14b1] | skip)
            by_cases c15 : ([] : List (S31)).length < 4398046511104
            · rw [if_pos c15] at H
              have LMc15 := Aside0.mk c15
              clear c15
              obtain ⟨y105, hy105⟩ : ∃ y_ : List (S31), y_ = (([] : List (S31)) ++ [(⟨0, (a0.size : Int), (⟨#[]⟩ : ByteArray)⟩ : S31)]) := ⟨_, rfl⟩
              replace H : (if x6_8.length < 4398046511104 then (minuetlaw3_ApplyKeeps.j2 kj8 a0 a1 y105 (x6_8 ++ [(⟨2, (a0.size : Int), (⟨#[]⟩ : ByteArray)⟩ : S31)])) else (none)) = some r := by first | (rw [hy105]; with_reducible exact H) | (have H2_ := (Option.bind_some _ _).symm.trans H; rw [hy105]; with_reducible exact H2_) | (have H2_ := (Option.bind_some _ _).symm.trans H; with_reducible exact H2_) | with_reducible exact H | (rw [hy105]; exact H) | exact H
              have Ny105 := Aside0.mk hy105
              clear hy105
              by_cases c16 : x6_8.length < 4398046511104
              · rw [if_pos c16] at H
                have LMc16 := Aside0.mk c16
                clear c16
                obtain ⟨y108, hy108⟩ : ∃ y_ : List (S31), y_ = (x6_8 ++ [(⟨2, (a0.size : Int), (⟨#[]⟩ : ByteArray)⟩ : S31)]) := ⟨_, rfl⟩
                replace H : (minuetlaw3_ApplyKeeps.j2 kj8 a0 a1 y105 y108) = some r := by first | (rw [hy108]; with_reducible exact H) | (have H2_ := (Option.bind_some _ _).symm.trans H; rw [hy108]; with_reducible exact H2_) | (have H2_ := (Option.bind_some _ _).symm.trans H; with_reducible exact H2_) | with_reducible exact H | (rw [hy108]; exact H) | exact H
                have Ny108 := Aside0.mk hy108
                clear hy108
                have H' := Aside0.mk H
                clear H
                go_wp2_with (first | ((with_reducible refine gate_builtin (b := .append) (xs := #[.tmp 34, .tmp 38]) rfl ?_); (try (refine gate_guard (by rfl) ?_; dsimp only)); at_builtin; refine Kd.R_append k31 (w0 := w) w.heap.size rfl (.tmp 34) (.tmp 38) 22 31 (.agg #[(.int .i64 0), (.int .i64 0), (.string ⟨#[]⟩)]) 32 rfl Try.underlying22 info31 rfl (by decide) (by omega) (.slice none 0 0) ([] : List (S31)) (⟨0, (a0.size : Int), (⟨#[]⟩ : ByteArray)⟩ : S31) [.int .i64 0, .int .i64 (a0.size : Int), .string (⟨#[]⟩ : ByteArray)] (fun k_ => some k_ ≠ (u6 : Value).ownBlock) (fun _ => False) rfl rfl ?aP (fun _ hk => hk.elim) ?aF ?aO ?aB ?aS ?aL ?_; (case aP => exact k31_mkM _ _ _ (⟨0, (a0.size : Int), (⟨#[]⟩ : ByteArray)⟩ : S31)); (case aB => exact (by repeat (first | (with_reducible first | exact HB.out | apply below_alloc | apply pw_below_drewN | apply below_drew1) | exact HB.out))); (case aF => exact (fun k_ hk => Kd.fresh' (Kd.R_lt (by (with_reducible repeat (first | apply Kd.R_alloc | apply Kd.R_drewN | apply Kd.R_drew)); exact HO_6.out)) k_ hk)); (case aO => exact (by (with_reducible repeat (first | apply Kd.R_alloc | apply Kd.R_drewN | apply Kd.R_drew)); exact HO_5.out)); (case aS => exact (below_size (by repeat (first | (with_reducible first | exact HB.out | apply below_alloc | apply pw_below_drewN | apply below_drew1) | exact HB.out)))); (case aL => have := LMc15.out; omega); intro v106 w17 ho hb hg hat; rw [← Ny105.out] at ho; have n0_ := Aside0.mk (Kd.R_after (ok := (fun _ => True)) (by (with_reducible repeat (first | apply Kd.R_alloc | apply Kd.R_drewN | apply Kd.R_drew)); exact Kd.R_mono HO_6.out (fun _ hk => ⟨trivial, hk⟩)) hg hat); have n1_ := Aside0.mk (hb); have n2_ := Aside0.mk (ho); clear HO_6; clear HB; clear HO_5; have HO_6 := n0_; have HB := n1_; have HO107 := n2_; clear n0_ n1_ n2_; clear ho hb hg hat) | ((with_reducible refine gate_builtin (b := .append) (xs := #[.tmp 40, .tmp 44]) rfl ?_); (try (refine gate_guard (by rfl) ?_; dsimp only)); at_builtin; refine Kd.R_append k31 (w0 := w) w.heap.size rfl (.tmp 40) (.tmp 44) 22 31 (.agg #[(.int .i64 0), (.int .i64 0), (.string ⟨#[]⟩)]) 32 rfl Try.underlying22 info31 rfl (by decide) (by omega) u6 x6_8 (⟨2, (a0.size : Int), (⟨#[]⟩ : ByteArray)⟩ : S31) [.int .i64 2, .int .i64 (a0.size : Int), .string (⟨#[]⟩ : ByteArray)] (fun k_ => some k_ ≠ (v106 : Value).ownBlock) (fun _ => False) rfl rfl ?aP (fun _ hk => hk.elim) ?aF ?aO ?aB ?aS ?aL ?_; (case aP => exact k31_mkM _ _ _ (⟨2, (a0.size : Int), (⟨#[]⟩ : ByteArray)⟩ : S31)); (case aB => exact (by repeat (first | (with_reducible first | exact HB.out | apply below_alloc | apply pw_below_drewN | apply below_drew1) | exact HB.out))); (case aF => exact (fun k_ hk => Kd.fresh' (Kd.R_lt (by (with_reducible repeat (first | apply Kd.R_alloc | apply Kd.R_drewN | apply Kd.R_drew)); exact HO107.out)) k_ hk)); (case aO => exact (by (with_reducible repeat (first | apply Kd.R_alloc | apply Kd.R_drewN | apply Kd.R_drew)); exact Kd.R_mono HO_6.out (fun _ hk => hk.2))); (case aS => exact (below_size (by repeat (first | (with_reducible first | exact HB.out | apply below_alloc | apply pw_below_drewN | apply below_drew1) | exact HB.out)))); (case aL => have := LMc16.out; omega); intro v109 w18 ho hb hg hat; rw [← Ny108.out] at ho; have n0_ := Aside0.mk (Kd.R_after (ok := (fun _ => True)) (by (with_reducible repeat (first | apply Kd.R_alloc | apply Kd.R_drewN | apply Kd.R_drew)); exact Kd.R_mono HO107.out (fun _ hk => ⟨trivial, hk⟩)) hg hat); have n1_ := Aside0.mk (hb); have n2_ := Aside0.mk (ho); clear HO107; clear HB; clear HO_6; have HO107 := n0_; have HB := n1_; have HO110 := n2_; clear n0_ n1_ n2_; clear ho hb hg hat))
                go_meet
                case rel => exact ⟨_, (y105), (y108), H', ⟨by have := HJ4.out; have := HJ8.out; first | omega | exact Nat.le_refl _⟩, ⟨by (with_reducible repeat (first | apply Kd.R_alloc | apply Kd.R_drewN | apply Kd.R_drew)); exact Kd.R_mono HO107.out (fun _ hk => hk.2)⟩, ⟨by (with_reducible repeat (first | apply Kd.R_alloc | apply Kd.R_drewN | apply Kd.R_drew)); exact HO110.out⟩, ⟨by repeat (first | (with_reducible first | exact HB.out | apply below_alloc | apply pw_below_drewN | apply below_drew1) | exact HB.out)⟩⟩
              · rw [if_neg c16] at H
                exact absurd H (by simp)
            · rw [if_neg c15] at H
              exact absurd H (by simp)
          · rw [if_neg c14] at H
            have c14b0 : decide (0 < (a0.size : Int)) = false := decide_eq_false c14
            have c14b1 : decide (0 < a0.size) = false := decide_eq_false (by omega)
            clear c14
            (first | rw [c14b0] | (simp only [i64_w, i32_w]; rw [c14b0]) | rw [c14b1] | skip)
            have H' := Aside0.mk H
            clear H
            go_wp2
            go_meet
            case rel => exact ⟨_, (([] : List (S31))), (x6_8), H', ⟨by have := HJ4.out; have := HJ8.out; first | omega | exact Nat.le_refl _⟩, ⟨by (with_reducible repeat (first | apply Kd.R_alloc | apply Kd.R_drewN | apply Kd.R_drew)); exact HO_5.out⟩, ⟨by (with_reducible repeat (first | apply Kd.R_alloc | apply Kd.R_drewN | apply Kd.R_drew)); exact HO_6.out⟩, ⟨by repeat (first | (with_reducible first | exact HB.out | apply below_alloc | apply pw_below_drewN | apply below_drew1) | exact HB.out)⟩⟩
         case rest =>
          clear HC13
          try clear c1
          try clear c2
          try clear p2
          try clear c4
          try clear c5
          try clear c7
          try clear c7b0
          try clear c7b1
          try clear c8
          try clear c10
          try clear c10b0
          try clear c10b1
          try clear c11
          try clear c14
          try clear c14b0
          try clear c14b1
          try clear c15
          try clear c16
          try clear p2
          obtain ⟨kq, x5_12, x6_12, HA, HJ12, HO_5, HO_6, HB⟩ := hcut
          cases kq with
          | zero => exact absurd HA.out (by simp [minuetlaw3_ApplyKeeps.j2])
          | succ kj12 =>
           have H := HA.out
           clear HA
           simp only [minuetlaw3_ApplyKeeps.j2] at H
           replace H := Option.bind_eq_some_iff.mp H
           obtain ⟨⟨t111, t112⟩, A190, H⟩ := H
           replace H : ((apply_Apply.f kj12 a0 x6_12).bind fun bt113 => (if a0.size + 1 ≤ 9223372036854775807 then ((apply_Apply.f kj12 (a0 ++ (⟨#[120]⟩ : ByteArray)) x5_12).bind fun bt115 => (if t111.toList = a0.toList then ((minuetlaw0_Num.f t112).bind fun t117 => (if t117 = 0 then (if bt113.1.toList = a1.toList then ((minuetlaw0_Num.f bt113.2).bind fun t118 => (if t118 = 0 then ((minuetlaw0_Num.f bt115.2).bind fun t119 => (some (t119 == 300))) else (none))) else (none)) else (none))) else (none))) else (none))) = some r := H
           have A19 := Aside0.mk A190
           clear A190
           replace H := Option.bind_eq_some_iff.mp H
           obtain ⟨⟨t113, t114⟩, A200, H⟩ := H
           replace H : (if a0.size + 1 ≤ 9223372036854775807 then ((apply_Apply.f kj12 (a0 ++ (⟨#[120]⟩ : ByteArray)) x5_12).bind fun bt115 => (if t111.toList = a0.toList then ((minuetlaw0_Num.f t112).bind fun t117 => (if t117 = 0 then (if t113.toList = a1.toList then ((minuetlaw0_Num.f t114).bind fun t118 => (if t118 = 0 then ((minuetlaw0_Num.f bt115.2).bind fun t119 => (some (t119 == 300))) else (none))) else (none)) else (none))) else (none))) else (none)) = some r := H
           have A20 := Aside0.mk A200
           clear A200
           by_cases c21 : a0.size + 1 ≤ 9223372036854775807
           · rw [if_pos c21] at H
             have c21b0 := eq_true c21
             have c21b1 : decide (a0.size + 1 ≤ 9223372036854775807) = true := decide_eq_true c21
             try have c21b2 : (9223372036854775807 < a0.size + 1) = False := eq_false (Nat.not_lt.2 c21)
             replace H := Option.bind_eq_some_iff.mp H
             obtain ⟨⟨t115, t116⟩, A220, H⟩ := H
             replace H : (if t111.toList = a0.toList then ((minuetlaw0_Num.f t112).bind fun t117 => (if t117 = 0 then (if t113.toList = a1.toList then ((minuetlaw0_Num.f t114).bind fun t118 => (if t118 = 0 then ((minuetlaw0_Num.f t116).bind fun t119 => (some (t119 == 300))) else (none))) else (none)) else (none))) else (none)) = some r := H
             have A22 := Aside0.mk A220
             clear A220
             by_cases c23 : t111.toList = a0.toList
             · rw [if_pos c23] at H
               have c23b0 : (t111.toList == a0.toList) = true := beq_iff_eq.mpr c23
               have c23b1 : (t111.toList != a0.toList) = false := bne_eq_false_iff_eq.mpr c23
               clear c23
               replace H := Option.bind_eq_some_iff.mp H
               obtain ⟨t117, A240, H⟩ := H
               replace H : (if t117 = 0 then (if t113.toList = a1.toList then ((minuetlaw0_Num.f t114).bind fun t118 => (if t118 = 0 then ((minuetlaw0_Num.f t116).bind fun t119 => (some (t119 == 300))) else (none))) else (none)) else (none)) = some r := H
               have A24 := Aside0.mk A240
               clear A240
               by_cases c25 : t117 = 0
               · rw [if_pos c25] at H
                 have c25b0 : (t117 == 0) = true := beq_iff_eq.mpr c25
                 have c25b1 : (t117 != 0) = false := bne_eq_false_iff_eq.mpr c25
                 clear c25
                 by_cases c26 : t113.toList = a1.toList
                 · rw [if_pos c26] at H
                   have c26b0 : (t113.toList == a1.toList) = true := beq_iff_eq.mpr c26
                   have c26b1 : (t113.toList != a1.toList) = false := bne_eq_false_iff_eq.mpr c26
                   clear c26
                   replace H := Option.bind_eq_some_iff.mp H
                   obtain ⟨t118, A270, H⟩ := H
                   replace H : (if t118 = 0 then ((minuetlaw0_Num.f t116).bind fun t119 => (some (t119 == 300))) else (none)) = some r := H
                   have A27 := Aside0.mk A270
                   clear A270
                   by_cases c28 : t118 = 0
                   · rw [if_pos c28] at H
                     have c28b0 : (t118 == 0) = true := beq_iff_eq.mpr c28
                     have c28b1 : (t118 != 0) = false := bne_eq_false_iff_eq.mpr c28
                     clear c28
                     replace H := Option.bind_eq_some_iff.mp H
                     obtain ⟨t119, A290, H⟩ := H
                     replace H : (some (t119 == 300)) = some r := H
                     have A29 := Aside0.mk A290
                     clear A290
                     obtain rfl := Option.some.inj H
                     obtain ⟨Ao30, co30, eo30⟩ := Kd.R_slice HO_5.out
                     subst eo30
                     go_wp2_with (first | ((with_reducible refine gate_callee (f := 22) rfl ?_); refine goesL_ (some 49) rfl rfl Try.func22 (by kernel_rfl) rfl #[.string a0, .slice Ao30 x5_12.length co30] rfl (by (try simp only [List.map_toArray, List.map_cons, List.map_nil]); first | done | rfl | (simp only [List.length_drop, List.length_take]; rfl)) ?_; (with_reducible refine (apply_Apply.calls kj12 a0 _ _ x5_12 t111 t112 _ ?side1 ?side2 A19.out).mono ?_); (case side1 => repeat (first | exact (Kd.R_reads' HO_5.out).2.2 | (with_reducible refine Kd.C_alloc ?_ _) | (with_reducible refine Kd.C_drewN ?_ _) | (with_reducible refine Kd.C_drew ?_))); (case side2 => exact (Kd.R_reads' HO_5.out).2.1); rintro e w31 ⟨rfl, hb⟩; refine ⟨_, rfl, ?_⟩; have n0_ := Aside0.mk (Kd.R_below (by (with_reducible repeat (first | apply Kd.R_alloc | apply Kd.R_drewN | apply Kd.R_drew)); exact HO_5.out) hb); have n1_ := Aside0.mk (Kd.R_below (by (with_reducible repeat (first | apply Kd.R_alloc | apply Kd.R_drewN | apply Kd.R_drew)); exact HO_6.out) hb); have n2_ := Aside0.mk (below_step (by repeat (first | (with_reducible first | exact HB.out | apply below_alloc | apply pw_below_drewN | apply below_drew1) | exact HB.out)) hb); clear HO_5; clear HO_6; clear HB; have HO_5 := n0_; have HO_6 := n1_; have HB := n2_; clear n0_ n1_ n2_; (try clear hb); (try clear hb2); (try clear hk); (try clear hi); obtain ⟨Ao32, co32, eo32⟩ := Kd.R_slice HO_6.out; subst eo32) | ((with_reducible refine gate_callee (f := 22) rfl ?_); refine goesL_ (some 55) rfl rfl Try.func22 (by kernel_rfl) rfl #[.string a0, .slice Ao32 x6_12.length co32] rfl (by (try simp only [List.map_toArray, List.map_cons, List.map_nil]); first | done | rfl | (simp only [List.length_drop, List.length_take]; rfl)) ?_; (with_reducible refine (apply_Apply.calls kj12 a0 _ _ x6_12 t113 t114 _ ?side1 ?side2 A20.out).mono ?_); (case side1 => repeat (first | exact (Kd.R_reads' HO_6.out).2.2 | (with_reducible refine Kd.C_alloc ?_ _) | (with_reducible refine Kd.C_drewN ?_ _) | (with_reducible refine Kd.C_drew ?_))); (case side2 => exact (Kd.R_reads' HO_6.out).2.1); rintro e w33 ⟨rfl, hb⟩; refine ⟨_, rfl, ?_⟩; have n0_ := Aside0.mk (Kd.R_below (by (with_reducible repeat (first | apply Kd.R_alloc | apply Kd.R_drewN | apply Kd.R_drew)); exact HO_5.out) hb); have n1_ := Aside0.mk (Kd.R_below (by (with_reducible repeat (first | apply Kd.R_alloc | apply Kd.R_drewN | apply Kd.R_drew)); exact HO_6.out) hb); have n2_ := Aside0.mk (below_step (by repeat (first | (with_reducible first | exact HB.out | apply below_alloc | apply pw_below_drewN | apply below_drew1) | exact HB.out)) hb); clear HO_5; clear HO_6; clear HB; have HO_5 := n0_; have HO_6 := n1_; have HB := n2_; clear n0_ n1_ n2_; (try clear hb); (try clear hb2); (try clear hk); (try clear hi)) | ((with_reducible refine gate_callee (f := 22) rfl ?_); refine goesL_ (some 62) rfl rfl Try.func22 (by kernel_rfl) rfl #[.string (a0 ++ (⟨#[120]⟩ : ByteArray)), .slice Ao30 x5_12.length co30] rfl (by (try simp only [List.map_toArray, List.map_cons, List.map_nil]); first | done | rfl | (simp only [List.length_drop, List.length_take]; rfl)) ?_; (with_reducible refine (apply_Apply.calls kj12 (a0 ++ (⟨#[120]⟩ : ByteArray)) _ _ x5_12 t115 t116 _ ?side1 ?side2 A22.out).mono ?_); (case side1 => repeat (first | exact (Kd.R_reads' HO_5.out).2.2 | (with_reducible refine Kd.C_alloc ?_ _) | (with_reducible refine Kd.C_drewN ?_ _) | (with_reducible refine Kd.C_drew ?_))); (case side2 => exact (Kd.R_reads' HO_5.out).2.1); rintro e w34 ⟨rfl, hb⟩; refine ⟨_, rfl, ?_⟩; have n0_ := Aside0.mk (Kd.R_below (by (with_reducible repeat (first | apply Kd.R_alloc | apply Kd.R_drewN | apply Kd.R_drew)); exact HO_5.out) hb); have n1_ := Aside0.mk (Kd.R_below (by (with_reducible repeat (first | apply Kd.R_alloc | apply Kd.R_drewN | apply Kd.R_drew)); exact HO_6.out) hb); have n2_ := Aside0.mk (below_step (by repeat (first | (with_reducible first | exact HB.out | apply below_alloc | apply pw_below_drewN | apply below_drew1) | exact HB.out)) hb); clear HO_5; clear HO_6; clear HB; have HO_5 := n0_; have HO_6 := n1_; have HB := n2_; clear n0_ n1_ n2_; (try clear hb); (try clear hb2); (try clear hk); (try clear hi)) | (go_at_call 15; (with_reducible refine (minuetlaw0_Num.calls t112 t117 _ A24.out).mono ?_); rintro e w' ⟨rfl, ⟨nd, rfl⟩⟩) | (go_at_call 15; (with_reducible refine (minuetlaw0_Num.calls t114 t118 _ A27.out).mono ?_); rintro e w' ⟨rfl, ⟨nd, rfl⟩⟩) | (go_at_call 15; (with_reducible refine (minuetlaw0_Num.calls t116 t119 _ A29.out).mono ?_); rintro e w' ⟨rfl, ⟨nd, rfl⟩⟩))
                     go_ret
                     exact ⟨by first | rfl | (simp [errW_none, errW_some] <;> rfl) | (simp [*, errW_none, errW_some] <;> rfl), by repeat (first | (with_reducible first | exact HB.out | apply below_alloc | apply pw_below_drewN | apply below_drew1) | exact HB.out)⟩
                   · rw [if_neg c28] at H
                     exact absurd H (by simp)
                 · rw [if_neg c26] at H
                   exact absurd H (by simp)
               · rw [if_neg c25] at H
                 exact absurd H (by simp)
             · rw [if_neg c23] at H
               exact absurd H (by simp)
           · rw [if_neg c21] at H
             exact absurd H (by simp)
 · replace c4 := Bool.eq_false_iff.mpr c4
   subst c4
   have H1 : (none) = some r := by rw [if_neg (show ¬ (false = true) by decide)] at H; exact H
   clear H
   have H := H1
   clear H1
   exact absurd H (by simp)

/-- THE ONE PURE STATEMENT of minuetlaw3_ApplyKeeps: yours. -/
def minuetlaw3_ApplyKeeps.Pure : Prop := ∀ (a0 : ByteArray) (a1 : ByteArray), a0.size ≤ 140737488351232 → a1.size ≤ 140737488351232 → ∃ k, minuetlaw3_ApplyKeeps.f k a0 a1 = some true
theorem minuetlaw3_ApplyKeeps.walk (P : minuetlaw3_ApplyKeeps.Pure) (a0 : ByteArray) (a1 : ByteArray) (w : World) (w0 : a0.size ≤ 140737488351232) (w1 : a1.size ≤ 140737488351232) :
 Calls Try.prog 5 #[.string a0, .string a1] w fun e w' => e = .returned (.bool true) ∧ Below w.heap.size w w' := by
 obtain ⟨k, h⟩ := P a0 a1 w0 w1
 refine (minuetlaw3_ApplyKeeps.calls k a0 a1 true w h).mono ?_
 rintro e w' ⟨rfl, hd⟩
 exact ⟨rfl, hd⟩

end Go.Proofs.Ytldaokclpkcmmaa.G
