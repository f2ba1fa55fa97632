-- Laid by this session's own program gprint.py (wip/tools), out of the kit's print and of texts of this session. Lean checks it.
import Derived.Test.YtnhkdpcncjkmlaaGx0
import Derived.Test.YtnhkdpcncjkmlaaGx1
import Derived.Test.YtnhkdpcncjkmlaaGLexPTokens
import Derived.Test.YtnhkdpcncjkmlaaGApiPToken
import Derived.Test.YtnhkdpcncjkmlaaGEditPThere
namespace Go.Proofs.Ytnhkdpcncjkmlaa.G
open Go.RowKit Go.Proofs.YtnhkdpcncjkmlaaW.PrintWords Go.Proofs.YtnhkdpcncjkmlaaW.PrintLast Go.Proofs.YtnhkdpcncjkmlaaW.PrintMore
attribute [local go_sem] max2_int min2_int max_two min_two max_three min_three max_four min_four   -- for this text's walks alone
set_option linter.unusedVariables false
set_option linter.unusedSimpArgs false

attribute [local go_sem high] eqA34
/-! ### relex_Again: function 19 -/
mutual
def relex_Again.j0 : Nat → ByteArray → Int → Int → ByteArray → List (S34) → Bool → Option ((List (S34)) × Int × Int × Int)
 | 0, _, _, _, _, _, _ => none
 | k + 1, x0, x2, x3, x4, x14, x46 => if x46 = true then (some (([] : List (S34)), 0, 0, 1000)) else (if 0 ≤ x2 then (if x2 ≤ (x0.size : Int) then (if (x0.extract 0 (x2 : Int).toNat).size + x4.size ≤ 9223372036854775807 then (if 0 ≤ (wrap64 (x2 + x3)) then (if (wrap64 (x2 + x3)) ≤ (x0.size : Int) then (if ((x0.extract 0 (x2 : Int).toNat) ++ x4).size + (x0.extract ((wrap64 (x2 + x3)) : Int).toNat x0.size).size ≤ 9223372036854775807 then ((lex_Tokens.f (((x0.extract 0 (x2 : Int).toNat) ++ x4) ++ (x0.extract ((wrap64 (x2 + x3)) : Int).toNat x0.size))).bind fun bt107 => (if bt107.2 = 0 then (relex_Again.l0 k x3 x4 x14 bt107.1 (mn (x14.length : Int) (bt107.1.length : Int)) 0) else (some (([] : List (S34)), 0, 0, 1000)))) else (none)) else (none)) else (none)) else (none)) else (none)) else (none))
def relex_Again.j2 : Nat → Int → ByteArray → List (S34) → List (S34) → Int → Int → Option ((List (S34)) × Int × Int × Int)
 | 0, _, _, _, _, _, _ => none
 | k + 1, x3, x4, x14, x16, x17, x18 => relex_Again.l1 k x14 x16 x17 x18 (wrap64 ((x4.size : Int) - x3)) 0
def relex_Again.l1 : Nat → List (S34) → List (S34) → Int → Int → Int → Int → Option ((List (S34)) × Int × Int × Int)
 | 0, _, _, _, _, _, _ => none
 | k + 1, x14, x16, x17, x18, x19, x20 => if x20 < (wrap64 (x17 - x18)) then (if 0 ≤ (wrap64 ((wrap64 ((x14.length : Int) - 1)) - x20)) then (if (wrap64 ((wrap64 ((x14.length : Int) - 1)) - x20)) < (x14.length : Int) then (if 0 ≤ (wrap64 ((wrap64 ((x16.length : Int) - 1)) - x20)) then (if (wrap64 ((wrap64 ((x16.length : Int) - 1)) - x20)) < (x16.length : Int) then (if (!(((rd_T34 x14 (wrap64 ((wrap64 ((x14.length : Int) - 1)) - x20))).f0) == ((rd_T34 x16 (wrap64 ((wrap64 ((x16.length : Int) - 1)) - x20))).f0)) || (!((wrap64 (((rd_T34 x14 (wrap64 ((wrap64 ((x14.length : Int) - 1)) - x20))).f1) + x19)) == ((rd_T34 x16 (wrap64 ((wrap64 ((x16.length : Int) - 1)) - x20))).f1)) || (!((wrap64 (((rd_T34 x14 (wrap64 ((wrap64 ((x14.length : Int) - 1)) - x20))).f2) + x19)) == ((rd_T34 x16 (wrap64 ((wrap64 ((x16.length : Int) - 1)) - x20))).f2))))) = true then (some (x16, x18, x20, 0)) else (relex_Again.l1 k x14 x16 x17 x18 x19 (wrap64 (x20 + 1)))) else (none)) else (none)) else (none)) else (none)) else (some (x16, x18, x20, 0))
def relex_Again.l0 : Nat → Int → ByteArray → List (S34) → List (S34) → Int → Int → Option ((List (S34)) × Int × Int × Int)
 | 0, _, _, _, _, _, _ => none
 | k + 1, x3, x4, x14, x16, x17, x18 => if x18 < x17 then (if 0 ≤ x18 then (if x18 < (x14.length : Int) then (if x18 < (x16.length : Int) then (if (((rd_T34 x14 x18).f0) == ((rd_T34 x16 x18).f0) && (((rd_T34 x14 x18).f1) == ((rd_T34 x16 x18).f1) && (((rd_T34 x14 x18).f2) == ((rd_T34 x16 x18).f2)))) = true then (relex_Again.l0 k x3 x4 x14 x16 x17 (wrap64 (x18 + 1))) else (relex_Again.j2 k x3 x4 x14 x16 x17 x18)) else (none)) else (none)) else (none)) else (relex_Again.j2 k x3 x4 x14 x16 x17 x18)
end
def relex_Again.f (k : Nat) (a0 : ByteArray) (l1 : List (S34)) (a2 : Int) (a3 : Int) (a4 : ByteArray) : Option ((List (S34)) × Int × Int × Int) := (lex_Tokens.f a0).bind fun bt101 => (if bt101.2 = 0 then ((api_Token.f k bt101.1 l1).bind fun t105 => (if t105 = true then ((edit_There.f a0 a2 a3).bind fun t106 => (if t106 = true then (relex_Again.j0 k a0 a2 a3 a4 bt101.1 (decide ((a4.size : Int) > 300))) else (relex_Again.j0 k a0 a2 a3 a4 bt101.1 true))) else (relex_Again.j0 k a0 a2 a3 a4 bt101.1 true))) else (relex_Again.j0 k a0 a2 a3 a4 bt101.1 true))
theorem relex_Again.mono_l : ∀ k, (∀ y0 y1 y2 y3 y4 y5, LeO (relex_Again.j0 k y0 y1 y2 y3 y4 y5) (relex_Again.j0 (k + 1) y0 y1 y2 y3 y4 y5)) ∧ (∀ y0 y1 y2 y3 y4 y5, LeO (relex_Again.j2 k y0 y1 y2 y3 y4 y5) (relex_Again.j2 (k + 1) y0 y1 y2 y3 y4 y5)) ∧ (∀ y0 y1 y2 y3 y4 y5, LeO (relex_Again.l1 k y0 y1 y2 y3 y4 y5) (relex_Again.l1 (k + 1) y0 y1 y2 y3 y4 y5)) ∧ (∀ y0 y1 y2 y3 y4 y5, LeO (relex_Again.l0 k y0 y1 y2 y3 y4 y5) (relex_Again.l0 (k + 1) y0 y1 y2 y3 y4 y5))
 | 0 => ⟨fun _ _ _ _ _ _ r h => by simp [relex_Again.j0] at h, fun _ _ _ _ _ _ r h => by simp [relex_Again.j2] at h, fun _ _ _ _ _ _ r h => by simp [relex_Again.l1] at h, fun _ _ _ _ _ _ r h => by simp [relex_Again.l0] at h⟩
 | k + 1 => by
  obtain ⟨ih0, ih1, ih2, ih3⟩ := relex_Again.mono_l k
  refine ⟨?_, ?_, ?_, ?_⟩
  · intro y0 y1 y2 y3 y4 y5
    unfold relex_Again.j0
    repeat' first
    | (with_reducible exact ih0 _ _ _ _ _ _)
    | (with_reducible exact ih1 _ _ _ _ _ _)
    | (with_reducible exact ih2 _ _ _ _ _ _)
    | (with_reducible exact ih3 _ _ _ _ _ _)
    | (with_reducible exact api_Token.mono _ _ _)
    | (with_reducible exact LeO.refl _)
    | (with_reducible exact LeO.none _)
    | (with_reducible refine LeO.ite ?_ ?_)
    | (with_reducible refine LeO.bind ?_ (fun _ => ?_))
    | exact ih0 _ _ _ _ _ _
    | exact ih1 _ _ _ _ _ _
    | exact ih2 _ _ _ _ _ _
    | exact ih3 _ _ _ _ _ _
    | exact api_Token.mono _ _ _
    | exact LeO.none _
    | refine LeO.ite ?_ ?_
    | refine LeO.bind ?_ (fun _ => ?_)
  · intro y0 y1 y2 y3 y4 y5
    unfold relex_Again.j2
    repeat' first
    | (with_reducible exact ih0 _ _ _ _ _ _)
    | (with_reducible exact ih1 _ _ _ _ _ _)
    | (with_reducible exact ih2 _ _ _ _ _ _)
    | (with_reducible exact ih3 _ _ _ _ _ _)
    | (with_reducible exact api_Token.mono _ _ _)
    | (with_reducible exact LeO.refl _)
    | (with_reducible exact LeO.none _)
    | (with_reducible refine LeO.ite ?_ ?_)
    | (with_reducible refine LeO.bind ?_ (fun _ => ?_))
    | exact ih0 _ _ _ _ _ _
    | exact ih1 _ _ _ _ _ _
    | exact ih2 _ _ _ _ _ _
    | exact ih3 _ _ _ _ _ _
    | exact api_Token.mono _ _ _
    | exact LeO.none _
    | refine LeO.ite ?_ ?_
    | refine LeO.bind ?_ (fun _ => ?_)
  · intro y0 y1 y2 y3 y4 y5
    unfold relex_Again.l1
    repeat' first
    | (with_reducible exact ih0 _ _ _ _ _ _)
    | (with_reducible exact ih1 _ _ _ _ _ _)
    | (with_reducible exact ih2 _ _ _ _ _ _)
    | (with_reducible exact ih3 _ _ _ _ _ _)
    | (with_reducible exact api_Token.mono _ _ _)
    | (with_reducible exact LeO.refl _)
    | (with_reducible exact LeO.none _)
    | (with_reducible refine LeO.ite ?_ ?_)
    | (with_reducible refine LeO.bind ?_ (fun _ => ?_))
    | exact ih0 _ _ _ _ _ _
    | exact ih1 _ _ _ _ _ _
    | exact ih2 _ _ _ _ _ _
    | exact ih3 _ _ _ _ _ _
    | exact api_Token.mono _ _ _
    | exact LeO.none _
    | refine LeO.ite ?_ ?_
    | refine LeO.bind ?_ (fun _ => ?_)
  · intro y0 y1 y2 y3 y4 y5
    unfold relex_Again.l0
    repeat' first
    | (with_reducible exact ih0 _ _ _ _ _ _)
    | (with_reducible exact ih1 _ _ _ _ _ _)
    | (with_reducible exact ih2 _ _ _ _ _ _)
    | (with_reducible exact ih3 _ _ _ _ _ _)
    | (with_reducible exact api_Token.mono _ _ _)
    | (with_reducible exact LeO.refl _)
    | (with_reducible exact LeO.none _)
    | (with_reducible refine LeO.ite ?_ ?_)
    | (with_reducible refine LeO.bind ?_ (fun _ => ?_))
    | exact ih0 _ _ _ _ _ _
    | exact ih1 _ _ _ _ _ _
    | exact ih2 _ _ _ _ _ _
    | exact ih3 _ _ _ _ _ _
    | exact api_Token.mono _ _ _
    | exact LeO.none _
    | refine LeO.ite ?_ ?_
    | refine LeO.bind ?_ (fun _ => ?_)
theorem relex_Again.mono : ∀ a0 a1 a2 a3 a4 k, LeO (relex_Again.f k a0 a1 a2 a3 a4) (relex_Again.f (k + 1) a0 a1 a2 a3 a4) := by
 intro a0 a1 a2 a3 a4 k
 obtain ⟨ih0, ih1, ih2, ih3⟩ := relex_Again.mono_l k
 unfold relex_Again.f
 repeat' first
  | (with_reducible exact ih0 _ _ _ _ _ _)
  | (with_reducible exact ih1 _ _ _ _ _ _)
  | (with_reducible exact ih2 _ _ _ _ _ _)
  | (with_reducible exact ih3 _ _ _ _ _ _)
  | (with_reducible exact api_Token.mono _ _ _)
  | (with_reducible exact LeO.refl _)
  | (with_reducible exact LeO.none _)
  | (with_reducible refine LeO.ite ?_ ?_)
  | (with_reducible refine LeO.bind ?_ (fun _ => ?_))
  | exact ih0 _ _ _ _ _ _
  | exact ih1 _ _ _ _ _ _
  | exact ih2 _ _ _ _ _ _
  | exact ih3 _ _ _ _ _ _
  | exact api_Token.mono _ _ _
  | exact LeO.none _
  | refine LeO.ite ?_ ?_
  | refine LeO.bind ?_ (fun _ => ?_)
def relex_Again.T4 : Bool × List (List Nat × List Nat) := (true, [([], []), ([], []), ([0, 1], [0, 1]), ([], []), ([2, 3], [2, 3]), ([], []), ([], []), ([], []), ([6, 7], [6, 7]), ([5, 8], [5, 8]), ([4, 9], [4, 9]), ([10], [10]), ([11], [11]), ([12], [12]), ([12], [12]), ([13, 11, 0, 1, 2, 3, 4, 5, 6, 7, 8, 9, 10, 11, 12, 13], [13]), ([14, 15, 0, 1, 2, 3, 4, 5, 6, 7, 8, 9, 10, 11, 12, 13, 14, 15], [14])])
def relex_Again.B4 : List Nat := [0, 0, 3, 0, 15, 0, 0, 0, 192, 480, 1023, 2047, 4095, 8191, 8191, 16383, 65535]
theorem relex_Again.tab4 : rtab .any (opsOf Try.f19 4) = relex_Again.T4 := by kernel_rfl
theorem relex_Again.bits4 : waitsOk relex_Again.T4.2 relex_Again.B4 = true := by kernel_rfl
def relex_Again.T9 : Bool × List (List Nat × List Nat) := (true, [([], []), ([], []), ([0, 1], [0, 1]), ([2], [2]), ([3], [3]), ([3], [3]), ([4, 5, 3], [3, 4, 5]), ([6, 3], [3, 6]), ([3], [3]), ([3], [3]), ([8, 9, 3], [3, 8, 9]), ([10, 3], [3, 10]), ([7, 11, 3], [3, 7, 11]), ([3, 12], [3, 12])])
def relex_Again.B9 : List Nat := [0, 0, 3, 7, 15, 15, 63, 127, 15, 15, 783, 1807, 4095, 8191]
theorem relex_Again.tab9 : rtab .any (opsOf Try.f19 9) = relex_Again.T9 := by kernel_rfl
theorem relex_Again.bits9 : waitsOk relex_Again.T9.2 relex_Again.B9 = true := by kernel_rfl
def relex_Again.T16 : Bool × List (List Nat × List Nat) := (true, [([], []), ([], []), ([], []), ([2], [2]), ([3], [3]), ([], []), ([4, 5], [4, 5]), ([1, 6], [1, 6]), ([7], [7]), ([0, 8], [0, 8])])
def relex_Again.B16 : List Nat := [0, 0, 0, 4, 12, 0, 60, 126, 254, 511]
theorem relex_Again.tab16 : rtab .any (opsOf Try.f19 16) = relex_Again.T16 := by kernel_rfl
theorem relex_Again.bits16 : waitsOk relex_Again.T16.2 relex_Again.B16 = true := by kernel_rfl
set_option maxHeartbeats 8000000 in
set_option maxRecDepth 100000 in
theorem relex_Again.calls (k : Nat) (a0 : ByteArray) (A1 : Option Addr) (c1 : Nat) (l1 : List (S34)) (a2 : Int) (a3 : Int) (a4 : ByteArray) (r1 : List (S34)) (r2 : Int) (r3 : Int) (r4 : Int) (w : World) (hr1 : Kd.C k34 w A1 l1.length l1) (hc1 : l1.length ≤ c1) (hm_ : MaxOk w) (h : relex_Again.f k a0 l1 a2 a3 a4 = some (r1, r2, r3, r4)) :
 Calls Try.prog 19 #[.string a0, .slice A1 l1.length c1, .int .i64 a2, .int .i64 a3, .string a4] w fun e w' => ∃ v0_ : Value, e = .returned (.tuple #[v0_, .int .i64 r2, .int .i64 r3, .int .i64 r4]) ∧ Kd.R k34 34 w' w.heap.size (fun _ => True) v0_ r1 ∧ Below w.heap.size w w' := by
 have HM_ := Aside0.mk hm_
 clear hm_
 have hu34 := Try.underlying34
 have HR1 := Aside0.mk hr1
 have HC1 := Aside0.mk hc1
 clear hr1 hc1
 have HB := Aside0.mk (Below.refl w.heap.size w)
 have H : ((lex_Tokens.f a0).bind fun bt101 => (if bt101.2 = 0 then ((api_Token.f k bt101.1 l1).bind fun t105 => (if t105 = true then ((edit_There.f a0 a2 a3).bind fun t106 => (if t106 = true then (relex_Again.j0 k a0 a2 a3 a4 bt101.1 (decide ((a4.size : Int) > 300))) else (relex_Again.j0 k a0 a2 a3 a4 bt101.1 true))) else (relex_Again.j0 k a0 a2 a3 a4 bt101.1 true))) else (relex_Again.j0 k a0 a2 a3 a4 bt101.1 true))) = some (r1, r2, r3, r4) := h
 clear h
 replace H := Option.bind_eq_some_iff.mp H
 obtain ⟨⟨t101, t102⟩, A60, H⟩ := H
 replace H : (if t102 = 0 then ((api_Token.f k t101 l1).bind fun t105 => (if t105 = true then ((edit_There.f a0 a2 a3).bind fun t106 => (if t106 = true then (relex_Again.j0 k a0 a2 a3 a4 t101 (decide ((a4.size : Int) > 300))) else (relex_Again.j0 k a0 a2 a3 a4 t101 true))) else (relex_Again.j0 k a0 a2 a3 a4 t101 true))) else (relex_Again.j0 k a0 a2 a3 a4 t101 true)) = some (r1, r2, r3, r4) := H
 have A6 := Aside0.mk A60
 clear A60
 have HC7 := Aside0.mk H
 clear H
 go_enter Try.func19, Try.ntmps19
 go_upto_region 2 with (first | ((with_reducible refine gate_callee (f := 12) rfl ?_); refine goesL_ (some 24) rfl rfl Try.func12 (by kernel_rfl) rfl #[.string a0] rfl (by (try simp only [List.map_toArray, List.map_cons, List.map_nil]); first | done | rfl | (simp only [List.length_drop, List.length_take]; rfl)) ?_; (with_reducible refine (lex_Tokens.calls a0 t101 t102 _ (MaxOk.of HM_.out (by repeat (first | (with_reducible first | exact HB.out | apply below_alloc | apply pw_below_drewN | apply below_drew1) | exact HB.out))) A6.out).mono ?_); rintro e w8 ⟨v103, rfl, ho0, hb⟩; refine ⟨_, rfl, ?_⟩; have n0_ := Aside0.mk (Kd.R_lower ho0 (below_size (by repeat (first | (with_reducible first | exact HB.out | apply below_alloc | apply pw_below_drewN | apply below_drew1) | exact HB.out)))); have n1_ := Aside0.mk (below_step (by repeat (first | (with_reducible first | exact HB.out | apply below_alloc | apply pw_below_drewN | apply below_drew1) | exact HB.out)) hb); clear HB; have HO104 := n0_; have HB := n1_; clear n0_ n1_; (try clear hb); (try clear hb2); (try clear hk); (try clear hi); (try clear ho0)))
 (try simp only [Act.put, List.setIfInBounds_toArray, List.set_cons_zero, List.set_cons_succ])
 go_cut [46] (fun v46 wc => ∃ (kq : Nat) (x46_6 : Bool), v46 = .bool x46_6 ∧ Aside0 (relex_Again.j0 kq a0 a2 a3 a4 t101 x46_6 = some (r1, r2, r3, r4)) ∧ Aside0 (kq ≤ k) ∧ Aside0 (Kd.R k34 34 wc w.heap.size (fun _ => True) v103 t101) ∧ Aside0 (Below w.heap.size w wc))
 case first =>
  have H := HC7.out
  clear HC7
  by_cases c9 : t102 = 0
  · rw [if_pos c9] at H
    have c9b0 : (t102 == 0) = true := beq_iff_eq.mpr c9
    have c9b1 : (t102 != 0) = false := bne_eq_false_iff_eq.mpr c9
    clear c9
    (first | rw [c9b0] | (simp only [i64_w, i32_w]; rw [c9b0]) | skip)
    replace H := Option.bind_eq_some_iff.mp H
    obtain ⟨t105, A100, H⟩ := H
    replace H : (if t105 = true then ((edit_There.f a0 a2 a3).bind fun t106 => (if t106 = true then (relex_Again.j0 k a0 a2 a3 a4 t101 (decide ((a4.size : Int) > 300))) else (relex_Again.j0 k a0 a2 a3 a4 t101 true))) else (relex_Again.j0 k a0 a2 a3 a4 t101 true)) = some (r1, r2, r3, r4) := H
    have A10 := Aside0.mk A100
    clear A100
    by_cases c11 : t105 = true
    · subst c11
      have H1 : ((edit_There.f a0 a2 a3).bind fun t106 => (if t106 = true then (relex_Again.j0 k a0 a2 a3 a4 t101 (decide ((a4.size : Int) > 300))) else (relex_Again.j0 k a0 a2 a3 a4 t101 true))) = some (r1, r2, r3, r4) := by rw [if_pos rfl] at H; exact H
      clear H
      have H := H1
      clear H1
      replace H := Option.bind_eq_some_iff.mp H
      obtain ⟨t106, A120, H⟩ := H
      replace H : (if t106 = true then (relex_Again.j0 k a0 a2 a3 a4 t101 (decide ((a4.size : Int) > 300))) else (relex_Again.j0 k a0 a2 a3 a4 t101 true)) = some (r1, r2, r3, r4) := H
      have A12 := Aside0.mk A120
      clear A120
      by_cases c13 : t106 = true
      · subst c13
        have H1 : (relex_Again.j0 k a0 a2 a3 a4 t101 (decide ((a4.size : Int) > 300))) = some (r1, r2, r3, r4) := by rw [if_pos rfl] at H; exact H
        clear H
        have H := H1
        clear H1
        have H' := Aside0.mk H
        clear H
        obtain ⟨Ao14, co14, eo14⟩ := Kd.R_slice HO104.out
        subst eo14
        go_wp2_with (first | (go_at_call 30; (with_reducible refine (api_Token.calls k _ _ t101 _ _ l1 true _ ?side1 ?side2 ?side3 ?side4 A10.out).mono ?_); (case side1 => repeat (first | exact (Kd.R_reads' HO104.out).2.2 | (with_reducible refine Kd.C_alloc ?_ _) | (with_reducible refine Kd.C_drewN ?_ _) | (with_reducible refine Kd.C_drew ?_))); (case side2 => exact (Kd.R_reads' HO104.out).2.1); (case side3 => repeat (first | exact (Kd.C_below HR1.out HB.out) | (with_reducible refine Kd.C_alloc ?_ _) | (with_reducible refine Kd.C_drewN ?_ _) | (with_reducible refine Kd.C_drew ?_))); (case side4 => exact HC1.out); rintro e w' ⟨rfl, ⟨nd, rfl⟩⟩) | (go_at_call 31; (with_reducible refine (edit_There.calls a0 a2 a3 true _ A12.out).mono ?_); rintro e w' ⟨rfl, ⟨nd, rfl⟩⟩))
        go_meet
        case rel => exact ⟨_, (decide ((a4.size : Int) > 300)), (by first | rfl | (simp; done) | (simp [*]; done)), H', ⟨by first | omega | exact Nat.le_refl _⟩, ⟨by (with_reducible repeat (first | apply Kd.R_alloc | apply Kd.R_drewN | apply Kd.R_drew)); exact HO104.out⟩, ⟨by repeat (first | (with_reducible first | exact HB.out | apply below_alloc | apply pw_below_drewN | apply below_drew1) | exact HB.out)⟩⟩
      · replace c13 := Bool.eq_false_iff.mpr c13
        subst c13
        have H1 : (relex_Again.j0 k a0 a2 a3 a4 t101 true) = some (r1, r2, r3, r4) := by rw [if_neg (show ¬ (false = true) by decide)] at H; exact H
        clear H
        have H := H1
        clear H1
        have H' := Aside0.mk H
        clear H
        obtain ⟨Ao15, co15, eo15⟩ := Kd.R_slice HO104.out
        subst eo15
        go_wp2_with (first | (go_at_call 30; (with_reducible refine (api_Token.calls k _ _ t101 _ _ l1 true _ ?side1 ?side2 ?side3 ?side4 A10.out).mono ?_); (case side1 => repeat (first | exact (Kd.R_reads' HO104.out).2.2 | (with_reducible refine Kd.C_alloc ?_ _) | (with_reducible refine Kd.C_drewN ?_ _) | (with_reducible refine Kd.C_drew ?_))); (case side2 => exact (Kd.R_reads' HO104.out).2.1); (case side3 => repeat (first | exact (Kd.C_below HR1.out HB.out) | (with_reducible refine Kd.C_alloc ?_ _) | (with_reducible refine Kd.C_drewN ?_ _) | (with_reducible refine Kd.C_drew ?_))); (case side4 => exact HC1.out); rintro e w' ⟨rfl, ⟨nd, rfl⟩⟩) | (go_at_call 31; (with_reducible refine (edit_There.calls a0 a2 a3 false _ A12.out).mono ?_); rintro e w' ⟨rfl, ⟨nd, rfl⟩⟩))
        go_meet
        case rel => exact ⟨_, (true), (by first | rfl | (simp; done) | (simp [*]; done)), H', ⟨by first | omega | exact Nat.le_refl _⟩, ⟨by (with_reducible repeat (first | apply Kd.R_alloc | apply Kd.R_drewN | apply Kd.R_drew)); exact HO104.out⟩, ⟨by repeat (first | (with_reducible first | exact HB.out | apply below_alloc | apply pw_below_drewN | apply below_drew1) | exact HB.out)⟩⟩
    · replace c11 := Bool.eq_false_iff.mpr c11
      subst c11
      have H1 : (relex_Again.j0 k a0 a2 a3 a4 t101 true) = some (r1, r2, r3, r4) := by rw [if_neg (show ¬ (false = true) by decide)] at H; exact H
      clear H
      have H := H1
      clear H1
      have H' := Aside0.mk H
      clear H
      obtain ⟨Ao16, co16, eo16⟩ := Kd.R_slice HO104.out
      subst eo16
      go_wp2_with (first | (go_at_call 30; (with_reducible refine (api_Token.calls k _ _ t101 _ _ l1 false _ ?side1 ?side2 ?side3 ?side4 A10.out).mono ?_); (case side1 => repeat (first | exact (Kd.R_reads' HO104.out).2.2 | (with_reducible refine Kd.C_alloc ?_ _) | (with_reducible refine Kd.C_drewN ?_ _) | (with_reducible refine Kd.C_drew ?_))); (case side2 => exact (Kd.R_reads' HO104.out).2.1); (case side3 => repeat (first | exact (Kd.C_below HR1.out HB.out) | (with_reducible refine Kd.C_alloc ?_ _) | (with_reducible refine Kd.C_drewN ?_ _) | (with_reducible refine Kd.C_drew ?_))); (case side4 => exact HC1.out); rintro e w' ⟨rfl, ⟨nd, rfl⟩⟩))
      go_meet
      case rel => exact ⟨_, (true), (by first | rfl | (simp; done) | (simp [*]; done)), H', ⟨by first | omega | exact Nat.le_refl _⟩, ⟨by (with_reducible repeat (first | apply Kd.R_alloc | apply Kd.R_drewN | apply Kd.R_drew)); exact HO104.out⟩, ⟨by repeat (first | (with_reducible first | exact HB.out | apply below_alloc | apply pw_below_drewN | apply below_drew1) | exact HB.out)⟩⟩
  · rw [if_neg c9] at H
    have c9b0 : (t102 == 0) = false := beq_eq_false_iff_ne.mpr c9
    have c9b1 : (t102 != 0) = true := bne_iff_ne.mpr c9
    (first | rw [c9b0] | (simp only [i64_w, i32_w]; rw [c9b0]) | skip)
    have H' := Aside0.mk H
    clear H
    go_wp2
    go_meet
    case rel => exact ⟨_, (true), (by first | rfl | (simp; done) | (simp [*]; done)), H', ⟨by first | omega | exact Nat.le_refl _⟩, ⟨by (with_reducible repeat (first | apply Kd.R_alloc | apply Kd.R_drewN | apply Kd.R_drew)); exact HO104.out⟩, ⟨by repeat (first | (with_reducible first | exact HB.out | apply below_alloc | apply pw_below_drewN | apply below_drew1) | exact HB.out)⟩⟩
 case rest =>
  clear HC7
  try clear c1
  try clear p2
  try clear c9
  try clear c9b0
  try clear c9b1
  try clear c11
  try clear c12
  try clear c13
  obtain ⟨kq, x46_6, rfl, HA, HJ6, HO_14, HB⟩ := hcut
  cases kq with
  | zero => exact absurd HA.out (by simp [relex_Again.j0])
  | succ kj6 =>
   have H := HA.out
   clear HA
   simp only [relex_Again.j0] at H
   by_cases c17 : x46_6 = true
   · subst c17
     have H1 : (some (([] : List (S34)), 0, 0, 1000)) = some (r1, r2, r3, r4) := by rw [if_pos rfl] at H; exact H
     clear H
     have H := H1
     clear H1
     simp only [Option.some.injEq, Prod.mk.injEq] at H
     obtain ⟨rfl, rfl, rfl, rfl⟩ := H
     go_wp2
     refine bodyPost_ret (results_list (rs := [.tmp 10, .tmp 11, .tmp 12, .tmp 13]) rfl (by simp) (.tmp (.tmp (.tmp (.tmp .nil))))) rfl ?_
     exact ⟨_, by first | rfl | (simp [errW_none, errW_some] <;> rfl) | (simp [*, errW_none, errW_some] <;> rfl), by first | exact Kd.R_nil _ _ _ _ _ | exact Kd.N_nil _ _ _ _ _ | exact Kd.V_nil _ _ _ _ _ | exact Kd.Q_nil _ _ _ _ _ | exact Kd.S_nil _ _ _ _ _, by repeat (first | (with_reducible first | exact HB.out | apply below_alloc | apply pw_below_drewN | apply below_drew1) | exact HB.out)⟩
   · replace c17 := Bool.eq_false_iff.mpr c17
     subst c17
     have H1 : (if 0 ≤ a2 then (if a2 ≤ (a0.size : Int) then (if (a0.extract 0 (a2 : Int).toNat).size + a4.size ≤ 9223372036854775807 then (if 0 ≤ (wrap64 (a2 + a3)) then (if (wrap64 (a2 + a3)) ≤ (a0.size : Int) then (if ((a0.extract 0 (a2 : Int).toNat) ++ a4).size + (a0.extract ((wrap64 (a2 + a3)) : Int).toNat a0.size).size ≤ 9223372036854775807 then ((lex_Tokens.f (((a0.extract 0 (a2 : Int).toNat) ++ a4) ++ (a0.extract ((wrap64 (a2 + a3)) : Int).toNat a0.size))).bind fun bt107 => (if bt107.2 = 0 then (relex_Again.l0 kj6 a3 a4 t101 bt107.1 (mn (t101.length : Int) (bt107.1.length : Int)) 0) else (some (([] : List (S34)), 0, 0, 1000)))) else (none)) else (none)) else (none)) else (none)) else (none)) else (none)) = some (r1, r2, r3, r4) := by rw [if_neg (show ¬ (false = true) by decide)] at H; exact H
     clear H
     have H := H1
     clear H1
     by_cases c18 : 0 ≤ a2
     · rw [if_pos c18] at H
       have c18b0 := eq_true c18
       have c18b1 : decide (0 ≤ a2) = true := decide_eq_true c18
       clear c18
       by_cases c19 : a2 ≤ (a0.size : Int)
       · rw [if_pos c19] at H
         have c19b0 := eq_true c19
         have c19b1 : decide (a2 ≤ (a0.size : Int)) = true := decide_eq_true c19
         clear c19
         by_cases c20 : (a0.extract 0 (a2 : Int).toNat).size + a4.size ≤ 9223372036854775807
         · rw [if_pos c20] at H
           have c20b0 := eq_true c20
           have c20b1 : decide ((a0.extract 0 (a2 : Int).toNat).size + a4.size ≤ 9223372036854775807) = true := decide_eq_true c20
           try have c20b2 : (9223372036854775807 < (a0.extract 0 (a2 : Int).toNat).size + a4.size) = False := eq_false (Nat.not_lt.2 c20)
           try have c20b3 : (9223372036854775807 < (a2).toNat + a4.size) = False := eq_false (Nat.not_lt.2 (by have h_ := c20; simp only [ByteArray.size_append, ByteArray.size_extract] at h_; have := of_decide_eq_true (p := (a2) ≤ (a0.size : Int)) (by assumption); omega))
           obtain ⟨ji21, hji21⟩ : ∃ j_ : Int, (wrap64 (a2 + a3)) = j_ := ⟨_, rfl⟩
           replace H : (if 0 ≤ (ji21) then (if (ji21) ≤ (a0.size : Int) then (if ((a0.extract 0 (a2 : Int).toNat) ++ a4).size + (a0.extract ((ji21) : Int).toNat a0.size).size ≤ 9223372036854775807 then ((lex_Tokens.f (((a0.extract 0 (a2 : Int).toNat) ++ a4) ++ (a0.extract ((ji21) : Int).toNat a0.size))).bind fun bt107 => (if bt107.2 = 0 then (relex_Again.l0 kj6 a3 a4 t101 bt107.1 (mn (t101.length : Int) (bt107.1.length : Int)) 0) else (some (([] : List (S34)), 0, 0, 1000)))) else (none)) else (none)) else (none)) = some (r1, r2, r3, r4) := by first | (rw [hji21] at H; exact H) | (simp only [hji21] at H ⊢; exact H)
           have hji21w : (IntKind.i64.wrap (a2 + a3)) = ji21 := (i64_w _).trans hji21
           by_cases c22 : 0 ≤ (ji21)
           · rw [if_pos c22] at H
             have c22b0 := eq_true c22
             have c22b1 : decide (0 ≤ (ji21)) = true := decide_eq_true c22
             clear c22
             by_cases c23 : (ji21) ≤ (a0.size : Int)
             · rw [if_pos c23] at H
               have c23b0 := eq_true c23
               have c23b1 : decide ((ji21) ≤ (a0.size : Int)) = true := decide_eq_true c23
               clear c23
               by_cases c24 : ((a0.extract 0 (a2 : Int).toNat) ++ a4).size + (a0.extract ((ji21) : Int).toNat a0.size).size ≤ 9223372036854775807
               · rw [if_pos c24] at H
                 have c24b0 := eq_true c24
                 have c24b1 : decide (((a0.extract 0 (a2 : Int).toNat) ++ a4).size + (a0.extract ((ji21) : Int).toNat a0.size).size ≤ 9223372036854775807) = true := decide_eq_true c24
                 try have c24b2 : (9223372036854775807 < ((a0.extract 0 (a2 : Int).toNat) ++ a4).size + (a0.extract ((ji21) : Int).toNat a0.size).size) = False := eq_false (Nat.not_lt.2 c24)
                 try have c24b3 : (9223372036854775807 < a2.toNat + a4.size + (a0.size - ji21.toNat)) = False := eq_false (Nat.not_lt.2 (by have h_ := c24; simp only [ByteArray.size_append, ByteArray.size_extract] at h_; have := of_decide_eq_true (p := (a2) ≤ (a0.size : Int)) (by assumption); omega))
                 replace H := Option.bind_eq_some_iff.mp H
                 obtain ⟨⟨t107, t108⟩, A250, H⟩ := H
                 replace H : (if t108 = 0 then (relex_Again.l0 kj6 a3 a4 t101 t107 (mn (t101.length : Int) (t107.length : Int)) 0) else (some (([] : List (S34)), 0, 0, 1000))) = some (r1, r2, r3, r4) := H
                 have A25 := Aside0.mk A250
                 clear A250
                 by_cases c26 : t108 = 0
                 · rw [if_pos c26] at H
                   have c26b0 : (t108 == 0) = true := beq_iff_eq.mpr c26
                   have c26b1 : (t108 != 0) = false := bne_eq_false_iff_eq.mpr c26
                   clear c26
                   obtain ⟨ji27, hji27⟩ : ∃ j_ : Int, (mn (t101.length : Int) (t107.length : Int)) = j_ := ⟨_, rfl⟩
                   replace H : (relex_Again.l0 kj6 a3 a4 t101 t107 ji27 0) = some (r1, r2, r3, r4) := by first | (rw [hji27] at H; exact H) | (simp only [hji27] at H ⊢; exact H)
                   (try rw [hji27] at A25)
                   have hji27_ : (if (t107.length : Int) < (t101.length : Int) then (t107.length : Int) else (t101.length : Int)) = ji27 := hji27
                   have hji27n_ : (if t107.length < t101.length then (t107.length : Int) else (t101.length : Int)) = ji27 := by rw [← hji27_]; simp only [Int.ofNat_lt]
                   have HC28 := Aside0.mk H
                   clear H
                   try go_wp2
                   have n0_ := Aside0.mk (Kd.R_drew HO_14.out)
                   have n1_ := Aside0.mk (below_drew1 HB.out)
                   clear HO_14
                   clear HB
                   have HO_14 := n0_
                   have HB := n1_
                   clear n0_ n1_
                   refine start_ (n := 17) (S := fun w' => True) (ds := []) #[false, false, false, false, false, false, false, false, false, false, false, false, false, false, false, false, false] (by kernel_rfl) rfl rfl trivial (fun hHeld => ?_); refine with_tabW relex_Again.tab4 relex_Again.bits4 (fun HT_ HW_ => ?_)
                   generalize wc.drew = w29 at HO_14 HB hHeld ⊢
                   refine pure_ (i := 0) (N := some 48) (v := ?_) (a' := ?_) #[true, false, false, false, false, false, false, false, false, false, false, false, false, false, false, false, false] rfl rfl (any_of HT_.out (by kernel_rfl)) (fun _ _ _ h => h) (Or.inl ⟨by rfl, ?_⟩) ?_ ?_
                   rotate_left
                   · intro w'
                     go_simp
                     with_reducible rfl
                   rotate_left
                   · simp only [Act.put, List.setIfInBounds_toArray, List.set_cons_zero, List.set_cons_succ, i64_w, i32_w]
                     rfl
                   refine pure_ (i := 1) (N := some 49) (v := ?_) (a' := ?_) #[true, true, false, false, false, false, false, false, false, false, false, false, false, false, false, false, false] rfl rfl (any_of HT_.out (by kernel_rfl)) (fun _ _ _ h => h) (Or.inl ⟨by rfl, ?_⟩) ?_ ?_
                   rotate_left
                   · intro w'
                     go_simp
                     with_reducible rfl
                   rotate_left
                   · simp only [Act.put, List.setIfInBounds_toArray, List.set_cons_zero, List.set_cons_succ, i64_w, i32_w]
                     rfl
                   refine pure_ (i := 2) (N := some 50) (v := ?_) (a' := ?_) #[true, true, true, false, false, false, false, false, false, false, false, false, false, false, false, false, false] rfl rfl (any_of HT_.out (by kernel_rfl)) (fun _ _ _ h => h) (Or.inl ⟨by rfl, ?_⟩) ?_ ?_
                   rotate_left
                   · intro w'
                     go_simp
                     with_reducible rfl
                   rotate_left
                   · simp only [Act.put, List.setIfInBounds_toArray, List.set_cons_zero, List.set_cons_succ, i64_w, i32_w]
                     rfl
                   refine pure_ (i := 3) (N := some 51) (v := ?_) (a' := ?_) #[true, true, true, true, false, false, false, false, false, false, false, false, false, false, false, false, false] rfl rfl (any_of HT_.out (by kernel_rfl)) (fun _ _ _ h => h) (Or.inl ⟨by rfl, ?_⟩) ?_ ?_
                   rotate_left
                   · intro w'
                     go_simp
                     with_reducible rfl
                   rotate_left
                   · simp only [Act.put, List.setIfInBounds_toArray, List.set_cons_zero, List.set_cons_succ, i64_w, i32_w]
                     rfl
                   refine pure_ (i := 4) (N := some 52) (v := ?_) (a' := ?_) #[true, true, true, true, true, false, false, false, false, false, false, false, false, false, false, false, false] rfl rfl (any_of HT_.out (by kernel_rfl)) (fun _ _ _ h => h) (Or.inl ⟨by rfl, ?_⟩) ?_ ?_
                   rotate_left
                   · intro w'
                     go_simp
                     with_reducible rfl
                   rotate_left
                   · simp only [Act.put, List.setIfInBounds_toArray, List.set_cons_zero, List.set_cons_succ, i64_w, i32_w]
                     rfl
                   refine pure_ (i := 5) (N := some 53) (v := ?_) (a' := ?_) #[true, true, true, true, true, true, false, false, false, false, false, false, false, false, false, false, false] rfl rfl (any_of HT_.out (by kernel_rfl)) (fun _ _ _ h => h) (Or.inl ⟨by rfl, ?_⟩) ?_ ?_
                   rotate_left
                   · intro w'
                     go_simp
                     with_reducible rfl
                   rotate_left
                   · simp only [Act.put, List.setIfInBounds_toArray, List.set_cons_zero, List.set_cons_succ, i64_w, i32_w]
                     rfl
                   refine pure_ (i := 6) (N := some 54) (v := ?_) (a' := ?_) #[true, true, true, true, true, true, true, false, false, false, false, false, false, false, false, false, false] rfl rfl (any_of HT_.out (by kernel_rfl)) (fun _ _ _ h => h) (Or.inl ⟨by rfl, ?_⟩) ?_ ?_
                   rotate_left
                   · intro w'
                     go_simp
                     with_reducible rfl
                   rotate_left
                   · simp only [Act.put, List.setIfInBounds_toArray, List.set_cons_zero, List.set_cons_succ, i64_w, i32_w]
                     rfl
                   refine pure_ (i := 7) (N := some 55) (v := ?_) (a' := ?_) #[true, true, true, true, true, true, true, true, false, false, false, false, false, false, false, false, false] rfl rfl (any_of HT_.out (by kernel_rfl)) (fun _ _ _ h => h) (Or.inl ⟨by rfl, ?_⟩) ?_ ?_
                   rotate_left
                   · intro w'
                     go_simp
                     with_reducible rfl
                   rotate_left
                   · simp only [Act.put, List.setIfInBounds_toArray, List.set_cons_zero, List.set_cons_succ, i64_w, i32_w]
                     rfl
                   refine pure_ (i := 8) (N := some 56) (v := ?_) (a' := ?_) #[true, true, true, true, true, true, true, true, true, false, false, false, false, false, false, false, false] rfl rfl (any_of HT_.out (by kernel_rfl)) (fun _ _ _ h => h) (Or.inl ⟨by rfl, ?_⟩) ?_ ?_
                   rotate_left
                   · intro w'
                     go_simp
                     with_reducible rfl
                   rotate_left
                   · simp only [Act.put, List.setIfInBounds_toArray, List.set_cons_zero, List.set_cons_succ, i64_w, i32_w]
                     rfl
                   refine pure_ (i := 9) (N := some 57) (v := ?_) (a' := ?_) #[true, true, true, true, true, true, true, true, true, true, false, false, false, false, false, false, false] rfl rfl (any_of HT_.out (by kernel_rfl)) (fun _ _ _ h => h) (Or.inl ⟨by rfl, ?_⟩) ?_ ?_
                   rotate_left
                   · intro w'
                     go_simp
                     with_reducible rfl
                   rotate_left
                   · simp only [Act.put, List.setIfInBounds_toArray, List.set_cons_zero, List.set_cons_succ, i64_w, i32_w]
                     rfl
                   refine pure_ (i := 10) (N := some 58) (v := ?_) (a' := ?_) #[true, true, true, true, true, true, true, true, true, true, true, false, false, false, false, false, false] rfl rfl (any_of HT_.out (by kernel_rfl)) (fun _ _ _ h => h) (Or.inl ⟨by rfl, ?_⟩) ?_ ?_
                   rotate_left
                   · intro w'
                     go_simp
                     with_reducible rfl
                   rotate_left
                   · simp only [Act.put, List.setIfInBounds_toArray, List.set_cons_zero, List.set_cons_succ, i64_w, i32_w]
                     rfl
                   refine one_ (i := 11) (N := some 59) #[true, true, true, true, true, true, true, true, true, true, true, true, false, false, false, false, false] rfl rfl (one_of HT_.out (by kernel_rfl)) (by decide) (fun K hK => ?_)
                   refine goes_ Try.func12 (by kernel_rfl) rfl #[.string (((a0.extract 0 (a2 : Int).toNat) ++ a4) ++ (a0.extract ((ji21) : Int).toNat a0.size))] (by rfl) rfl rfl (by (try simp only [List.map_toArray, List.map_cons, List.map_nil]); first | done | (simp only [hji21]; rfl) | rfl | (simp only [List.length_drop, List.length_take]; rfl)) ?_
                   with_reducible refine (lex_Tokens.calls (((a0.extract 0 (a2 : Int).toNat) ++ a4) ++ (a0.extract ((ji21) : Int).toNat a0.size)) t107 t108 _ (MaxOk.of HM_.out (by repeat (first | (with_reducible first | exact HB.out | apply below_alloc | apply pw_below_drewN | apply below_drew1) | exact HB.out))) A25.out).mono ?_
                   rintro e w30 ⟨v109, rfl, ho0, hb⟩
                   refine ⟨_, rfl, ?_⟩
                   have n0_ := Aside0.mk (Kd.R_elder' (by (with_reducible repeat (first | apply Kd.R_alloc | apply Kd.R_drewN | apply Kd.R_drew)); exact HO_14.out) (Kd.R_base ho0) hb)
                   have n1_ := Aside0.mk (Kd.R_lower (Kd.R_new' ho0 (Kd.R_lt (by (with_reducible repeat (first | apply Kd.R_alloc | apply Kd.R_drewN | apply Kd.R_drew)); exact HO_14.out))) (below_size (by repeat (first | (with_reducible first | exact HB.out | apply below_alloc | apply pw_below_drewN | apply below_drew1) | exact HB.out))))
                   have n2_ := Aside0.mk (below_step (by repeat (first | (with_reducible first | exact HB.out | apply below_alloc | apply pw_below_drewN | apply below_drew1) | exact HB.out)) hb)
                   clear HO_14
                   clear HB
                   have HO_14 := n0_
                   have HO110 := n1_
                   have HB := n2_
                   clear n0_ n1_ n2_
                   (try clear hb)
                   (try clear hb2)
                   (try clear hk)
                   (try clear hi)
                   (try clear ho0)
                   refine hK.out _ _ trivial (fun hHeld => ?_)
                   clear hK K
                   refine norm_ (a' := ?_) ?_ ?_
                   rotate_left
                   · show Act.put _ (some 59) _ = _
                     simp only [Act.put, List.setIfInBounds_toArray, List.set_cons_zero, List.set_cons_succ, i64_w, i32_w]
                     rfl
                   refine pure_ (i := 12) (N := some 47) (v := ?_) (a' := ?_) #[true, true, true, true, true, true, true, true, true, true, true, true, true, false, false, false, false] rfl rfl (any_of HT_.out (by kernel_rfl)) (fun _ _ _ h => h) (Or.inl ⟨by rfl, ?_⟩) ?_ ?_
                   rotate_left
                   · intro w'
                     go_simp
                     with_reducible rfl
                   rotate_left
                   · simp only [Act.put, List.setIfInBounds_toArray, List.set_cons_zero, List.set_cons_succ, i64_w, i32_w]
                     rfl
                   refine pure_ (i := 13) (N := some 60) (v := ?_) (a' := ?_) #[true, true, true, true, true, true, true, true, true, true, true, true, true, true, false, false, false] rfl rfl (any_of HT_.out (by kernel_rfl)) (fun _ _ _ h => h) (Or.inl ⟨by rfl, ?_⟩) ?_ ?_
                   rotate_left
                   · intro w'
                     go_simp
                     with_reducible rfl
                   rotate_left
                   · simp only [Act.put, List.setIfInBounds_toArray, List.set_cons_zero, List.set_cons_succ, i64_w, i32_w]
                     rfl
                   refine pure_ (i := 14) (N := some 61) (v := ?_) (a' := ?_) #[true, true, true, true, true, true, true, true, true, true, true, true, true, true, true, false, false] rfl rfl (any_of HT_.out (by kernel_rfl)) (fun _ _ _ h => h) (Or.inl ⟨by rfl, ?_⟩) ?_ ?_
                   rotate_left
                   · intro w'
                     go_simp
                     with_reducible rfl
                   rotate_left
                   · simp only [Act.put, List.setIfInBounds_toArray, List.set_cons_zero, List.set_cons_succ, i64_w, i32_w]
                     rfl
                   refine pure_ (i := 15) (N := some 16) (v := ?_) (a' := ?_) #[true, true, true, true, true, true, true, true, true, true, true, true, true, true, true, true, false] rfl rfl (any_of HT_.out (by kernel_rfl)) (fun _ _ _ h => h) (Or.inl ⟨by rfl, ?_⟩) ?_ ?_
                   rotate_left
                   · intro w'
                     go_simp
                     with_reducible rfl
                   rotate_left
                   · simp only [Act.put, List.setIfInBounds_toArray, List.set_cons_zero, List.set_cons_succ, i64_w, i32_w]
                     rfl
                   refine pure_ (i := 16) (N := some 15) (v := ?_) (a' := ?_) #[true, true, true, true, true, true, true, true, true, true, true, true, true, true, true, true, true] rfl rfl (any_of HT_.out (by kernel_rfl)) (fun _ _ _ h => h) (Or.inl ⟨by rfl, ?_⟩) ?_ ?_
                   rotate_left
                   · intro w'
                     go_simp
                     with_reducible rfl
                   rotate_left
                   · simp only [Act.put, List.setIfInBounds_toArray, List.set_cons_zero, List.set_cons_succ, i64_w, i32_w]
                     rfl
                   refine done_ (done_of HT_.out (by kernel_rfl)) ?_
                   obtain ⟨Ao31, co31, eo31⟩ := Kd.R_slice HO_14.out
                   subst eo31
                   obtain ⟨Ao32, co32, eo32⟩ := Kd.R_slice HO110.out
                   subst eo32
                   go_upto_block 0 with (fail)
                   go_cut [18] (fun v18 wc => ∃ (kq : Nat) (x18_27 : Int), v18 = .int .i64 x18_27 ∧ Aside0 (relex_Again.j2 kq a3 a4 t101 t107 ji27 x18_27 = some (r1, r2, r3, r4)) ∧ Aside0 (kq ≤ kj6) ∧ Aside0 (Kd.R k34 34 wc w.heap.size (fun k_ => some k_ ≠ ((.slice Ao32 t107.length co32) : Value).ownBlock) (.slice Ao31 t101.length co31) t101) ∧ Aside0 (Kd.R k34 34 wc w.heap.size (fun k_ => some k_ ≠ ((.slice Ao31 t101.length co31) : Value).ownBlock) (.slice Ao32 t107.length co32) t107) ∧ Aside0 (Below w.heap.size w wc))
                   case first =>
                    have H := HC28.out
                    clear HC28
                    have H' := Aside0.mk H
                    clear H
                    go_wp2
                    go_loopg [18] kj6 (fun kq v18 w' => ∃ (x18_2 : Int), v18 = .int .i64 x18_2 ∧ Aside0 (relex_Again.l0 kq a3 a4 t101 t107 ji27 x18_2 = some (r1, r2, r3, r4)) ∧ Aside0 (kq ≤ kj6) ∧ Aside0 (Kd.R k34 34 w' w.heap.size (fun k_ => some k_ ≠ ((.slice Ao32 t107.length co32) : Value).ownBlock) (.slice Ao31 t101.length co31) t101) ∧ Aside0 (Kd.R k34 34 w' w.heap.size (fun k_ => some k_ ≠ ((.slice Ao31 t101.length co31) : Value).ownBlock) (.slice Ao32 t107.length co32) t107) ∧ Aside0 (Below w.heap.size w w'))
                    case atStart => exact ⟨(0), (by first | rfl | (simp; done) | (simp [*]; done)), H', ⟨Nat.le_refl _⟩, ⟨by (with_reducible repeat (first | apply Kd.R_alloc | apply Kd.R_drewN | apply Kd.R_drew)); exact Kd.R_mono HO_14.out (fun _ hk => hk.2)⟩, ⟨by (with_reducible repeat (first | apply Kd.R_alloc | apply Kd.R_drewN | apply Kd.R_drew)); exact Kd.R_mono HO110.out (fun _ hk => hk.2)⟩, ⟨by repeat (first | (with_reducible first | exact HB.out | apply below_alloc | apply pw_below_drewN | apply below_drew1) | exact HB.out)⟩⟩
                    case round =>
                     clear H'
                     try clear c1
                     try clear c2
                     try clear p2
                     try clear p6
                     try clear c9
                     try clear c9b0
                     try clear c9b1
                     try clear c11
                     try clear c12
                     try clear c13
                     try clear c17
                     try clear c18
                     try clear c18b0
                     try clear c18b1
                     try clear c19
                     try clear c19b0
                     try clear c19b1
                     try clear c20
                     try clear c20b0
                     try clear c20b1
                     try clear c20b2
                     try clear c22
                     try clear c22b0
                     try clear c22b1
                     try clear c23
                     try clear c23b0
                     try clear c23b1
                     try clear c24
                     try clear c24b0
                     try clear c24b1
                     try clear c24b2
                     try clear c26
                     try clear c26b0
                     try clear c26b1
                     try clear p2
                     obtain ⟨x18_2, rfl, HA, HK2, HO_14, HO_16, HB⟩ := hrel
                     cases gk with
                     | zero => exact absurd HA.out (by simp [relex_Again.l0])
                     | succ k2 =>
                      have H := HA.out
                      clear HA
                      simp only [relex_Again.l0] at H
                      by_cases c33 : x18_2 < ji27
                      · rw [if_pos c33] at H
                        have c33b0 : decide (x18_2 < ji27) = true := decide_eq_true c33
                        clear c33
                        (first | rw [c33b0] | (simp only [i64_w, i32_w]; rw [c33b0]) | skip)
                        by_cases c34 : 0 ≤ x18_2
                        · rw [if_pos c34] at H
                          have c34b0 : decide (0 ≤ x18_2) = true := decide_eq_true c34
                          clear c34
                          by_cases c35 : x18_2 < (t101.length : Int)
                          · rw [if_pos c35] at H
                            have c35b0 : decide (x18_2 < (t101.length : Int)) = true := decide_eq_true c35
                            clear c35
                            by_cases c36 : x18_2 < (t107.length : Int)
                            · rw [if_pos c36] at H
                              have c36b0 : decide (x18_2 < (t107.length : Int)) = true := decide_eq_true c36
                              clear c36
                              by_cases c37 : (((rd_T34 t101 x18_2).f0) == ((rd_T34 t107 x18_2).f0) && (((rd_T34 t101 x18_2).f1) == ((rd_T34 t107 x18_2).f1) && (((rd_T34 t101 x18_2).f2) == ((rd_T34 t107 x18_2).f2)))) = true
                              · rw [if_pos c37] at H
                                have c37b0 : (((rd_T34 t101 x18_2).f0) == ((rd_T34 t107 x18_2).f0) && (((rd_T34 t101 x18_2).f1) == ((rd_T34 t107 x18_2).f1) && (((rd_T34 t101 x18_2).f2) == ((rd_T34 t107 x18_2).f2)))) = true := c37
                                (try (have c37b1 : decide (((rd_T34 t101 x18_2).f0) = ((rd_T34 t107 x18_2).f0) && (((rd_T34 t101 x18_2).f1) == ((rd_T34 t107 x18_2).f1) && (((rd_T34 t101 x18_2).f2) == ((rd_T34 t107 x18_2).f2)))) = true := by simpa using c37))
                                (try (have c37b2 : (((rd_T34 t101 x18_2).f0) == ((rd_T34 t107 x18_2).f0) && (((rd_T34 t101 x18_2).f1) == ((rd_T34 t107 x18_2).f1) && (((rd_T34 t101 x18_2).f2) == ((rd_T34 t107 x18_2).f2)))) = true := by simpa using c37))
                                clear c37
                                have H' := Aside0.mk H
                                clear H
                                try go_wp2
                                have n0_ := Aside0.mk (Kd.R_drew HO_14.out)
                                have n1_ := Aside0.mk (Kd.R_drew HO_16.out)
                                have n2_ := Aside0.mk (below_drew1 HB.out)
                                clear HO_14
                                clear HO_16
                                clear HB
                                have HO_14 := n0_
                                have HO_16 := n1_
                                have HB := n2_
                                clear n0_ n1_ n2_
                                have p111 : 0 ≤ (x18_2 : Int) := of_decide_eq_true (by first | (with_reducible assumption) | assumption)
                                have q111 : x18_2 < (t101.length : Int) := of_decide_eq_true (by first | (with_reducible assumption) | assumption)
                                obtain ⟨ad111, e111, hx111_0, hx111_1, hx111_2⟩ := at_T34 (Kd.R_reads' HO_14.out).2.2 x18_2 p111 q111
                                cases e111
                                replace p111 := eq_true p111
                                replace q111 := eq_true q111
                                have p112 : 0 ≤ (x18_2 : Int) := of_decide_eq_true (by first | (with_reducible assumption) | assumption)
                                have q112 : x18_2 < (t107.length : Int) := of_decide_eq_true (by first | (with_reducible assumption) | assumption)
                                obtain ⟨ad112, e112, hx112_0, hx112_1, hx112_2⟩ := at_T34 (Kd.R_reads' HO_16.out).2.2 x18_2 p112 q112
                                cases e112
                                replace p112 := eq_true p112
                                replace q112 := eq_true q112
                                refine start_ (n := 14) (S := fun w' => w'.cell? (ad111.add ((x18_2).toNat * 3)) = some (.int .i64 ((rd_T34 t101 x18_2).f0)) ∧ w'.cell? ⟨(ad111.add ((x18_2).toNat * 3)).block, (ad111.add ((x18_2).toNat * 3)).off + 1, none⟩ = some (.int .i64 ((rd_T34 t101 x18_2).f1)) ∧ w'.cell? ⟨(ad111.add ((x18_2).toNat * 3)).block, (ad111.add ((x18_2).toNat * 3)).off + 2, none⟩ = some (.int .i64 ((rd_T34 t101 x18_2).f2)) ∧ w'.cell? (ad112.add ((x18_2).toNat * 3)) = some (.int .i64 ((rd_T34 t107 x18_2).f0)) ∧ w'.cell? ⟨(ad112.add ((x18_2).toNat * 3)).block, (ad112.add ((x18_2).toNat * 3)).off + 1, none⟩ = some (.int .i64 ((rd_T34 t107 x18_2).f1)) ∧ w'.cell? ⟨(ad112.add ((x18_2).toNat * 3)).block, (ad112.add ((x18_2).toNat * 3)).off + 2, none⟩ = some (.int .i64 ((rd_T34 t107 x18_2).f2))) (ds := []) #[false, false, false, false, false, false, false, false, false, false, false, false, false, false] (by kernel_rfl) rfl rfl ⟨hx111_0, hx111_1, hx111_2, hx112_0, hx112_1, hx112_2⟩ (fun hHeld => ?_); refine with_tabW relex_Again.tab9 relex_Again.bits9 (fun HT_ HW_ => ?_)
                                generalize wr.drew = w38 at HO_14 HO_16 HB hx111_0 hx111_1 hx111_2 hx112_0 hx112_1 hx112_2 hHeld ⊢
                                refine pure_ (i := 0) (N := some 69) (v := ?_) (a' := ?_) #[true, false, false, false, false, false, false, false, false, false, false, false, false, false] rfl rfl (any_of HT_.out (by kernel_rfl)) (fun _ _ _ h => h) (Or.inl ⟨by rfl, ?_⟩) ?_ ?_
                                rotate_left
                                · intro w'
                                  go_simp
                                  with_reducible rfl
                                rotate_left
                                · simp only [Act.put, List.setIfInBounds_toArray, List.set_cons_zero, List.set_cons_succ, i64_w, i32_w]
                                  rfl
                                refine pure_ (i := 1) (N := some 70) (v := ?_) (a' := ?_) #[true, true, false, false, false, false, false, false, false, false, false, false, false, false] rfl rfl (any_of HT_.out (by kernel_rfl)) (fun _ _ _ h => h) (Or.inl ⟨by rfl, ?_⟩) ?_ ?_
                                rotate_left
                                · intro w'
                                  go_simp
                                  with_reducible rfl
                                rotate_left
                                · simp only [Act.put, List.setIfInBounds_toArray, List.set_cons_zero, List.set_cons_succ, i64_w, i32_w]
                                  rfl
                                refine pure_ (i := 2) (N := some 71) (v := ?_) (a' := ?_) #[true, true, true, false, false, false, false, false, false, false, false, false, false, false] rfl rfl (any_of HT_.out (by kernel_rfl)) (fun _ _ _ h => h) (Or.inl ⟨by rfl, ?_⟩) ?_ ?_
                                rotate_left
                                · intro w'
                                  go_simp
                                  with_reducible rfl
                                rotate_left
                                · simp only [Act.put, List.setIfInBounds_toArray, List.set_cons_zero, List.set_cons_succ, i64_w, i32_w]
                                  rfl
                                refine pure_ (i := 3) (N := some 72) (v := ?_) (a' := ?_) #[true, true, true, true, false, false, false, false, false, false, false, false, false, false] rfl rfl (any_of HT_.out (by kernel_rfl)) (fun _ _ _ h => h) (Or.inl ⟨by rfl, ?_⟩) ?_ ?_
                                rotate_left
                                · intro w'
                                  go_simp
                                  with_reducible rfl
                                rotate_left
                                · simp only [Act.put, List.setIfInBounds_toArray, List.set_cons_zero, List.set_cons_succ, i64_w, i32_w]
                                  rfl
                                refine pure_ (i := 4) (N := some 73) (v := ?_) (a' := ?_) #[true, true, true, true, true, false, false, false, false, false, false, false, false, false] rfl rfl (any_of HT_.out (by kernel_rfl)) (fun _ _ _ h => h) (Or.inl ⟨by rfl, ?_⟩) ?_ ?_
                                rotate_left
                                · intro w'
                                  go_simp
                                  with_reducible rfl
                                rotate_left
                                · simp only [Act.put, List.setIfInBounds_toArray, List.set_cons_zero, List.set_cons_succ, i64_w, i32_w]
                                  rfl
                                refine pure_ (i := 5) (N := some 74) (v := ?_) (a' := ?_) #[true, true, true, true, true, true, false, false, false, false, false, false, false, false] rfl rfl (any_of HT_.out (by kernel_rfl)) (fun _ _ _ h => h) (Or.inl ⟨by rfl, ?_⟩) ?_ ?_
                                rotate_left
                                · intro w'
                                  go_simp
                                  with_reducible rfl
                                rotate_left
                                · simp only [Act.put, List.setIfInBounds_toArray, List.set_cons_zero, List.set_cons_succ, i64_w, i32_w]
                                  rfl
                                refine pure_ (i := 6) (N := some 75) (v := ?_) (a' := ?_) #[true, true, true, true, true, true, true, false, false, false, false, false, false, false] rfl rfl (any_of HT_.out (by kernel_rfl)) (fun _ _ _ h => h) (Or.inl ⟨by rfl, ?_⟩) ?_ ?_
                                rotate_left
                                · intro w'
                                  go_simp
                                  with_reducible rfl
                                rotate_left
                                · simp only [Act.put, List.setIfInBounds_toArray, List.set_cons_zero, List.set_cons_succ, i64_w, i32_w]
                                  rfl
                                refine pure_ (i := 8) (N := some 77) (v := ?_) (a' := ?_) #[true, true, true, true, true, true, true, false, true, false, false, false, false, false] rfl rfl (any_of HT_.out (by kernel_rfl)) (fun _ _ _ h => h) (Or.inl ⟨by rfl, ?_⟩) ?_ ?_
                                rotate_left
                                · intro w'
                                  go_simp
                                  with_reducible rfl
                                rotate_left
                                · simp only [Act.put, List.setIfInBounds_toArray, List.set_cons_zero, List.set_cons_succ, i64_w, i32_w]
                                  rfl
                                refine pure_ (i := 9) (N := some 78) (v := ?_) (a' := ?_) #[true, true, true, true, true, true, true, false, true, true, false, false, false, false] rfl rfl (any_of HT_.out (by kernel_rfl)) (fun _ _ _ h => h) (Or.inl ⟨by rfl, ?_⟩) ?_ ?_
                                rotate_left
                                · intro w'
                                  go_simp
                                  with_reducible rfl
                                rotate_left
                                · simp only [Act.put, List.setIfInBounds_toArray, List.set_cons_zero, List.set_cons_succ, i64_w, i32_w]
                                  rfl
                                refine pure_ (i := 10) (N := some 79) (v := ?_) (a' := ?_) #[true, true, true, true, true, true, true, false, true, true, true, false, false, false] rfl rfl (any_of HT_.out (by kernel_rfl)) (fun _ _ _ h => h) (Or.inl ⟨by rfl, ?_⟩) ?_ ?_
                                rotate_left
                                · intro w'
                                  go_simp
                                  with_reducible rfl
                                rotate_left
                                · simp only [Act.put, List.setIfInBounds_toArray, List.set_cons_zero, List.set_cons_succ, i64_w, i32_w]
                                  rfl
                                refine take_ (i := 7) (N := some 76) (v := ?_) (a' := ?_) #[true, true, true, true, true, true, true, true, true, true, true, false, false, false] rfl rfl (take_ofW HT_.out HW_.out (by kernel_rfl)) (fun _ _ _ h => h) (Or.inl ⟨by rfl, ?_⟩) hHeld ?_ ?_
                                rotate_left
                                · rintro w' ⟨s0, s1, s2, s3, s4, s5⟩
                                  go_simp
                                  with_reducible rfl
                                rotate_left
                                · simp only [Act.put, List.setIfInBounds_toArray, List.set_cons_zero, List.set_cons_succ, i64_w, i32_w]
                                  rfl
                                refine take_ (i := 11) (N := some 80) (v := ?_) (a' := ?_) #[true, true, true, true, true, true, true, true, true, true, true, true, false, false] rfl rfl (take_ofW HT_.out HW_.out (by kernel_rfl)) (fun _ _ _ h => h) (Or.inl ⟨by rfl, ?_⟩) hHeld ?_ ?_
                                rotate_left
                                · rintro w' ⟨s0, s1, s2, s3, s4, s5⟩
                                  go_simp
                                  with_reducible rfl
                                rotate_left
                                · simp only [Act.put, List.setIfInBounds_toArray, List.set_cons_zero, List.set_cons_succ, i64_w, i32_w]
                                  rfl
                                refine pure_ (i := 12) (N := some 81) (v := ?_) (a' := ?_) #[true, true, true, true, true, true, true, true, true, true, true, true, true, false] rfl rfl (any_of HT_.out (by kernel_rfl)) (fun _ _ _ h => h) (Or.inl ⟨by rfl, ?_⟩) ?_ ?_
                                rotate_left
                                · intro w'
                                  go_simp
                                  with_reducible rfl
                                rotate_left
                                · simp only [Act.put, List.setIfInBounds_toArray, List.set_cons_zero, List.set_cons_succ, i64_w, i32_w]
                                  rfl
                                refine pure_ (i := 13) (N := some 82) (v := ?_) (a' := ?_) #[true, true, true, true, true, true, true, true, true, true, true, true, true, true] rfl rfl (any_of HT_.out (by kernel_rfl)) (fun _ _ _ h => h) (Or.inl ⟨by rfl, ?_⟩) ?_ ?_
                                rotate_left
                                · intro w'
                                  go_simp
                                  with_reducible rfl
                                rotate_left
                                · simp only [Act.put, List.setIfInBounds_toArray, List.set_cons_zero, List.set_cons_succ, i64_w, i32_w]
                                  rfl
                                refine done_ (done_of HT_.out (by kernel_rfl)) ?_
                                try go_wp2
                                go_roundg k2
                                case measure => have := HJ6.out; have := HK2.out; omega
                                case rel => exact ⟨(wrap64 (x18_2 + 1)), (by first | rfl | (simp; done) | (simp [*]; done)), H', ⟨by have := HJ6.out; have := HK2.out; omega⟩, ⟨by (with_reducible repeat (first | apply Kd.R_alloc | apply Kd.R_drewN | apply Kd.R_drew)); exact HO_14.out⟩, ⟨by (with_reducible repeat (first | apply Kd.R_alloc | apply Kd.R_drewN | apply Kd.R_drew)); exact HO_16.out⟩, ⟨by repeat (first | (with_reducible first | exact HB.out | apply below_alloc | apply pw_below_drewN | apply below_drew1) | exact HB.out)⟩⟩
                              · rw [if_neg c37] at H
                                have c37b0 : (((rd_T34 t101 x18_2).f0) == ((rd_T34 t107 x18_2).f0) && (((rd_T34 t101 x18_2).f1) == ((rd_T34 t107 x18_2).f1) && (((rd_T34 t101 x18_2).f2) == ((rd_T34 t107 x18_2).f2)))) = false := by simpa using c37
                                (try (have c37b1 : decide (((rd_T34 t101 x18_2).f0) = ((rd_T34 t107 x18_2).f0) && (((rd_T34 t101 x18_2).f1) == ((rd_T34 t107 x18_2).f1) && (((rd_T34 t101 x18_2).f2) == ((rd_T34 t107 x18_2).f2)))) = false := by simpa using c37))
                                (try (have c37b2 : (((rd_T34 t101 x18_2).f0) == ((rd_T34 t107 x18_2).f0) && (((rd_T34 t101 x18_2).f1) == ((rd_T34 t107 x18_2).f1) && (((rd_T34 t101 x18_2).f2) == ((rd_T34 t107 x18_2).f2)))) = false := by simpa using c37))
                                (try (have c37b3 : ¬ (((rd_T34 t101 x18_2).f0) = ((rd_T34 t107 x18_2).f0) && (((rd_T34 t101 x18_2).f1) == ((rd_T34 t107 x18_2).f1) && (((rd_T34 t101 x18_2).f2) == ((rd_T34 t107 x18_2).f2)))) := by simpa using c37))
                                clear c37
                                have H' := Aside0.mk H
                                clear H
                                try go_wp2
                                have n0_ := Aside0.mk (Kd.R_drew HO_14.out)
                                have n1_ := Aside0.mk (Kd.R_drew HO_16.out)
                                have n2_ := Aside0.mk (below_drew1 HB.out)
                                clear HO_14
                                clear HO_16
                                clear HB
                                have HO_14 := n0_
                                have HO_16 := n1_
                                have HB := n2_
                                clear n0_ n1_ n2_
                                have p111 : 0 ≤ (x18_2 : Int) := of_decide_eq_true (by first | (with_reducible assumption) | assumption)
                                have q111 : x18_2 < (t101.length : Int) := of_decide_eq_true (by first | (with_reducible assumption) | assumption)
                                obtain ⟨ad111, e111, hx111_0, hx111_1, hx111_2⟩ := at_T34 (Kd.R_reads' HO_14.out).2.2 x18_2 p111 q111
                                cases e111
                                replace p111 := eq_true p111
                                replace q111 := eq_true q111
                                have p112 : 0 ≤ (x18_2 : Int) := of_decide_eq_true (by first | (with_reducible assumption) | assumption)
                                have q112 : x18_2 < (t107.length : Int) := of_decide_eq_true (by first | (with_reducible assumption) | assumption)
                                obtain ⟨ad112, e112, hx112_0, hx112_1, hx112_2⟩ := at_T34 (Kd.R_reads' HO_16.out).2.2 x18_2 p112 q112
                                cases e112
                                replace p112 := eq_true p112
                                replace q112 := eq_true q112
                                refine start_ (n := 14) (S := fun w' => w'.cell? (ad111.add ((x18_2).toNat * 3)) = some (.int .i64 ((rd_T34 t101 x18_2).f0)) ∧ w'.cell? ⟨(ad111.add ((x18_2).toNat * 3)).block, (ad111.add ((x18_2).toNat * 3)).off + 1, none⟩ = some (.int .i64 ((rd_T34 t101 x18_2).f1)) ∧ w'.cell? ⟨(ad111.add ((x18_2).toNat * 3)).block, (ad111.add ((x18_2).toNat * 3)).off + 2, none⟩ = some (.int .i64 ((rd_T34 t101 x18_2).f2)) ∧ w'.cell? (ad112.add ((x18_2).toNat * 3)) = some (.int .i64 ((rd_T34 t107 x18_2).f0)) ∧ w'.cell? ⟨(ad112.add ((x18_2).toNat * 3)).block, (ad112.add ((x18_2).toNat * 3)).off + 1, none⟩ = some (.int .i64 ((rd_T34 t107 x18_2).f1)) ∧ w'.cell? ⟨(ad112.add ((x18_2).toNat * 3)).block, (ad112.add ((x18_2).toNat * 3)).off + 2, none⟩ = some (.int .i64 ((rd_T34 t107 x18_2).f2))) (ds := []) #[false, false, false, false, false, false, false, false, false, false, false, false, false, false] (by kernel_rfl) rfl rfl ⟨hx111_0, hx111_1, hx111_2, hx112_0, hx112_1, hx112_2⟩ (fun hHeld => ?_); refine with_tabW relex_Again.tab9 relex_Again.bits9 (fun HT_ HW_ => ?_)
                                generalize wr.drew = w39 at HO_14 HO_16 HB hx111_0 hx111_1 hx111_2 hx112_0 hx112_1 hx112_2 hHeld ⊢
                                refine pure_ (i := 0) (N := some 69) (v := ?_) (a' := ?_) #[true, false, false, false, false, false, false, false, false, false, false, false, false, false] rfl rfl (any_of HT_.out (by kernel_rfl)) (fun _ _ _ h => h) (Or.inl ⟨by rfl, ?_⟩) ?_ ?_
                                rotate_left
                                · intro w'
                                  go_simp
                                  with_reducible rfl
                                rotate_left
                                · simp only [Act.put, List.setIfInBounds_toArray, List.set_cons_zero, List.set_cons_succ, i64_w, i32_w]
                                  rfl
                                refine pure_ (i := 1) (N := some 70) (v := ?_) (a' := ?_) #[true, true, false, false, false, false, false, false, false, false, false, false, false, false] rfl rfl (any_of HT_.out (by kernel_rfl)) (fun _ _ _ h => h) (Or.inl ⟨by rfl, ?_⟩) ?_ ?_
                                rotate_left
                                · intro w'
                                  go_simp
                                  with_reducible rfl
                                rotate_left
                                · simp only [Act.put, List.setIfInBounds_toArray, List.set_cons_zero, List.set_cons_succ, i64_w, i32_w]
                                  rfl
                                refine pure_ (i := 2) (N := some 71) (v := ?_) (a' := ?_) #[true, true, true, false, false, false, false, false, false, false, false, false, false, false] rfl rfl (any_of HT_.out (by kernel_rfl)) (fun _ _ _ h => h) (Or.inl ⟨by rfl, ?_⟩) ?_ ?_
                                rotate_left
                                · intro w'
                                  go_simp
                                  with_reducible rfl
                                rotate_left
                                · simp only [Act.put, List.setIfInBounds_toArray, List.set_cons_zero, List.set_cons_succ, i64_w, i32_w]
                                  rfl
                                refine pure_ (i := 3) (N := some 72) (v := ?_) (a' := ?_) #[true, true, true, true, false, false, false, false, false, false, false, false, false, false] rfl rfl (any_of HT_.out (by kernel_rfl)) (fun _ _ _ h => h) (Or.inl ⟨by rfl, ?_⟩) ?_ ?_
                                rotate_left
                                · intro w'
                                  go_simp
                                  with_reducible rfl
                                rotate_left
                                · simp only [Act.put, List.setIfInBounds_toArray, List.set_cons_zero, List.set_cons_succ, i64_w, i32_w]
                                  rfl
                                refine pure_ (i := 4) (N := some 73) (v := ?_) (a' := ?_) #[true, true, true, true, true, false, false, false, false, false, false, false, false, false] rfl rfl (any_of HT_.out (by kernel_rfl)) (fun _ _ _ h => h) (Or.inl ⟨by rfl, ?_⟩) ?_ ?_
                                rotate_left
                                · intro w'
                                  go_simp
                                  with_reducible rfl
                                rotate_left
                                · simp only [Act.put, List.setIfInBounds_toArray, List.set_cons_zero, List.set_cons_succ, i64_w, i32_w]
                                  rfl
                                refine pure_ (i := 5) (N := some 74) (v := ?_) (a' := ?_) #[true, true, true, true, true, true, false, false, false, false, false, false, false, false] rfl rfl (any_of HT_.out (by kernel_rfl)) (fun _ _ _ h => h) (Or.inl ⟨by rfl, ?_⟩) ?_ ?_
                                rotate_left
                                · intro w'
                                  go_simp
                                  with_reducible rfl
                                rotate_left
                                · simp only [Act.put, List.setIfInBounds_toArray, List.set_cons_zero, List.set_cons_succ, i64_w, i32_w]
                                  rfl
                                refine pure_ (i := 6) (N := some 75) (v := ?_) (a' := ?_) #[true, true, true, true, true, true, true, false, false, false, false, false, false, false] rfl rfl (any_of HT_.out (by kernel_rfl)) (fun _ _ _ h => h) (Or.inl ⟨by rfl, ?_⟩) ?_ ?_
                                rotate_left
                                · intro w'
                                  go_simp
                                  with_reducible rfl
                                rotate_left
                                · simp only [Act.put, List.setIfInBounds_toArray, List.set_cons_zero, List.set_cons_succ, i64_w, i32_w]
                                  rfl
                                refine pure_ (i := 8) (N := some 77) (v := ?_) (a' := ?_) #[true, true, true, true, true, true, true, false, true, false, false, false, false, false] rfl rfl (any_of HT_.out (by kernel_rfl)) (fun _ _ _ h => h) (Or.inl ⟨by rfl, ?_⟩) ?_ ?_
                                rotate_left
                                · intro w'
                                  go_simp
                                  with_reducible rfl
                                rotate_left
                                · simp only [Act.put, List.setIfInBounds_toArray, List.set_cons_zero, List.set_cons_succ, i64_w, i32_w]
                                  rfl
                                refine pure_ (i := 9) (N := some 78) (v := ?_) (a' := ?_) #[true, true, true, true, true, true, true, false, true, true, false, false, false, false] rfl rfl (any_of HT_.out (by kernel_rfl)) (fun _ _ _ h => h) (Or.inl ⟨by rfl, ?_⟩) ?_ ?_
                                rotate_left
                                · intro w'
                                  go_simp
                                  with_reducible rfl
                                rotate_left
                                · simp only [Act.put, List.setIfInBounds_toArray, List.set_cons_zero, List.set_cons_succ, i64_w, i32_w]
                                  rfl
                                refine pure_ (i := 10) (N := some 79) (v := ?_) (a' := ?_) #[true, true, true, true, true, true, true, false, true, true, true, false, false, false] rfl rfl (any_of HT_.out (by kernel_rfl)) (fun _ _ _ h => h) (Or.inl ⟨by rfl, ?_⟩) ?_ ?_
                                rotate_left
                                · intro w'
                                  go_simp
                                  with_reducible rfl
                                rotate_left
                                · simp only [Act.put, List.setIfInBounds_toArray, List.set_cons_zero, List.set_cons_succ, i64_w, i32_w]
                                  rfl
                                refine take_ (i := 7) (N := some 76) (v := ?_) (a' := ?_) #[true, true, true, true, true, true, true, true, true, true, true, false, false, false] rfl rfl (take_ofW HT_.out HW_.out (by kernel_rfl)) (fun _ _ _ h => h) (Or.inl ⟨by rfl, ?_⟩) hHeld ?_ ?_
                                rotate_left
                                · rintro w' ⟨s0, s1, s2, s3, s4, s5⟩
                                  go_simp
                                  with_reducible rfl
                                rotate_left
                                · simp only [Act.put, List.setIfInBounds_toArray, List.set_cons_zero, List.set_cons_succ, i64_w, i32_w]
                                  rfl
                                refine take_ (i := 11) (N := some 80) (v := ?_) (a' := ?_) #[true, true, true, true, true, true, true, true, true, true, true, true, false, false] rfl rfl (take_ofW HT_.out HW_.out (by kernel_rfl)) (fun _ _ _ h => h) (Or.inl ⟨by rfl, ?_⟩) hHeld ?_ ?_
                                rotate_left
                                · rintro w' ⟨s0, s1, s2, s3, s4, s5⟩
                                  go_simp
                                  with_reducible rfl
                                rotate_left
                                · simp only [Act.put, List.setIfInBounds_toArray, List.set_cons_zero, List.set_cons_succ, i64_w, i32_w]
                                  rfl
                                refine pure_ (i := 12) (N := some 81) (v := ?_) (a' := ?_) #[true, true, true, true, true, true, true, true, true, true, true, true, true, false] rfl rfl (any_of HT_.out (by kernel_rfl)) (fun _ _ _ h => h) (Or.inl ⟨by rfl, ?_⟩) ?_ ?_
                                rotate_left
                                · intro w'
                                  go_simp
                                  with_reducible rfl
                                rotate_left
                                · simp only [Act.put, List.setIfInBounds_toArray, List.set_cons_zero, List.set_cons_succ, i64_w, i32_w]
                                  rfl
                                refine pure_ (i := 13) (N := some 82) (v := ?_) (a' := ?_) #[true, true, true, true, true, true, true, true, true, true, true, true, true, true] rfl rfl (any_of HT_.out (by kernel_rfl)) (fun _ _ _ h => h) (Or.inl ⟨by rfl, ?_⟩) ?_ ?_
                                rotate_left
                                · intro w'
                                  go_simp
                                  with_reducible rfl
                                rotate_left
                                · simp only [Act.put, List.setIfInBounds_toArray, List.set_cons_zero, List.set_cons_succ, i64_w, i32_w]
                                  rfl
                                refine done_ (done_of HT_.out (by kernel_rfl)) ?_
                                try go_wp2
                                go_meet
                                case rel => exact ⟨_, (x18_2), (by first | rfl | (simp; done) | (simp [*]; done)), H', ⟨by have := HJ6.out; have := HK2.out; first | omega | exact Nat.le_refl _⟩, ⟨by (with_reducible repeat (first | apply Kd.R_alloc | apply Kd.R_drewN | apply Kd.R_drew)); exact HO_14.out⟩, ⟨by (with_reducible repeat (first | apply Kd.R_alloc | apply Kd.R_drewN | apply Kd.R_drew)); exact HO_16.out⟩, ⟨by repeat (first | (with_reducible first | exact HB.out | apply below_alloc | apply pw_below_drewN | apply below_drew1) | exact HB.out)⟩⟩
                            · rw [if_neg c36] at H
                              exact absurd H (by simp)
                          · rw [if_neg c35] at H
                            exact absurd H (by simp)
                        · rw [if_neg c34] at H
                          exact absurd H (by simp)
                      · rw [if_neg c33] at H
                        have c33b0 : decide (x18_2 < ji27) = false := decide_eq_false c33
                        clear c33
                        (first | rw [c33b0] | (simp only [i64_w, i32_w]; rw [c33b0]) | skip)
                        have H' := Aside0.mk H
                        clear H
                        try go_wp2
                        have n0_ := Aside0.mk (Kd.R_drew HO_14.out)
                        have n1_ := Aside0.mk (Kd.R_drew HO_16.out)
                        have n2_ := Aside0.mk (below_drew1 HB.out)
                        clear HO_14
                        clear HO_16
                        clear HB
                        have HO_14 := n0_
                        have HO_16 := n1_
                        have HB := n2_
                        clear n0_ n1_ n2_
                        refine start_ (n := 14) (S := fun w' => True) (ds := []) #[false, false, false, false, false, false, false, false, false, false, false, false, false, false] (by kernel_rfl) rfl rfl trivial (fun hHeld => ?_); refine with_tabW relex_Again.tab9 relex_Again.bits9 (fun HT_ HW_ => ?_)
                        generalize wr.drew = w40 at HO_14 HO_16 HB hHeld ⊢
                        refine pure_ (i := 0) (N := some 69) (v := ?_) (a' := ?_) #[true, false, false, false, false, false, false, false, false, false, false, false, false, false] rfl rfl (any_of HT_.out (by kernel_rfl)) (fun _ _ _ h => h) (Or.inl ⟨by rfl, ?_⟩) ?_ ?_
                        rotate_left
                        · intro w'
                          go_simp
                          with_reducible rfl
                        rotate_left
                        · simp only [Act.put, List.setIfInBounds_toArray, List.set_cons_zero, List.set_cons_succ, i64_w, i32_w]
                          rfl
                        refine pure_ (i := 1) (N := some 70) (v := ?_) (a' := ?_) #[true, true, false, false, false, false, false, false, false, false, false, false, false, false] rfl rfl (any_of HT_.out (by kernel_rfl)) (fun _ _ _ h => h) (Or.inl ⟨by rfl, ?_⟩) ?_ ?_
                        rotate_left
                        · intro w'
                          go_simp
                          with_reducible rfl
                        rotate_left
                        · simp only [Act.put, List.setIfInBounds_toArray, List.set_cons_zero, List.set_cons_succ, i64_w, i32_w]
                          rfl
                        refine pure_ (i := 2) (N := some 71) (v := ?_) (a' := ?_) #[true, true, true, false, false, false, false, false, false, false, false, false, false, false] rfl rfl (any_of HT_.out (by kernel_rfl)) (fun _ _ _ h => h) (Or.inl ⟨by rfl, ?_⟩) ?_ ?_
                        rotate_left
                        · intro w'
                          go_simp
                          with_reducible rfl
                        rotate_left
                        · simp only [Act.put, List.setIfInBounds_toArray, List.set_cons_zero, List.set_cons_succ, i64_w, i32_w]
                          rfl
                        refine pure_ (i := 3) (N := some 72) (v := ?_) (a' := ?_) #[true, true, true, true, false, false, false, false, false, false, false, false, false, false] rfl rfl (any_of HT_.out (by kernel_rfl)) (fun _ _ _ h => h) (Or.inl ⟨by rfl, ?_⟩) ?_ ?_
                        rotate_left
                        · intro w'
                          go_simp
                          with_reducible rfl
                        rotate_left
                        · simp only [Act.put, List.setIfInBounds_toArray, List.set_cons_zero, List.set_cons_succ, i64_w, i32_w]
                          rfl
                        refine pure_ (i := 4) (N := some 73) (v := undef) (a' := ?_) #[true, true, true, true, true, false, false, false, false, false, false, false, false, false] rfl rfl (any_of HT_.out (by kernel_rfl)) (fun _ _ _ h => h) (Or.inr ⟨by rfl, rfl⟩) ?_ ?_
                        rotate_left
                        · simp only [Act.put, List.setIfInBounds_toArray, List.set_cons_zero, List.set_cons_succ, i64_w, i32_w]
                          rfl
                        refine pure_ (i := 5) (N := some 74) (v := undef) (a' := ?_) #[true, true, true, true, true, true, false, false, false, false, false, false, false, false] rfl rfl (any_of HT_.out (by kernel_rfl)) (fun _ _ _ h => h) (Or.inr ⟨by rfl, rfl⟩) ?_ ?_
                        rotate_left
                        · simp only [Act.put, List.setIfInBounds_toArray, List.set_cons_zero, List.set_cons_succ, i64_w, i32_w]
                          rfl
                        refine pure_ (i := 6) (N := some 75) (v := undef) (a' := ?_) #[true, true, true, true, true, true, true, false, false, false, false, false, false, false] rfl rfl (any_of HT_.out (by kernel_rfl)) (fun _ _ _ h => h) (Or.inr ⟨by rfl, rfl⟩) ?_ ?_
                        rotate_left
                        · simp only [Act.put, List.setIfInBounds_toArray, List.set_cons_zero, List.set_cons_succ, i64_w, i32_w]
                          rfl
                        refine pure_ (i := 7) (N := some 76) (v := undef) (a' := ?_) #[true, true, true, true, true, true, true, true, false, false, false, false, false, false] rfl rfl (any_of HT_.out (by kernel_rfl)) (fun _ _ _ h => h) (Or.inr ⟨by rfl, rfl⟩) ?_ ?_
                        rotate_left
                        · simp only [Act.put, List.setIfInBounds_toArray, List.set_cons_zero, List.set_cons_succ, i64_w, i32_w]
                          rfl
                        refine pure_ (i := 8) (N := some 77) (v := undef) (a' := ?_) #[true, true, true, true, true, true, true, true, true, false, false, false, false, false] rfl rfl (any_of HT_.out (by kernel_rfl)) (fun _ _ _ h => h) (Or.inr ⟨by rfl, rfl⟩) ?_ ?_
                        rotate_left
                        · simp only [Act.put, List.setIfInBounds_toArray, List.set_cons_zero, List.set_cons_succ, i64_w, i32_w]
                          rfl
                        refine pure_ (i := 9) (N := some 78) (v := undef) (a' := ?_) #[true, true, true, true, true, true, true, true, true, true, false, false, false, false] rfl rfl (any_of HT_.out (by kernel_rfl)) (fun _ _ _ h => h) (Or.inr ⟨by rfl, rfl⟩) ?_ ?_
                        rotate_left
                        · simp only [Act.put, List.setIfInBounds_toArray, List.set_cons_zero, List.set_cons_succ, i64_w, i32_w]
                          rfl
                        refine pure_ (i := 10) (N := some 79) (v := undef) (a' := ?_) #[true, true, true, true, true, true, true, true, true, true, true, false, false, false] rfl rfl (any_of HT_.out (by kernel_rfl)) (fun _ _ _ h => h) (Or.inr ⟨by rfl, rfl⟩) ?_ ?_
                        rotate_left
                        · simp only [Act.put, List.setIfInBounds_toArray, List.set_cons_zero, List.set_cons_succ, i64_w, i32_w]
                          rfl
                        refine pure_ (i := 11) (N := some 80) (v := undef) (a' := ?_) #[true, true, true, true, true, true, true, true, true, true, true, true, false, false] rfl rfl (any_of HT_.out (by kernel_rfl)) (fun _ _ _ h => h) (Or.inr ⟨by rfl, rfl⟩) ?_ ?_
                        rotate_left
                        · simp only [Act.put, List.setIfInBounds_toArray, List.set_cons_zero, List.set_cons_succ, i64_w, i32_w]
                          rfl
                        refine pure_ (i := 12) (N := some 81) (v := undef) (a' := ?_) #[true, true, true, true, true, true, true, true, true, true, true, true, true, false] rfl rfl (any_of HT_.out (by kernel_rfl)) (fun _ _ _ h => h) (Or.inr ⟨by rfl, rfl⟩) ?_ ?_
                        rotate_left
                        · simp only [Act.put, List.setIfInBounds_toArray, List.set_cons_zero, List.set_cons_succ, i64_w, i32_w]
                          rfl
                        refine pure_ (i := 13) (N := some 82) (v := ?_) (a' := ?_) #[true, true, true, true, true, true, true, true, true, true, true, true, true, true] rfl rfl (any_of HT_.out (by kernel_rfl)) (fun _ _ _ h => h) (Or.inl ⟨by rfl, ?_⟩) ?_ ?_
                        rotate_left
                        · intro w'
                          go_simp
                          with_reducible rfl
                        rotate_left
                        · simp only [Act.put, List.setIfInBounds_toArray, List.set_cons_zero, List.set_cons_succ, i64_w, i32_w]
                          rfl
                        refine done_ (done_of HT_.out (by kernel_rfl)) ?_
                        try go_wp2
                        go_meet
                        case rel => exact ⟨_, (x18_2), (by first | rfl | (simp; done) | (simp [*]; done)), H', ⟨by have := HJ6.out; have := HK2.out; first | omega | exact Nat.le_refl _⟩, ⟨by (with_reducible repeat (first | apply Kd.R_alloc | apply Kd.R_drewN | apply Kd.R_drew)); exact HO_14.out⟩, ⟨by (with_reducible repeat (first | apply Kd.R_alloc | apply Kd.R_drewN | apply Kd.R_drew)); exact HO_16.out⟩, ⟨by repeat (first | (with_reducible first | exact HB.out | apply below_alloc | apply pw_below_drewN | apply below_drew1) | exact HB.out)⟩⟩
                   case rest =>
                    clear HC28
                    try clear c1
                    try clear p1
                    try clear q1
                    try clear hx1
                    try clear c2
                    try clear p2
                    try clear c3
                    try clear p6
                    try clear c9
                    try clear c9b0
                    try clear c9b1
                    try clear c11
                    try clear p11
                    try clear q11
                    try clear hx11
                    try clear c12
                    try clear c13
                    try clear c17
                    try clear c18
                    try clear c18b0
                    try clear c18b1
                    try clear c19
                    try clear c19b0
                    try clear c19b1
                    try clear c20
                    try clear c20b0
                    try clear c20b1
                    try clear c20b2
                    try clear c22
                    try clear c22b0
                    try clear c22b1
                    try clear c23
                    try clear c23b0
                    try clear c23b1
                    try clear c24
                    try clear c24b0
                    try clear c24b1
                    try clear c24b2
                    try clear c26
                    try clear c26b0
                    try clear c26b1
                    try clear c33
                    try clear c33b0
                    try clear c34
                    try clear c34b0
                    try clear c35
                    try clear c35b0
                    try clear c36
                    try clear c36b0
                    try clear c37
                    try clear c37b0
                    try clear c37b1
                    try clear c37b2
                    try clear hx111_0
                    try clear hx111_1
                    try clear hx111_2
                    try clear hx112_0
                    try clear hx112_1
                    try clear hx112_2
                    try clear p111
                    try clear p112
                    try clear p2
                    try clear p6
                    try clear q111
                    try clear q112
                    obtain ⟨kq, x18_27, rfl, HA, HJ27, HO_14, HO_16, HB⟩ := hcut
                    cases kq with
                    | zero => exact absurd HA.out (by simp [relex_Again.j2])
                    | succ kj27 =>
                     have H := HA.out
                     clear HA
                     simp only [relex_Again.j2] at H
                     have H' := Aside0.mk H
                     clear H
                     go_wp2
                     go_loopg [20] kj27 (fun kq v20 w' => ∃ (x20_3 : Int), v20 = .int .i64 x20_3 ∧ Aside0 (relex_Again.l1 kq t101 t107 ji27 x18_27 (wrap64 ((a4.size : Int) - a3)) x20_3 = some (r1, r2, r3, r4)) ∧ Aside0 (kq ≤ kj27) ∧ Aside0 (Kd.R k34 34 w' w.heap.size (fun k_ => some k_ ≠ ((.slice Ao32 t107.length co32) : Value).ownBlock) (.slice Ao31 t101.length co31) t101) ∧ Aside0 (Kd.R k34 34 w' w.heap.size (fun k_ => some k_ ≠ ((.slice Ao31 t101.length co31) : Value).ownBlock) (.slice Ao32 t107.length co32) t107) ∧ Aside0 (Below w.heap.size w w'))
                     case atStart => exact ⟨(0), (by first | rfl | (simp; done) | (simp [*]; done)), H', ⟨Nat.le_refl _⟩, ⟨by (with_reducible repeat (first | apply Kd.R_alloc | apply Kd.R_drewN | apply Kd.R_drew)); exact HO_14.out⟩, ⟨by (with_reducible repeat (first | apply Kd.R_alloc | apply Kd.R_drewN | apply Kd.R_drew)); exact HO_16.out⟩, ⟨by repeat (first | (with_reducible first | exact HB.out | apply below_alloc | apply pw_below_drewN | apply below_drew1) | exact HB.out)⟩⟩
                     case round =>
                      clear H'
                      try clear c1
                      try clear p1
                      try clear q1
                      try clear hx1
                      try clear c2
                      try clear p2
                      try clear c3
                      try clear p6
                      try clear c9
                      try clear c9b0
                      try clear c9b1
                      try clear c11
                      try clear p11
                      try clear q11
                      try clear hx11
                      try clear c12
                      try clear c13
                      try clear c17
                      try clear c18
                      try clear c18b0
                      try clear c18b1
                      try clear c19
                      try clear c19b0
                      try clear c19b1
                      try clear c20
                      try clear c20b0
                      try clear c20b1
                      try clear c20b2
                      try clear c22
                      try clear c22b0
                      try clear c22b1
                      try clear c23
                      try clear c23b0
                      try clear c23b1
                      try clear c24
                      try clear c24b0
                      try clear c24b1
                      try clear c24b2
                      try clear c26
                      try clear c26b0
                      try clear c26b1
                      try clear c33
                      try clear c33b0
                      try clear c34
                      try clear c34b0
                      try clear c35
                      try clear c35b0
                      try clear c36
                      try clear c36b0
                      try clear c37
                      try clear c37b0
                      try clear c37b1
                      try clear c37b2
                      try clear hx111_0
                      try clear hx111_1
                      try clear hx111_2
                      try clear hx112_0
                      try clear hx112_1
                      try clear hx112_2
                      try clear p1
                      try clear p11
                      try clear p111
                      try clear p112
                      try clear p2
                      try clear p6
                      try clear q1
                      try clear q11
                      try clear q111
                      try clear q112
                      obtain ⟨x20_3, rfl, HA, HK3, HO_14, HO_16, HB⟩ := hrel
                      cases gk with
                      | zero => exact absurd HA.out (by simp [relex_Again.l1])
                      | succ k3 =>
                       have H := HA.out
                       clear HA
                       simp only [relex_Again.l1] at H
                       by_cases c41 : x20_3 < (wrap64 (ji27 - x18_27))
                       · rw [if_pos c41] at H
                         have c41b0 : decide (x20_3 < (wrap64 (ji27 - x18_27))) = true := decide_eq_true c41
                         clear c41
                         obtain ⟨ji42, hji42⟩ : ∃ j_ : Int, (wrap64 ((wrap64 ((t101.length : Int) - 1)) - x20_3)) = j_ := ⟨_, rfl⟩
                         replace H : (if 0 ≤ (ji42) then (if (ji42) < (t101.length : Int) then (if 0 ≤ (wrap64 ((wrap64 ((t107.length : Int) - 1)) - x20_3)) then (if (wrap64 ((wrap64 ((t107.length : Int) - 1)) - x20_3)) < (t107.length : Int) then (if (!(((rd_T34 t101 (ji42)).f0) == ((rd_T34 t107 (wrap64 ((wrap64 ((t107.length : Int) - 1)) - x20_3))).f0)) || (!((wrap64 (((rd_T34 t101 (ji42)).f1) + (wrap64 ((a4.size : Int) - a3)))) == ((rd_T34 t107 (wrap64 ((wrap64 ((t107.length : Int) - 1)) - x20_3))).f1)) || (!((wrap64 (((rd_T34 t101 (ji42)).f2) + (wrap64 ((a4.size : Int) - a3)))) == ((rd_T34 t107 (wrap64 ((wrap64 ((t107.length : Int) - 1)) - x20_3))).f2))))) = true then (some (t107, x18_27, x20_3, 0)) else (relex_Again.l1 k3 t101 t107 ji27 x18_27 (wrap64 ((a4.size : Int) - a3)) (wrap64 (x20_3 + 1)))) else (none)) else (none)) else (none)) else (none)) = some (r1, r2, r3, r4) := by first | (rw [hji42] at H; exact H) | (simp only [hji42] at H ⊢; exact H)
                         have hji42w : (IntKind.i64.wrap ((wrap64 ((t101.length : Int) - 1)) - x20_3)) = ji42 := (i64_w _).trans hji42
                         by_cases c43 : 0 ≤ (ji42)
                         · rw [if_pos c43] at H
                           have c43b0 : decide (0 ≤ (ji42)) = true := decide_eq_true c43
                           clear c43
                           by_cases c44 : (ji42) < (t101.length : Int)
                           · rw [if_pos c44] at H
                             have c44b0 : decide ((ji42) < (t101.length : Int)) = true := decide_eq_true c44
                             clear c44
                             obtain ⟨ji45, hji45⟩ : ∃ j_ : Int, (wrap64 ((wrap64 ((t107.length : Int) - 1)) - x20_3)) = j_ := ⟨_, rfl⟩
                             replace H : (if 0 ≤ (ji45) then (if (ji45) < (t107.length : Int) then (if (!(((rd_T34 t101 (ji42)).f0) == ((rd_T34 t107 (ji45)).f0)) || (!((wrap64 (((rd_T34 t101 (ji42)).f1) + (wrap64 ((a4.size : Int) - a3)))) == ((rd_T34 t107 (ji45)).f1)) || (!((wrap64 (((rd_T34 t101 (ji42)).f2) + (wrap64 ((a4.size : Int) - a3)))) == ((rd_T34 t107 (ji45)).f2))))) = true then (some (t107, x18_27, x20_3, 0)) else (relex_Again.l1 k3 t101 t107 ji27 x18_27 (wrap64 ((a4.size : Int) - a3)) (wrap64 (x20_3 + 1)))) else (none)) else (none)) = some (r1, r2, r3, r4) := by first | (rw [hji45] at H; exact H) | (simp only [hji45] at H ⊢; exact H)
                             have hji45w : (IntKind.i64.wrap ((wrap64 ((t107.length : Int) - 1)) - x20_3)) = ji45 := (i64_w _).trans hji45
                             by_cases c46 : 0 ≤ (ji45)
                             · rw [if_pos c46] at H
                               have c46b0 : decide (0 ≤ (ji45)) = true := decide_eq_true c46
                               clear c46
                               by_cases c47 : (ji45) < (t107.length : Int)
                               · rw [if_pos c47] at H
                                 have c47b0 : decide ((ji45) < (t107.length : Int)) = true := decide_eq_true c47
                                 clear c47
                                 by_cases c48 : (!(((rd_T34 t101 (ji42)).f0) == ((rd_T34 t107 (ji45)).f0)) || (!((wrap64 (((rd_T34 t101 (ji42)).f1) + (wrap64 ((a4.size : Int) - a3)))) == ((rd_T34 t107 (ji45)).f1)) || (!((wrap64 (((rd_T34 t101 (ji42)).f2) + (wrap64 ((a4.size : Int) - a3)))) == ((rd_T34 t107 (ji45)).f2))))) = true
                                 · rw [if_pos c48] at H
                                   have c48b0 : (!(((rd_T34 t101 (ji42)).f0) == ((rd_T34 t107 (ji45)).f0)) || (!((wrap64 (((rd_T34 t101 (ji42)).f1) + (wrap64 ((a4.size : Int) - a3)))) == ((rd_T34 t107 (ji45)).f1)) || (!((wrap64 (((rd_T34 t101 (ji42)).f2) + (wrap64 ((a4.size : Int) - a3)))) == ((rd_T34 t107 (ji45)).f2))))) = true := c48
                                   clear c48
                                   simp only [Option.some.injEq, Prod.mk.injEq] at H
                                   obtain ⟨rfl, rfl, rfl, rfl⟩ := H
                                   have p113 : 0 ≤ ((ji42) : Int) := of_decide_eq_true (by first | (with_reducible assumption) | assumption)
                                   have q113 : (ji42) < (t101.length : Int) := of_decide_eq_true (by first | (with_reducible assumption) | assumption)
                                   obtain ⟨ad113, e113, hx113_0, hx113_1, hx113_2⟩ := at_T34 (Kd.R_reads' HO_14.out).2.2 (ji42) p113 q113
                                   cases e113
                                   replace p113 := eq_true p113
                                   replace q113 := eq_true q113
                                   try go_wp2_with (first | ((with_reducible refine gate_dst (N := 21) rfl ?_); (try (refine gate_guard (by rfl) ?_; dsimp only)); refine box_event ?hg (N := 21) ?hd (cs := #[.int .i64 0, .int .i64 0, .int .i64 0]) (t := 34) ?hr ?_; (case hd => rfl); (case hg => rfl); (case hr => first | (go_simp; done) | (go_simp; rfl)); intro gb114 hg w49 hbox hb; have n0_ := Aside0.mk (Kd.R_below (Kd.R_elderB (by (with_reducible repeat (first | apply Kd.R_alloc | apply Kd.R_drewN | apply Kd.R_drew)); exact HO_14.out) gb114 (Nat.le_of_eq hg.symm)) hb); have n1_ := Aside0.mk (Kd.R_below (Kd.R_elderB (by (with_reducible repeat (first | apply Kd.R_alloc | apply Kd.R_drewN | apply Kd.R_drew)); exact HO_16.out) gb114 (Nat.le_of_eq hg.symm)) hb); have n2_ := Aside0.mk (below_step (by repeat (first | (with_reducible first | exact HB.out | apply below_alloc | apply pw_below_drewN | apply below_drew1) | exact HB.out)) hb); have n3_ := Aside0.mk (hbox); have n4_ := Aside0.mk ((by rw [hg]; exact (below_size (by repeat (first | (with_reducible first | exact HB.out | apply below_alloc | apply pw_below_drewN | apply below_drew1) | exact HB.out))) : w.heap.size ≤ gb114)); have n5_ := Aside0.mk ((by rw [hg]; exact (below_size (by repeat (first | (with_reducible first | exact HB.out | apply below_alloc | apply pw_below_drewN | apply below_drew1) | exact HB.out))) : w.heap.size ≤ gb114)); clear HO_14; clear HO_16; clear HB; have HO_14 := n0_; have HO_16 := n1_; have HB := n2_; have BK114 := n3_; have GW114 := n4_; have GE114 := n5_; clear n0_ n1_ n2_ n3_ n4_ n5_; clear hb hbox hg; have hcz50_0 : w49.cell? ⟨gb114, 0, none⟩ = some (.int .i64 0) := (blk_cell BK114.out 0).trans rfl; have hcz50_1 : w49.cell? ⟨gb114, 1, none⟩ = some (.int .i64 0) := (blk_cell BK114.out 1).trans rfl; have hcz50_2 : w49.cell? ⟨gb114, 2, none⟩ = some (.int .i64 0) := (blk_cell BK114.out 2).trans rfl; have hfz50_0 := blk_frozen BK114.out 0; have hfz50_1 := blk_frozen BK114.out 1; have hfz50_2 := blk_frozen BK114.out 2))
                                   have n0_ : Aside0 (Kd.R k34 34 (((((w49.setCell ⟨gb114, 0, none⟩ (.int .i64 ((rd_T34 t101 (ji42)).f0))).setCell ⟨gb114, 1, none⟩ (.int .i64 ((rd_T34 t101 (ji42)).f1))).setCell ⟨gb114, 2, none⟩ (.int .i64 ((rd_T34 t101 (ji42)).f2))).setCell ⟨gb114, 1, none⟩ (.int .i64 (wrap64 (((rd_T34 t101 (ji42)).f1) + (wrap64 ((a4.size : Int) - a3)))))).setCell ⟨gb114, 2, none⟩ (.int .i64 (wrap64 (((rd_T34 t101 (ji42)).f2) + (wrap64 ((a4.size : Int) - a3)))))) w.heap.size (fun k_ => some k_ ≠ (.slice Ao32 t107.length co32 : Value).ownBlock ∧ k_ ≠ gb114) (.slice (some ad113) t101.length co31) t101) := ⟨by (with_reducible repeat (first | apply Kd.R_alloc | apply Kd.R_drewN | apply Kd.R_drew)); exact Kd.R_mono (Kd.R_far (p := ⟨gb114, 2, none⟩) (Kd.R_far (p := ⟨gb114, 1, none⟩) (Kd.R_far (p := ⟨gb114, 2, none⟩) (Kd.R_far (p := ⟨gb114, 1, none⟩) (Kd.R_far (p := ⟨gb114, 0, none⟩) (Kd.R_mono HO_14.out (fun k_ hk => (⟨hk, hk.2⟩ : _ ∧ k_ ≠ gb114))) (fun _ hk => hk.2) (.int .i64 ((rd_T34 t101 (ji42)).f0))) (fun _ hk => hk.2) (.int .i64 ((rd_T34 t101 (ji42)).f1))) (fun _ hk => hk.2) (.int .i64 ((rd_T34 t101 (ji42)).f2))) (fun _ hk => hk.2) (.int .i64 (wrap64 (((rd_T34 t101 (ji42)).f1) + (wrap64 ((a4.size : Int) - a3)))))) (fun _ hk => hk.2) (.int .i64 (wrap64 (((rd_T34 t101 (ji42)).f2) + (wrap64 ((a4.size : Int) - a3)))))) (fun _ hk => ⟨hk.1.1, hk.1.2⟩)⟩
                                   have n1_ : Aside0 (Kd.R k34 34 (((((w49.setCell ⟨gb114, 0, none⟩ (.int .i64 ((rd_T34 t101 (ji42)).f0))).setCell ⟨gb114, 1, none⟩ (.int .i64 ((rd_T34 t101 (ji42)).f1))).setCell ⟨gb114, 2, none⟩ (.int .i64 ((rd_T34 t101 (ji42)).f2))).setCell ⟨gb114, 1, none⟩ (.int .i64 (wrap64 (((rd_T34 t101 (ji42)).f1) + (wrap64 ((a4.size : Int) - a3)))))).setCell ⟨gb114, 2, none⟩ (.int .i64 (wrap64 (((rd_T34 t101 (ji42)).f2) + (wrap64 ((a4.size : Int) - a3)))))) w.heap.size (fun k_ => some k_ ≠ (.slice (some ad113) t101.length co31 : Value).ownBlock ∧ k_ ≠ gb114) (.slice Ao32 t107.length co32) t107) := ⟨by (with_reducible repeat (first | apply Kd.R_alloc | apply Kd.R_drewN | apply Kd.R_drew)); exact Kd.R_mono (Kd.R_far (p := ⟨gb114, 2, none⟩) (Kd.R_far (p := ⟨gb114, 1, none⟩) (Kd.R_far (p := ⟨gb114, 2, none⟩) (Kd.R_far (p := ⟨gb114, 1, none⟩) (Kd.R_far (p := ⟨gb114, 0, none⟩) (Kd.R_mono HO_16.out (fun k_ hk => (⟨hk, hk.2⟩ : _ ∧ k_ ≠ gb114))) (fun _ hk => hk.2) (.int .i64 ((rd_T34 t101 (ji42)).f0))) (fun _ hk => hk.2) (.int .i64 ((rd_T34 t101 (ji42)).f1))) (fun _ hk => hk.2) (.int .i64 ((rd_T34 t101 (ji42)).f2))) (fun _ hk => hk.2) (.int .i64 (wrap64 (((rd_T34 t101 (ji42)).f1) + (wrap64 ((a4.size : Int) - a3)))))) (fun _ hk => hk.2) (.int .i64 (wrap64 (((rd_T34 t101 (ji42)).f2) + (wrap64 ((a4.size : Int) - a3)))))) (fun _ hk => ⟨hk.1.1, hk.1.2⟩)⟩
                                   have n2_ : Aside0 ((((((w49.setCell ⟨gb114, 0, none⟩ (.int .i64 ((rd_T34 t101 (ji42)).f0))).setCell ⟨gb114, 1, none⟩ (.int .i64 ((rd_T34 t101 (ji42)).f1))).setCell ⟨gb114, 2, none⟩ (.int .i64 ((rd_T34 t101 (ji42)).f2))).setCell ⟨gb114, 1, none⟩ (.int .i64 (wrap64 (((rd_T34 t101 (ji42)).f1) + (wrap64 ((a4.size : Int) - a3)))))).setCell ⟨gb114, 2, none⟩ (.int .i64 (wrap64 (((rd_T34 t101 (ji42)).f2) + (wrap64 ((a4.size : Int) - a3)))))).heap[gb114]? = some (.cells #[.int .i64 ((rd_T34 t101 (ji42)).f0), .int .i64 (wrap64 (((rd_T34 t101 (ji42)).f1) + (wrap64 ((a4.size : Int) - a3)))), .int .i64 (wrap64 (((rd_T34 t101 (ji42)).f2) + (wrap64 ((a4.size : Int) - a3))))] 34 (0, 0))) := ⟨by (with_reducible repeat (first | refine blk_drewN ?_ _ | refine blk_drew ?_ | refine blk_alloc ?_ _)); refine blk_put (cs := #[.int .i64 ((rd_T34 t101 (ji42)).f0), .int .i64 (wrap64 (((rd_T34 t101 (ji42)).f1) + (wrap64 ((a4.size : Int) - a3)))), .int .i64 ((rd_T34 t101 (ji42)).f2)]) ?_ 2 _ rfl; (with_reducible repeat (first | refine blk_drewN ?_ _ | refine blk_drew ?_ | refine blk_alloc ?_ _)); refine blk_put (cs := #[.int .i64 ((rd_T34 t101 (ji42)).f0), .int .i64 ((rd_T34 t101 (ji42)).f1), .int .i64 ((rd_T34 t101 (ji42)).f2)]) ?_ 1 _ rfl; (with_reducible repeat (first | refine blk_drewN ?_ _ | refine blk_drew ?_ | refine blk_alloc ?_ _)); refine blk_put (cs := #[.int .i64 ((rd_T34 t101 (ji42)).f0), .int .i64 ((rd_T34 t101 (ji42)).f1), .int .i64 0]) ?_ 2 _ rfl; (with_reducible repeat (first | refine blk_drewN ?_ _ | refine blk_drew ?_ | refine blk_alloc ?_ _)); refine blk_put (cs := #[.int .i64 ((rd_T34 t101 (ji42)).f0), .int .i64 0, .int .i64 0]) ?_ 1 _ rfl; (with_reducible repeat (first | refine blk_drewN ?_ _ | refine blk_drew ?_ | refine blk_alloc ?_ _)); refine blk_put (cs := #[.int .i64 0, .int .i64 0, .int .i64 0]) ?_ 0 _ rfl; (with_reducible repeat (first | refine blk_drewN ?_ _ | refine blk_drew ?_ | refine blk_alloc ?_ _)); exact BK114.out⟩
                                   have n3_ : Aside0 (Below w.heap.size w (((((w49.setCell ⟨gb114, 0, none⟩ (.int .i64 ((rd_T34 t101 (ji42)).f0))).setCell ⟨gb114, 1, none⟩ (.int .i64 ((rd_T34 t101 (ji42)).f1))).setCell ⟨gb114, 2, none⟩ (.int .i64 ((rd_T34 t101 (ji42)).f2))).setCell ⟨gb114, 1, none⟩ (.int .i64 (wrap64 (((rd_T34 t101 (ji42)).f1) + (wrap64 ((a4.size : Int) - a3)))))).setCell ⟨gb114, 2, none⟩ (.int .i64 (wrap64 (((rd_T34 t101 (ji42)).f2) + (wrap64 ((a4.size : Int) - a3))))))) := ⟨by repeat (first | (with_reducible first | exact HB.out | apply below_alloc | apply pw_below_drewN | apply below_drew1 | refine below_set ?_ GE114.out) | exact HB.out)⟩
                                   (try clear HO_14)
                                   (try clear HO_16)
                                   (try clear BK114)
                                   (try clear HB)
                                   generalize (((((w49.setCell ⟨gb114, 0, none⟩ (.int .i64 ((rd_T34 t101 (ji42)).f0))).setCell ⟨gb114, 1, none⟩ (.int .i64 ((rd_T34 t101 (ji42)).f1))).setCell ⟨gb114, 2, none⟩ (.int .i64 ((rd_T34 t101 (ji42)).f2))).setCell ⟨gb114, 1, none⟩ (.int .i64 (wrap64 (((rd_T34 t101 (ji42)).f1) + (wrap64 ((a4.size : Int) - a3)))))).setCell ⟨gb114, 2, none⟩ (.int .i64 (wrap64 (((rd_T34 t101 (ji42)).f2) + (wrap64 ((a4.size : Int) - a3)))))) = w51 at n0_ n1_ n2_ n3_ ⊢
                                   have HO_14 := n0_
                                   have HO_16 := n1_
                                   have BK114 := n2_
                                   have HB := n3_
                                   clear n0_ n1_ n2_ n3_
                                   have n0_ := Aside0.mk (Kd.R_drew HO_14.out)
                                   have n1_ := Aside0.mk (Kd.R_drew HO_16.out)
                                   have n2_ := Aside0.mk (blk_drew BK114.out)
                                   have n3_ := Aside0.mk (below_drew1 HB.out)
                                   clear HO_14
                                   clear HO_16
                                   clear BK114
                                   clear HB
                                   have HO_14 := n0_
                                   have HO_16 := n1_
                                   have BK114 := n2_
                                   have HB := n3_
                                   clear n0_ n1_ n2_ n3_
                                   have p115 : 0 ≤ ((ji45) : Int) := of_decide_eq_true (by first | (with_reducible assumption) | assumption)
                                   have q115 : (ji45) < (t107.length : Int) := of_decide_eq_true (by first | (with_reducible assumption) | assumption)
                                   obtain ⟨ad115, e115, hx115_0, hx115_1, hx115_2⟩ := at_T34 (Kd.R_reads' HO_16.out).2.2 (ji45) p115 q115
                                   cases e115
                                   replace p115 := eq_true p115
                                   replace q115 := eq_true q115
                                   refine start_ (n := 10) (S := fun w' => w'.cell? ⟨gb114, 0, none⟩ = some (.int .i64 ((rd_T34 t101 (ji42)).f0)) ∧ w'.cell? ⟨gb114, 1, none⟩ = some (.int .i64 (wrap64 (((rd_T34 t101 (ji42)).f1) + (wrap64 ((a4.size : Int) - a3))))) ∧ w'.cell? ⟨gb114, 2, none⟩ = some (.int .i64 (wrap64 (((rd_T34 t101 (ji42)).f2) + (wrap64 ((a4.size : Int) - a3))))) ∧ w'.cell? (ad115.add (((ji45)).toNat * 3)) = some (.int .i64 ((rd_T34 t107 (ji45)).f0)) ∧ w'.cell? ⟨(ad115.add (((ji45)).toNat * 3)).block, (ad115.add (((ji45)).toNat * 3)).off + 1, none⟩ = some (.int .i64 ((rd_T34 t107 (ji45)).f1)) ∧ w'.cell? ⟨(ad115.add (((ji45)).toNat * 3)).block, (ad115.add (((ji45)).toNat * 3)).off + 2, none⟩ = some (.int .i64 ((rd_T34 t107 (ji45)).f2))) (ds := []) #[false, false, false, false, false, false, false, false, false, false] (by kernel_rfl) rfl rfl ⟨(blk_cell BK114.out 0).trans rfl, (blk_cell BK114.out 1).trans rfl, (blk_cell BK114.out 2).trans rfl, hx115_0, hx115_1, hx115_2⟩ (fun hHeld => ?_); refine with_tabW relex_Again.tab16 relex_Again.bits16 (fun HT_ HW_ => ?_)
                                   generalize w51.drew = w52 at HO_14 HO_16 BK114 HB hx115_0 hx115_1 hx115_2 hHeld ⊢
                                   refine pure_ (i := 1) (N := some 113) (v := ?_) (a' := ?_) #[false, true, false, false, false, false, false, false, false, false] rfl rfl (any_of HT_.out (by kernel_rfl)) (fun _ _ _ h => h) (Or.inl ⟨by rfl, ?_⟩) ?_ ?_
                                   rotate_left
                                   · intro w'
                                     go_simp
                                     with_reducible rfl
                                   rotate_left
                                   · simp only [Act.put, List.setIfInBounds_toArray, List.set_cons_zero, List.set_cons_succ, i64_w, i32_w]
                                     rfl
                                   refine pure_ (i := 2) (N := some 114) (v := ?_) (a' := ?_) #[false, true, true, false, false, false, false, false, false, false] rfl rfl (any_of HT_.out (by kernel_rfl)) (fun _ _ _ h => h) (Or.inl ⟨by rfl, ?_⟩) ?_ ?_
                                   rotate_left
                                   · intro w'
                                     go_simp
                                     with_reducible rfl
                                   rotate_left
                                   · simp only [Act.put, List.setIfInBounds_toArray, List.set_cons_zero, List.set_cons_succ, i64_w, i32_w]
                                     rfl
                                   refine pure_ (i := 3) (N := some 115) (v := ?_) (a' := ?_) #[false, true, true, true, false, false, false, false, false, false] rfl rfl (any_of HT_.out (by kernel_rfl)) (fun _ _ _ h => h) (Or.inl ⟨by rfl, ?_⟩) ?_ ?_
                                   rotate_left
                                   · intro w'
                                     go_simp
                                     with_reducible rfl
                                   rotate_left
                                   · simp only [Act.put, List.setIfInBounds_toArray, List.set_cons_zero, List.set_cons_succ, i64_w, i32_w]
                                     rfl
                                   refine pure_ (i := 4) (N := some 116) (v := ?_) (a' := ?_) #[false, true, true, true, true, false, false, false, false, false] rfl rfl (any_of HT_.out (by kernel_rfl)) (fun _ _ _ h => h) (Or.inl ⟨by rfl, ?_⟩) ?_ ?_
                                   rotate_left
                                   · intro w'
                                     go_simp
                                     with_reducible rfl
                                   rotate_left
                                   · simp only [Act.put, List.setIfInBounds_toArray, List.set_cons_zero, List.set_cons_succ, i64_w, i32_w]
                                     rfl
                                   refine pure_ (i := 5) (N := some 117) (v := ?_) (a' := ?_) #[false, true, true, true, true, true, false, false, false, false] rfl rfl (any_of HT_.out (by kernel_rfl)) (fun _ _ _ h => h) (Or.inl ⟨by rfl, ?_⟩) ?_ ?_
                                   rotate_left
                                   · intro w'
                                     go_simp
                                     with_reducible rfl
                                   rotate_left
                                   · simp only [Act.put, List.setIfInBounds_toArray, List.set_cons_zero, List.set_cons_succ, i64_w, i32_w]
                                     rfl
                                   refine pure_ (i := 6) (N := some 118) (v := ?_) (a' := ?_) #[false, true, true, true, true, true, true, false, false, false] rfl rfl (any_of HT_.out (by kernel_rfl)) (fun _ _ _ h => h) (Or.inl ⟨by rfl, ?_⟩) ?_ ?_
                                   rotate_left
                                   · intro w'
                                     go_simp
                                     with_reducible rfl
                                   rotate_left
                                   · simp only [Act.put, List.setIfInBounds_toArray, List.set_cons_zero, List.set_cons_succ, i64_w, i32_w]
                                     rfl
                                   refine pure_ (i := 7) (N := some 119) (v := ?_) (a' := ?_) #[false, true, true, true, true, true, true, true, false, false] rfl rfl (any_of HT_.out (by kernel_rfl)) (fun _ _ _ h => h) (Or.inl ⟨by rfl, ?_⟩) ?_ ?_
                                   rotate_left
                                   · intro w'
                                     go_simp
                                     with_reducible rfl
                                   rotate_left
                                   · simp only [Act.put, List.setIfInBounds_toArray, List.set_cons_zero, List.set_cons_succ, i64_w, i32_w]
                                     rfl
                                   refine take_ (i := 0) (N := some 112) (v := ?_) (a' := ?_) #[true, true, true, true, true, true, true, true, false, false] rfl rfl (take_ofW HT_.out HW_.out (by kernel_rfl)) (fun _ _ _ h => h) (Or.inl ⟨by rfl, ?_⟩) hHeld ?_ ?_
                                   rotate_left
                                   · rintro w' ⟨s0, s1, s2, s3, s4, s5⟩
                                     go_simp
                                     with_reducible rfl
                                   rotate_left
                                   · simp only [Act.put, List.setIfInBounds_toArray, List.set_cons_zero, List.set_cons_succ, i64_w, i32_w]
                                     rfl
                                   refine take_ (i := 8) (N := some 120) (v := ?_) (a' := ?_) #[true, true, true, true, true, true, true, true, true, false] rfl rfl (take_ofW HT_.out HW_.out (by kernel_rfl)) (fun _ _ _ h => h) (Or.inl ⟨by rfl, ?_⟩) hHeld ?_ ?_
                                   rotate_left
                                   · rintro w' ⟨s0, s1, s2, s3, s4, s5⟩
                                     go_simp
                                     with_reducible rfl
                                   rotate_left
                                   · simp only [Act.put, List.setIfInBounds_toArray, List.set_cons_zero, List.set_cons_succ, i64_w, i32_w]
                                     rfl
                                   refine pure_ (i := 9) (N := some 121) (v := ?_) (a' := ?_) #[true, true, true, true, true, true, true, true, true, true] rfl rfl (any_of HT_.out (by kernel_rfl)) (fun _ _ _ h => h) (Or.inl ⟨by rfl, ?_⟩) ?_ ?_
                                   rotate_left
                                   · intro w'
                                     go_simp
                                     with_reducible rfl
                                   rotate_left
                                   · simp only [Act.put, List.setIfInBounds_toArray, List.set_cons_zero, List.set_cons_succ, i64_w, i32_w]
                                     rfl
                                   refine done_ (done_of HT_.out (by kernel_rfl)) ?_
                                   try go_wp2
                                   refine bodyPost_ret (results_list (rs := [.tmp 10, .tmp 11, .tmp 12, .tmp 13]) rfl (by simp) (.tmp (.tmp (.tmp (.tmp .nil))))) rfl ?_
                                   exact ⟨_, by first | rfl | (simp [errW_none, errW_some] <;> rfl) | (simp only [← hji21, ← hji27, ← hji42, ← hji45]; first | rfl | (simp [errW_none, errW_some] <;> rfl)) | (simp [*, errW_none, errW_some] <;> rfl), by (with_reducible repeat (first | apply Kd.R_alloc | apply Kd.R_drewN | apply Kd.R_drew)); exact Kd.R_mono HO_16.out (fun _ hk => trivial), by repeat (first | (with_reducible first | exact HB.out | apply below_alloc | apply pw_below_drewN | apply below_drew1 | refine below_set ?_ GE114.out) | exact HB.out)⟩
                                 · rw [if_neg c48] at H
                                   have c48b0 : (!(((rd_T34 t101 (ji42)).f0) == ((rd_T34 t107 (ji45)).f0)) || (!((wrap64 (((rd_T34 t101 (ji42)).f1) + (wrap64 ((a4.size : Int) - a3)))) == ((rd_T34 t107 (ji45)).f1)) || (!((wrap64 (((rd_T34 t101 (ji42)).f2) + (wrap64 ((a4.size : Int) - a3)))) == ((rd_T34 t107 (ji45)).f2))))) = false := by simpa using c48
                                   clear c48
                                   have H' := Aside0.mk H
                                   clear H
                                   have p113 : 0 ≤ ((ji42) : Int) := of_decide_eq_true (by first | (with_reducible assumption) | assumption)
                                   have q113 : (ji42) < (t101.length : Int) := of_decide_eq_true (by first | (with_reducible assumption) | assumption)
                                   obtain ⟨ad113, e113, hx113_0, hx113_1, hx113_2⟩ := at_T34 (Kd.R_reads' HO_14.out).2.2 (ji42) p113 q113
                                   cases e113
                                   replace p113 := eq_true p113
                                   replace q113 := eq_true q113
                                   try go_wp2_with (first | ((with_reducible refine gate_dst (N := 21) rfl ?_); (try (refine gate_guard (by rfl) ?_; dsimp only)); refine box_event ?hg (N := 21) ?hd (cs := #[.int .i64 0, .int .i64 0, .int .i64 0]) (t := 34) ?hr ?_; (case hd => rfl); (case hg => rfl); (case hr => first | (go_simp; done) | (go_simp; rfl)); intro gb114 hg w53 hbox hb; have n0_ := Aside0.mk (Kd.R_below (Kd.R_elderB (by (with_reducible repeat (first | apply Kd.R_alloc | apply Kd.R_drewN | apply Kd.R_drew)); exact HO_14.out) gb114 (Nat.le_of_eq hg.symm)) hb); have n1_ := Aside0.mk (Kd.R_below (Kd.R_elderB (by (with_reducible repeat (first | apply Kd.R_alloc | apply Kd.R_drewN | apply Kd.R_drew)); exact HO_16.out) gb114 (Nat.le_of_eq hg.symm)) hb); have n2_ := Aside0.mk (below_step (by repeat (first | (with_reducible first | exact HB.out | apply below_alloc | apply pw_below_drewN | apply below_drew1) | exact HB.out)) hb); have n3_ := Aside0.mk (hbox); have n4_ := Aside0.mk ((by rw [hg]; exact (below_size (by repeat (first | (with_reducible first | exact HB.out | apply below_alloc | apply pw_below_drewN | apply below_drew1) | exact HB.out))) : w.heap.size ≤ gb114)); have n5_ := Aside0.mk ((by rw [hg]; exact (below_size (by repeat (first | (with_reducible first | exact HB.out | apply below_alloc | apply pw_below_drewN | apply below_drew1) | exact HB.out))) : w.heap.size ≤ gb114)); clear HO_14; clear HO_16; clear HB; have HO_14 := n0_; have HO_16 := n1_; have HB := n2_; have BK114 := n3_; have GW114 := n4_; have GE114 := n5_; clear n0_ n1_ n2_ n3_ n4_ n5_; clear hb hbox hg; have hcz54_0 : w53.cell? ⟨gb114, 0, none⟩ = some (.int .i64 0) := (blk_cell BK114.out 0).trans rfl; have hcz54_1 : w53.cell? ⟨gb114, 1, none⟩ = some (.int .i64 0) := (blk_cell BK114.out 1).trans rfl; have hcz54_2 : w53.cell? ⟨gb114, 2, none⟩ = some (.int .i64 0) := (blk_cell BK114.out 2).trans rfl; have hfz54_0 := blk_frozen BK114.out 0; have hfz54_1 := blk_frozen BK114.out 1; have hfz54_2 := blk_frozen BK114.out 2))
                                   have n0_ : Aside0 (Kd.R k34 34 (((((w53.setCell ⟨gb114, 0, none⟩ (.int .i64 ((rd_T34 t101 (ji42)).f0))).setCell ⟨gb114, 1, none⟩ (.int .i64 ((rd_T34 t101 (ji42)).f1))).setCell ⟨gb114, 2, none⟩ (.int .i64 ((rd_T34 t101 (ji42)).f2))).setCell ⟨gb114, 1, none⟩ (.int .i64 (wrap64 (((rd_T34 t101 (ji42)).f1) + (wrap64 ((a4.size : Int) - a3)))))).setCell ⟨gb114, 2, none⟩ (.int .i64 (wrap64 (((rd_T34 t101 (ji42)).f2) + (wrap64 ((a4.size : Int) - a3)))))) w.heap.size (fun k_ => some k_ ≠ (.slice Ao32 t107.length co32 : Value).ownBlock ∧ k_ ≠ gb114) (.slice (some ad113) t101.length co31) t101) := ⟨by (with_reducible repeat (first | apply Kd.R_alloc | apply Kd.R_drewN | apply Kd.R_drew)); exact Kd.R_mono (Kd.R_far (p := ⟨gb114, 2, none⟩) (Kd.R_far (p := ⟨gb114, 1, none⟩) (Kd.R_far (p := ⟨gb114, 2, none⟩) (Kd.R_far (p := ⟨gb114, 1, none⟩) (Kd.R_far (p := ⟨gb114, 0, none⟩) (Kd.R_mono HO_14.out (fun k_ hk => (⟨hk, hk.2⟩ : _ ∧ k_ ≠ gb114))) (fun _ hk => hk.2) (.int .i64 ((rd_T34 t101 (ji42)).f0))) (fun _ hk => hk.2) (.int .i64 ((rd_T34 t101 (ji42)).f1))) (fun _ hk => hk.2) (.int .i64 ((rd_T34 t101 (ji42)).f2))) (fun _ hk => hk.2) (.int .i64 (wrap64 (((rd_T34 t101 (ji42)).f1) + (wrap64 ((a4.size : Int) - a3)))))) (fun _ hk => hk.2) (.int .i64 (wrap64 (((rd_T34 t101 (ji42)).f2) + (wrap64 ((a4.size : Int) - a3)))))) (fun _ hk => ⟨hk.1.1, hk.1.2⟩)⟩
                                   have n1_ : Aside0 (Kd.R k34 34 (((((w53.setCell ⟨gb114, 0, none⟩ (.int .i64 ((rd_T34 t101 (ji42)).f0))).setCell ⟨gb114, 1, none⟩ (.int .i64 ((rd_T34 t101 (ji42)).f1))).setCell ⟨gb114, 2, none⟩ (.int .i64 ((rd_T34 t101 (ji42)).f2))).setCell ⟨gb114, 1, none⟩ (.int .i64 (wrap64 (((rd_T34 t101 (ji42)).f1) + (wrap64 ((a4.size : Int) - a3)))))).setCell ⟨gb114, 2, none⟩ (.int .i64 (wrap64 (((rd_T34 t101 (ji42)).f2) + (wrap64 ((a4.size : Int) - a3)))))) w.heap.size (fun k_ => some k_ ≠ (.slice (some ad113) t101.length co31 : Value).ownBlock ∧ k_ ≠ gb114) (.slice Ao32 t107.length co32) t107) := ⟨by (with_reducible repeat (first | apply Kd.R_alloc | apply Kd.R_drewN | apply Kd.R_drew)); exact Kd.R_mono (Kd.R_far (p := ⟨gb114, 2, none⟩) (Kd.R_far (p := ⟨gb114, 1, none⟩) (Kd.R_far (p := ⟨gb114, 2, none⟩) (Kd.R_far (p := ⟨gb114, 1, none⟩) (Kd.R_far (p := ⟨gb114, 0, none⟩) (Kd.R_mono HO_16.out (fun k_ hk => (⟨hk, hk.2⟩ : _ ∧ k_ ≠ gb114))) (fun _ hk => hk.2) (.int .i64 ((rd_T34 t101 (ji42)).f0))) (fun _ hk => hk.2) (.int .i64 ((rd_T34 t101 (ji42)).f1))) (fun _ hk => hk.2) (.int .i64 ((rd_T34 t101 (ji42)).f2))) (fun _ hk => hk.2) (.int .i64 (wrap64 (((rd_T34 t101 (ji42)).f1) + (wrap64 ((a4.size : Int) - a3)))))) (fun _ hk => hk.2) (.int .i64 (wrap64 (((rd_T34 t101 (ji42)).f2) + (wrap64 ((a4.size : Int) - a3)))))) (fun _ hk => ⟨hk.1.1, hk.1.2⟩)⟩
                                   have n2_ : Aside0 ((((((w53.setCell ⟨gb114, 0, none⟩ (.int .i64 ((rd_T34 t101 (ji42)).f0))).setCell ⟨gb114, 1, none⟩ (.int .i64 ((rd_T34 t101 (ji42)).f1))).setCell ⟨gb114, 2, none⟩ (.int .i64 ((rd_T34 t101 (ji42)).f2))).setCell ⟨gb114, 1, none⟩ (.int .i64 (wrap64 (((rd_T34 t101 (ji42)).f1) + (wrap64 ((a4.size : Int) - a3)))))).setCell ⟨gb114, 2, none⟩ (.int .i64 (wrap64 (((rd_T34 t101 (ji42)).f2) + (wrap64 ((a4.size : Int) - a3)))))).heap[gb114]? = some (.cells #[.int .i64 ((rd_T34 t101 (ji42)).f0), .int .i64 (wrap64 (((rd_T34 t101 (ji42)).f1) + (wrap64 ((a4.size : Int) - a3)))), .int .i64 (wrap64 (((rd_T34 t101 (ji42)).f2) + (wrap64 ((a4.size : Int) - a3))))] 34 (0, 0))) := ⟨by (with_reducible repeat (first | refine blk_drewN ?_ _ | refine blk_drew ?_ | refine blk_alloc ?_ _)); refine blk_put (cs := #[.int .i64 ((rd_T34 t101 (ji42)).f0), .int .i64 (wrap64 (((rd_T34 t101 (ji42)).f1) + (wrap64 ((a4.size : Int) - a3)))), .int .i64 ((rd_T34 t101 (ji42)).f2)]) ?_ 2 _ rfl; (with_reducible repeat (first | refine blk_drewN ?_ _ | refine blk_drew ?_ | refine blk_alloc ?_ _)); refine blk_put (cs := #[.int .i64 ((rd_T34 t101 (ji42)).f0), .int .i64 ((rd_T34 t101 (ji42)).f1), .int .i64 ((rd_T34 t101 (ji42)).f2)]) ?_ 1 _ rfl; (with_reducible repeat (first | refine blk_drewN ?_ _ | refine blk_drew ?_ | refine blk_alloc ?_ _)); refine blk_put (cs := #[.int .i64 ((rd_T34 t101 (ji42)).f0), .int .i64 ((rd_T34 t101 (ji42)).f1), .int .i64 0]) ?_ 2 _ rfl; (with_reducible repeat (first | refine blk_drewN ?_ _ | refine blk_drew ?_ | refine blk_alloc ?_ _)); refine blk_put (cs := #[.int .i64 ((rd_T34 t101 (ji42)).f0), .int .i64 0, .int .i64 0]) ?_ 1 _ rfl; (with_reducible repeat (first | refine blk_drewN ?_ _ | refine blk_drew ?_ | refine blk_alloc ?_ _)); refine blk_put (cs := #[.int .i64 0, .int .i64 0, .int .i64 0]) ?_ 0 _ rfl; (with_reducible repeat (first | refine blk_drewN ?_ _ | refine blk_drew ?_ | refine blk_alloc ?_ _)); exact BK114.out⟩
                                   have n3_ : Aside0 (Below w.heap.size w (((((w53.setCell ⟨gb114, 0, none⟩ (.int .i64 ((rd_T34 t101 (ji42)).f0))).setCell ⟨gb114, 1, none⟩ (.int .i64 ((rd_T34 t101 (ji42)).f1))).setCell ⟨gb114, 2, none⟩ (.int .i64 ((rd_T34 t101 (ji42)).f2))).setCell ⟨gb114, 1, none⟩ (.int .i64 (wrap64 (((rd_T34 t101 (ji42)).f1) + (wrap64 ((a4.size : Int) - a3)))))).setCell ⟨gb114, 2, none⟩ (.int .i64 (wrap64 (((rd_T34 t101 (ji42)).f2) + (wrap64 ((a4.size : Int) - a3))))))) := ⟨by repeat (first | (with_reducible first | exact HB.out | apply below_alloc | apply pw_below_drewN | apply below_drew1 | refine below_set ?_ GE114.out) | exact HB.out)⟩
                                   (try clear HO_14)
                                   (try clear HO_16)
                                   (try clear BK114)
                                   (try clear HB)
                                   generalize (((((w53.setCell ⟨gb114, 0, none⟩ (.int .i64 ((rd_T34 t101 (ji42)).f0))).setCell ⟨gb114, 1, none⟩ (.int .i64 ((rd_T34 t101 (ji42)).f1))).setCell ⟨gb114, 2, none⟩ (.int .i64 ((rd_T34 t101 (ji42)).f2))).setCell ⟨gb114, 1, none⟩ (.int .i64 (wrap64 (((rd_T34 t101 (ji42)).f1) + (wrap64 ((a4.size : Int) - a3)))))).setCell ⟨gb114, 2, none⟩ (.int .i64 (wrap64 (((rd_T34 t101 (ji42)).f2) + (wrap64 ((a4.size : Int) - a3)))))) = w55 at n0_ n1_ n2_ n3_ ⊢
                                   have HO_14 := n0_
                                   have HO_16 := n1_
                                   have BK114 := n2_
                                   have HB := n3_
                                   clear n0_ n1_ n2_ n3_
                                   have n0_ := Aside0.mk (Kd.R_drew HO_14.out)
                                   have n1_ := Aside0.mk (Kd.R_drew HO_16.out)
                                   have n2_ := Aside0.mk (blk_drew BK114.out)
                                   have n3_ := Aside0.mk (below_drew1 HB.out)
                                   clear HO_14
                                   clear HO_16
                                   clear BK114
                                   clear HB
                                   have HO_14 := n0_
                                   have HO_16 := n1_
                                   have BK114 := n2_
                                   have HB := n3_
                                   clear n0_ n1_ n2_ n3_
                                   have p115 : 0 ≤ ((ji45) : Int) := of_decide_eq_true (by first | (with_reducible assumption) | assumption)
                                   have q115 : (ji45) < (t107.length : Int) := of_decide_eq_true (by first | (with_reducible assumption) | assumption)
                                   obtain ⟨ad115, e115, hx115_0, hx115_1, hx115_2⟩ := at_T34 (Kd.R_reads' HO_16.out).2.2 (ji45) p115 q115
                                   cases e115
                                   replace p115 := eq_true p115
                                   replace q115 := eq_true q115
                                   refine start_ (n := 10) (S := fun w' => w'.cell? ⟨gb114, 0, none⟩ = some (.int .i64 ((rd_T34 t101 (ji42)).f0)) ∧ w'.cell? ⟨gb114, 1, none⟩ = some (.int .i64 (wrap64 (((rd_T34 t101 (ji42)).f1) + (wrap64 ((a4.size : Int) - a3))))) ∧ w'.cell? ⟨gb114, 2, none⟩ = some (.int .i64 (wrap64 (((rd_T34 t101 (ji42)).f2) + (wrap64 ((a4.size : Int) - a3))))) ∧ w'.cell? (ad115.add (((ji45)).toNat * 3)) = some (.int .i64 ((rd_T34 t107 (ji45)).f0)) ∧ w'.cell? ⟨(ad115.add (((ji45)).toNat * 3)).block, (ad115.add (((ji45)).toNat * 3)).off + 1, none⟩ = some (.int .i64 ((rd_T34 t107 (ji45)).f1)) ∧ w'.cell? ⟨(ad115.add (((ji45)).toNat * 3)).block, (ad115.add (((ji45)).toNat * 3)).off + 2, none⟩ = some (.int .i64 ((rd_T34 t107 (ji45)).f2))) (ds := []) #[false, false, false, false, false, false, false, false, false, false] (by kernel_rfl) rfl rfl ⟨(blk_cell BK114.out 0).trans rfl, (blk_cell BK114.out 1).trans rfl, (blk_cell BK114.out 2).trans rfl, hx115_0, hx115_1, hx115_2⟩ (fun hHeld => ?_); refine with_tabW relex_Again.tab16 relex_Again.bits16 (fun HT_ HW_ => ?_)
                                   generalize w55.drew = w56 at HO_14 HO_16 BK114 HB hx115_0 hx115_1 hx115_2 hHeld ⊢
                                   refine pure_ (i := 1) (N := some 113) (v := ?_) (a' := ?_) #[false, true, false, false, false, false, false, false, false, false] rfl rfl (any_of HT_.out (by kernel_rfl)) (fun _ _ _ h => h) (Or.inl ⟨by rfl, ?_⟩) ?_ ?_
                                   rotate_left
                                   · intro w'
                                     go_simp
                                     with_reducible rfl
                                   rotate_left
                                   · simp only [Act.put, List.setIfInBounds_toArray, List.set_cons_zero, List.set_cons_succ, i64_w, i32_w]
                                     rfl
                                   refine pure_ (i := 2) (N := some 114) (v := ?_) (a' := ?_) #[false, true, true, false, false, false, false, false, false, false] rfl rfl (any_of HT_.out (by kernel_rfl)) (fun _ _ _ h => h) (Or.inl ⟨by rfl, ?_⟩) ?_ ?_
                                   rotate_left
                                   · intro w'
                                     go_simp
                                     with_reducible rfl
                                   rotate_left
                                   · simp only [Act.put, List.setIfInBounds_toArray, List.set_cons_zero, List.set_cons_succ, i64_w, i32_w]
                                     rfl
                                   refine pure_ (i := 3) (N := some 115) (v := ?_) (a' := ?_) #[false, true, true, true, false, false, false, false, false, false] rfl rfl (any_of HT_.out (by kernel_rfl)) (fun _ _ _ h => h) (Or.inl ⟨by rfl, ?_⟩) ?_ ?_
                                   rotate_left
                                   · intro w'
                                     go_simp
                                     with_reducible rfl
                                   rotate_left
                                   · simp only [Act.put, List.setIfInBounds_toArray, List.set_cons_zero, List.set_cons_succ, i64_w, i32_w]
                                     rfl
                                   refine pure_ (i := 4) (N := some 116) (v := ?_) (a' := ?_) #[false, true, true, true, true, false, false, false, false, false] rfl rfl (any_of HT_.out (by kernel_rfl)) (fun _ _ _ h => h) (Or.inl ⟨by rfl, ?_⟩) ?_ ?_
                                   rotate_left
                                   · intro w'
                                     go_simp
                                     with_reducible rfl
                                   rotate_left
                                   · simp only [Act.put, List.setIfInBounds_toArray, List.set_cons_zero, List.set_cons_succ, i64_w, i32_w]
                                     rfl
                                   refine pure_ (i := 5) (N := some 117) (v := ?_) (a' := ?_) #[false, true, true, true, true, true, false, false, false, false] rfl rfl (any_of HT_.out (by kernel_rfl)) (fun _ _ _ h => h) (Or.inl ⟨by rfl, ?_⟩) ?_ ?_
                                   rotate_left
                                   · intro w'
                                     go_simp
                                     with_reducible rfl
                                   rotate_left
                                   · simp only [Act.put, List.setIfInBounds_toArray, List.set_cons_zero, List.set_cons_succ, i64_w, i32_w]
                                     rfl
                                   refine pure_ (i := 6) (N := some 118) (v := ?_) (a' := ?_) #[false, true, true, true, true, true, true, false, false, false] rfl rfl (any_of HT_.out (by kernel_rfl)) (fun _ _ _ h => h) (Or.inl ⟨by rfl, ?_⟩) ?_ ?_
                                   rotate_left
                                   · intro w'
                                     go_simp
                                     with_reducible rfl
                                   rotate_left
                                   · simp only [Act.put, List.setIfInBounds_toArray, List.set_cons_zero, List.set_cons_succ, i64_w, i32_w]
                                     rfl
                                   refine pure_ (i := 7) (N := some 119) (v := ?_) (a' := ?_) #[false, true, true, true, true, true, true, true, false, false] rfl rfl (any_of HT_.out (by kernel_rfl)) (fun _ _ _ h => h) (Or.inl ⟨by rfl, ?_⟩) ?_ ?_
                                   rotate_left
                                   · intro w'
                                     go_simp
                                     with_reducible rfl
                                   rotate_left
                                   · simp only [Act.put, List.setIfInBounds_toArray, List.set_cons_zero, List.set_cons_succ, i64_w, i32_w]
                                     rfl
                                   refine take_ (i := 0) (N := some 112) (v := ?_) (a' := ?_) #[true, true, true, true, true, true, true, true, false, false] rfl rfl (take_ofW HT_.out HW_.out (by kernel_rfl)) (fun _ _ _ h => h) (Or.inl ⟨by rfl, ?_⟩) hHeld ?_ ?_
                                   rotate_left
                                   · rintro w' ⟨s0, s1, s2, s3, s4, s5⟩
                                     go_simp
                                     with_reducible rfl
                                   rotate_left
                                   · simp only [Act.put, List.setIfInBounds_toArray, List.set_cons_zero, List.set_cons_succ, i64_w, i32_w]
                                     rfl
                                   refine take_ (i := 8) (N := some 120) (v := ?_) (a' := ?_) #[true, true, true, true, true, true, true, true, true, false] rfl rfl (take_ofW HT_.out HW_.out (by kernel_rfl)) (fun _ _ _ h => h) (Or.inl ⟨by rfl, ?_⟩) hHeld ?_ ?_
                                   rotate_left
                                   · rintro w' ⟨s0, s1, s2, s3, s4, s5⟩
                                     go_simp
                                     with_reducible rfl
                                   rotate_left
                                   · simp only [Act.put, List.setIfInBounds_toArray, List.set_cons_zero, List.set_cons_succ, i64_w, i32_w]
                                     rfl
                                   refine pure_ (i := 9) (N := some 121) (v := ?_) (a' := ?_) #[true, true, true, true, true, true, true, true, true, true] rfl rfl (any_of HT_.out (by kernel_rfl)) (fun _ _ _ h => h) (Or.inl ⟨by rfl, ?_⟩) ?_ ?_
                                   rotate_left
                                   · intro w'
                                     go_simp
                                     with_reducible rfl
                                   rotate_left
                                   · simp only [Act.put, List.setIfInBounds_toArray, List.set_cons_zero, List.set_cons_succ, i64_w, i32_w]
                                     rfl
                                   refine done_ (done_of HT_.out (by kernel_rfl)) ?_
                                   try go_wp2
                                   go_roundg k3
                                   case measure => have := HJ6.out; have := HJ27.out; have := HK3.out; omega
                                   case rel => exact ⟨(wrap64 (x20_3 + 1)), (by first | rfl | (simp; done) | (simp [*]; done)), H', ⟨by have := HJ6.out; have := HJ27.out; have := HK3.out; omega⟩, ⟨by (with_reducible repeat (first | apply Kd.R_alloc | apply Kd.R_drewN | apply Kd.R_drew)); exact Kd.R_mono HO_14.out (fun _ hk => hk.1)⟩, ⟨by (with_reducible repeat (first | apply Kd.R_alloc | apply Kd.R_drewN | apply Kd.R_drew)); exact Kd.R_mono HO_16.out (fun _ hk => hk.1)⟩, ⟨by repeat (first | (with_reducible first | exact HB.out | apply below_alloc | apply pw_below_drewN | apply below_drew1 | refine below_set ?_ GE114.out) | exact HB.out)⟩⟩
                               · rw [if_neg c47] at H
                                 exact absurd H (by simp)
                             · rw [if_neg c46] at H
                               exact absurd H (by simp)
                           · rw [if_neg c44] at H
                             exact absurd H (by simp)
                         · rw [if_neg c43] at H
                           exact absurd H (by simp)
                       · rw [if_neg c41] at H
                         have c41b0 : decide (x20_3 < (wrap64 (ji27 - x18_27))) = false := decide_eq_false c41
                         clear c41
                         simp only [Option.some.injEq, Prod.mk.injEq] at H
                         obtain ⟨rfl, rfl, rfl, rfl⟩ := H
                         go_wp2
                         refine bodyPost_ret (results_list (rs := [.tmp 10, .tmp 11, .tmp 12, .tmp 13]) rfl (by simp) (.tmp (.tmp (.tmp (.tmp .nil))))) rfl ?_
                         exact ⟨_, by first | rfl | (simp [errW_none, errW_some] <;> rfl) | (simp only [← hji21, ← hji27]; first | rfl | (simp [errW_none, errW_some] <;> rfl)) | (simp [*, errW_none, errW_some] <;> rfl), by (with_reducible repeat (first | apply Kd.R_alloc | apply Kd.R_drewN | apply Kd.R_drew)); exact Kd.R_mono HO_16.out (fun _ hk => trivial), by repeat (first | (with_reducible first | exact HB.out | apply below_alloc | apply pw_below_drewN | apply below_drew1) | exact HB.out)⟩
                 · rw [if_neg c26] at H
                   have c26b0 : (t108 == 0) = false := beq_eq_false_iff_ne.mpr c26
                   have c26b1 : (t108 != 0) = true := bne_iff_ne.mpr c26
                   simp only [Option.some.injEq, Prod.mk.injEq] at H
                   obtain ⟨rfl, rfl, rfl, rfl⟩ := H
                   try go_wp2
                   have n0_ := Aside0.mk (Kd.R_drew HO_14.out)
                   have n1_ := Aside0.mk (below_drew1 HB.out)
                   clear HO_14
                   clear HB
                   have HO_14 := n0_
                   have HB := n1_
                   clear n0_ n1_
                   refine start_ (n := 17) (S := fun w' => True) (ds := []) #[false, false, false, false, false, false, false, false, false, false, false, false, false, false, false, false, false] (by kernel_rfl) rfl rfl trivial (fun hHeld => ?_); refine with_tabW relex_Again.tab4 relex_Again.bits4 (fun HT_ HW_ => ?_)
                   generalize wc.drew = w57 at HO_14 HB hHeld ⊢
                   refine pure_ (i := 0) (N := some 48) (v := ?_) (a' := ?_) #[true, false, false, false, false, false, false, false, false, false, false, false, false, false, false, false, false] rfl rfl (any_of HT_.out (by kernel_rfl)) (fun _ _ _ h => h) (Or.inl ⟨by rfl, ?_⟩) ?_ ?_
                   rotate_left
                   · intro w'
                     go_simp
                     with_reducible rfl
                   rotate_left
                   · simp only [Act.put, List.setIfInBounds_toArray, List.set_cons_zero, List.set_cons_succ, i64_w, i32_w]
                     rfl
                   refine pure_ (i := 1) (N := some 49) (v := ?_) (a' := ?_) #[true, true, false, false, false, false, false, false, false, false, false, false, false, false, false, false, false] rfl rfl (any_of HT_.out (by kernel_rfl)) (fun _ _ _ h => h) (Or.inl ⟨by rfl, ?_⟩) ?_ ?_
                   rotate_left
                   · intro w'
                     go_simp
                     with_reducible rfl
                   rotate_left
                   · simp only [Act.put, List.setIfInBounds_toArray, List.set_cons_zero, List.set_cons_succ, i64_w, i32_w]
                     rfl
                   refine pure_ (i := 2) (N := some 50) (v := ?_) (a' := ?_) #[true, true, true, false, false, false, false, false, false, false, false, false, false, false, false, false, false] rfl rfl (any_of HT_.out (by kernel_rfl)) (fun _ _ _ h => h) (Or.inl ⟨by rfl, ?_⟩) ?_ ?_
                   rotate_left
                   · intro w'
                     go_simp
                     with_reducible rfl
                   rotate_left
                   · simp only [Act.put, List.setIfInBounds_toArray, List.set_cons_zero, List.set_cons_succ, i64_w, i32_w]
                     rfl
                   refine pure_ (i := 3) (N := some 51) (v := ?_) (a' := ?_) #[true, true, true, true, false, false, false, false, false, false, false, false, false, false, false, false, false] rfl rfl (any_of HT_.out (by kernel_rfl)) (fun _ _ _ h => h) (Or.inl ⟨by rfl, ?_⟩) ?_ ?_
                   rotate_left
                   · intro w'
                     go_simp
                     with_reducible rfl
                   rotate_left
                   · simp only [Act.put, List.setIfInBounds_toArray, List.set_cons_zero, List.set_cons_succ, i64_w, i32_w]
                     rfl
                   refine pure_ (i := 4) (N := some 52) (v := ?_) (a' := ?_) #[true, true, true, true, true, false, false, false, false, false, false, false, false, false, false, false, false] rfl rfl (any_of HT_.out (by kernel_rfl)) (fun _ _ _ h => h) (Or.inl ⟨by rfl, ?_⟩) ?_ ?_
                   rotate_left
                   · intro w'
                     go_simp
                     with_reducible rfl
                   rotate_left
                   · simp only [Act.put, List.setIfInBounds_toArray, List.set_cons_zero, List.set_cons_succ, i64_w, i32_w]
                     rfl
                   refine pure_ (i := 5) (N := some 53) (v := ?_) (a' := ?_) #[true, true, true, true, true, true, false, false, false, false, false, false, false, false, false, false, false] rfl rfl (any_of HT_.out (by kernel_rfl)) (fun _ _ _ h => h) (Or.inl ⟨by rfl, ?_⟩) ?_ ?_
                   rotate_left
                   · intro w'
                     go_simp
                     with_reducible rfl
                   rotate_left
                   · simp only [Act.put, List.setIfInBounds_toArray, List.set_cons_zero, List.set_cons_succ, i64_w, i32_w]
                     rfl
                   refine pure_ (i := 6) (N := some 54) (v := ?_) (a' := ?_) #[true, true, true, true, true, true, true, false, false, false, false, false, false, false, false, false, false] rfl rfl (any_of HT_.out (by kernel_rfl)) (fun _ _ _ h => h) (Or.inl ⟨by rfl, ?_⟩) ?_ ?_
                   rotate_left
                   · intro w'
                     go_simp
                     with_reducible rfl
                   rotate_left
                   · simp only [Act.put, List.setIfInBounds_toArray, List.set_cons_zero, List.set_cons_succ, i64_w, i32_w]
                     rfl
                   refine pure_ (i := 7) (N := some 55) (v := ?_) (a' := ?_) #[true, true, true, true, true, true, true, true, false, false, false, false, false, false, false, false, false] rfl rfl (any_of HT_.out (by kernel_rfl)) (fun _ _ _ h => h) (Or.inl ⟨by rfl, ?_⟩) ?_ ?_
                   rotate_left
                   · intro w'
                     go_simp
                     with_reducible rfl
                   rotate_left
                   · simp only [Act.put, List.setIfInBounds_toArray, List.set_cons_zero, List.set_cons_succ, i64_w, i32_w]
                     rfl
                   refine pure_ (i := 8) (N := some 56) (v := ?_) (a' := ?_) #[true, true, true, true, true, true, true, true, true, false, false, false, false, false, false, false, false] rfl rfl (any_of HT_.out (by kernel_rfl)) (fun _ _ _ h => h) (Or.inl ⟨by rfl, ?_⟩) ?_ ?_
                   rotate_left
                   · intro w'
                     go_simp
                     with_reducible rfl
                   rotate_left
                   · simp only [Act.put, List.setIfInBounds_toArray, List.set_cons_zero, List.set_cons_succ, i64_w, i32_w]
                     rfl
                   refine pure_ (i := 9) (N := some 57) (v := ?_) (a' := ?_) #[true, true, true, true, true, true, true, true, true, true, false, false, false, false, false, false, false] rfl rfl (any_of HT_.out (by kernel_rfl)) (fun _ _ _ h => h) (Or.inl ⟨by rfl, ?_⟩) ?_ ?_
                   rotate_left
                   · intro w'
                     go_simp
                     with_reducible rfl
                   rotate_left
                   · simp only [Act.put, List.setIfInBounds_toArray, List.set_cons_zero, List.set_cons_succ, i64_w, i32_w]
                     rfl
                   refine pure_ (i := 10) (N := some 58) (v := ?_) (a' := ?_) #[true, true, true, true, true, true, true, true, true, true, true, false, false, false, false, false, false] rfl rfl (any_of HT_.out (by kernel_rfl)) (fun _ _ _ h => h) (Or.inl ⟨by rfl, ?_⟩) ?_ ?_
                   rotate_left
                   · intro w'
                     go_simp
                     with_reducible rfl
                   rotate_left
                   · simp only [Act.put, List.setIfInBounds_toArray, List.set_cons_zero, List.set_cons_succ, i64_w, i32_w]
                     rfl
                   refine one_ (i := 11) (N := some 59) #[true, true, true, true, true, true, true, true, true, true, true, true, false, false, false, false, false] rfl rfl (one_of HT_.out (by kernel_rfl)) (by decide) (fun K hK => ?_)
                   refine goes_ Try.func12 (by kernel_rfl) rfl #[.string (((a0.extract 0 (a2 : Int).toNat) ++ a4) ++ (a0.extract ((ji21) : Int).toNat a0.size))] (by rfl) rfl rfl (by (try simp only [List.map_toArray, List.map_cons, List.map_nil]); first | done | (simp only [hji21]; rfl) | rfl | (simp only [List.length_drop, List.length_take]; rfl)) ?_
                   with_reducible refine (lex_Tokens.calls (((a0.extract 0 (a2 : Int).toNat) ++ a4) ++ (a0.extract ((ji21) : Int).toNat a0.size)) t107 t108 _ (MaxOk.of HM_.out (by repeat (first | (with_reducible first | exact HB.out | apply below_alloc | apply pw_below_drewN | apply below_drew1) | exact HB.out))) A25.out).mono ?_
                   rintro e w58 ⟨v109, rfl, ho0, hb⟩
                   refine ⟨_, rfl, ?_⟩
                   have n0_ := Aside0.mk (Kd.R_elder' (by (with_reducible repeat (first | apply Kd.R_alloc | apply Kd.R_drewN | apply Kd.R_drew)); exact HO_14.out) (Kd.R_base ho0) hb)
                   have n1_ := Aside0.mk (Kd.R_lower (Kd.R_new' ho0 (Kd.R_lt (by (with_reducible repeat (first | apply Kd.R_alloc | apply Kd.R_drewN | apply Kd.R_drew)); exact HO_14.out))) (below_size (by repeat (first | (with_reducible first | exact HB.out | apply below_alloc | apply pw_below_drewN | apply below_drew1) | exact HB.out))))
                   have n2_ := Aside0.mk (below_step (by repeat (first | (with_reducible first | exact HB.out | apply below_alloc | apply pw_below_drewN | apply below_drew1) | exact HB.out)) hb)
                   clear HO_14
                   clear HB
                   have HO_14 := n0_
                   have HO110 := n1_
                   have HB := n2_
                   clear n0_ n1_ n2_
                   (try clear hb)
                   (try clear hb2)
                   (try clear hk)
                   (try clear hi)
                   (try clear ho0)
                   refine hK.out _ _ trivial (fun hHeld => ?_)
                   clear hK K
                   refine norm_ (a' := ?_) ?_ ?_
                   rotate_left
                   · show Act.put _ (some 59) _ = _
                     simp only [Act.put, List.setIfInBounds_toArray, List.set_cons_zero, List.set_cons_succ, i64_w, i32_w]
                     rfl
                   refine pure_ (i := 12) (N := some 47) (v := ?_) (a' := ?_) #[true, true, true, true, true, true, true, true, true, true, true, true, true, false, false, false, false] rfl rfl (any_of HT_.out (by kernel_rfl)) (fun _ _ _ h => h) (Or.inl ⟨by rfl, ?_⟩) ?_ ?_
                   rotate_left
                   · intro w'
                     go_simp
                     with_reducible rfl
                   rotate_left
                   · simp only [Act.put, List.setIfInBounds_toArray, List.set_cons_zero, List.set_cons_succ, i64_w, i32_w]
                     rfl
                   refine pure_ (i := 13) (N := some 60) (v := ?_) (a' := ?_) #[true, true, true, true, true, true, true, true, true, true, true, true, true, true, false, false, false] rfl rfl (any_of HT_.out (by kernel_rfl)) (fun _ _ _ h => h) (Or.inl ⟨by rfl, ?_⟩) ?_ ?_
                   rotate_left
                   · intro w'
                     go_simp
                     with_reducible rfl
                   rotate_left
                   · simp only [Act.put, List.setIfInBounds_toArray, List.set_cons_zero, List.set_cons_succ, i64_w, i32_w]
                     rfl
                   refine pure_ (i := 14) (N := some 61) (v := ?_) (a' := ?_) #[true, true, true, true, true, true, true, true, true, true, true, true, true, true, true, false, false] rfl rfl (any_of HT_.out (by kernel_rfl)) (fun _ _ _ h => h) (Or.inl ⟨by rfl, ?_⟩) ?_ ?_
                   rotate_left
                   · intro w'
                     go_simp
                     with_reducible rfl
                   rotate_left
                   · simp only [Act.put, List.setIfInBounds_toArray, List.set_cons_zero, List.set_cons_succ, i64_w, i32_w]
                     rfl
                   refine pure_ (i := 15) (N := some 16) (v := ?_) (a' := ?_) #[true, true, true, true, true, true, true, true, true, true, true, true, true, true, true, true, false] rfl rfl (any_of HT_.out (by kernel_rfl)) (fun _ _ _ h => h) (Or.inl ⟨by rfl, ?_⟩) ?_ ?_
                   rotate_left
                   · intro w'
                     go_simp
                     with_reducible rfl
                   rotate_left
                   · simp only [Act.put, List.setIfInBounds_toArray, List.set_cons_zero, List.set_cons_succ, i64_w, i32_w]
                     rfl
                   refine pure_ (i := 16) (N := some 15) (v := ?_) (a' := ?_) #[true, true, true, true, true, true, true, true, true, true, true, true, true, true, true, true, true] rfl rfl (any_of HT_.out (by kernel_rfl)) (fun _ _ _ h => h) (Or.inl ⟨by rfl, ?_⟩) ?_ ?_
                   rotate_left
                   · intro w'
                     go_simp
                     with_reducible rfl
                   rotate_left
                   · simp only [Act.put, List.setIfInBounds_toArray, List.set_cons_zero, List.set_cons_succ, i64_w, i32_w]
                     rfl
                   refine done_ (done_of HT_.out (by kernel_rfl)) ?_
                   try go_wp2
                   refine bodyPost_ret (results_list (rs := [.tmp 10, .tmp 11, .tmp 12, .tmp 13]) rfl (by simp) (.tmp (.tmp (.tmp (.tmp .nil))))) rfl ?_
                   exact ⟨_, by first | rfl | (simp [errW_none, errW_some] <;> rfl) | (simp only [← hji21]; first | rfl | (simp [errW_none, errW_some] <;> rfl)) | (simp [*, errW_none, errW_some] <;> rfl), by first | exact Kd.R_nil _ _ _ _ _ | exact Kd.N_nil _ _ _ _ _ | exact Kd.V_nil _ _ _ _ _ | exact Kd.Q_nil _ _ _ _ _ | exact Kd.S_nil _ _ _ _ _, by repeat (first | (with_reducible first | exact HB.out | apply below_alloc | apply pw_below_drewN | apply below_drew1) | exact HB.out)⟩
               · rw [if_neg c24] at H
                 exact absurd H (by simp)
             · rw [if_neg c23] at H
               exact absurd H (by simp)
           · rw [if_neg c22] at H
             exact absurd H (by simp)
         · rw [if_neg c20] at H
           exact absurd H (by simp)
       · rw [if_neg c19] at H
         exact absurd H (by simp)
     · rw [if_neg c18] at H
       exact absurd H (by simp)

end Go.Proofs.Ytnhkdpcncjkmlaa.G
