-- Laid by this session's own program gprint.py (wip/tools), out of the kit's print and of texts of this session. Lean checks it.
import Derived.Test.YtjcoahipcgeoiaaGx0
import Derived.Test.YtjcoahipcgeoiaaGLexPTokens
import Derived.Test.YtjcoahipcgeoiaaGMinuetlaw0PSameTokens
import Derived.Test.YtjcoahipcgeoiaaGMinuetlaw0PNum
import Derived.Test.YtjcoahipcgeoiaaGMinuetlaw9qawake
import Derived.Test.YtjcoahipcgeoiaaGMinuetref0PDecimal
namespace Go.Proofs.Ytjcoahipcgeoiaa.G
open Go.RowKit Go.Proofs.YtjcoahipcgeoiaaW.PrintWords Go.Proofs.YtjcoahipcgeoiaaW.PrintLast Go.Proofs.YtjcoahipcgeoiaaW.PrintMore
attribute [local go_sem] max2_int min2_int max_two min_two max_three min_three max_four min_four   -- for this text's walks alone
set_option linter.unusedVariables false
set_option linter.unusedSimpArgs false

/-! ### minuetlaw9_LexNumbers: function 8 -/
mutual
def minuetlaw9_LexNumbers.j0 : Nat → Int → Int → Int → ByteArray → Option (Bool)
 | 0, _, _, _, _ => none
 | k + 1, x2, x3, x4, x11 => if (Go.bits .and .i64 x4 1) = 1 then (if x11.size + 1 ≤ 9223372036854775807 then ((minuetref0_Decimal.f k (Go.bits .and .i64 x2 4095)).bind fun t103 => (if (x11 ++ (⟨#[46]⟩ : ByteArray)).size + t103.size ≤ 9223372036854775807 then (minuetlaw9_LexNumbers.j1 k x3 x4 ((x11 ++ (⟨#[46]⟩ : ByteArray)) ++ t103)) else (none))) else (none)) else (minuetlaw9_LexNumbers.j1 k x3 x4 x11)
def minuetlaw9_LexNumbers.j1 : Nat → Int → Int → ByteArray → Option (Bool)
 | 0, _, _, _ => none
 | k + 1, x3, x4, x11 => if (Go.bits .and .i64 x4 2) = 2 then ((some (([(⟨#[101]⟩ : ByteArray), (⟨#[69]⟩ : ByteArray), (⟨#[101, 43]⟩ : ByteArray), (⟨#[69, 45]⟩ : ByteArray)] : List ByteArray) : List ByteArray)).bind fun y104 => (if 0 ≤ (Go.bits .and .i64 (x4 / 4) 3) then (if (Go.bits .and .i64 (x4 / 4) 3) < (y104.length : Int) then (if x11.size + (rdOf ByteArray.empty y104 (Go.bits .and .i64 (x4 / 4) 3)).size ≤ 9223372036854775807 then ((minuetref0_Decimal.f k (Go.bits .and .i64 x3 255)).bind fun t108 => (if (x11 ++ (rdOf ByteArray.empty y104 (Go.bits .and .i64 (x4 / 4) 3))).size + t108.size ≤ 9223372036854775807 then (if 1 + ((x11 ++ (rdOf ByteArray.empty y104 (Go.bits .and .i64 (x4 / 4) 3))) ++ t108).size ≤ 9223372036854775807 then (if ((⟨#[91]⟩ : ByteArray) ++ ((x11 ++ (rdOf ByteArray.empty y104 (Go.bits .and .i64 (x4 / 4) 3))) ++ t108)).size + 1 ≤ 9223372036854775807 then ((lex_Tokens.f (((⟨#[91]⟩ : ByteArray) ++ ((x11 ++ (rdOf ByteArray.empty y104 (Go.bits .and .i64 (x4 / 4) 3))) ++ t108)) ++ (⟨#[93]⟩ : ByteArray))).bind fun bt109 => ((minuetlaw0_Num.f bt109.2).bind fun t113 => (if t113 = 0 then ((minuetlaw0_SameTokens.f k bt109.1 (([(⟨2, 0, 1⟩ : S34), (⟨7, 1, wrap64 (1 + (((x11 ++ (rdOf ByteArray.empty y104 (Go.bits .and .i64 (x4 / 4) 3))) ++ t108).size : Int))⟩ : S34), (⟨3, wrap64 (1 + (((x11 ++ (rdOf ByteArray.empty y104 (Go.bits .and .i64 (x4 / 4) 3))) ++ t108).size : Int)), wrap64 (2 + (((x11 ++ (rdOf ByteArray.empty y104 (Go.bits .and .i64 (x4 / 4) 3))) ++ t108).size : Int))⟩ : S34)] : List (S34)))).bind fun t117 => (some t117)) else (none)))) else (none)) else (none)) else (none))) else (none)) else (none)) else (none))) else (if 1 + x11.size ≤ 9223372036854775807 then (if ((⟨#[91]⟩ : ByteArray) ++ x11).size + 1 ≤ 9223372036854775807 then ((lex_Tokens.f (((⟨#[91]⟩ : ByteArray) ++ x11) ++ (⟨#[93]⟩ : ByteArray))).bind fun bt118 => ((minuetlaw0_Num.f bt118.2).bind fun t122 => (if t122 = 0 then ((minuetlaw0_SameTokens.f k bt118.1 (([(⟨2, 0, 1⟩ : S34), (⟨7, 1, wrap64 (1 + (x11.size : Int))⟩ : S34), (⟨3, wrap64 (1 + (x11.size : Int)), wrap64 (2 + (x11.size : Int))⟩ : S34)] : List (S34)))).bind fun t126 => (some t126)) else (none)))) else (none)) else (none))
end
def minuetlaw9_LexNumbers.f (k : Nat) (a0 : Bool) (a1 : Int) (a2 : Int) (a3 : Int) (a4 : Int) : Option (Bool) := (minuetlaw9_awake.f k).bind fun t101 => (if t101 = true then ((minuetref0_Decimal.f k (Go.bits .and .i64 a1 1048575)).bind fun t102 => (if a0 = true then (if 1 + t102.size ≤ 9223372036854775807 then (minuetlaw9_LexNumbers.j0 k a2 a3 a4 ((⟨#[45]⟩ : ByteArray) ++ t102)) else (none)) else (minuetlaw9_LexNumbers.j0 k a2 a3 a4 t102))) else (none))
theorem minuetlaw9_LexNumbers.mono_l : ∀ k, (∀ y0 y1 y2 y3, LeO (minuetlaw9_LexNumbers.j0 k y0 y1 y2 y3) (minuetlaw9_LexNumbers.j0 (k + 1) y0 y1 y2 y3)) ∧ (∀ y0 y1 y2, LeO (minuetlaw9_LexNumbers.j1 k y0 y1 y2) (minuetlaw9_LexNumbers.j1 (k + 1) y0 y1 y2))
 | 0 => ⟨fun _ _ _ _ r h => by simp [minuetlaw9_LexNumbers.j0] at h, fun _ _ _ r h => by simp [minuetlaw9_LexNumbers.j1] at h⟩
 | k + 1 => by
  obtain ⟨ih0, ih1⟩ := minuetlaw9_LexNumbers.mono_l k
  refine ⟨?_, ?_⟩
  · intro y0 y1 y2 y3
    unfold minuetlaw9_LexNumbers.j0
    repeat' first
    | (with_reducible exact ih0 _ _ _ _)
    | (with_reducible exact ih1 _ _ _)
    | (with_reducible exact minuetlaw0_SameTokens.mono _ _ _)
    | (with_reducible exact minuetlaw9_awake.mono _)
    | (with_reducible exact minuetref0_Decimal.mono _ _)
    | (with_reducible exact LeO.refl _)
    | (with_reducible exact LeO.none _)
    | (with_reducible refine LeO.ite ?_ ?_)
    | (with_reducible refine LeO.bind ?_ (fun _ => ?_))
    | exact ih0 _ _ _ _
    | exact ih1 _ _ _
    | exact minuetlaw0_SameTokens.mono _ _ _
    | exact minuetlaw9_awake.mono _
    | exact minuetref0_Decimal.mono _ _
    | exact LeO.none _
    | refine LeO.ite ?_ ?_
    | refine LeO.bind ?_ (fun _ => ?_)
  · intro y0 y1 y2
    unfold minuetlaw9_LexNumbers.j1
    repeat' first
    | (with_reducible exact ih0 _ _ _ _)
    | (with_reducible exact ih1 _ _ _)
    | (with_reducible exact minuetlaw0_SameTokens.mono _ _ _)
    | (with_reducible exact minuetlaw9_awake.mono _)
    | (with_reducible exact minuetref0_Decimal.mono _ _)
    | (with_reducible exact LeO.refl _)
    | (with_reducible exact LeO.none _)
    | (with_reducible refine LeO.ite ?_ ?_)
    | (with_reducible refine LeO.bind ?_ (fun _ => ?_))
    | exact ih0 _ _ _ _
    | exact ih1 _ _ _
    | exact minuetlaw0_SameTokens.mono _ _ _
    | exact minuetlaw9_awake.mono _
    | exact minuetref0_Decimal.mono _ _
    | exact LeO.none _
    | refine LeO.ite ?_ ?_
    | refine LeO.bind ?_ (fun _ => ?_)
theorem minuetlaw9_LexNumbers.mono : ∀ a0 a1 a2 a3 a4 k, LeO (minuetlaw9_LexNumbers.f k a0 a1 a2 a3 a4) (minuetlaw9_LexNumbers.f (k + 1) a0 a1 a2 a3 a4) := by
 intro a0 a1 a2 a3 a4 k
 obtain ⟨ih0, ih1⟩ := minuetlaw9_LexNumbers.mono_l k
 unfold minuetlaw9_LexNumbers.f
 repeat' first
  | (with_reducible exact ih0 _ _ _ _)
  | (with_reducible exact ih1 _ _ _)
  | (with_reducible exact minuetlaw0_SameTokens.mono _ _ _)
  | (with_reducible exact minuetlaw9_awake.mono _)
  | (with_reducible exact minuetref0_Decimal.mono _ _)
  | (with_reducible exact LeO.refl _)
  | (with_reducible exact LeO.none _)
  | (with_reducible refine LeO.ite ?_ ?_)
  | (with_reducible refine LeO.bind ?_ (fun _ => ?_))
  | exact ih0 _ _ _ _
  | exact ih1 _ _ _
  | exact minuetlaw0_SameTokens.mono _ _ _
  | exact minuetlaw9_awake.mono _
  | exact minuetref0_Decimal.mono _ _
  | exact LeO.none _
  | refine LeO.ite ?_ ?_
  | refine LeO.bind ?_ (fun _ => ?_)
def minuetlaw9_LexNumbers.T9 : Bool × List (List Nat × List Nat) := (true, [([], []), ([], []), ([], []), ([2], [2]), ([3], [3]), ([1, 4], [1, 4]), ([5], [5]), ([0, 6], [0, 6]), ([], []), ([8], [8]), ([9], [9]), ([7, 10], [7, 10]), ([11, 10, 0, 1, 2, 3, 4, 5, 6, 7, 8, 9, 10, 11], [0, 11])])
def minuetlaw9_LexNumbers.B9 : List Nat := [0, 0, 0, 4, 12, 30, 62, 127, 0, 256, 768, 2047, 4095]
theorem minuetlaw9_LexNumbers.tab9 : rtab .any (opsOf Try.f8 9) = minuetlaw9_LexNumbers.T9 := by kernel_rfl
theorem minuetlaw9_LexNumbers.bits9 : waitsOk minuetlaw9_LexNumbers.T9.2 minuetlaw9_LexNumbers.B9 = true := by kernel_rfl
set_option maxHeartbeats 8000000 in
set_option maxRecDepth 100000 in
theorem minuetlaw9_LexNumbers.calls (k : Nat) (a0 : Bool) (a1 : Int) (a2 : Int) (a3 : Int) (a4 : Int) (r : Bool) (w : World) (hm_ : MaxOk w) (h : minuetlaw9_LexNumbers.f k a0 a1 a2 a3 a4 = some r) :
 Calls Try.prog 8 #[.bool a0, .int .i64 a1, .int .i64 a2, .int .i64 a3, .int .i64 a4] w fun e w' => e = .returned (.bool r) ∧ Below w.heap.size w w' := by
 have HM_ := Aside0.mk hm_
 clear hm_
 have hu34 := Try.underlying34
 have HB := Aside0.mk (Below.refl w.heap.size w)
 have H : ((minuetlaw9_awake.f k).bind fun t101 => (if t101 = true then ((minuetref0_Decimal.f k (Go.bits .and .i64 a1 1048575)).bind fun t102 => (if a0 = true then (if 1 + t102.size ≤ 9223372036854775807 then (minuetlaw9_LexNumbers.j0 k a2 a3 a4 ((⟨#[45]⟩ : ByteArray) ++ t102)) else (none)) else (minuetlaw9_LexNumbers.j0 k a2 a3 a4 t102))) else (none))) = some r := h
 clear h
 replace H := Option.bind_eq_some_iff.mp H
 obtain ⟨t101, A60, H⟩ := H
 replace H : (if t101 = true then ((minuetref0_Decimal.f k (Go.bits .and .i64 a1 1048575)).bind fun t102 => (if a0 = true then (if 1 + t102.size ≤ 9223372036854775807 then (minuetlaw9_LexNumbers.j0 k a2 a3 a4 ((⟨#[45]⟩ : ByteArray) ++ t102)) else (none)) else (minuetlaw9_LexNumbers.j0 k a2 a3 a4 t102))) else (none)) = some r := H
 have A6 := Aside0.mk A60
 clear A60
 by_cases c7 : t101 = true
 · subst c7
   have H1 : ((minuetref0_Decimal.f k (Go.bits .and .i64 a1 1048575)).bind fun t102 => (if a0 = true then (if 1 + t102.size ≤ 9223372036854775807 then (minuetlaw9_LexNumbers.j0 k a2 a3 a4 ((⟨#[45]⟩ : ByteArray) ++ t102)) else (none)) else (minuetlaw9_LexNumbers.j0 k a2 a3 a4 t102))) = some r := by rw [if_pos rfl] at H; exact H
   clear H
   have H := H1
   clear H1
   replace H := Option.bind_eq_some_iff.mp H
   obtain ⟨t102, A80, H⟩ := H
   replace H : (if a0 = true then (if 1 + t102.size ≤ 9223372036854775807 then (minuetlaw9_LexNumbers.j0 k a2 a3 a4 ((⟨#[45]⟩ : ByteArray) ++ t102)) else (none)) else (minuetlaw9_LexNumbers.j0 k a2 a3 a4 t102)) = some r := H
   have A8 := Aside0.mk A80
   clear A80
   have HC9 := Aside0.mk H
   clear H
   go_enter Try.func8, Try.ntmps8
   go_upto_if 19 with (first | ((with_reducible refine gate_callee (f := 17) rfl ?_); refine goesL_ (some 14) rfl rfl Try.func17 (by kernel_rfl) rfl #[] rfl (by (try simp only [List.map_toArray, List.map_cons, List.map_nil]); first | done | rfl | (simp only [List.length_drop, List.length_take]; rfl)) ?_; (with_reducible refine (minuetlaw9_awake.calls k  true _ (MaxOk.of HM_.out (by repeat (first | (with_reducible first | exact HB.out | apply below_alloc | apply pw_below_drewN | apply below_drew1) | exact HB.out))) A6.out).mono ?_); rintro e w10 ⟨rfl, hb⟩; refine ⟨_, rfl, ?_⟩; have n0_ := Aside0.mk (below_step (by repeat (first | (with_reducible first | exact HB.out | apply below_alloc | apply pw_below_drewN | apply below_drew1) | exact HB.out)) hb); clear HB; have HB := n0_; clear n0_; (try clear hb); (try clear hb2); (try clear hk); (try clear hi)) | ((with_reducible refine gate_callee (f := 18) rfl ?_); refine goesL_ (some 18) rfl rfl Try.func18 (by kernel_rfl) rfl #[.int .i64 (Go.bits .and .i64 a1 1048575)] rfl (by (try simp only [List.map_toArray, List.map_cons, List.map_nil]); first | done | rfl | (simp only [List.length_drop, List.length_take]; rfl)) ?_; (with_reducible refine (minuetref0_Decimal.calls k (Go.bits .and .i64 a1 1048575) t102 _ A8.out).mono ?_); rintro e w11 ⟨rfl, hb⟩; refine ⟨_, rfl, ?_⟩; have n0_ := Aside0.mk (below_step (by repeat (first | (with_reducible first | exact HB.out | apply below_alloc | apply pw_below_drewN | apply below_drew1) | exact HB.out)) hb); clear HB; have HB := n0_; clear n0_; (try clear hb); (try clear hb2); (try clear hk); (try clear hi)))
   (try simp only [Act.put, List.setIfInBounds_toArray, List.set_cons_zero, List.set_cons_succ])
   go_cut [11] (fun v11 wc => ∃ (kq : Nat) (x11_8 : ByteArray), v11 = .string x11_8 ∧ Aside0 (minuetlaw9_LexNumbers.j0 kq a2 a3 a4 x11_8 = some r) ∧ Aside0 (kq ≤ k) ∧ Aside0 (Below w.heap.size w wc))
   case first =>
    have H := HC9.out
    clear HC9
    by_cases c12 : a0 = true
    · subst c12
      have H1 : (if 1 + t102.size ≤ 9223372036854775807 then (minuetlaw9_LexNumbers.j0 k a2 a3 a4 ((⟨#[45]⟩ : ByteArray) ++ t102)) else (none)) = some r := by rw [if_pos rfl] at H; exact H
      clear H
      have H := H1
      clear H1
      by_cases c13 : 1 + t102.size ≤ 9223372036854775807
      · rw [if_pos c13] at H
        have c13b0 := eq_true c13
        have c13b1 : decide (1 + t102.size ≤ 9223372036854775807) = true := decide_eq_true c13
        try have c13b2 : (9223372036854775807 < 1 + t102.size) = False := eq_false (Nat.not_lt.2 c13)
        have H' := Aside0.mk H
        clear H
        go_wp2
        go_meet
        case rel => exact ⟨_, ((⟨#[45]⟩ : ByteArray) ++ t102), (by first | rfl | (simp; done) | (simp [*]; done)), H', ⟨by first | omega | exact Nat.le_refl _⟩, ⟨by repeat (first | (with_reducible first | exact HB.out | apply below_alloc | apply pw_below_drewN | apply below_drew1) | exact HB.out)⟩⟩
      · rw [if_neg c13] at H
        exact absurd H (by simp)
    · replace c12 := Bool.eq_false_iff.mpr c12
      subst c12
      have H1 : (minuetlaw9_LexNumbers.j0 k a2 a3 a4 t102) = some r := by rw [if_neg (show ¬ (false = true) by decide)] at H; exact H
      clear H
      have H := H1
      clear H1
      have H' := Aside0.mk H
      clear H
      go_wp2
      go_meet
      case rel => exact ⟨_, (t102), (by first | rfl | (simp; done) | (simp [*]; done)), H', ⟨by first | omega | exact Nat.le_refl _⟩, ⟨by repeat (first | (with_reducible first | exact HB.out | apply below_alloc | apply pw_below_drewN | apply below_drew1) | exact HB.out)⟩⟩
   case rest =>
    clear HC9
    try clear c1
    try clear p2
    try clear c7
    try clear c8
    try clear c12
    try clear c13
    try clear c13b0
    try clear c13b1
    try clear c13b2
    obtain ⟨kq, x11_8, rfl, HA, HJ8, HB⟩ := hcut
    cases kq with
    | zero => exact absurd HA.out (by simp [minuetlaw9_LexNumbers.j0])
    | succ kj8 =>
     have H := HA.out
     clear HA
     simp only [minuetlaw9_LexNumbers.j0] at H
     have HC14 := Aside0.mk H
     clear H
     go_upto_if 24 with (fail)
     go_cut [11] (fun v11 wc => ∃ (kq : Nat) (x11_13 : ByteArray), v11 = .string x11_13 ∧ Aside0 (minuetlaw9_LexNumbers.j1 kq a3 a4 x11_13 = some r) ∧ Aside0 (kq ≤ kj8) ∧ Aside0 (Below w.heap.size w wc))
     case first =>
      have H := HC14.out
      clear HC14
      by_cases c15 : (Go.bits .and .i64 a4 1) = 1
      · rw [if_pos c15] at H
        have c15b0 : ((Go.bits .and .i64 a4 1) == 1) = true := beq_iff_eq.mpr c15
        have c15b1 : ((Go.bits .and .i64 a4 1) != 1) = false := bne_eq_false_iff_eq.mpr c15
        clear c15
        (first | rw [c15b0] | (simp only [i64_w, i32_w]; rw [c15b0]) | skip)
        by_cases c16 : x11_8.size + 1 ≤ 9223372036854775807
        · rw [if_pos c16] at H
          have c16b0 := eq_true c16
          have c16b1 : decide (x11_8.size + 1 ≤ 9223372036854775807) = true := decide_eq_true c16
          try have c16b2 : (9223372036854775807 < x11_8.size + 1) = False := eq_false (Nat.not_lt.2 c16)
          replace H := Option.bind_eq_some_iff.mp H
          obtain ⟨t103, A170, H⟩ := H
          replace H : (if (x11_8 ++ (⟨#[46]⟩ : ByteArray)).size + t103.size ≤ 9223372036854775807 then (minuetlaw9_LexNumbers.j1 kj8 a3 a4 ((x11_8 ++ (⟨#[46]⟩ : ByteArray)) ++ t103)) else (none)) = some r := H
          have A17 := Aside0.mk A170
          clear A170
          by_cases c18 : (x11_8 ++ (⟨#[46]⟩ : ByteArray)).size + t103.size ≤ 9223372036854775807
          · rw [if_pos c18] at H
            have c18b0 := eq_true c18
            have c18b1 : decide ((x11_8 ++ (⟨#[46]⟩ : ByteArray)).size + t103.size ≤ 9223372036854775807) = true := decide_eq_true c18
            try have c18b2 : (9223372036854775807 < (x11_8 ++ (⟨#[46]⟩ : ByteArray)).size + t103.size) = False := eq_false (Nat.not_lt.2 c18)
            try have c18b3 : (9223372036854775807 < x11_8.size + 1 + t103.size) = False := eq_false (Nat.not_lt.2 (by have h_ := c18; simp only [ByteArray.size_append, show (⟨#[46]⟩ : ByteArray).size = 1 from rfl] at h_; omega))
            have H' := Aside0.mk H
            clear H
            go_wp2_with (first | ((with_reducible refine gate_callee (f := 18) rfl ?_); refine goesL_ (some 29) rfl rfl Try.func18 (by kernel_rfl) rfl #[.int .i64 (Go.bits .and .i64 a2 4095)] rfl (by (try simp only [List.map_toArray, List.map_cons, List.map_nil]); first | done | rfl | (simp only [List.length_drop, List.length_take]; rfl)) ?_; (with_reducible refine (minuetref0_Decimal.calls kj8 (Go.bits .and .i64 a2 4095) t103 _ A17.out).mono ?_); rintro e w19 ⟨rfl, hb⟩; refine ⟨_, rfl, ?_⟩; have n0_ := Aside0.mk (below_step (by repeat (first | (with_reducible first | exact HB.out | apply below_alloc | apply pw_below_drewN | apply below_drew1) | exact HB.out)) hb); clear HB; have HB := n0_; clear n0_; (try clear hb); (try clear hb2); (try clear hk); (try clear hi)))
            go_meet
            case rel => exact ⟨_, ((x11_8 ++ (⟨#[46]⟩ : ByteArray)) ++ t103), (by first | rfl | (simp; done) | (simp [*]; done)), H', ⟨by have := HJ8.out; first | omega | exact Nat.le_refl _⟩, ⟨by repeat (first | (with_reducible first | exact HB.out | apply below_alloc | apply pw_below_drewN | apply below_drew1) | exact HB.out)⟩⟩
          · rw [if_neg c18] at H
            exact absurd H (by simp)
        · rw [if_neg c16] at H
          exact absurd H (by simp)
      · rw [if_neg c15] at H
        have c15b0 : ((Go.bits .and .i64 a4 1) == 1) = false := beq_eq_false_iff_ne.mpr c15
        have c15b1 : ((Go.bits .and .i64 a4 1) != 1) = true := bne_iff_ne.mpr c15
        (first | rw [c15b0] | (simp only [i64_w, i32_w]; rw [c15b0]) | skip)
        have H' := Aside0.mk H
        clear H
        go_wp2
        go_meet
        case rel => exact ⟨_, (x11_8), (by first | rfl | (simp; done) | (simp [*]; done)), H', ⟨by have := HJ8.out; first | omega | exact Nat.le_refl _⟩, ⟨by repeat (first | (with_reducible first | exact HB.out | apply below_alloc | apply pw_below_drewN | apply below_drew1) | exact HB.out)⟩⟩
     case rest =>
      clear HC14
      try clear c1
      try clear p2
      try clear c7
      try clear c8
      try clear c12
      try clear c13
      try clear c13b0
      try clear c13b1
      try clear c13b2
      try clear c15
      try clear c15b0
      try clear c15b1
      try clear c16
      try clear c16b0
      try clear c16b1
      try clear c16b2
      try clear c17
      try clear c18
      try clear c18b0
      try clear c18b1
      try clear c18b2
      try clear p2
      obtain ⟨kq, x11_13, rfl, HA, HJ13, HB⟩ := hcut
      cases kq with
      | zero => exact absurd HA.out (by simp [minuetlaw9_LexNumbers.j1])
      | succ kj13 =>
       have H := HA.out
       clear HA
       simp only [minuetlaw9_LexNumbers.j1] at H
       by_cases c20 : (Go.bits .and .i64 a4 2) = 2
       · rw [if_pos c20] at H
         have c20b0 : ((Go.bits .and .i64 a4 2) == 2) = true := beq_iff_eq.mpr c20
         have c20b1 : ((Go.bits .and .i64 a4 2) != 2) = false := bne_eq_false_iff_eq.mpr c20
         clear c20
         obtain ⟨y104, hy104⟩ : ∃ y_ : List ByteArray, y_ = (([(⟨#[101]⟩ : ByteArray), (⟨#[69]⟩ : ByteArray), (⟨#[101, 43]⟩ : ByteArray), (⟨#[69, 45]⟩ : ByteArray)] : List ByteArray)) := ⟨_, rfl⟩
         replace H : (if 0 ≤ (Go.bits .and .i64 (a4 / 4) 3) then (if (Go.bits .and .i64 (a4 / 4) 3) < (y104.length : Int) then (if x11_13.size + (rdOf ByteArray.empty y104 (Go.bits .and .i64 (a4 / 4) 3)).size ≤ 9223372036854775807 then ((minuetref0_Decimal.f kj13 (Go.bits .and .i64 a3 255)).bind fun t108 => (if (x11_13 ++ (rdOf ByteArray.empty y104 (Go.bits .and .i64 (a4 / 4) 3))).size + t108.size ≤ 9223372036854775807 then (if 1 + ((x11_13 ++ (rdOf ByteArray.empty y104 (Go.bits .and .i64 (a4 / 4) 3))) ++ t108).size ≤ 9223372036854775807 then (if ((⟨#[91]⟩ : ByteArray) ++ ((x11_13 ++ (rdOf ByteArray.empty y104 (Go.bits .and .i64 (a4 / 4) 3))) ++ t108)).size + 1 ≤ 9223372036854775807 then ((lex_Tokens.f (((⟨#[91]⟩ : ByteArray) ++ ((x11_13 ++ (rdOf ByteArray.empty y104 (Go.bits .and .i64 (a4 / 4) 3))) ++ t108)) ++ (⟨#[93]⟩ : ByteArray))).bind fun bt109 => ((minuetlaw0_Num.f bt109.2).bind fun t113 => (if t113 = 0 then ((minuetlaw0_SameTokens.f kj13 bt109.1 (([(⟨2, 0, 1⟩ : S34), (⟨7, 1, wrap64 (1 + (((x11_13 ++ (rdOf ByteArray.empty y104 (Go.bits .and .i64 (a4 / 4) 3))) ++ t108).size : Int))⟩ : S34), (⟨3, wrap64 (1 + (((x11_13 ++ (rdOf ByteArray.empty y104 (Go.bits .and .i64 (a4 / 4) 3))) ++ t108).size : Int)), wrap64 (2 + (((x11_13 ++ (rdOf ByteArray.empty y104 (Go.bits .and .i64 (a4 / 4) 3))) ++ t108).size : Int))⟩ : S34)] : List (S34)))).bind fun t117 => (some t117)) else (none)))) else (none)) else (none)) else (none))) else (none)) else (none)) else (none)) = some r := by first | (rw [hy104]; with_reducible exact H) | (have H2_ := (Option.bind_some _ _).symm.trans H; rw [hy104]; with_reducible exact H2_) | (have H2_ := (Option.bind_some _ _).symm.trans H; with_reducible exact H2_) | with_reducible exact H | (rw [hy104]; exact H) | exact H
         have Ny104 := Aside0.mk hy104
         clear hy104
         obtain ⟨ji21, hji21⟩ : ∃ j_ : Int, (Go.bits .and .i64 (a4 / 4) 3) = j_ := ⟨_, rfl⟩
         replace H : (if 0 ≤ (ji21) then (if (ji21) < (y104.length : Int) then (if x11_13.size + (rdOf ByteArray.empty y104 (ji21)).size ≤ 9223372036854775807 then ((minuetref0_Decimal.f kj13 (Go.bits .and .i64 a3 255)).bind fun t108 => (if (x11_13 ++ (rdOf ByteArray.empty y104 (ji21))).size + t108.size ≤ 9223372036854775807 then (if 1 + ((x11_13 ++ (rdOf ByteArray.empty y104 (ji21))) ++ t108).size ≤ 9223372036854775807 then (if ((⟨#[91]⟩ : ByteArray) ++ ((x11_13 ++ (rdOf ByteArray.empty y104 (ji21))) ++ t108)).size + 1 ≤ 9223372036854775807 then ((lex_Tokens.f (((⟨#[91]⟩ : ByteArray) ++ ((x11_13 ++ (rdOf ByteArray.empty y104 (ji21))) ++ t108)) ++ (⟨#[93]⟩ : ByteArray))).bind fun bt109 => ((minuetlaw0_Num.f bt109.2).bind fun t113 => (if t113 = 0 then ((minuetlaw0_SameTokens.f kj13 bt109.1 (([(⟨2, 0, 1⟩ : S34), (⟨7, 1, wrap64 (1 + (((x11_13 ++ (rdOf ByteArray.empty y104 (ji21))) ++ t108).size : Int))⟩ : S34), (⟨3, wrap64 (1 + (((x11_13 ++ (rdOf ByteArray.empty y104 (ji21))) ++ t108).size : Int)), wrap64 (2 + (((x11_13 ++ (rdOf ByteArray.empty y104 (ji21))) ++ t108).size : Int))⟩ : S34)] : List (S34)))).bind fun t117 => (some t117)) else (none)))) else (none)) else (none)) else (none))) else (none)) else (none)) else (none)) = some r := by first | (rw [hji21] at H; exact H) | (simp only [hji21] at H ⊢; exact H)
         by_cases c22 : 0 ≤ (ji21)
         · rw [if_pos c22] at H
           have c22b0 : decide (0 ≤ (ji21)) = true := decide_eq_true c22
           clear c22
           by_cases c23 : (ji21) < (y104.length : Int)
           · rw [if_pos c23] at H
             have c23b0 : decide ((ji21) < (y104.length : Int)) = true := decide_eq_true c23
             clear c23
             by_cases c24 : x11_13.size + (rdOf ByteArray.empty y104 (ji21)).size ≤ 9223372036854775807
             · rw [if_pos c24] at H
               have c24b0 := eq_true c24
               have c24b1 : decide (x11_13.size + (rdOf ByteArray.empty y104 (ji21)).size ≤ 9223372036854775807) = true := decide_eq_true c24
               try have c24b2 : (9223372036854775807 < x11_13.size + (rdOf ByteArray.empty y104 (ji21)).size) = False := eq_false (Nat.not_lt.2 c24)
               replace H := Option.bind_eq_some_iff.mp H
               obtain ⟨t108, A250, H⟩ := H
               replace H : (if (x11_13 ++ (rdOf ByteArray.empty y104 (ji21))).size + t108.size ≤ 9223372036854775807 then (if 1 + ((x11_13 ++ (rdOf ByteArray.empty y104 (ji21))) ++ t108).size ≤ 9223372036854775807 then (if ((⟨#[91]⟩ : ByteArray) ++ ((x11_13 ++ (rdOf ByteArray.empty y104 (ji21))) ++ t108)).size + 1 ≤ 9223372036854775807 then ((lex_Tokens.f (((⟨#[91]⟩ : ByteArray) ++ ((x11_13 ++ (rdOf ByteArray.empty y104 (ji21))) ++ t108)) ++ (⟨#[93]⟩ : ByteArray))).bind fun bt109 => ((minuetlaw0_Num.f bt109.2).bind fun t113 => (if t113 = 0 then ((minuetlaw0_SameTokens.f kj13 bt109.1 (([(⟨2, 0, 1⟩ : S34), (⟨7, 1, wrap64 (1 + (((x11_13 ++ (rdOf ByteArray.empty y104 (ji21))) ++ t108).size : Int))⟩ : S34), (⟨3, wrap64 (1 + (((x11_13 ++ (rdOf ByteArray.empty y104 (ji21))) ++ t108).size : Int)), wrap64 (2 + (((x11_13 ++ (rdOf ByteArray.empty y104 (ji21))) ++ t108).size : Int))⟩ : S34)] : List (S34)))).bind fun t117 => (some t117)) else (none)))) else (none)) else (none)) else (none)) = some r := H
               have A25 := Aside0.mk A250
               clear A250
               by_cases c26 : (x11_13 ++ (rdOf ByteArray.empty y104 (ji21))).size + t108.size ≤ 9223372036854775807
               · rw [if_pos c26] at H
                 have c26b0 := eq_true c26
                 have c26b1 : decide ((x11_13 ++ (rdOf ByteArray.empty y104 (ji21))).size + t108.size ≤ 9223372036854775807) = true := decide_eq_true c26
                 try have c26b2 : (9223372036854775807 < (x11_13 ++ (rdOf ByteArray.empty y104 (ji21))).size + t108.size) = False := eq_false (Nat.not_lt.2 c26)
                 try have c26b3 : (9223372036854775807 < x11_13.size + (rdOf ByteArray.empty y104 (ji21)).size + t108.size) = False := eq_false (Nat.not_lt.2 (by have h_ := c26; simp only [ByteArray.size_append] at h_; omega))
                 by_cases c27 : 1 + ((x11_13 ++ (rdOf ByteArray.empty y104 (ji21))) ++ t108).size ≤ 9223372036854775807
                 · rw [if_pos c27] at H
                   have c27b0 := eq_true c27
                   have c27b1 : decide (1 + ((x11_13 ++ (rdOf ByteArray.empty y104 (ji21))) ++ t108).size ≤ 9223372036854775807) = true := decide_eq_true c27
                   try have c27b2 : (9223372036854775807 < 1 + ((x11_13 ++ (rdOf ByteArray.empty y104 (ji21))) ++ t108).size) = False := eq_false (Nat.not_lt.2 c27)
                   try have c27b3 : (9223372036854775807 < 1 + (x11_13.size + (rdOf ByteArray.empty y104 (ji21)).size + t108.size)) = False := eq_false (Nat.not_lt.2 (by have h_ := c27; simp only [ByteArray.size_append] at h_; omega))
                   by_cases c28 : ((⟨#[91]⟩ : ByteArray) ++ ((x11_13 ++ (rdOf ByteArray.empty y104 (ji21))) ++ t108)).size + 1 ≤ 9223372036854775807
                   · rw [if_pos c28] at H
                     have c28b0 := eq_true c28
                     have c28b1 : decide (((⟨#[91]⟩ : ByteArray) ++ ((x11_13 ++ (rdOf ByteArray.empty y104 (ji21))) ++ t108)).size + 1 ≤ 9223372036854775807) = true := decide_eq_true c28
                     try have c28b2 : (9223372036854775807 < ((⟨#[91]⟩ : ByteArray) ++ ((x11_13 ++ (rdOf ByteArray.empty y104 (ji21))) ++ t108)).size + 1) = False := eq_false (Nat.not_lt.2 c28)
                     try have c28b3 : (9223372036854775807 < 1 + (x11_13.size + (rdOf ByteArray.empty y104 (ji21)).size + t108.size) + 1) = False := eq_false (Nat.not_lt.2 (by have h_ := c28; simp only [ByteArray.size_append, show (⟨#[91]⟩ : ByteArray).size = 1 from rfl] at h_; omega))
                     replace H := Option.bind_eq_some_iff.mp H
                     obtain ⟨⟨t109, t110⟩, A290, H⟩ := H
                     replace H : ((minuetlaw0_Num.f t110).bind fun t113 => (if t113 = 0 then ((minuetlaw0_SameTokens.f kj13 t109 (([(⟨2, 0, 1⟩ : S34), (⟨7, 1, wrap64 (1 + (((x11_13 ++ (rdOf ByteArray.empty y104 (ji21))) ++ t108).size : Int))⟩ : S34), (⟨3, wrap64 (1 + (((x11_13 ++ (rdOf ByteArray.empty y104 (ji21))) ++ t108).size : Int)), wrap64 (2 + (((x11_13 ++ (rdOf ByteArray.empty y104 (ji21))) ++ t108).size : Int))⟩ : S34)] : List (S34)))).bind fun t117 => (some t117)) else (none))) = some r := H
                     have A29 := Aside0.mk A290
                     clear A290
                     replace H := Option.bind_eq_some_iff.mp H
                     obtain ⟨t113, A300, H⟩ := H
                     replace H : (if t113 = 0 then ((minuetlaw0_SameTokens.f kj13 t109 (([(⟨2, 0, 1⟩ : S34), (⟨7, 1, wrap64 (1 + (((x11_13 ++ (rdOf ByteArray.empty y104 (ji21))) ++ t108).size : Int))⟩ : S34), (⟨3, wrap64 (1 + (((x11_13 ++ (rdOf ByteArray.empty y104 (ji21))) ++ t108).size : Int)), wrap64 (2 + (((x11_13 ++ (rdOf ByteArray.empty y104 (ji21))) ++ t108).size : Int))⟩ : S34)] : List (S34)))).bind fun t117 => (some t117)) else (none)) = some r := H
                     have A30 := Aside0.mk A300
                     clear A300
                     by_cases c31 : t113 = 0
                     · rw [if_pos c31] at H
                       have c31b0 : (t113 == 0) = true := beq_iff_eq.mpr c31
                       have c31b1 : (t113 != 0) = false := bne_eq_false_iff_eq.mpr c31
                       clear c31
                       obtain ⟨y114, hy114⟩ : ∃ y_ : List (S34), y_ = (([(⟨2, 0, 1⟩ : S34), (⟨7, 1, wrap64 (1 + (((x11_13 ++ (rdOf ByteArray.empty y104 (ji21))) ++ t108).size : Int))⟩ : S34), (⟨3, wrap64 (1 + (((x11_13 ++ (rdOf ByteArray.empty y104 (ji21))) ++ t108).size : Int)), wrap64 (2 + (((x11_13 ++ (rdOf ByteArray.empty y104 (ji21))) ++ t108).size : Int))⟩ : S34)] : List (S34))) := ⟨_, rfl⟩
                       replace H : ((minuetlaw0_SameTokens.f kj13 t109 y114).bind fun t117 => (some t117)) = some r := by first | (rw [hy114]; with_reducible exact H) | (have H2_ := (Option.bind_some _ _).symm.trans H; rw [hy114]; with_reducible exact H2_) | (have H2_ := (Option.bind_some _ _).symm.trans H; with_reducible exact H2_) | with_reducible exact H | (rw [hy114]; exact H) | exact H
                       have Ny114 := Aside0.mk hy114
                       clear hy114
                       replace H := Option.bind_eq_some_iff.mp H
                       obtain ⟨t117, A320, H⟩ := H
                       replace H : (some t117) = some r := H
                       have A32 := Aside0.mk A320
                       clear A320
                       obtain rfl := Option.some.inj H
                       try go_wp2
                       have pi107 : (0 ≤ ((ji21) : Int)) = True := eq_true (of_decide_eq_true (by first | (with_reducible assumption) | assumption))
                       have qi107 : ((ji21) < (y104.length : Int)) = True := eq_true (of_decide_eq_true (by first | (with_reducible assumption) | assumption))
                       have n0_ := Aside0.mk (below_drew1 HB.out)
                       clear HB
                       have HB := n0_
                       clear n0_
                       refine start_ (n := 13) (S := fun w' => True) (ds := []) #[false, false, false, false, false, false, false, false, false, false, false, false, false] (by kernel_rfl) rfl rfl trivial (fun hHeld => ?_); refine with_tabW minuetlaw9_LexNumbers.tab9 minuetlaw9_LexNumbers.bits9 (fun HT_ HW_ => ?_)
                       generalize wc.drew = w33 at HB hHeld ⊢
                       refine pure_ (i := 0) (N := some 34) (v := ?_) (a' := ?_) #[true, false, false, false, false, false, false, false, false, false, false, false, false] rfl rfl (any_of HT_.out (by kernel_rfl)) (fun _ _ _ h => h) (Or.inl ⟨by rfl, ?_⟩) ?_ ?_
                       rotate_left
                       · intro w'
                         go_simp
                         with_reducible rfl
                       rotate_left
                       · simp only [Act.put, List.setIfInBounds_toArray, List.set_cons_zero, List.set_cons_succ, i64_w, i32_w]
                         rfl
                       refine pure_ (i := 2) (N := some 36) (v := ?_) (a' := ?_) #[true, false, true, false, false, false, false, false, false, false, false, false, false] rfl rfl (any_of HT_.out (by kernel_rfl)) (fun _ _ _ h => h) (Or.inl ⟨by rfl, ?_⟩) ?_ ?_
                       rotate_left
                       · intro w'
                         go_simp
                         with_reducible rfl
                       rotate_left
                       · simp only [Act.put, List.setIfInBounds_toArray, List.set_cons_zero, List.set_cons_succ, i64_w, i32_w]
                         rfl
                       refine pure_ (i := 3) (N := some 37) (v := ?_) (a' := ?_) #[true, false, true, true, false, false, false, false, false, false, false, false, false] rfl rfl (any_of HT_.out (by kernel_rfl)) (fun _ _ _ h => h) (Or.inl ⟨by rfl, ?_⟩) ?_ ?_
                       rotate_left
                       · intro w'
                         go_simp
                         with_reducible rfl
                       rotate_left
                       · simp only [Act.put, List.setIfInBounds_toArray, List.set_cons_zero, List.set_cons_succ, i64_w, i32_w]
                         rfl
                       refine pure_ (i := 4) (N := some 38) (v := ?_) (a' := ?_) #[true, false, true, true, true, false, false, false, false, false, false, false, false] rfl rfl (any_of HT_.out (by kernel_rfl)) (fun _ _ _ h => h) (Or.inl ⟨by rfl, ?_⟩) ?_ ?_
                       rotate_left
                       · intro w'
                         go_simp
                         with_reducible rfl
                       rotate_left
                       · simp only [Act.put, List.setIfInBounds_toArray, List.set_cons_zero, List.set_cons_succ, i64_w, i32_w]
                         rfl
                       refine pure_ (i := 8) (N := some 42) (v := ?_) (a' := ?_) #[true, false, true, true, true, false, false, false, true, false, false, false, false] rfl rfl (any_of HT_.out (by kernel_rfl)) (fun _ _ _ h => h) (Or.inl ⟨by rfl, ?_⟩) ?_ ?_
                       rotate_left
                       · intro w'
                         go_simp
                         with_reducible rfl
                       rotate_left
                       · simp only [Act.put, List.setIfInBounds_toArray, List.set_cons_zero, List.set_cons_succ, i64_w, i32_w]
                         rfl
                       refine pure_ (i := 9) (N := some 43) (v := ?_) (a' := ?_) #[true, false, true, true, true, false, false, false, true, true, false, false, false] rfl rfl (any_of HT_.out (by kernel_rfl)) (fun _ _ _ h => h) (Or.inl ⟨by rfl, ?_⟩) ?_ ?_
                       rotate_left
                       · intro w'
                         go_simp
                         with_reducible rfl
                       rotate_left
                       · simp only [Act.put, List.setIfInBounds_toArray, List.set_cons_zero, List.set_cons_succ, i64_w, i32_w]
                         rfl
                       refine join_ (σ := Value × Addr) 2 #[true, true, true, true, true, true, true, true, true, true, true, false, false] (fun s_ => [(35, s_.1), (40, .string (rdOf ByteArray.empty y104 (ji21))), (44, .string t108), (39, .pointer (some (s_.2.add ((ji21)).toNat))), (41, .string (x11_13 ++ (rdOf ByteArray.empty y104 (ji21))))]) (fun s_ w' => (Kd.R Kd.string 9 w' w.heap.size (fun _ => True) s_.1 y104) ∧ (∃ c_, (s_.1 : Value) = .slice (some s_.2) y104.length c_) ∧ (Below w.heap.size w w')) ?_ ?_
                       rotate_left
                       · intro hCont
                         refine two_ (i := 1) (j := 10) (Ni := some 35) (Nj := some 44) #[true, true, true, true, true, false, false, false, true, true, false, false, false] #[true, false, true, true, true, false, false, false, true, true, true, false, false] rfl rfl rfl rfl (two_of HT_.out (by kernel_rfl)) (by decide) (by decide) (fun K hK => ?_) (fun K hK => ?_)
                         · skip
                           refine Kd.R_lit_step Kd.string _ 9 ?hg (N := 35) ?hd (xs := ([(⟨#[101]⟩ : ByteArray), (⟨#[69]⟩ : ByteArray), (⟨#[101, 43]⟩ : ByteArray), (⟨#[69, 45]⟩ : ByteArray)] : List ByteArray)) (inner := [.string (⟨#[101]⟩ : ByteArray), .string (⟨#[69]⟩ : ByteArray), .string (⟨#[101, 43]⟩ : ByteArray), .string (⟨#[69, 45]⟩ : ByteArray)]) (ok := fun _ => True) (okp := fun _ => True) ?hr ?hp (fun _ hk => hk) trivial (Below.refl _ _) (Nat.le_refl _) (by simp) ?_; (case hd => rfl); (case hg => rfl); (case hr => first | (go_simp; done) | (go_simp; rfl)); (case hp => exact (Reps.one (show Kd.M Kd.string _ _ _ (⟨#[101]⟩ : ByteArray) [.string (⟨#[101]⟩ : ByteArray)] from rfl) (Reps.one (show Kd.M Kd.string _ _ _ (⟨#[69]⟩ : ByteArray) [.string (⟨#[69]⟩ : ByteArray)] from rfl) (Reps.one (show Kd.M Kd.string _ _ _ (⟨#[101, 43]⟩ : ByteArray) [.string (⟨#[101, 43]⟩ : ByteArray)] from rfl) (Reps.one (show Kd.M Kd.string _ _ _ (⟨#[69, 45]⟩ : ByteArray) [.string (⟨#[69, 45]⟩ : ByteArray)] from rfl) (Reps.none _ _))))))
                           intro v105 w34 ho35 hb hg_ hnew_
                           clear hg_ hnew_
                           (first | rw [← Ny104.out] at ho35 | (simp only [Int.reduceToNat] at ho35; rw [← Ny104.out] at ho35))
                           have n0_ := Aside0.mk (Kd.R_lower ho35 (below_size (by repeat (first | (with_reducible first | exact HB.out | apply below_alloc | apply pw_below_drewN | apply below_drew1) | exact HB.out))))
                           have n1_ := Aside0.mk (below_step (by repeat (first | (with_reducible first | exact HB.out | apply below_alloc | apply pw_below_drewN | apply below_drew1) | exact HB.out)) hb)
                           clear HB
                           have HO106 := n0_
                           have HB := n1_
                           clear n0_ n1_
                           clear hb ho35
                           obtain ⟨Ao36, co36, eo36⟩ := Kd.R_slice HO106.out
                           subst eo36
                           try (obtain ⟨Aox_, cox_, eox_⟩ := Kd.R_slice HO106.out; subst eox_)
                           obtain ⟨ado36, fo36, _⟩ := Kd.at_string (Kd.R_reads' HO106.out).2.2 0 (by decide) (by rw [Ny104.out]; simp)
                           cases fo36
                           refine hK.out _ _ trivial (fun hHeld => ?_)
                           clear hK K
                           refine norm_ (a' := ?_) ?_ ?_
                           rotate_left
                           · show Act.put _ (some 35) _ = _
                             simp only [Act.put, List.setIfInBounds_toArray, List.set_cons_zero, List.set_cons_succ, i64_w, i32_w]
                             rfl
                           refine pure_ (i := 5) (N := some 39) (v := ?_) (a' := ?_) #[true, true, true, true, true, true, false, false, true, true, false, false, false] rfl rfl (any_of HT_.out (by kernel_rfl)) (fun _ _ _ h => h) (Or.inl ⟨by rfl, ?_⟩) ?_ ?_
                           rotate_left
                           · intro w'
                             go_simp
                             with_reducible rfl
                           rotate_left
                           · simp only [Act.put, List.setIfInBounds_toArray, List.set_cons_zero, List.set_cons_succ, i64_w, i32_w]
                             rfl
                           refine two_ (i := 6) (j := 10) (Ni := some 40) (Nj := some 44) #[true, true, true, true, true, true, true, false, true, true, false, false, false] #[true, true, true, true, true, true, false, false, true, true, true, false, false] rfl rfl rfl rfl (two_of HT_.out (by kernel_rfl)) (by decide) (by decide) (fun K hK => ?_) (fun K hK => ?_)
                           · skip
                             (have p107 : 0 ≤ ((ji21) : Int) := of_decide_eq_true (by first | (with_reducible assumption) | assumption); have q107 : (ji21) < (y104.length : Int) := of_decide_eq_true (by first | (with_reducible assumption) | assumption); obtain ⟨ad107, e107, hx107_0⟩ := Kd.at_string (Kd.R_reads' HO106.out).2.2 (ji21) p107 q107; obtain rfl : ado36 = ad107 := (by injection e107))
                             refine value_ (w1 := ?_) (v := ?_) (by rfl) rfl ?_ ?_
                             rotate_left 2
                             · go_simp
                               constructor
                               · rfl
                               · rfl
                             clear hx107_0
                             refine hK.out _ _ trivial (fun hHeld => ?_)
                             clear hK K
                             refine norm_ (a' := ?_) ?_ ?_
                             rotate_left
                             · show Act.put _ (some 40) _ = _
                               simp only [Act.put, List.setIfInBounds_toArray, List.set_cons_zero, List.set_cons_succ, i64_w, i32_w]
                               rfl
                             refine pure_ (i := 7) (N := some 41) (v := ?_) (a' := ?_) #[true, true, true, true, true, true, true, true, true, true, false, false, false] rfl rfl (any_of HT_.out (by kernel_rfl)) (fun _ _ _ h => h) (Or.inl ⟨by rfl, ?_⟩) ?_ ?_
                             rotate_left
                             · intro w'
                               go_simp
                               with_reducible rfl
                             rotate_left
                             · simp only [Act.put, List.setIfInBounds_toArray, List.set_cons_zero, List.set_cons_succ, i64_w, i32_w]
                               rfl
                             refine one_ (i := 10) (N := some 44) #[true, true, true, true, true, true, true, true, true, true, true, false, false] rfl rfl (one_of HT_.out (by kernel_rfl)) (by decide) (fun K hK => ?_)
                             refine goes_ Try.func18 (by kernel_rfl) rfl #[.int .i64 (Go.bits .and .i64 a3 255)] (by rfl) rfl rfl (by (try simp only [List.map_toArray, List.map_cons, List.map_nil]); first | done | rfl | (simp only [List.length_drop, List.length_take]; rfl)) ?_
                             with_reducible refine (minuetref0_Decimal.calls kj13 (Go.bits .and .i64 a3 255) t108 _ A25.out).mono ?_
                             rintro e w37 ⟨rfl, hb⟩
                             refine ⟨_, rfl, ?_⟩
                             have n0_ := Aside0.mk (Kd.R_below (by (with_reducible repeat (first | apply Kd.R_alloc | apply Kd.R_drewN | apply Kd.R_drew)); exact HO106.out) hb)
                             have n1_ := Aside0.mk (below_step (by repeat (first | (with_reducible first | exact HB.out | apply below_alloc | apply pw_below_drewN | apply below_drew1) | exact HB.out)) hb)
                             clear HO106
                             clear HB
                             have HO106 := n0_
                             have HB := n1_
                             clear n0_ n1_
                             (try clear hb)
                             (try clear hb2)
                             (try clear hk)
                             (try clear hi)
                             refine hK.out _ _ trivial (fun hHeld => ?_)
                             clear hK K
                             refine norm_ (a' := ?_) ?_ ?_
                             rotate_left
                             · show Act.put _ (some 44) _ = _
                               simp only [Act.put, List.setIfInBounds_toArray, List.set_cons_zero, List.set_cons_succ, i64_w, i32_w]
                               rfl
                             exact norm_ (by simp only [putAll, Act.put, List.setIfInBounds_toArray, List.set_cons_zero, List.set_cons_succ]) (hCont (.slice (some ado36) y104.length co36, ado36) _ ⟨(by (with_reducible repeat (first | apply Kd.R_alloc | apply Kd.R_drewN | apply Kd.R_drew)); exact HO106.out), ⟨_, rfl⟩, (by repeat (first | (with_reducible first | exact HB.out | apply below_alloc | apply pw_below_drewN | apply below_drew1) | exact HB.out))⟩)
                           · skip
                             refine goes_ Try.func18 (by kernel_rfl) rfl #[.int .i64 (Go.bits .and .i64 a3 255)] (by rfl) rfl rfl (by (try simp only [List.map_toArray, List.map_cons, List.map_nil]); first | done | rfl | (simp only [List.length_drop, List.length_take]; rfl)) ?_
                             with_reducible refine (minuetref0_Decimal.calls kj13 (Go.bits .and .i64 a3 255) t108 _ A25.out).mono ?_
                             rintro e w37 ⟨rfl, hb⟩
                             refine ⟨_, rfl, ?_⟩
                             have n0_ := Aside0.mk (Kd.R_below (by (with_reducible repeat (first | apply Kd.R_alloc | apply Kd.R_drewN | apply Kd.R_drew)); exact HO106.out) hb)
                             have n1_ := Aside0.mk (below_step (by repeat (first | (with_reducible first | exact HB.out | apply below_alloc | apply pw_below_drewN | apply below_drew1) | exact HB.out)) hb)
                             clear HO106
                             clear HB
                             have HO106 := n0_
                             have HB := n1_
                             clear n0_ n1_
                             (try clear hb)
                             (try clear hb2)
                             (try clear hk)
                             (try clear hi)
                             refine hK.out _ _ trivial (fun hHeld => ?_)
                             clear hK K
                             refine norm_ (a' := ?_) ?_ ?_
                             rotate_left
                             · show Act.put _ (some 44) _ = _
                               simp only [Act.put, List.setIfInBounds_toArray, List.set_cons_zero, List.set_cons_succ, i64_w, i32_w]
                               rfl
                             refine one_ (i := 6) (N := some 40) #[true, true, true, true, true, true, true, false, true, true, true, false, false] rfl rfl (one_of HT_.out (by kernel_rfl)) (by decide) (fun K hK => ?_)
                             (have p107 : 0 ≤ ((ji21) : Int) := of_decide_eq_true (by first | (with_reducible assumption) | assumption); have q107 : (ji21) < (y104.length : Int) := of_decide_eq_true (by first | (with_reducible assumption) | assumption); obtain ⟨ad107, e107, hx107_0⟩ := Kd.at_string (Kd.R_reads' HO106.out).2.2 (ji21) p107 q107; obtain rfl : ado36 = ad107 := (by injection e107))
                             refine value_ (w1 := ?_) (v := ?_) (by rfl) rfl ?_ ?_
                             rotate_left 2
                             · go_simp
                               constructor
                               · rfl
                               · rfl
                             clear hx107_0
                             refine hK.out _ _ trivial (fun hHeld => ?_)
                             clear hK K
                             refine norm_ (a' := ?_) ?_ ?_
                             rotate_left
                             · show Act.put _ (some 40) _ = _
                               simp only [Act.put, List.setIfInBounds_toArray, List.set_cons_zero, List.set_cons_succ, i64_w, i32_w]
                               rfl
                             refine pure_ (i := 7) (N := some 41) (v := ?_) (a' := ?_) #[true, true, true, true, true, true, true, true, true, true, true, false, false] rfl rfl (any_of HT_.out (by kernel_rfl)) (fun _ _ _ h => h) (Or.inl ⟨by rfl, ?_⟩) ?_ ?_
                             rotate_left
                             · intro w'
                               go_simp
                               with_reducible rfl
                             rotate_left
                             · simp only [Act.put, List.setIfInBounds_toArray, List.set_cons_zero, List.set_cons_succ, i64_w, i32_w]
                               rfl
                             exact norm_ (by simp only [putAll, Act.put, List.setIfInBounds_toArray, List.set_cons_zero, List.set_cons_succ]) (hCont (.slice (some ado36) y104.length co36, ado36) _ ⟨(by (with_reducible repeat (first | apply Kd.R_alloc | apply Kd.R_drewN | apply Kd.R_drew)); exact HO106.out), ⟨_, rfl⟩, (by repeat (first | (with_reducible first | exact HB.out | apply below_alloc | apply pw_below_drewN | apply below_drew1) | exact HB.out))⟩)
                         · skip
                           refine goes_ Try.func18 (by kernel_rfl) rfl #[.int .i64 (Go.bits .and .i64 a3 255)] (by rfl) rfl rfl (by (try simp only [List.map_toArray, List.map_cons, List.map_nil]); first | done | rfl | (simp only [List.length_drop, List.length_take]; rfl)) ?_
                           with_reducible refine (minuetref0_Decimal.calls kj13 (Go.bits .and .i64 a3 255) t108 _ A25.out).mono ?_
                           rintro e w34 ⟨rfl, hb⟩
                           refine ⟨_, rfl, ?_⟩
                           have n0_ := Aside0.mk (below_step (by repeat (first | (with_reducible first | exact HB.out | apply below_alloc | apply pw_below_drewN | apply below_drew1) | exact HB.out)) hb)
                           clear HB
                           have HB := n0_
                           clear n0_
                           (try clear hb)
                           (try clear hb2)
                           (try clear hk)
                           (try clear hi)
                           refine hK.out _ _ trivial (fun hHeld => ?_)
                           clear hK K
                           refine norm_ (a' := ?_) ?_ ?_
                           rotate_left
                           · show Act.put _ (some 44) _ = _
                             simp only [Act.put, List.setIfInBounds_toArray, List.set_cons_zero, List.set_cons_succ, i64_w, i32_w]
                             rfl
                           refine one_ (i := 1) (N := some 35) #[true, true, true, true, true, false, false, false, true, true, true, false, false] rfl rfl (one_of HT_.out (by kernel_rfl)) (by decide) (fun K hK => ?_)
                           refine Kd.R_lit_step Kd.string _ 9 ?hg (N := 35) ?hd (xs := ([(⟨#[101]⟩ : ByteArray), (⟨#[69]⟩ : ByteArray), (⟨#[101, 43]⟩ : ByteArray), (⟨#[69, 45]⟩ : ByteArray)] : List ByteArray)) (inner := [.string (⟨#[101]⟩ : ByteArray), .string (⟨#[69]⟩ : ByteArray), .string (⟨#[101, 43]⟩ : ByteArray), .string (⟨#[69, 45]⟩ : ByteArray)]) (ok := fun _ => True) (okp := fun _ => True) ?hr ?hp (fun _ hk => hk) trivial (Below.refl _ _) (Nat.le_refl _) (by simp) ?_; (case hd => rfl); (case hg => rfl); (case hr => first | (go_simp; done) | (go_simp; rfl)); (case hp => exact (Reps.one (show Kd.M Kd.string _ _ _ (⟨#[101]⟩ : ByteArray) [.string (⟨#[101]⟩ : ByteArray)] from rfl) (Reps.one (show Kd.M Kd.string _ _ _ (⟨#[69]⟩ : ByteArray) [.string (⟨#[69]⟩ : ByteArray)] from rfl) (Reps.one (show Kd.M Kd.string _ _ _ (⟨#[101, 43]⟩ : ByteArray) [.string (⟨#[101, 43]⟩ : ByteArray)] from rfl) (Reps.one (show Kd.M Kd.string _ _ _ (⟨#[69, 45]⟩ : ByteArray) [.string (⟨#[69, 45]⟩ : ByteArray)] from rfl) (Reps.none _ _))))))
                           intro v105 w35 ho36 hb hg_ hnew_
                           clear hg_ hnew_
                           (first | rw [← Ny104.out] at ho36 | (simp only [Int.reduceToNat] at ho36; rw [← Ny104.out] at ho36))
                           have n0_ := Aside0.mk (Kd.R_lower ho36 (below_size (by repeat (first | (with_reducible first | exact HB.out | apply below_alloc | apply pw_below_drewN | apply below_drew1) | exact HB.out))))
                           have n1_ := Aside0.mk (below_step (by repeat (first | (with_reducible first | exact HB.out | apply below_alloc | apply pw_below_drewN | apply below_drew1) | exact HB.out)) hb)
                           clear HB
                           have HO106 := n0_
                           have HB := n1_
                           clear n0_ n1_
                           clear hb ho36
                           obtain ⟨Ao37, co37, eo37⟩ := Kd.R_slice HO106.out
                           subst eo37
                           try (obtain ⟨Aox_, cox_, eox_⟩ := Kd.R_slice HO106.out; subst eox_)
                           obtain ⟨ado37, fo37, _⟩ := Kd.at_string (Kd.R_reads' HO106.out).2.2 0 (by decide) (by rw [Ny104.out]; simp)
                           cases fo37
                           refine hK.out _ _ trivial (fun hHeld => ?_)
                           clear hK K
                           refine norm_ (a' := ?_) ?_ ?_
                           rotate_left
                           · show Act.put _ (some 35) _ = _
                             simp only [Act.put, List.setIfInBounds_toArray, List.set_cons_zero, List.set_cons_succ, i64_w, i32_w]
                             rfl
                           refine pure_ (i := 5) (N := some 39) (v := ?_) (a' := ?_) #[true, true, true, true, true, true, false, false, true, true, true, false, false] rfl rfl (any_of HT_.out (by kernel_rfl)) (fun _ _ _ h => h) (Or.inl ⟨by rfl, ?_⟩) ?_ ?_
                           rotate_left
                           · intro w'
                             go_simp
                             with_reducible rfl
                           rotate_left
                           · simp only [Act.put, List.setIfInBounds_toArray, List.set_cons_zero, List.set_cons_succ, i64_w, i32_w]
                             rfl
                           refine one_ (i := 6) (N := some 40) #[true, true, true, true, true, true, true, false, true, true, true, false, false] rfl rfl (one_of HT_.out (by kernel_rfl)) (by decide) (fun K hK => ?_)
                           (have p107 : 0 ≤ ((ji21) : Int) := of_decide_eq_true (by first | (with_reducible assumption) | assumption); have q107 : (ji21) < (y104.length : Int) := of_decide_eq_true (by first | (with_reducible assumption) | assumption); obtain ⟨ad107, e107, hx107_0⟩ := Kd.at_string (Kd.R_reads' HO106.out).2.2 (ji21) p107 q107; obtain rfl : ado37 = ad107 := (by injection e107))
                           refine value_ (w1 := ?_) (v := ?_) (by rfl) rfl ?_ ?_
                           rotate_left 2
                           · go_simp
                             constructor
                             · rfl
                             · rfl
                           clear hx107_0
                           refine hK.out _ _ trivial (fun hHeld => ?_)
                           clear hK K
                           refine norm_ (a' := ?_) ?_ ?_
                           rotate_left
                           · show Act.put _ (some 40) _ = _
                             simp only [Act.put, List.setIfInBounds_toArray, List.set_cons_zero, List.set_cons_succ, i64_w, i32_w]
                             rfl
                           refine pure_ (i := 7) (N := some 41) (v := ?_) (a' := ?_) #[true, true, true, true, true, true, true, true, true, true, true, false, false] rfl rfl (any_of HT_.out (by kernel_rfl)) (fun _ _ _ h => h) (Or.inl ⟨by rfl, ?_⟩) ?_ ?_
                           rotate_left
                           · intro w'
                             go_simp
                             with_reducible rfl
                           rotate_left
                           · simp only [Act.put, List.setIfInBounds_toArray, List.set_cons_zero, List.set_cons_succ, i64_w, i32_w]
                             rfl
                           exact norm_ (by simp only [putAll, Act.put, List.setIfInBounds_toArray, List.set_cons_zero, List.set_cons_succ]) (hCont (.slice (some ado37) y104.length co37, ado37) _ ⟨(by (with_reducible repeat (first | apply Kd.R_alloc | apply Kd.R_drewN | apply Kd.R_drew)); exact HO106.out), ⟨_, rfl⟩, (by repeat (first | (with_reducible first | exact HB.out | apply below_alloc | apply pw_below_drewN | apply below_drew1) | exact HB.out))⟩)
                       rintro ⟨v105, adz_v105⟩ w38 ⟨h0_, h1_, h2_⟩
                       have n0_ : Aside0 (Kd.R Kd.string 9 w38 w.heap.size (fun _ => True) v105 y104) := ⟨h0_⟩
                       have n1_ : Aside0 (∃ c_, (v105 : Value) = .slice (some adz_v105) y104.length c_) := ⟨h1_⟩
                       have n2_ : Aside0 (Below w.heap.size w w38) := ⟨h2_⟩
                       clear HB
                       clear h0_ h1_ h2_
                       have HO106 := n0_
                       have HA_HO106 := n1_
                       have HB := n2_
                       clear n0_ n1_ n2_
                       have hHeld := trivial
                       obtain ⟨co39, eo39⟩ := HA_HO106.out
                       clear HA_HO106
                       subst eo39
                       refine norm_ (a' := ?_) ?_ ?_
                       rotate_left
                       · simp only [putAll, Act.put, List.setIfInBounds_toArray, List.set_cons_zero, List.set_cons_succ]
                         rfl
                       refine pure_ (i := 11) (N := some 45) (v := ?_) (a' := ?_) #[true, true, true, true, true, true, true, true, true, true, true, true, false] rfl rfl (any_of HT_.out (by kernel_rfl)) (fun _ _ _ h => h) (Or.inl ⟨by rfl, ?_⟩) ?_ ?_
                       rotate_left
                       · intro w'
                         go_simp
                         with_reducible rfl
                       rotate_left
                       · simp only [Act.put, List.setIfInBounds_toArray, List.set_cons_zero, List.set_cons_succ, i64_w, i32_w]
                         rfl
                       refine pure_ (i := 12) (N := some 11) (v := ?_) (a' := ?_) #[true, true, true, true, true, true, true, true, true, true, true, true, true] rfl rfl (any_of HT_.out (by kernel_rfl)) (fun _ _ _ h => h) (Or.inl ⟨by rfl, ?_⟩) ?_ ?_
                       rotate_left
                       · intro w'
                         go_simp
                         with_reducible rfl
                       rotate_left
                       · simp only [Act.put, List.setIfInBounds_toArray, List.set_cons_zero, List.set_cons_succ, i64_w, i32_w]
                         rfl
                       refine done_ (done_of HT_.out (by kernel_rfl)) ?_
                       try go_wp2_with (first | ((with_reducible refine gate_callee (f := 12) rfl ?_); refine goesL_ (some 50) rfl rfl Try.func12 (by kernel_rfl) rfl #[.string (((⟨#[91]⟩ : ByteArray) ++ ((x11_13 ++ (rdOf ByteArray.empty y104 (ji21))) ++ t108)) ++ (⟨#[93]⟩ : ByteArray))] rfl (by (try simp only [List.map_toArray, List.map_cons, List.map_nil]); first | done | (simp only [hji21]; rfl) | rfl | (simp only [List.length_drop, List.length_take]; rfl)) ?_; (with_reducible refine (lex_Tokens.calls (((⟨#[91]⟩ : ByteArray) ++ ((x11_13 ++ (rdOf ByteArray.empty y104 (ji21))) ++ t108)) ++ (⟨#[93]⟩ : ByteArray)) t109 t110 _ (MaxOk.of HM_.out (by repeat (first | (with_reducible first | exact HB.out | apply below_alloc | apply pw_below_drewN | apply below_drew1) | exact HB.out))) A29.out).mono ?_); rintro e w40 ⟨v111, rfl, ho0, hb⟩; refine ⟨_, rfl, ?_⟩; have n0_ := Aside0.mk (Kd.R_below (by (with_reducible repeat (first | apply Kd.R_alloc | apply Kd.R_drewN | apply Kd.R_drew)); exact HO106.out) hb); have n1_ := Aside0.mk (Kd.R_lower ho0 (below_size (by repeat (first | (with_reducible first | exact HB.out | apply below_alloc | apply pw_below_drewN | apply below_drew1) | exact HB.out)))); have n2_ := Aside0.mk (below_step (by repeat (first | (with_reducible first | exact HB.out | apply below_alloc | apply pw_below_drewN | apply below_drew1) | exact HB.out)) hb); clear HO106; clear HB; have HO106 := n0_; have HO112 := n1_; have HB := n2_; clear n0_ n1_ n2_; (try clear hb); (try clear hb2); (try clear hk); (try clear hi); (try clear ho0)) | ((with_reducible refine gate_callee (f := 15) rfl ?_); refine goesL_ (some 54) rfl rfl Try.func15 (by kernel_rfl) rfl #[.int .i64 t110] rfl (by (try simp only [List.map_toArray, List.map_cons, List.map_nil]); first | done | rfl | (simp only [List.length_drop, List.length_take]; rfl)) ?_; (with_reducible refine (minuetlaw0_Num.calls t110 t113 _ A30.out).mono ?_); rintro e w' ⟨rfl, ⟨nd, rfl⟩⟩; refine ⟨_, rfl, ?_⟩) | ((with_reducible refine gate_dst (N := 70) rfl ?_); (try (refine gate_guard (by rfl) ?_; dsimp only)); refine Kd.R_lit k34 _ 34 ?hg (N := 70) ?hd (xs := ([(⟨2, 0, 1⟩ : S34), (⟨7, 1, wrap64 (1 + (((x11_13 ++ (rdOf ByteArray.empty y104 (ji21))) ++ t108).size : Int))⟩ : S34), (⟨3, wrap64 (1 + (((x11_13 ++ (rdOf ByteArray.empty y104 (ji21))) ++ t108).size : Int)), wrap64 (2 + (((x11_13 ++ (rdOf ByteArray.empty y104 (ji21))) ++ t108).size : Int))⟩ : S34)] : List (S34))) (inner := [.int .i64 2, .int .i64 0, .int .i64 1, .int .i64 7, .int .i64 1, .int .i64 (wrap64 (1 + (((x11_13 ++ (rdOf ByteArray.empty y104 (ji21))) ++ t108).size : Int))), .int .i64 3, .int .i64 (wrap64 (1 + (((x11_13 ++ (rdOf ByteArray.empty y104 (ji21))) ++ t108).size : Int))), .int .i64 (wrap64 (2 + (((x11_13 ++ (rdOf ByteArray.empty y104 (ji21))) ++ t108).size : Int)))]) (ok := fun _ => True) (okp := fun _ => True) ?hr ?hp (fun _ hk => hk) trivial (Below.refl _ _) (Nat.le_refl _) (by simp) ?_; (case hd => rfl); (case hg => rfl); (case hr => first | (go_simp; done) | (go_simp; rfl)); (case hp => exact (Reps.c3 (show Kd.M k34 _ _ _ (⟨2, 0, 1⟩ : S34) [.int .i64 2, .int .i64 0, .int .i64 1] from (k34_mkM _ _ _ (⟨2, 0, 1⟩ : S34) )) (Reps.c3 (show Kd.M k34 _ _ _ (⟨7, 1, wrap64 (1 + (((x11_13 ++ (rdOf ByteArray.empty y104 (ji21))) ++ t108).size : Int))⟩ : S34) [.int .i64 7, .int .i64 1, .int .i64 (wrap64 (1 + (((x11_13 ++ (rdOf ByteArray.empty y104 (ji21))) ++ t108).size : Int)))] from (k34_mkM _ _ _ (⟨7, 1, wrap64 (1 + (((x11_13 ++ (rdOf ByteArray.empty y104 (ji21))) ++ t108).size : Int))⟩ : S34) )) (Reps.c3 (show Kd.M k34 _ _ _ (⟨3, wrap64 (1 + (((x11_13 ++ (rdOf ByteArray.empty y104 (ji21))) ++ t108).size : Int)), wrap64 (2 + (((x11_13 ++ (rdOf ByteArray.empty y104 (ji21))) ++ t108).size : Int))⟩ : S34) [.int .i64 3, .int .i64 (wrap64 (1 + (((x11_13 ++ (rdOf ByteArray.empty y104 (ji21))) ++ t108).size : Int))), .int .i64 (wrap64 (2 + (((x11_13 ++ (rdOf ByteArray.empty y104 (ji21))) ++ t108).size : Int)))] from (k34_mkM _ _ _ (⟨3, wrap64 (1 + (((x11_13 ++ (rdOf ByteArray.empty y104 (ji21))) ++ t108).size : Int)), wrap64 (2 + (((x11_13 ++ (rdOf ByteArray.empty y104 (ji21))) ++ t108).size : Int))⟩ : S34) )) (Reps.none _ _))))); intro v115 w41 ho42 hb hg_ hnew_; clear hg_ hnew_; (first | rw [← Ny114.out] at ho42 | (simp only [Int.reduceToNat] at ho42; rw [← Ny114.out] at ho42)); have n0_ := Aside0.mk (Kd.R_below (by (with_reducible repeat (first | apply Kd.R_alloc | apply Kd.R_drewN | apply Kd.R_drew)); exact HO106.out) hb); have n1_ := Aside0.mk (Kd.R_elder' (by (with_reducible repeat (first | apply Kd.R_alloc | apply Kd.R_drewN | apply Kd.R_drew)); exact HO112.out) (Kd.R_base ho42) hb); have n2_ := Aside0.mk (Kd.R_lower (Kd.R_new' ho42 (Kd.R_lt (by (with_reducible repeat (first | apply Kd.R_alloc | apply Kd.R_drewN | apply Kd.R_drew)); exact HO112.out))) (below_size (by repeat (first | (with_reducible first | exact HB.out | apply below_alloc | apply pw_below_drewN | apply below_drew1) | exact HB.out)))); have n3_ := Aside0.mk (below_step (by repeat (first | (with_reducible first | exact HB.out | apply below_alloc | apply pw_below_drewN | apply below_drew1) | exact HB.out)) hb); clear HO106; clear HO112; clear HB; have HO106 := n0_; have HO112 := n1_; have HO116 := n2_; have HB := n3_; clear n0_ n1_ n2_ n3_; clear hb ho42; obtain ⟨Ao43, co43, eo43⟩ := Kd.R_slice HO112.out; subst eo43; obtain ⟨Ao44, co44, eo44⟩ := Kd.R_slice HO116.out; subst eo44) | (go_at_call 14; (with_reducible refine (minuetlaw0_SameTokens.calls kj13 _ _ t109 _ _ y114 t117 _ ?side1 ?side2 ?side3 ?side4 A32.out).mono ?_); (case side1 => repeat (first | exact (Kd.R_reads' HO112.out).2.2 | (with_reducible refine Kd.C_alloc ?_ _) | (with_reducible refine Kd.C_drewN ?_ _) | (with_reducible refine Kd.C_drew ?_))); (case side2 => exact (Kd.R_reads' HO112.out).2.1); (case side3 => repeat (first | exact (Kd.R_reads' HO116.out).2.2 | (with_reducible refine Kd.C_alloc ?_ _) | (with_reducible refine Kd.C_drewN ?_ _) | (with_reducible refine Kd.C_drew ?_))); (case side4 => exact (Kd.R_reads' HO116.out).2.1); rintro e w' ⟨rfl, ⟨nd, rfl⟩⟩))
                       go_ret
                       exact ⟨by first | rfl | (simp [errW_none, errW_some] <;> rfl) | (simp only [← hji21]; first | rfl | (simp [errW_none, errW_some] <;> rfl)) | (simp [*, errW_none, errW_some] <;> rfl), by repeat (first | (with_reducible first | exact HB.out | apply below_alloc | apply pw_below_drewN | apply below_drew1) | exact HB.out)⟩
                     · rw [if_neg c31] at H
                       exact absurd H (by simp)
                   · rw [if_neg c28] at H
                     exact absurd H (by simp)
                 · rw [if_neg c27] at H
                   exact absurd H (by simp)
               · rw [if_neg c26] at H
                 exact absurd H (by simp)
             · rw [if_neg c24] at H
               exact absurd H (by simp)
           · rw [if_neg c23] at H
             exact absurd H (by simp)
         · rw [if_neg c22] at H
           exact absurd H (by simp)
       · rw [if_neg c20] at H
         have c20b0 : ((Go.bits .and .i64 a4 2) == 2) = false := beq_eq_false_iff_ne.mpr c20
         have c20b1 : ((Go.bits .and .i64 a4 2) != 2) = true := bne_iff_ne.mpr c20
         by_cases c45 : 1 + x11_13.size ≤ 9223372036854775807
         · rw [if_pos c45] at H
           have c45b0 := eq_true c45
           have c45b1 : decide (1 + x11_13.size ≤ 9223372036854775807) = true := decide_eq_true c45
           try have c45b2 : (9223372036854775807 < 1 + x11_13.size) = False := eq_false (Nat.not_lt.2 c45)
           by_cases c46 : ((⟨#[91]⟩ : ByteArray) ++ x11_13).size + 1 ≤ 9223372036854775807
           · rw [if_pos c46] at H
             have c46b0 := eq_true c46
             have c46b1 : decide (((⟨#[91]⟩ : ByteArray) ++ x11_13).size + 1 ≤ 9223372036854775807) = true := decide_eq_true c46
             try have c46b2 : (9223372036854775807 < ((⟨#[91]⟩ : ByteArray) ++ x11_13).size + 1) = False := eq_false (Nat.not_lt.2 c46)
             try have c46b3 : (9223372036854775807 < 1 + x11_13.size + 1) = False := eq_false (Nat.not_lt.2 (by have h_ := c46; simp only [ByteArray.size_append, show (⟨#[91]⟩ : ByteArray).size = 1 from rfl] at h_; omega))
             replace H := Option.bind_eq_some_iff.mp H
             obtain ⟨⟨t118, t119⟩, A470, H⟩ := H
             replace H : ((minuetlaw0_Num.f t119).bind fun t122 => (if t122 = 0 then ((minuetlaw0_SameTokens.f kj13 t118 (([(⟨2, 0, 1⟩ : S34), (⟨7, 1, wrap64 (1 + (x11_13.size : Int))⟩ : S34), (⟨3, wrap64 (1 + (x11_13.size : Int)), wrap64 (2 + (x11_13.size : Int))⟩ : S34)] : List (S34)))).bind fun t126 => (some t126)) else (none))) = some r := H
             have A47 := Aside0.mk A470
             clear A470
             replace H := Option.bind_eq_some_iff.mp H
             obtain ⟨t122, A480, H⟩ := H
             replace H : (if t122 = 0 then ((minuetlaw0_SameTokens.f kj13 t118 (([(⟨2, 0, 1⟩ : S34), (⟨7, 1, wrap64 (1 + (x11_13.size : Int))⟩ : S34), (⟨3, wrap64 (1 + (x11_13.size : Int)), wrap64 (2 + (x11_13.size : Int))⟩ : S34)] : List (S34)))).bind fun t126 => (some t126)) else (none)) = some r := H
             have A48 := Aside0.mk A480
             clear A480
             by_cases c49 : t122 = 0
             · rw [if_pos c49] at H
               have c49b0 : (t122 == 0) = true := beq_iff_eq.mpr c49
               have c49b1 : (t122 != 0) = false := bne_eq_false_iff_eq.mpr c49
               clear c49
               obtain ⟨y123, hy123⟩ : ∃ y_ : List (S34), y_ = (([(⟨2, 0, 1⟩ : S34), (⟨7, 1, wrap64 (1 + (x11_13.size : Int))⟩ : S34), (⟨3, wrap64 (1 + (x11_13.size : Int)), wrap64 (2 + (x11_13.size : Int))⟩ : S34)] : List (S34))) := ⟨_, rfl⟩
               replace H : ((minuetlaw0_SameTokens.f kj13 t118 y123).bind fun t126 => (some t126)) = some r := by first | (rw [hy123]; with_reducible exact H) | (have H2_ := (Option.bind_some _ _).symm.trans H; rw [hy123]; with_reducible exact H2_) | (have H2_ := (Option.bind_some _ _).symm.trans H; with_reducible exact H2_) | with_reducible exact H | (rw [hy123]; exact H) | exact H
               have Ny123 := Aside0.mk hy123
               clear hy123
               replace H := Option.bind_eq_some_iff.mp H
               obtain ⟨t126, A500, H⟩ := H
               replace H : (some t126) = some r := H
               have A50 := Aside0.mk A500
               clear A500
               obtain rfl := Option.some.inj H
               go_wp2_with (first | ((with_reducible refine gate_callee (f := 12) rfl ?_); refine goesL_ (some 50) rfl rfl Try.func12 (by kernel_rfl) rfl #[.string (((⟨#[91]⟩ : ByteArray) ++ x11_13) ++ (⟨#[93]⟩ : ByteArray))] rfl (by (try simp only [List.map_toArray, List.map_cons, List.map_nil]); first | done | rfl | (simp only [List.length_drop, List.length_take]; rfl)) ?_; (with_reducible refine (lex_Tokens.calls (((⟨#[91]⟩ : ByteArray) ++ x11_13) ++ (⟨#[93]⟩ : ByteArray)) t118 t119 _ (MaxOk.of HM_.out (by repeat (first | (with_reducible first | exact HB.out | apply below_alloc | apply pw_below_drewN | apply below_drew1) | exact HB.out))) A47.out).mono ?_); rintro e w51 ⟨v120, rfl, ho0, hb⟩; refine ⟨_, rfl, ?_⟩; have n0_ := Aside0.mk (Kd.R_lower ho0 (below_size (by repeat (first | (with_reducible first | exact HB.out | apply below_alloc | apply pw_below_drewN | apply below_drew1) | exact HB.out)))); have n1_ := Aside0.mk (below_step (by repeat (first | (with_reducible first | exact HB.out | apply below_alloc | apply pw_below_drewN | apply below_drew1) | exact HB.out)) hb); clear HB; have HO121 := n0_; have HB := n1_; clear n0_ n1_; (try clear hb); (try clear hb2); (try clear hk); (try clear hi); (try clear ho0)) | ((with_reducible refine gate_callee (f := 15) rfl ?_); refine goesL_ (some 54) rfl rfl Try.func15 (by kernel_rfl) rfl #[.int .i64 t119] rfl (by (try simp only [List.map_toArray, List.map_cons, List.map_nil]); first | done | rfl | (simp only [List.length_drop, List.length_take]; rfl)) ?_; (with_reducible refine (minuetlaw0_Num.calls t119 t122 _ A48.out).mono ?_); rintro e w' ⟨rfl, ⟨nd, rfl⟩⟩; refine ⟨_, rfl, ?_⟩) | ((with_reducible refine gate_dst (N := 70) rfl ?_); (try (refine gate_guard (by rfl) ?_; dsimp only)); refine Kd.R_lit k34 _ 34 ?hg (N := 70) ?hd (xs := ([(⟨2, 0, 1⟩ : S34), (⟨7, 1, wrap64 (1 + (x11_13.size : Int))⟩ : S34), (⟨3, wrap64 (1 + (x11_13.size : Int)), wrap64 (2 + (x11_13.size : Int))⟩ : S34)] : List (S34))) (inner := [.int .i64 2, .int .i64 0, .int .i64 1, .int .i64 7, .int .i64 1, .int .i64 (wrap64 (1 + (x11_13.size : Int))), .int .i64 3, .int .i64 (wrap64 (1 + (x11_13.size : Int))), .int .i64 (wrap64 (2 + (x11_13.size : Int)))]) (ok := fun _ => True) (okp := fun _ => True) ?hr ?hp (fun _ hk => hk) trivial (Below.refl _ _) (Nat.le_refl _) (by simp) ?_; (case hd => rfl); (case hg => rfl); (case hr => first | (go_simp; done) | (go_simp; rfl) | (rw [show wrap64 (1 + (x11_13.size : Int)) = 1 + (x11_13.size : Int) from (by have h_ := c45; unfold wrap64; omega)]; go_simp; done) | (rw [show wrap64 (1 + (x11_13.size : Int)) = 1 + (x11_13.size : Int) from (by have h_ := c45; unfold wrap64; omega)]; go_simp; rfl)); (case hp => exact (Reps.c3 (show Kd.M k34 _ _ _ (⟨2, 0, 1⟩ : S34) [.int .i64 2, .int .i64 0, .int .i64 1] from (k34_mkM _ _ _ (⟨2, 0, 1⟩ : S34) )) (Reps.c3 (show Kd.M k34 _ _ _ (⟨7, 1, wrap64 (1 + (x11_13.size : Int))⟩ : S34) [.int .i64 7, .int .i64 1, .int .i64 (wrap64 (1 + (x11_13.size : Int)))] from (k34_mkM _ _ _ (⟨7, 1, wrap64 (1 + (x11_13.size : Int))⟩ : S34) )) (Reps.c3 (show Kd.M k34 _ _ _ (⟨3, wrap64 (1 + (x11_13.size : Int)), wrap64 (2 + (x11_13.size : Int))⟩ : S34) [.int .i64 3, .int .i64 (wrap64 (1 + (x11_13.size : Int))), .int .i64 (wrap64 (2 + (x11_13.size : Int)))] from (k34_mkM _ _ _ (⟨3, wrap64 (1 + (x11_13.size : Int)), wrap64 (2 + (x11_13.size : Int))⟩ : S34) )) (Reps.none _ _))))); intro v124 w52 ho53 hb hg_ hnew_; clear hg_ hnew_; (first | rw [← Ny123.out] at ho53 | (simp only [Int.reduceToNat] at ho53; rw [← Ny123.out] at ho53)); have n0_ := Aside0.mk (Kd.R_elder' (by (with_reducible repeat (first | apply Kd.R_alloc | apply Kd.R_drewN | apply Kd.R_drew)); exact HO121.out) (Kd.R_base ho53) hb); have n1_ := Aside0.mk (Kd.R_lower (Kd.R_new' ho53 (Kd.R_lt (by (with_reducible repeat (first | apply Kd.R_alloc | apply Kd.R_drewN | apply Kd.R_drew)); exact HO121.out))) (below_size (by repeat (first | (with_reducible first | exact HB.out | apply below_alloc | apply pw_below_drewN | apply below_drew1) | exact HB.out)))); have n2_ := Aside0.mk (below_step (by repeat (first | (with_reducible first | exact HB.out | apply below_alloc | apply pw_below_drewN | apply below_drew1) | exact HB.out)) hb); clear HO121; clear HB; have HO121 := n0_; have HO125 := n1_; have HB := n2_; clear n0_ n1_ n2_; clear hb ho53; obtain ⟨Ao54, co54, eo54⟩ := Kd.R_slice HO121.out; subst eo54; obtain ⟨Ao55, co55, eo55⟩ := Kd.R_slice HO125.out; subst eo55) | (go_at_call 14; (with_reducible refine (minuetlaw0_SameTokens.calls kj13 _ _ t118 _ _ y123 t126 _ ?side1 ?side2 ?side3 ?side4 A50.out).mono ?_); (case side1 => repeat (first | exact (Kd.R_reads' HO121.out).2.2 | (with_reducible refine Kd.C_alloc ?_ _) | (with_reducible refine Kd.C_drewN ?_ _) | (with_reducible refine Kd.C_drew ?_))); (case side2 => exact (Kd.R_reads' HO121.out).2.1); (case side3 => repeat (first | exact (Kd.R_reads' HO125.out).2.2 | (with_reducible refine Kd.C_alloc ?_ _) | (with_reducible refine Kd.C_drewN ?_ _) | (with_reducible refine Kd.C_drew ?_))); (case side4 => exact (Kd.R_reads' HO125.out).2.1); rintro e w' ⟨rfl, ⟨nd, rfl⟩⟩))
               go_ret
               exact ⟨by first | rfl | (simp [errW_none, errW_some] <;> rfl) | (simp [*, errW_none, errW_some] <;> rfl), by repeat (first | (with_reducible first | exact HB.out | apply below_alloc | apply pw_below_drewN | apply below_drew1) | exact HB.out)⟩
             · rw [if_neg c49] at H
               exact absurd H (by simp)
           · rw [if_neg c46] at H
             exact absurd H (by simp)
         · rw [if_neg c45] at H
           exact absurd H (by simp)
 · replace c7 := Bool.eq_false_iff.mpr c7
   subst c7
   have H1 : (none) = some r := by rw [if_neg (show ¬ (false = true) by decide)] at H; exact H
   clear H
   have H := H1
   clear H1
   exact absurd H (by simp)

/-- THE ONE PURE STATEMENT of minuetlaw9_LexNumbers: yours. -/
def minuetlaw9_LexNumbers.Pure : Prop := ∀ (a0 : Bool) (a1 : Int) (a2 : Int) (a3 : Int) (a4 : Int), (Lit.int .i64 a1).wf = true → (Lit.int .i64 a2).wf = true → (Lit.int .i64 a3).wf = true → (Lit.int .i64 a4).wf = true → ∃ k, minuetlaw9_LexNumbers.f k a0 a1 a2 a3 a4 = some true
theorem minuetlaw9_LexNumbers.walk (P : minuetlaw9_LexNumbers.Pure) (a0 : Bool) (a1 : Int) (a2 : Int) (a3 : Int) (a4 : Int) (w : World) (hm_ : MaxOk w) (w1 : (Lit.int .i64 a1).wf = true) (w2 : (Lit.int .i64 a2).wf = true) (w3 : (Lit.int .i64 a3).wf = true) (w4 : (Lit.int .i64 a4).wf = true) :
 Calls Try.prog 8 #[.bool a0, .int .i64 a1, .int .i64 a2, .int .i64 a3, .int .i64 a4] w fun e w' => e = .returned (.bool true) ∧ Below w.heap.size w w' := by
 obtain ⟨k, h⟩ := P a0 a1 a2 a3 a4 w1 w2 w3 w4
 refine (minuetlaw9_LexNumbers.calls k a0 a1 a2 a3 a4 true w hm_ h).mono ?_
 rintro e w' ⟨rfl, hd⟩
 exact ⟨rfl, hd⟩

end Go.Proofs.Ytjcoahipcgeoiaa.G
