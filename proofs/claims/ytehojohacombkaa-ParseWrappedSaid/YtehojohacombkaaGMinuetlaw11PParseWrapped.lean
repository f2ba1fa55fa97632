-- Laid by this session's own program gprint.py (wip/tools), out of the kit's print and of texts of this session. Lean checks it.
import Derived.Test.YtehojohacombkaaGx0
import Derived.Test.YtehojohacombkaaGMinuetlaw0PNum
import Derived.Test.YtehojohacombkaaGParsePParse
import Derived.Test.YtehojohacombkaaGMinuetlaw11qawake
import Derived.Test.YtehojohacombkaaGMinuetlaw11qshape
namespace Go.Proofs.Ytehojohacombkaa.G
open Go.RowKit Go.Proofs.YtehojohacombkaaW.PrintWords Go.Proofs.YtehojohacombkaaW.PrintLast Go.Proofs.YtehojohacombkaaW.PrintMore
attribute [local go_sem] max2_int min2_int max_two min_two max_three min_three max_four min_four   -- for this text's walks alone
set_option linter.unusedVariables false
set_option linter.unusedSimpArgs false

/-! ### minuetlaw11_ParseWrapped: function 10 -/
mutual
def minuetlaw11_ParseWrapped.j0 : Nat → ByteArray → Bool → Int → ByteArray → ByteArray → Int → Int → List (S34) → Option (Bool)
 | 0, _, _, _, _, _, _, _, _ => none
 | k + 1, x0, x1, x6, x7, x8, x109000, x109001, x109002 => if x7.size + x0.size ≤ 9223372036854775807 then (if (x7 ++ x0).size + x8.size ≤ 9223372036854775807 then ((parse_Parse.f ((x7 ++ x0) ++ x8)).bind fun bt109 => ((minuetlaw11_shape.f k x109000 x109001 x109002 x109000 0).bind fun bt116 => ((minuetlaw11_shape.f k bt109.1 bt109.2.1 bt109.2.2.1 bt109.1 0).bind fun bt118 => ((minuetlaw0_Num.f x6).bind fun t120 => (if t120 = 0 then ((minuetlaw0_Num.f bt109.2.2.2).bind fun t121 => (if t121 = 0 then (if bt116.2 = true then (minuetlaw11_ParseWrapped.j1 k x0 x1 bt116.1 bt118.1 (!bt118.2) x109000 x109001 x109002) else (minuetlaw11_ParseWrapped.j1 k x0 x1 bt116.1 bt118.1 true x109000 x109001 x109002)) else (minuetlaw11_ParseWrapped.j1 k x0 x1 bt116.1 bt118.1 true x109000 x109001 x109002))) else (minuetlaw11_ParseWrapped.j1 k x0 x1 bt116.1 bt118.1 true x109000 x109001 x109002)))))) else (none)) else (none)
def minuetlaw11_ParseWrapped.j1 : Nat → ByteArray → Bool → ByteArray → ByteArray → Bool → Int → Int → List (S34) → Option (Bool)
 | 0, _, _, _, _, _, _, _, _ => none
 | k + 1, x0, x1, x11, x13, x68, x109000, x109001, x109002 => if x68 = true then (none) else (minuetlaw11_ParseWrapped.l0 k x0 x1 x11 x13 0 x109000 x109001 x109002)
def minuetlaw11_ParseWrapped.l0 : Nat → ByteArray → Bool → ByteArray → ByteArray → Int → Int → Int → List (S34) → Option (Bool)
 | 0, _, _, _, _, _, _, _, _ => none
 | k + 1, x0, x1, x11, x13, x15, x109000, x109001, x109002 => if x15 < (x109002.length : Int) then (if 0 ≤ x15 then (if ((rd_T34 x109002 x15).f1) = 7 then (some true) else (minuetlaw11_ParseWrapped.l0 k x0 x1 x11 x13 (wrap64 (x15 + 1)) x109000 x109001 x109002)) else (none)) else (minuetlaw11_ParseWrapped.l1 k x0 x1 x11 x13 0 0)
def minuetlaw11_ParseWrapped.l1 : Nat → ByteArray → Bool → ByteArray → ByteArray → Int → Int → Option (Bool)
 | 0, _, _, _, _, _, _ => none
 | k + 1, x0, x1, x11, x13, x16, x17 => if x17 < (x0.size : Int) then (if 0 ≤ x17 then (if (bt x0 x17) = 91 then (minuetlaw11_ParseWrapped.l1 k x0 x1 x11 x13 (wrap64 (x16 + 1)) (wrap64 (x17 + 1))) else (if (bt x0 x17) = 123 then (minuetlaw11_ParseWrapped.l1 k x0 x1 x11 x13 (wrap64 (x16 + 1)) (wrap64 (x17 + 1))) else (minuetlaw11_ParseWrapped.l1 k x0 x1 x11 x13 x16 (wrap64 (x17 + 1))))) else (none)) else (if x16 ≥ 12 then (minuetlaw11_ParseWrapped.j4 k x1 x11 x13 true) else (minuetlaw11_ParseWrapped.j4 k x1 x11 x13 (decide ((x11.size : Int) < 3))))
def minuetlaw11_ParseWrapped.j4 : Nat → Bool → ByteArray → ByteArray → Bool → Option (Bool)
 | 0, _, _, _, _ => none
 | k + 1, x1, x11, x13, x107 => if x107 = true then (some true) else (if 2 ≤ (wrap64 ((x11.size : Int) - 1)) then (if (wrap64 ((x11.size : Int) - 1)) ≤ (x11.size : Int) then (if x1 = true then (if 7 + (x11.extract 2 ((wrap64 ((x11.size : Int) - 1)) : Int).toNat).size ≤ 9223372036854775807 then (if ((⟨#[82, 40, 79, 40, 80, 40, 84]⟩ : ByteArray) ++ (x11.extract 2 ((wrap64 ((x11.size : Int) - 1)) : Int).toNat)).size + 3 ≤ 9223372036854775807 then (some (x13.toList == (((⟨#[82, 40, 79, 40, 80, 40, 84]⟩ : ByteArray) ++ (x11.extract 2 ((wrap64 ((x11.size : Int) - 1)) : Int).toNat)) ++ (⟨#[41, 41, 41]⟩ : ByteArray)).toList)) else (none)) else (none)) else (if 4 + (x11.extract 2 ((wrap64 ((x11.size : Int) - 1)) : Int).toNat).size ≤ 9223372036854775807 then (if ((⟨#[82, 40, 65, 40]⟩ : ByteArray) ++ (x11.extract 2 ((wrap64 ((x11.size : Int) - 1)) : Int).toNat)).size + 2 ≤ 9223372036854775807 then (some (x13.toList == (((⟨#[82, 40, 65, 40]⟩ : ByteArray) ++ (x11.extract 2 ((wrap64 ((x11.size : Int) - 1)) : Int).toNat)) ++ (⟨#[41, 41]⟩ : ByteArray)).toList)) else (none)) else (none))) else (none)) else (none))
end
def minuetlaw11_ParseWrapped.f (k : Nat) (a0 : ByteArray) (a1 : Bool) : Option (Bool) := (minuetlaw11_awake.f k).bind fun t101 => (if t101 = true then (if (a0.size : Int) > 200 then (some true) else ((parse_Parse.f a0).bind fun bt102 => (if a1 = true then (minuetlaw11_ParseWrapped.j0 k a0 a1 bt102.2.2.2 (⟨#[123, 34, 107, 101, 121, 34, 58]⟩ : ByteArray) (⟨#[10, 125]⟩ : ByteArray) bt102.1 bt102.2.1 bt102.2.2.1) else (minuetlaw11_ParseWrapped.j0 k a0 a1 bt102.2.2.2 (⟨#[91]⟩ : ByteArray) (⟨#[10, 93]⟩ : ByteArray) bt102.1 bt102.2.1 bt102.2.2.1)))) else (none))
theorem minuetlaw11_ParseWrapped.mono_l : ∀ k, (∀ y0 y1 y2 y3 y4 y5 y6 y7, LeO (minuetlaw11_ParseWrapped.j0 k y0 y1 y2 y3 y4 y5 y6 y7) (minuetlaw11_ParseWrapped.j0 (k + 1) y0 y1 y2 y3 y4 y5 y6 y7)) ∧ (∀ y0 y1 y2 y3 y4 y5 y6 y7, LeO (minuetlaw11_ParseWrapped.j1 k y0 y1 y2 y3 y4 y5 y6 y7) (minuetlaw11_ParseWrapped.j1 (k + 1) y0 y1 y2 y3 y4 y5 y6 y7)) ∧ (∀ y0 y1 y2 y3 y4 y5 y6 y7, LeO (minuetlaw11_ParseWrapped.l0 k y0 y1 y2 y3 y4 y5 y6 y7) (minuetlaw11_ParseWrapped.l0 (k + 1) y0 y1 y2 y3 y4 y5 y6 y7)) ∧ (∀ y0 y1 y2 y3 y4 y5, LeO (minuetlaw11_ParseWrapped.l1 k y0 y1 y2 y3 y4 y5) (minuetlaw11_ParseWrapped.l1 (k + 1) y0 y1 y2 y3 y4 y5)) ∧ (∀ y0 y1 y2 y3, LeO (minuetlaw11_ParseWrapped.j4 k y0 y1 y2 y3) (minuetlaw11_ParseWrapped.j4 (k + 1) y0 y1 y2 y3))
 | 0 => ⟨fun _ _ _ _ _ _ _ _ r h => by simp [minuetlaw11_ParseWrapped.j0] at h, fun _ _ _ _ _ _ _ _ r h => by simp [minuetlaw11_ParseWrapped.j1] at h, fun _ _ _ _ _ _ _ _ r h => by simp [minuetlaw11_ParseWrapped.l0] at h, fun _ _ _ _ _ _ r h => by simp [minuetlaw11_ParseWrapped.l1] at h, fun _ _ _ _ r h => by simp [minuetlaw11_ParseWrapped.j4] at h⟩
 | k + 1 => by
  obtain ⟨ih0, ih1, ih2, ih3, ih4⟩ := minuetlaw11_ParseWrapped.mono_l k
  refine ⟨?_, ?_, ?_, ?_, ?_⟩
  · intro y0 y1 y2 y3 y4 y5 y6 y7
    unfold minuetlaw11_ParseWrapped.j0
    repeat' first
    | (with_reducible exact ih0 _ _ _ _ _ _ _ _)
    | (with_reducible exact ih1 _ _ _ _ _ _ _ _)
    | (with_reducible exact ih2 _ _ _ _ _ _ _ _)
    | (with_reducible exact ih3 _ _ _ _ _ _)
    | (with_reducible exact ih4 _ _ _ _)
    | (with_reducible exact minuetlaw11_awake.mono _)
    | (with_reducible exact minuetlaw11_shape.mono _ _ _ _ _ _)
    | (with_reducible exact LeO.refl _)
    | (with_reducible exact LeO.none _)
    | (with_reducible refine LeO.ite ?_ ?_)
    | (with_reducible refine LeO.bind ?_ (fun _ => ?_))
    | exact ih0 _ _ _ _ _ _ _ _
    | exact ih1 _ _ _ _ _ _ _ _
    | exact ih2 _ _ _ _ _ _ _ _
    | exact ih3 _ _ _ _ _ _
    | exact ih4 _ _ _ _
    | exact minuetlaw11_awake.mono _
    | exact minuetlaw11_shape.mono _ _ _ _ _ _
    | exact LeO.none _
    | refine LeO.ite ?_ ?_
    | refine LeO.bind ?_ (fun _ => ?_)
  · intro y0 y1 y2 y3 y4 y5 y6 y7
    unfold minuetlaw11_ParseWrapped.j1
    repeat' first
    | (with_reducible exact ih0 _ _ _ _ _ _ _ _)
    | (with_reducible exact ih1 _ _ _ _ _ _ _ _)
    | (with_reducible exact ih2 _ _ _ _ _ _ _ _)
    | (with_reducible exact ih3 _ _ _ _ _ _)
    | (with_reducible exact ih4 _ _ _ _)
    | (with_reducible exact minuetlaw11_awake.mono _)
    | (with_reducible exact minuetlaw11_shape.mono _ _ _ _ _ _)
    | (with_reducible exact LeO.refl _)
    | (with_reducible exact LeO.none _)
    | (with_reducible refine LeO.ite ?_ ?_)
    | (with_reducible refine LeO.bind ?_ (fun _ => ?_))
    | exact ih0 _ _ _ _ _ _ _ _
    | exact ih1 _ _ _ _ _ _ _ _
    | exact ih2 _ _ _ _ _ _ _ _
    | exact ih3 _ _ _ _ _ _
    | exact ih4 _ _ _ _
    | exact minuetlaw11_awake.mono _
    | exact minuetlaw11_shape.mono _ _ _ _ _ _
    | exact LeO.none _
    | refine LeO.ite ?_ ?_
    | refine LeO.bind ?_ (fun _ => ?_)
  · intro y0 y1 y2 y3 y4 y5 y6 y7
    unfold minuetlaw11_ParseWrapped.l0
    repeat' first
    | (with_reducible exact ih0 _ _ _ _ _ _ _ _)
    | (with_reducible exact ih1 _ _ _ _ _ _ _ _)
    | (with_reducible exact ih2 _ _ _ _ _ _ _ _)
    | (with_reducible exact ih3 _ _ _ _ _ _)
    | (with_reducible exact ih4 _ _ _ _)
    | (with_reducible exact minuetlaw11_awake.mono _)
    | (with_reducible exact minuetlaw11_shape.mono _ _ _ _ _ _)
    | (with_reducible exact LeO.refl _)
    | (with_reducible exact LeO.none _)
    | (with_reducible refine LeO.ite ?_ ?_)
    | (with_reducible refine LeO.bind ?_ (fun _ => ?_))
    | exact ih0 _ _ _ _ _ _ _ _
    | exact ih1 _ _ _ _ _ _ _ _
    | exact ih2 _ _ _ _ _ _ _ _
    | exact ih3 _ _ _ _ _ _
    | exact ih4 _ _ _ _
    | exact minuetlaw11_awake.mono _
    | exact minuetlaw11_shape.mono _ _ _ _ _ _
    | exact LeO.none _
    | refine LeO.ite ?_ ?_
    | refine LeO.bind ?_ (fun _ => ?_)
  · intro y0 y1 y2 y3 y4 y5
    unfold minuetlaw11_ParseWrapped.l1
    repeat' first
    | (with_reducible exact ih0 _ _ _ _ _ _ _ _)
    | (with_reducible exact ih1 _ _ _ _ _ _ _ _)
    | (with_reducible exact ih2 _ _ _ _ _ _ _ _)
    | (with_reducible exact ih3 _ _ _ _ _ _)
    | (with_reducible exact ih4 _ _ _ _)
    | (with_reducible exact minuetlaw11_awake.mono _)
    | (with_reducible exact minuetlaw11_shape.mono _ _ _ _ _ _)
    | (with_reducible exact LeO.refl _)
    | (with_reducible exact LeO.none _)
    | (with_reducible refine LeO.ite ?_ ?_)
    | (with_reducible refine LeO.bind ?_ (fun _ => ?_))
    | exact ih0 _ _ _ _ _ _ _ _
    | exact ih1 _ _ _ _ _ _ _ _
    | exact ih2 _ _ _ _ _ _ _ _
    | exact ih3 _ _ _ _ _ _
    | exact ih4 _ _ _ _
    | exact minuetlaw11_awake.mono _
    | exact minuetlaw11_shape.mono _ _ _ _ _ _
    | exact LeO.none _
    | refine LeO.ite ?_ ?_
    | refine LeO.bind ?_ (fun _ => ?_)
  · intro y0 y1 y2 y3
    unfold minuetlaw11_ParseWrapped.j4
    repeat' first
    | (with_reducible exact ih0 _ _ _ _ _ _ _ _)
    | (with_reducible exact ih1 _ _ _ _ _ _ _ _)
    | (with_reducible exact ih2 _ _ _ _ _ _ _ _)
    | (with_reducible exact ih3 _ _ _ _ _ _)
    | (with_reducible exact ih4 _ _ _ _)
    | (with_reducible exact minuetlaw11_awake.mono _)
    | (with_reducible exact minuetlaw11_shape.mono _ _ _ _ _ _)
    | (with_reducible exact LeO.refl _)
    | (with_reducible exact LeO.none _)
    | (with_reducible refine LeO.ite ?_ ?_)
    | (with_reducible refine LeO.bind ?_ (fun _ => ?_))
    | exact ih0 _ _ _ _ _ _ _ _
    | exact ih1 _ _ _ _ _ _ _ _
    | exact ih2 _ _ _ _ _ _ _ _
    | exact ih3 _ _ _ _ _ _
    | exact ih4 _ _ _ _
    | exact minuetlaw11_awake.mono _
    | exact minuetlaw11_shape.mono _ _ _ _ _ _
    | exact LeO.none _
    | refine LeO.ite ?_ ?_
    | refine LeO.bind ?_ (fun _ => ?_)
theorem minuetlaw11_ParseWrapped.mono : ∀ a0 a1 k, LeO (minuetlaw11_ParseWrapped.f k a0 a1) (minuetlaw11_ParseWrapped.f (k + 1) a0 a1) := by
 intro a0 a1 k
 obtain ⟨ih0, ih1, ih2, ih3, ih4⟩ := minuetlaw11_ParseWrapped.mono_l k
 unfold minuetlaw11_ParseWrapped.f
 repeat' first
  | (with_reducible exact ih0 _ _ _ _ _ _ _ _)
  | (with_reducible exact ih1 _ _ _ _ _ _ _ _)
  | (with_reducible exact ih2 _ _ _ _ _ _ _ _)
  | (with_reducible exact ih3 _ _ _ _ _ _)
  | (with_reducible exact ih4 _ _ _ _)
  | (with_reducible exact minuetlaw11_awake.mono _)
  | (with_reducible exact minuetlaw11_shape.mono _ _ _ _ _ _)
  | (with_reducible exact LeO.refl _)
  | (with_reducible exact LeO.none _)
  | (with_reducible refine LeO.ite ?_ ?_)
  | (with_reducible refine LeO.bind ?_ (fun _ => ?_))
  | exact ih0 _ _ _ _ _ _ _ _
  | exact ih1 _ _ _ _ _ _ _ _
  | exact ih2 _ _ _ _ _ _ _ _
  | exact ih3 _ _ _ _ _ _
  | exact ih4 _ _ _ _
  | exact minuetlaw11_awake.mono _
  | exact minuetlaw11_shape.mono _ _ _ _ _ _
  | exact LeO.none _
  | refine LeO.ite ?_ ?_
  | refine LeO.bind ?_ (fun _ => ?_)
set_option maxHeartbeats 8000000 in
set_option maxRecDepth 100000 in
theorem minuetlaw11_ParseWrapped.calls (k : Nat) (a0 : ByteArray) (a1 : Bool) (r : Bool) (w : World) (hm_ : MaxOk w) (h : minuetlaw11_ParseWrapped.f k a0 a1 = some r) :
 Calls Try.prog 10 #[.string a0, .bool a1] w fun e w' => e = .returned (.bool r) ∧ Below w.heap.size w w' := by
 have HM_ := Aside0.mk hm_
 clear hm_
 have hu28 := Try.underlying28
 have HB := Aside0.mk (Below.refl w.heap.size w)
 have H : ((minuetlaw11_awake.f k).bind fun t101 => (if t101 = true then (if (a0.size : Int) > 200 then (some true) else ((parse_Parse.f a0).bind fun bt102 => (if a1 = true then (minuetlaw11_ParseWrapped.j0 k a0 a1 bt102.2.2.2 (⟨#[123, 34, 107, 101, 121, 34, 58]⟩ : ByteArray) (⟨#[10, 125]⟩ : ByteArray) bt102.1 bt102.2.1 bt102.2.2.1) else (minuetlaw11_ParseWrapped.j0 k a0 a1 bt102.2.2.2 (⟨#[91]⟩ : ByteArray) (⟨#[10, 93]⟩ : ByteArray) bt102.1 bt102.2.1 bt102.2.2.1)))) else (none))) = some r := h
 clear h
 replace H := Option.bind_eq_some_iff.mp H
 obtain ⟨t101, A30, H⟩ := H
 replace H : (if t101 = true then (if (a0.size : Int) > 200 then (some true) else ((parse_Parse.f a0).bind fun bt102 => (if a1 = true then (minuetlaw11_ParseWrapped.j0 k a0 a1 bt102.2.2.2 (⟨#[123, 34, 107, 101, 121, 34, 58]⟩ : ByteArray) (⟨#[10, 125]⟩ : ByteArray) bt102.1 bt102.2.1 bt102.2.2.1) else (minuetlaw11_ParseWrapped.j0 k a0 a1 bt102.2.2.2 (⟨#[91]⟩ : ByteArray) (⟨#[10, 93]⟩ : ByteArray) bt102.1 bt102.2.1 bt102.2.2.1)))) else (none)) = some r := H
 have A3 := Aside0.mk A30
 clear A30
 by_cases c4 : t101 = true
 · subst c4
   have H1 : (if (a0.size : Int) > 200 then (some true) else ((parse_Parse.f a0).bind fun bt102 => (if a1 = true then (minuetlaw11_ParseWrapped.j0 k a0 a1 bt102.2.2.2 (⟨#[123, 34, 107, 101, 121, 34, 58]⟩ : ByteArray) (⟨#[10, 125]⟩ : ByteArray) bt102.1 bt102.2.1 bt102.2.2.1) else (minuetlaw11_ParseWrapped.j0 k a0 a1 bt102.2.2.2 (⟨#[91]⟩ : ByteArray) (⟨#[10, 93]⟩ : ByteArray) bt102.1 bt102.2.1 bt102.2.2.1)))) = some r := by rw [if_pos rfl] at H; exact H
   clear H
   have H := H1
   clear H1
   by_cases c5 : (a0.size : Int) > 200
   · rw [if_pos c5] at H
     have c5b0 : decide (200 < (a0.size : Int)) = true := decide_eq_true c5
     have c5b1 : decide (200 < a0.size) = true := decide_eq_true (by omega)
     clear c5
     obtain rfl := Option.some.inj H
     go_enter Try.func10, Try.ntmps10
     go_wp2_with (first | ((with_reducible refine gate_callee (f := 19) rfl ?_); refine goesL_ (some 19) rfl rfl Try.func19 (by kernel_rfl) rfl #[] rfl (by (try simp only [List.map_toArray, List.map_cons, List.map_nil]); first | done | rfl | (simp only [List.length_drop, List.length_take]; rfl)) ?_; (with_reducible refine (minuetlaw11_awake.calls k  true _ (MaxOk.of HM_.out (by repeat (first | (with_reducible first | exact HB.out | apply below_alloc | apply pw_below_drewN | apply below_drew1 | refine below_set ?_ GE108.out | refine below_set ?_ GE115.out) | exact HB.out))) A3.out).mono ?_); rintro e w6 ⟨rfl, hb⟩; refine ⟨_, rfl, ?_⟩; have n0_ := Aside0.mk (below_step (by repeat (first | (with_reducible first | exact HB.out | apply below_alloc | apply pw_below_drewN | apply below_drew1) | exact HB.out)) hb); clear HB; have HB := n0_; clear n0_; (try clear hb); (try clear hb2); (try clear hk); (try clear hi)))
     go_ret
     exact ⟨by first | rfl | (simp [errW_none, errW_some] <;> rfl) | (simp [*, errW_none, errW_some] <;> rfl), by repeat (first | (with_reducible first | exact HB.out | apply below_alloc | apply pw_below_drewN | apply below_drew1) | exact HB.out)⟩
   · rw [if_neg c5] at H
     have c5b0 : decide (200 < (a0.size : Int)) = false := decide_eq_false c5
     have c5b1 : decide (200 < a0.size) = false := decide_eq_false (by omega)
     clear c5
     replace H := Option.bind_eq_some_iff.mp H
     obtain ⟨⟨t102, t103, t104, t107⟩, A70, H⟩ := H
     replace H : (if a1 = true then (minuetlaw11_ParseWrapped.j0 k a0 a1 t107 (⟨#[123, 34, 107, 101, 121, 34, 58]⟩ : ByteArray) (⟨#[10, 125]⟩ : ByteArray) t102 t103 t104) else (minuetlaw11_ParseWrapped.j0 k a0 a1 t107 (⟨#[91]⟩ : ByteArray) (⟨#[10, 93]⟩ : ByteArray) t102 t103 t104)) = some r := H
     have A7 := Aside0.mk A70
     clear A70
     have HC8 := Aside0.mk H
     clear H
     go_enter Try.func10, Try.ntmps10
     go_upto_if 29 with (first | ((with_reducible refine gate_callee (f := 19) rfl ?_); refine goesL_ (some 19) rfl rfl Try.func19 (by kernel_rfl) rfl #[] rfl (by (try simp only [List.map_toArray, List.map_cons, List.map_nil]); first | done | rfl | (simp only [List.length_drop, List.length_take]; rfl)) ?_; (with_reducible refine (minuetlaw11_awake.calls k  true _ (MaxOk.of HM_.out (by repeat (first | (with_reducible first | exact HB.out | apply below_alloc | apply pw_below_drewN | apply below_drew1 | refine below_set ?_ GE108.out | refine below_set ?_ GE115.out) | exact HB.out))) A3.out).mono ?_); rintro e w9 ⟨rfl, hb⟩; refine ⟨_, rfl, ?_⟩; have n0_ := Aside0.mk (below_step (by repeat (first | (with_reducible first | exact HB.out | apply below_alloc | apply pw_below_drewN | apply below_drew1) | exact HB.out)) hb); clear HB; have HB := n0_; clear n0_; (try clear hb); (try clear hb2); (try clear hk); (try clear hi)) | ((with_reducible refine gate_callee (f := 14) rfl ?_); refine goesL_ (some 26) rfl rfl Try.func14 (by kernel_rfl) rfl #[.string a0] rfl (by (try simp only [List.map_toArray, List.map_cons, List.map_nil]); first | done | rfl | (simp only [List.length_drop, List.length_take]; rfl)) ?_; (with_reducible refine (parse_Parse.calls a0 t102 t103 t104 t107 _ (MaxOk.of HM_.out (by repeat (first | (with_reducible first | exact HB.out | apply below_alloc | apply pw_below_drewN | apply below_drew1 | refine below_set ?_ GE108.out | refine below_set ?_ GE115.out) | exact HB.out))) A7.out).mono ?_); rintro e w10 ⟨v105, rfl, ho0, hb⟩; refine ⟨_, rfl, ?_⟩; have n0_ := Aside0.mk (Kd.S_lower ho0 (below_size (by repeat (first | (with_reducible first | exact HB.out | apply below_alloc | apply pw_below_drewN | apply below_drew1) | exact HB.out)))); have n1_ := Aside0.mk (below_step (by repeat (first | (with_reducible first | exact HB.out | apply below_alloc | apply pw_below_drewN | apply below_drew1) | exact HB.out)) hb); clear HB; have HO106 := n0_; have HB := n1_; clear n0_ n1_; (try clear hb); (try clear hb2); (try clear hk); (try clear hi); (try clear ho0)) | ((with_reducible refine gate_dst (N := 5) rfl ?_); (try (refine gate_guard (by rfl) ?_; dsimp only)); refine box_event ?hg (N := 5) ?hd (cs := #[.int .i64 0, .int .i64 0, .slice none 0 0]) (t := 28) ?hr ?_; (case hd => rfl); (case hg => rfl); (case hr => first | (go_simp; done) | (go_simp; rfl)); intro gb108 hg w11 hbox hb; have n0_ := Aside0.mk (Kd.S_below (by (with_reducible repeat (first | apply Kd.S_alloc | apply Kd.S_drewN | apply Kd.S_drew)); exact HO106.out) hb); have n1_ := Aside0.mk (below_step (by repeat (first | (with_reducible first | exact HB.out | apply below_alloc | apply pw_below_drewN | apply below_drew1) | exact HB.out)) hb); have n2_ := Aside0.mk (hbox); have n3_ := Aside0.mk ((by rw [hg]; exact (below_size (by repeat (first | (with_reducible first | exact HB.out | apply below_alloc | apply pw_below_drewN | apply below_drew1) | exact HB.out))) : w.heap.size ≤ gb108)); have n4_ := Aside0.mk ((by rw [hg]; exact (below_size (by repeat (first | (with_reducible first | exact HB.out | apply below_alloc | apply pw_below_drewN | apply below_drew1) | exact HB.out))) : w.heap.size ≤ gb108)); clear HO106; clear HB; have HO106 := n0_; have HB := n1_; have BK108 := n2_; have GW108 := n3_; have GE108 := n4_; clear n0_ n1_ n2_ n3_ n4_; clear hb hbox hg; have hcz12_0 : w11.cell? ⟨gb108, 0, none⟩ = some (.int .i64 0) := (blk_cell BK108.out 0).trans rfl; have hcz12_1 : w11.cell? ⟨gb108, 1, none⟩ = some (.int .i64 0) := (blk_cell BK108.out 1).trans rfl; have hcz12_2 : w11.cell? ⟨gb108, 2, none⟩ = some (.slice none 0 0) := (blk_cell BK108.out 2).trans rfl; have hfz12_0 := blk_frozen BK108.out 0; have hfz12_1 := blk_frozen BK108.out 1; have hfz12_2 := blk_frozen BK108.out 2; obtain ⟨Ao13, co13, eo13⟩ := Kd.S_slice HO106.out; subst eo13))
     (try simp only [Act.put, List.setIfInBounds_toArray, List.set_cons_zero, List.set_cons_succ])
     go_cut [7, 8] (fun v7 v8 wc => ∃ (kq : Nat) (x7_7 : ByteArray) (x8_7 : ByteArray), v7 = .string x7_7 ∧ v8 = .string x8_7 ∧ Aside0 (minuetlaw11_ParseWrapped.j0 kq a0 a1 t107 x7_7 x8_7 t102 t103 t104 = some r) ∧ Aside0 (kq ≤ k) ∧ Aside0 (Kd.S k34 34 wc w.heap.size (fun _ => True) (.slice Ao13 t104.length co13) t104) ∧ Aside0 (wc.heap[gb108]? = some (.cells #[.int .i64 t102, .int .i64 t103, (.slice Ao13 t104.length co13)] 28 (0, 0))) ∧ Aside0 (Below w.heap.size w wc))
     case first =>
      have H := HC8.out
      clear HC8
      by_cases c14 : a1 = true
      · subst c14
        have H1 : (minuetlaw11_ParseWrapped.j0 k a0 true t107 (⟨#[123, 34, 107, 101, 121, 34, 58]⟩ : ByteArray) (⟨#[10, 125]⟩ : ByteArray) t102 t103 t104) = some r := by rw [if_pos rfl] at H; exact H
        clear H
        have H := H1
        clear H1
        have H' := Aside0.mk H
        clear H
        go_wp2
        go_meet
        case rel => exact ⟨_, ((⟨#[123, 34, 107, 101, 121, 34, 58]⟩ : ByteArray)), ((⟨#[10, 125]⟩ : ByteArray)), (by first | rfl | (simp; done) | (simp [*]; done)), (by first | rfl | (simp; done) | (simp [*]; done)), H', ⟨by first | omega | exact Nat.le_refl _⟩, ⟨by (with_reducible repeat (first | apply Kd.S_alloc | apply Kd.S_drewN | apply Kd.S_drew)); exact Kd.S_mono (Kd.S_far (p := ⟨gb108, 2, none⟩) (Kd.S_far (p := ⟨gb108, 1, none⟩) (Kd.S_far (p := ⟨gb108, 0, none⟩) (Kd.S_types HO106.out BK108.out (by decide)) (fun _ hk => hk.2) (.int .i64 t102)) (fun _ hk => hk.2) (.int .i64 t103)) (fun _ hk => hk.2) (.slice Ao13 t104.length co13)) (fun _ hk => trivial)⟩, ⟨by (with_reducible repeat (first | refine blk_drewN ?_ _ | refine blk_drew ?_ | refine blk_alloc ?_ _)); refine blk_put (cs := #[.int .i64 t102, .int .i64 t103, .slice none 0 0]) ?_ 2 _ rfl; (with_reducible repeat (first | refine blk_drewN ?_ _ | refine blk_drew ?_ | refine blk_alloc ?_ _)); refine blk_put (cs := #[.int .i64 t102, .int .i64 0, .slice none 0 0]) ?_ 1 _ rfl; (with_reducible repeat (first | refine blk_drewN ?_ _ | refine blk_drew ?_ | refine blk_alloc ?_ _)); refine blk_put (cs := #[.int .i64 0, .int .i64 0, .slice none 0 0]) ?_ 0 _ rfl; (with_reducible repeat (first | refine blk_drewN ?_ _ | refine blk_drew ?_ | refine blk_alloc ?_ _)); exact BK108.out⟩, ⟨by repeat (first | (with_reducible first | exact HB.out | apply below_alloc | apply pw_below_drewN | apply below_drew1 | refine below_set ?_ GE108.out) | exact HB.out)⟩⟩
      · replace c14 := Bool.eq_false_iff.mpr c14
        subst c14
        have H1 : (minuetlaw11_ParseWrapped.j0 k a0 false t107 (⟨#[91]⟩ : ByteArray) (⟨#[10, 93]⟩ : ByteArray) t102 t103 t104) = some r := by rw [if_neg (show ¬ (false = true) by decide)] at H; exact H
        clear H
        have H := H1
        clear H1
        have H' := Aside0.mk H
        clear H
        go_wp2
        go_meet
        case rel => exact ⟨_, ((⟨#[91]⟩ : ByteArray)), ((⟨#[10, 93]⟩ : ByteArray)), (by first | rfl | (simp; done) | (simp [*]; done)), (by first | rfl | (simp; done) | (simp [*]; done)), H', ⟨by first | omega | exact Nat.le_refl _⟩, ⟨by (with_reducible repeat (first | apply Kd.S_alloc | apply Kd.S_drewN | apply Kd.S_drew)); exact Kd.S_mono (Kd.S_far (p := ⟨gb108, 2, none⟩) (Kd.S_far (p := ⟨gb108, 1, none⟩) (Kd.S_far (p := ⟨gb108, 0, none⟩) (Kd.S_types HO106.out BK108.out (by decide)) (fun _ hk => hk.2) (.int .i64 t102)) (fun _ hk => hk.2) (.int .i64 t103)) (fun _ hk => hk.2) (.slice Ao13 t104.length co13)) (fun _ hk => trivial)⟩, ⟨by (with_reducible repeat (first | refine blk_drewN ?_ _ | refine blk_drew ?_ | refine blk_alloc ?_ _)); refine blk_put (cs := #[.int .i64 t102, .int .i64 t103, .slice none 0 0]) ?_ 2 _ rfl; (with_reducible repeat (first | refine blk_drewN ?_ _ | refine blk_drew ?_ | refine blk_alloc ?_ _)); refine blk_put (cs := #[.int .i64 t102, .int .i64 0, .slice none 0 0]) ?_ 1 _ rfl; (with_reducible repeat (first | refine blk_drewN ?_ _ | refine blk_drew ?_ | refine blk_alloc ?_ _)); refine blk_put (cs := #[.int .i64 0, .int .i64 0, .slice none 0 0]) ?_ 0 _ rfl; (with_reducible repeat (first | refine blk_drewN ?_ _ | refine blk_drew ?_ | refine blk_alloc ?_ _)); exact BK108.out⟩, ⟨by repeat (first | (with_reducible first | exact HB.out | apply below_alloc | apply pw_below_drewN | apply below_drew1 | refine below_set ?_ GE108.out) | exact HB.out)⟩⟩
     case rest =>
      clear HC8
      try clear c1
      try clear p2
      try clear c4
      try clear c5
      try clear c5b0
      try clear c5b1
      try clear c10
      try clear c14
      try clear hcz12_0
      try clear hcz12_1
      try clear hcz12_2
      try clear hfz12_0
      try clear hfz12_1
      try clear hfz12_2
      obtain ⟨kq, x7_7, x8_7, rfl, rfl, HA, HJ7, HO_109002, BK108, HB⟩ := hcut
      cases kq with
      | zero => exact absurd HA.out (by simp [minuetlaw11_ParseWrapped.j0])
      | succ kj7 =>
       have H := HA.out
       clear HA
       simp only [minuetlaw11_ParseWrapped.j0] at H
       by_cases c15 : x7_7.size + a0.size ≤ 9223372036854775807
       · rw [if_pos c15] at H
         have c15b0 := eq_true c15
         have c15b1 : decide (x7_7.size + a0.size ≤ 9223372036854775807) = true := decide_eq_true c15
         try have c15b2 : (9223372036854775807 < x7_7.size + a0.size) = False := eq_false (Nat.not_lt.2 c15)
         by_cases c16 : (x7_7 ++ a0).size + x8_7.size ≤ 9223372036854775807
         · rw [if_pos c16] at H
           have c16b0 := eq_true c16
           have c16b1 : decide ((x7_7 ++ a0).size + x8_7.size ≤ 9223372036854775807) = true := decide_eq_true c16
           try have c16b2 : (9223372036854775807 < (x7_7 ++ a0).size + x8_7.size) = False := eq_false (Nat.not_lt.2 c16)
           replace H := Option.bind_eq_some_iff.mp H
           obtain ⟨⟨t109, t110, t111, t114⟩, A170, H⟩ := H
           replace H : ((minuetlaw11_shape.f kj7 t102 t103 t104 t102 0).bind fun bt116 => ((minuetlaw11_shape.f kj7 t109 t110 t111 t109 0).bind fun bt118 => ((minuetlaw0_Num.f t107).bind fun t120 => (if t120 = 0 then ((minuetlaw0_Num.f t114).bind fun t121 => (if t121 = 0 then (if bt116.2 = true then (minuetlaw11_ParseWrapped.j1 kj7 a0 a1 bt116.1 bt118.1 (!bt118.2) t102 t103 t104) else (minuetlaw11_ParseWrapped.j1 kj7 a0 a1 bt116.1 bt118.1 true t102 t103 t104)) else (minuetlaw11_ParseWrapped.j1 kj7 a0 a1 bt116.1 bt118.1 true t102 t103 t104))) else (minuetlaw11_ParseWrapped.j1 kj7 a0 a1 bt116.1 bt118.1 true t102 t103 t104))))) = some r := H
           have A17 := Aside0.mk A170
           clear A170
           replace H := Option.bind_eq_some_iff.mp H
           obtain ⟨⟨t116, t117⟩, A180, H⟩ := H
           replace H : ((minuetlaw11_shape.f kj7 t109 t110 t111 t109 0).bind fun bt118 => ((minuetlaw0_Num.f t107).bind fun t120 => (if t120 = 0 then ((minuetlaw0_Num.f t114).bind fun t121 => (if t121 = 0 then (if t117 = true then (minuetlaw11_ParseWrapped.j1 kj7 a0 a1 t116 bt118.1 (!bt118.2) t102 t103 t104) else (minuetlaw11_ParseWrapped.j1 kj7 a0 a1 t116 bt118.1 true t102 t103 t104)) else (minuetlaw11_ParseWrapped.j1 kj7 a0 a1 t116 bt118.1 true t102 t103 t104))) else (minuetlaw11_ParseWrapped.j1 kj7 a0 a1 t116 bt118.1 true t102 t103 t104)))) = some r := H
           have A18 := Aside0.mk A180
           clear A180
           replace H := Option.bind_eq_some_iff.mp H
           obtain ⟨⟨t118, t119⟩, A190, H⟩ := H
           replace H : ((minuetlaw0_Num.f t107).bind fun t120 => (if t120 = 0 then ((minuetlaw0_Num.f t114).bind fun t121 => (if t121 = 0 then (if t117 = true then (minuetlaw11_ParseWrapped.j1 kj7 a0 a1 t116 t118 (!t119) t102 t103 t104) else (minuetlaw11_ParseWrapped.j1 kj7 a0 a1 t116 t118 true t102 t103 t104)) else (minuetlaw11_ParseWrapped.j1 kj7 a0 a1 t116 t118 true t102 t103 t104))) else (minuetlaw11_ParseWrapped.j1 kj7 a0 a1 t116 t118 true t102 t103 t104))) = some r := H
           have A19 := Aside0.mk A190
           clear A190
           have HC20 := Aside0.mk H
           clear H
           go_upto_region 13 with (first | ((with_reducible refine gate_callee (f := 14) rfl ?_); refine goesL_ (some 36) rfl rfl Try.func14 (by kernel_rfl) rfl #[.string ((x7_7 ++ a0) ++ x8_7)] rfl (by (try simp only [List.map_toArray, List.map_cons, List.map_nil]); first | done | rfl | (simp only [List.length_drop, List.length_take]; rfl)) ?_; (with_reducible refine (parse_Parse.calls ((x7_7 ++ a0) ++ x8_7) t109 t110 t111 t114 _ (MaxOk.of HM_.out (by repeat (first | (with_reducible first | exact HB.out | apply below_alloc | apply pw_below_drewN | apply below_drew1 | refine below_set ?_ GE108.out | refine below_set ?_ GE115.out) | exact HB.out))) A17.out).mono ?_); rintro e w21 ⟨v112, rfl, ho0, hb⟩; refine ⟨_, rfl, ?_⟩; have n0_ := Aside0.mk (Kd.S_elder' (by (with_reducible repeat (first | apply Kd.S_alloc | apply Kd.S_drewN | apply Kd.S_drew)); exact HO_109002.out) (Kd.S_base ho0) hb); have n1_ := Aside0.mk (Kd.S_lower (Kd.S_new' ho0 (Kd.S_lt (by (with_reducible repeat (first | apply Kd.S_alloc | apply Kd.S_drewN | apply Kd.S_drew)); exact HO_109002.out))) (below_size (by repeat (first | (with_reducible first | exact HB.out | apply below_alloc | apply pw_below_drewN | apply below_drew1 | refine below_set ?_ GE108.out) | exact HB.out)))); have n2_ := Aside0.mk (blk_below (g := gb108) (o := .cells #[.int .i64 t102, .int .i64 t103, .slice Ao13 t104.length co13] 28 (0, 0)) (by (with_reducible repeat (first | refine blk_drewN ?_ _ | refine blk_drew ?_ | refine blk_alloc ?_ _)); exact BK108.out) hb); have n3_ := Aside0.mk (below_step (by repeat (first | (with_reducible first | exact HB.out | apply below_alloc | apply pw_below_drewN | apply below_drew1 | refine below_set ?_ GE108.out) | exact HB.out)) hb); clear HO_109002; clear BK108; clear HB; have HO_109002 := n0_; have HO113 := n1_; have BK108 := n2_; have HB := n3_; clear n0_ n1_ n2_ n3_; (try clear hb); (try clear hb2); (try clear hk); (try clear hi); (try clear ho0)) | ((with_reducible refine gate_dst (N := 9) rfl ?_); (try (refine gate_guard (by rfl) ?_; dsimp only)); refine box_event ?hg (N := 9) ?hd (cs := #[.int .i64 0, .int .i64 0, .slice none 0 0]) (t := 28) ?hr ?_; (case hd => rfl); (case hg => rfl); (case hr => first | (go_simp; done) | (go_simp; rfl)); intro gb115 hg w22 hbox hb; have n0_ := Aside0.mk (Kd.S_below (by (with_reducible repeat (first | apply Kd.S_alloc | apply Kd.S_drewN | apply Kd.S_drew)); exact HO_109002.out) hb); have n1_ := Aside0.mk (Kd.S_below (by (with_reducible repeat (first | apply Kd.S_alloc | apply Kd.S_drewN | apply Kd.S_drew)); exact HO113.out) hb); have n2_ := Aside0.mk (blk_below (g := gb108) (o := .cells #[.int .i64 t102, .int .i64 t103, .slice Ao13 t104.length co13] 28 (0, 0)) (by (with_reducible repeat (first | refine blk_drewN ?_ _ | refine blk_drew ?_ | refine blk_alloc ?_ _)); exact BK108.out) hb); have n3_ := Aside0.mk (below_step (by repeat (first | (with_reducible first | exact HB.out | apply below_alloc | apply pw_below_drewN | apply below_drew1 | refine below_set ?_ GE108.out) | exact HB.out)) hb); have n4_ := Aside0.mk (hbox); have n5_ := Aside0.mk ((by rw [hg]; exact (below_size (by repeat (first | (with_reducible first | exact HB.out | apply below_alloc | apply pw_below_drewN | apply below_drew1 | refine below_set ?_ GE108.out) | exact HB.out))) : w.heap.size ≤ gb115)); have n6_ := Aside0.mk ((by rw [hg]; exact (below_size (by repeat (first | (with_reducible first | exact HB.out | apply below_alloc | apply pw_below_drewN | apply below_drew1 | refine below_set ?_ GE108.out) | exact HB.out))) : w.heap.size ≤ gb115)); have n7_ := Aside0.mk ((by rw [hg]; exact Nat.ne_of_lt (blk_lt (g := gb108) (o := .cells #[.int .i64 t102, .int .i64 t103, .slice Ao13 t104.length co13] 28 (0, 0)) (by (with_reducible repeat (first | refine blk_drewN ?_ _ | refine blk_drew ?_ | refine blk_alloc ?_ _)); exact BK108.out)) : gb108 ≠ gb115)); have n8_ := Aside0.mk ((by rw [hg]; exact Nat.ne_of_gt (blk_lt (g := gb108) (o := .cells #[.int .i64 t102, .int .i64 t103, .slice Ao13 t104.length co13] 28 (0, 0)) (by (with_reducible repeat (first | refine blk_drewN ?_ _ | refine blk_drew ?_ | refine blk_alloc ?_ _)); exact BK108.out)) : gb115 ≠ gb108)); clear HO_109002; clear HO113; clear BK108; clear HB; have HO_109002 := n0_; have HO113 := n1_; have BK108 := n2_; have HB := n3_; have BK115 := n4_; have GW115 := n5_; have GE115 := n6_; have NB108_115 := n7_; have NB115_108 := n8_; clear n0_ n1_ n2_ n3_ n4_ n5_ n6_ n7_ n8_; clear hb hbox hg; have hnb23 := NB115_108.out; have hnc23 := NB108_115.out; have hcz24_0 : w22.cell? ⟨gb115, 0, none⟩ = some (.int .i64 0) := (blk_cell BK115.out 0).trans rfl; have hcz24_1 : w22.cell? ⟨gb115, 1, none⟩ = some (.int .i64 0) := (blk_cell BK115.out 1).trans rfl; have hcz24_2 : w22.cell? ⟨gb115, 2, none⟩ = some (.slice none 0 0) := (blk_cell BK115.out 2).trans rfl; have hfz24_0 := blk_frozen BK115.out 0; have hfz24_1 := blk_frozen BK115.out 1; have hfz24_2 := blk_frozen BK115.out 2; obtain ⟨Ao25, co25, eo25⟩ := Kd.S_slice HO113.out; subst eo25; have hcz26_0 : w22.cell? ⟨gb108, 0, none⟩ = some (.int .i64 t102) := (blk_cell BK108.out 0).trans rfl; have hcz26_1 : w22.cell? ⟨gb108, 1, none⟩ = some (.int .i64 t103) := (blk_cell BK108.out 1).trans rfl; have hcz26_2 : w22.cell? ⟨gb108, 2, none⟩ = some (.slice Ao13 t104.length co13) := (blk_cell BK108.out 2).trans rfl; have hfz26_0 := blk_frozen BK108.out 0; have hfz26_1 := blk_frozen BK108.out 1; have hfz26_2 := blk_frozen BK108.out 2) | ((with_reducible refine gate_callee (f := 24) rfl ?_); refine goesL_ (some 43) rfl rfl Try.func24 (by kernel_rfl) rfl #[.agg #[.int .i64 t102, .int .i64 t103, .slice Ao13 t104.length co13], .int .i64 t102, .int .i64 0] rfl (by (try simp only [List.map_toArray, List.map_cons, List.map_nil]); first | done | rfl | (simp only [List.length_drop, List.length_take]; rfl)) ?_; (with_reducible refine (minuetlaw11_shape.calls kj7 t102 t103 _ _ t104 t102 0 t116 t117 _ ?side1 ?side2 A18.out).mono ?_); (case side1 => refine (Kd.S_reads' (e := 34) (base := w.heap.size) (ok := fun k_ => (True ∧ some k_ ≠ (.slice Ao25 t111.length co25 : Value).ownBlock)) (n := t104.length) (c := co13) ?_).2.2; exact (by (with_reducible repeat (first | apply Kd.S_alloc | apply Kd.S_drewN | apply Kd.S_drew)); exact (Kd.S_mono (Kd.S_far (p := ⟨gb115, 2, none⟩) (Kd.S_far (p := ⟨gb115, 1, none⟩) (Kd.S_far (p := ⟨gb115, 0, none⟩) (Kd.S_types HO_109002.out BK115.out (by decide)) (fun _ hk => hk.2) (.int .i64 t109)) (fun _ hk => hk.2) (.int .i64 t110)) (fun _ hk => hk.2) (.slice Ao25 t111.length co25)) (fun _ h_ => h_.1)))); (case side2 => exact (Kd.S_reads' HO_109002.out).2.1); rintro e w27 ⟨rfl, hb⟩; refine ⟨_, rfl, ?_⟩; have n0_ := Aside0.mk (Kd.S_below (by (with_reducible repeat (first | apply Kd.S_alloc | apply Kd.S_drewN | apply Kd.S_drew)); exact (Kd.S_mono (Kd.S_far (p := ⟨gb115, 2, none⟩) (Kd.S_far (p := ⟨gb115, 1, none⟩) (Kd.S_far (p := ⟨gb115, 0, none⟩) (Kd.S_types HO_109002.out BK115.out (by decide)) (fun _ hk => hk.2) (.int .i64 t109)) (fun _ hk => hk.2) (.int .i64 t110)) (fun _ hk => hk.2) (.slice Ao25 t111.length co25)) (fun _ h_ => h_.1))) hb); have n1_ := Aside0.mk (Kd.S_below (by (with_reducible repeat (first | apply Kd.S_alloc | apply Kd.S_drewN | apply Kd.S_drew)); exact (Kd.S_mono (Kd.S_far (p := ⟨gb115, 2, none⟩) (Kd.S_far (p := ⟨gb115, 1, none⟩) (Kd.S_far (p := ⟨gb115, 0, none⟩) (Kd.S_types HO113.out BK115.out (by decide)) (fun _ hk => hk.2) (.int .i64 t109)) (fun _ hk => hk.2) (.int .i64 t110)) (fun _ hk => hk.2) (.slice Ao25 t111.length co25)) (fun _ h_ => h_.1))) hb); have n2_ := Aside0.mk (blk_below (g := gb108) (o := .cells #[.int .i64 t102, .int .i64 t103, .slice Ao13 t104.length co13] 28 (0, 0)) (by (with_reducible repeat (first | refine blk_drewN ?_ _ | refine blk_drew ?_ | refine blk_alloc ?_ _)); refine blk_far ?_ NB108_115.out _; (with_reducible repeat (first | refine blk_drewN ?_ _ | refine blk_drew ?_ | refine blk_alloc ?_ _)); refine blk_far ?_ NB108_115.out _; (with_reducible repeat (first | refine blk_drewN ?_ _ | refine blk_drew ?_ | refine blk_alloc ?_ _)); refine blk_far ?_ NB108_115.out _; (with_reducible repeat (first | refine blk_drewN ?_ _ | refine blk_drew ?_ | refine blk_alloc ?_ _)); exact BK108.out) hb); have n3_ := Aside0.mk (blk_below (g := gb115) (o := .cells #[.int .i64 t109, .int .i64 t110, .slice Ao25 t111.length co25] 28 (0, 0)) (by (with_reducible repeat (first | refine blk_drewN ?_ _ | refine blk_drew ?_ | refine blk_alloc ?_ _)); refine blk_put (cs := #[.int .i64 t109, .int .i64 t110, .slice none 0 0]) ?_ 2 _ rfl; (with_reducible repeat (first | refine blk_drewN ?_ _ | refine blk_drew ?_ | refine blk_alloc ?_ _)); refine blk_put (cs := #[.int .i64 t109, .int .i64 0, .slice none 0 0]) ?_ 1 _ rfl; (with_reducible repeat (first | refine blk_drewN ?_ _ | refine blk_drew ?_ | refine blk_alloc ?_ _)); refine blk_put (cs := #[.int .i64 0, .int .i64 0, .slice none 0 0]) ?_ 0 _ rfl; (with_reducible repeat (first | refine blk_drewN ?_ _ | refine blk_drew ?_ | refine blk_alloc ?_ _)); exact BK115.out) hb); have n4_ := Aside0.mk (below_step (by repeat (first | (with_reducible first | exact HB.out | apply below_alloc | apply pw_below_drewN | apply below_drew1 | refine below_set ?_ GE108.out | refine below_set ?_ GE115.out) | exact HB.out)) hb); clear HO_109002; clear HO113; clear BK108; clear BK115; clear HB; have HO_109002 := n0_; have HO113 := n1_; have BK108 := n2_; have BK115 := n3_; have HB := n4_; clear n0_ n1_ n2_ n3_ n4_; (try clear hb); (try clear hb2); (try clear hk); (try clear hi); have hcz28_0 : w27.cell? ⟨gb115, 0, none⟩ = some (.int .i64 t109) := (blk_cell BK115.out 0).trans rfl; have hcz28_1 : w27.cell? ⟨gb115, 1, none⟩ = some (.int .i64 t110) := (blk_cell BK115.out 1).trans rfl; have hcz28_2 : w27.cell? ⟨gb115, 2, none⟩ = some (.slice Ao25 t111.length co25) := (blk_cell BK115.out 2).trans rfl; have hfz28_0 := blk_frozen BK115.out 0; have hfz28_1 := blk_frozen BK115.out 1; have hfz28_2 := blk_frozen BK115.out 2) | ((with_reducible refine gate_callee (f := 24) rfl ?_); refine goesL_ (some 50) rfl rfl Try.func24 (by kernel_rfl) rfl #[.agg #[.int .i64 t109, .int .i64 t110, .slice Ao25 t111.length co25], .int .i64 t109, .int .i64 0] rfl (by (try simp only [List.map_toArray, List.map_cons, List.map_nil]); first | done | rfl | (simp only [List.length_drop, List.length_take]; rfl)) ?_; (with_reducible refine (minuetlaw11_shape.calls kj7 t109 t110 _ _ t111 t109 0 t118 t119 _ ?side1 ?side2 A19.out).mono ?_); (case side1 => repeat (first | exact (Kd.S_reads' HO113.out).2.2 | (with_reducible refine Kd.C_alloc ?_ _) | (with_reducible refine Kd.C_drewN ?_ _) | (with_reducible refine Kd.C_drew ?_))); (case side2 => exact (Kd.S_reads' HO113.out).2.1); rintro e w29 ⟨rfl, hb⟩; refine ⟨_, rfl, ?_⟩; have n0_ := Aside0.mk (Kd.S_below (by (with_reducible repeat (first | apply Kd.S_alloc | apply Kd.S_drewN | apply Kd.S_drew)); exact HO_109002.out) hb); have n1_ := Aside0.mk (Kd.S_below (by (with_reducible repeat (first | apply Kd.S_alloc | apply Kd.S_drewN | apply Kd.S_drew)); exact HO113.out) hb); have n2_ := Aside0.mk (blk_below (g := gb108) (o := .cells #[.int .i64 t102, .int .i64 t103, .slice Ao13 t104.length co13] 28 (0, 0)) (by (with_reducible repeat (first | refine blk_drewN ?_ _ | refine blk_drew ?_ | refine blk_alloc ?_ _)); exact BK108.out) hb); have n3_ := Aside0.mk (blk_below (g := gb115) (o := .cells #[.int .i64 t109, .int .i64 t110, .slice Ao25 t111.length co25] 28 (0, 0)) (by (with_reducible repeat (first | refine blk_drewN ?_ _ | refine blk_drew ?_ | refine blk_alloc ?_ _)); exact BK115.out) hb); have n4_ := Aside0.mk (below_step (by repeat (first | (with_reducible first | exact HB.out | apply below_alloc | apply pw_below_drewN | apply below_drew1 | refine below_set ?_ GE108.out | refine below_set ?_ GE115.out) | exact HB.out)) hb); clear HO_109002; clear HO113; clear BK108; clear BK115; clear HB; have HO_109002 := n0_; have HO113 := n1_; have BK108 := n2_; have BK115 := n3_; have HB := n4_; clear n0_ n1_ n2_ n3_ n4_; (try clear hb); (try clear hb2); (try clear hk); (try clear hi)))
           (try simp only [Act.put, List.setIfInBounds_toArray, List.set_cons_zero, List.set_cons_succ])
           go_cut [68] (fun v68 wc => ∃ (kq : Nat) (x68_19 : Bool), v68 = .bool x68_19 ∧ Aside0 (minuetlaw11_ParseWrapped.j1 kq a0 a1 t116 t118 x68_19 t102 t103 t104 = some r) ∧ Aside0 (kq ≤ kj7) ∧ Aside0 (Kd.S k34 34 wc w.heap.size (fun k_ => some k_ ≠ ((.slice Ao25 t111.length co25) : Value).ownBlock) (.slice Ao13 t104.length co13) t104) ∧ Aside0 (Kd.S k34 34 wc w.heap.size (fun k_ => some k_ ≠ ((.slice Ao13 t104.length co13) : Value).ownBlock) (.slice Ao25 t111.length co25) t111) ∧ Aside0 (wc.heap[gb108]? = some (.cells #[.int .i64 t102, .int .i64 t103, (.slice Ao13 t104.length co13)] 28 (0, 0))) ∧ Aside0 (wc.heap[gb115]? = some (.cells #[.int .i64 t109, .int .i64 t110, (.slice Ao25 t111.length co25)] 28 (0, 0))) ∧ Aside0 (Below w.heap.size w wc))
           case first =>
            have H := HC20.out
            clear HC20
            replace H := Option.bind_eq_some_iff.mp H
            obtain ⟨t120, A300, H⟩ := H
            replace H : (if t120 = 0 then ((minuetlaw0_Num.f t114).bind fun t121 => (if t121 = 0 then (if t117 = true then (minuetlaw11_ParseWrapped.j1 kj7 a0 a1 t116 t118 (!t119) t102 t103 t104) else (minuetlaw11_ParseWrapped.j1 kj7 a0 a1 t116 t118 true t102 t103 t104)) else (minuetlaw11_ParseWrapped.j1 kj7 a0 a1 t116 t118 true t102 t103 t104))) else (minuetlaw11_ParseWrapped.j1 kj7 a0 a1 t116 t118 true t102 t103 t104)) = some r := H
            have A30 := Aside0.mk A300
            clear A300
            by_cases c31 : t120 = 0
            · rw [if_pos c31] at H
              have c31b0 : (t120 == 0) = true := beq_iff_eq.mpr c31
              have c31b1 : (t120 != 0) = false := bne_eq_false_iff_eq.mpr c31
              clear c31
              (first | rw [c31b0] | (simp only [i64_w, i32_w]; rw [c31b0]) | skip)
              replace H := Option.bind_eq_some_iff.mp H
              obtain ⟨t121, A320, H⟩ := H
              replace H : (if t121 = 0 then (if t117 = true then (minuetlaw11_ParseWrapped.j1 kj7 a0 a1 t116 t118 (!t119) t102 t103 t104) else (minuetlaw11_ParseWrapped.j1 kj7 a0 a1 t116 t118 true t102 t103 t104)) else (minuetlaw11_ParseWrapped.j1 kj7 a0 a1 t116 t118 true t102 t103 t104)) = some r := H
              have A32 := Aside0.mk A320
              clear A320
              by_cases c33 : t121 = 0
              · rw [if_pos c33] at H
                have c33b0 : (t121 == 0) = true := beq_iff_eq.mpr c33
                have c33b1 : (t121 != 0) = false := bne_eq_false_iff_eq.mpr c33
                clear c33
                by_cases c34 : t117 = true
                · subst c34
                  have H1 : (minuetlaw11_ParseWrapped.j1 kj7 a0 a1 t116 t118 (!t119) t102 t103 t104) = some r := by rw [if_pos rfl] at H; exact H
                  clear H
                  have H := H1
                  clear H1
                  have H' := Aside0.mk H
                  clear H
                  go_wp2_with (first | ((with_reducible refine gate_callee (f := 15) rfl ?_); refine goesL_ (some 54) rfl rfl Try.func15 (by kernel_rfl) rfl #[.int .i64 t107] rfl (by (try simp only [List.map_toArray, List.map_cons, List.map_nil]); first | done | rfl | (simp only [List.length_drop, List.length_take]; rfl)) ?_; (with_reducible refine (minuetlaw0_Num.calls t107 t120 _ A30.out).mono ?_); rintro e w' ⟨rfl, ⟨nd, rfl⟩⟩; refine ⟨_, rfl, ?_⟩) | (go_at_call 15; (with_reducible refine (minuetlaw0_Num.calls t114 t121 _ A32.out).mono ?_); rintro e w' ⟨rfl, ⟨nd, rfl⟩⟩))
                  go_meet
                  case rel => exact ⟨_, (!t119), (by first | rfl | (simp; done) | (simp [*]; done)), H', ⟨by have := HJ7.out; first | omega | exact Nat.le_refl _⟩, ⟨by (with_reducible repeat (first | apply Kd.S_alloc | apply Kd.S_drewN | apply Kd.S_drew)); exact Kd.S_mono HO_109002.out (fun _ hk => hk.2)⟩, ⟨by (with_reducible repeat (first | apply Kd.S_alloc | apply Kd.S_drewN | apply Kd.S_drew)); exact Kd.S_mono HO113.out (fun _ hk => hk.2)⟩, ⟨by (with_reducible repeat (first | refine blk_drewN ?_ _ | refine blk_drew ?_ | refine blk_alloc ?_ _)); exact BK108.out⟩, ⟨by (with_reducible repeat (first | refine blk_drewN ?_ _ | refine blk_drew ?_ | refine blk_alloc ?_ _)); exact BK115.out⟩, ⟨by repeat (first | (with_reducible first | exact HB.out | apply below_alloc | apply pw_below_drewN | apply below_drew1 | refine below_set ?_ GE108.out | refine below_set ?_ GE115.out) | exact HB.out)⟩⟩
                · replace c34 := Bool.eq_false_iff.mpr c34
                  subst c34
                  have H1 : (minuetlaw11_ParseWrapped.j1 kj7 a0 a1 t116 t118 true t102 t103 t104) = some r := by rw [if_neg (show ¬ (false = true) by decide)] at H; exact H
                  clear H
                  have H := H1
                  clear H1
                  have H' := Aside0.mk H
                  clear H
                  go_wp2_with (first | ((with_reducible refine gate_callee (f := 15) rfl ?_); refine goesL_ (some 54) rfl rfl Try.func15 (by kernel_rfl) rfl #[.int .i64 t107] rfl (by (try simp only [List.map_toArray, List.map_cons, List.map_nil]); first | done | rfl | (simp only [List.length_drop, List.length_take]; rfl)) ?_; (with_reducible refine (minuetlaw0_Num.calls t107 t120 _ A30.out).mono ?_); rintro e w' ⟨rfl, ⟨nd, rfl⟩⟩; refine ⟨_, rfl, ?_⟩) | (go_at_call 15; (with_reducible refine (minuetlaw0_Num.calls t114 t121 _ A32.out).mono ?_); rintro e w' ⟨rfl, ⟨nd, rfl⟩⟩))
                  go_meet
                  case rel => exact ⟨_, (true), (by first | rfl | (simp; done) | (simp [*]; done)), H', ⟨by have := HJ7.out; first | omega | exact Nat.le_refl _⟩, ⟨by (with_reducible repeat (first | apply Kd.S_alloc | apply Kd.S_drewN | apply Kd.S_drew)); exact Kd.S_mono HO_109002.out (fun _ hk => hk.2)⟩, ⟨by (with_reducible repeat (first | apply Kd.S_alloc | apply Kd.S_drewN | apply Kd.S_drew)); exact Kd.S_mono HO113.out (fun _ hk => hk.2)⟩, ⟨by (with_reducible repeat (first | refine blk_drewN ?_ _ | refine blk_drew ?_ | refine blk_alloc ?_ _)); exact BK108.out⟩, ⟨by (with_reducible repeat (first | refine blk_drewN ?_ _ | refine blk_drew ?_ | refine blk_alloc ?_ _)); exact BK115.out⟩, ⟨by repeat (first | (with_reducible first | exact HB.out | apply below_alloc | apply pw_below_drewN | apply below_drew1 | refine below_set ?_ GE108.out | refine below_set ?_ GE115.out) | exact HB.out)⟩⟩
              · rw [if_neg c33] at H
                have c33b0 : (t121 == 0) = false := beq_eq_false_iff_ne.mpr c33
                have c33b1 : (t121 != 0) = true := bne_iff_ne.mpr c33
                have H' := Aside0.mk H
                clear H
                go_wp2_with (first | ((with_reducible refine gate_callee (f := 15) rfl ?_); refine goesL_ (some 54) rfl rfl Try.func15 (by kernel_rfl) rfl #[.int .i64 t107] rfl (by (try simp only [List.map_toArray, List.map_cons, List.map_nil]); first | done | rfl | (simp only [List.length_drop, List.length_take]; rfl)) ?_; (with_reducible refine (minuetlaw0_Num.calls t107 t120 _ A30.out).mono ?_); rintro e w' ⟨rfl, ⟨nd, rfl⟩⟩; refine ⟨_, rfl, ?_⟩) | (go_at_call 15; (with_reducible refine (minuetlaw0_Num.calls t114 t121 _ A32.out).mono ?_); rintro e w' ⟨rfl, ⟨nd, rfl⟩⟩))
                go_meet
                case rel => exact ⟨_, (true), (by first | rfl | (simp; done) | (simp [*]; done)), H', ⟨by have := HJ7.out; first | omega | exact Nat.le_refl _⟩, ⟨by (with_reducible repeat (first | apply Kd.S_alloc | apply Kd.S_drewN | apply Kd.S_drew)); exact Kd.S_mono HO_109002.out (fun _ hk => hk.2)⟩, ⟨by (with_reducible repeat (first | apply Kd.S_alloc | apply Kd.S_drewN | apply Kd.S_drew)); exact Kd.S_mono HO113.out (fun _ hk => hk.2)⟩, ⟨by (with_reducible repeat (first | refine blk_drewN ?_ _ | refine blk_drew ?_ | refine blk_alloc ?_ _)); exact BK108.out⟩, ⟨by (with_reducible repeat (first | refine blk_drewN ?_ _ | refine blk_drew ?_ | refine blk_alloc ?_ _)); exact BK115.out⟩, ⟨by repeat (first | (with_reducible first | exact HB.out | apply below_alloc | apply pw_below_drewN | apply below_drew1 | refine below_set ?_ GE108.out | refine below_set ?_ GE115.out) | exact HB.out)⟩⟩
            · rw [if_neg c31] at H
              have c31b0 : (t120 == 0) = false := beq_eq_false_iff_ne.mpr c31
              have c31b1 : (t120 != 0) = true := bne_iff_ne.mpr c31
              (first | rw [c31b0] | (simp only [i64_w, i32_w]; rw [c31b0]) | skip)
              have H' := Aside0.mk H
              clear H
              go_wp2_with (first | ((with_reducible refine gate_callee (f := 15) rfl ?_); refine goesL_ (some 54) rfl rfl Try.func15 (by kernel_rfl) rfl #[.int .i64 t107] rfl (by (try simp only [List.map_toArray, List.map_cons, List.map_nil]); first | done | rfl | (simp only [List.length_drop, List.length_take]; rfl)) ?_; (with_reducible refine (minuetlaw0_Num.calls t107 t120 _ A30.out).mono ?_); rintro e w' ⟨rfl, ⟨nd, rfl⟩⟩; refine ⟨_, rfl, ?_⟩))
              go_meet
              case rel => exact ⟨_, (true), (by first | rfl | (simp; done) | (simp [*]; done)), H', ⟨by have := HJ7.out; first | omega | exact Nat.le_refl _⟩, ⟨by (with_reducible repeat (first | apply Kd.S_alloc | apply Kd.S_drewN | apply Kd.S_drew)); exact Kd.S_mono HO_109002.out (fun _ hk => hk.2)⟩, ⟨by (with_reducible repeat (first | apply Kd.S_alloc | apply Kd.S_drewN | apply Kd.S_drew)); exact Kd.S_mono HO113.out (fun _ hk => hk.2)⟩, ⟨by (with_reducible repeat (first | refine blk_drewN ?_ _ | refine blk_drew ?_ | refine blk_alloc ?_ _)); exact BK108.out⟩, ⟨by (with_reducible repeat (first | refine blk_drewN ?_ _ | refine blk_drew ?_ | refine blk_alloc ?_ _)); exact BK115.out⟩, ⟨by repeat (first | (with_reducible first | exact HB.out | apply below_alloc | apply pw_below_drewN | apply below_drew1 | refine below_set ?_ GE108.out | refine below_set ?_ GE115.out) | exact HB.out)⟩⟩
           case rest =>
            clear HC20
            try clear c1
            try clear c2
            try clear p2
            try clear c3
            try clear c4
            try clear c5
            try clear c5b0
            try clear c5b1
            try clear c10
            try clear c14
            try clear c15
            try clear c15b0
            try clear c15b1
            try clear c15b2
            try clear c16
            try clear c16b0
            try clear c16b1
            try clear c16b2
            try clear c19
            try clear c23
            try clear c24
            try clear c31
            try clear c31b0
            try clear c31b1
            try clear c33
            try clear c33b0
            try clear c33b1
            try clear c34
            try clear hcz12_0
            try clear hcz12_1
            try clear hcz12_2
            try clear hcz24_0
            try clear hcz24_1
            try clear hcz24_2
            try clear hcz26_0
            try clear hcz26_1
            try clear hcz26_2
            try clear hcz28_0
            try clear hcz28_1
            try clear hcz28_2
            try clear hfz12_0
            try clear hfz12_1
            try clear hfz12_2
            try clear hfz24_0
            try clear hfz24_1
            try clear hfz24_2
            try clear hfz26_0
            try clear hfz26_1
            try clear hfz26_2
            try clear hfz28_0
            try clear hfz28_1
            try clear hfz28_2
            try clear p2
            obtain ⟨kq, x68_19, rfl, HA, HJ19, HO_109002, HO_116002, BK108, BK115, HB⟩ := hcut
            cases kq with
            | zero => exact absurd HA.out (by simp [minuetlaw11_ParseWrapped.j1])
            | succ kj19 =>
             have H := HA.out
             clear HA
             simp only [minuetlaw11_ParseWrapped.j1] at H
             by_cases c35 : x68_19 = true
             · subst c35
               have H1 : (none) = some r := by rw [if_pos rfl] at H; exact H
               clear H
               have H := H1
               clear H1
               exact absurd H (by simp)
             · replace c35 := Bool.eq_false_iff.mpr c35
               subst c35
               have H1 : (minuetlaw11_ParseWrapped.l0 kj19 a0 a1 t116 t118 0 t102 t103 t104) = some r := by rw [if_neg (show ¬ (false = true) by decide)] at H; exact H
               clear H
               have H := H1
               clear H1
               have H' := Aside0.mk H
               clear H
               go_wp2
               go_loopg [15] kj19 (fun kq v15 w' => ∃ (x15_3 : Int), v15 = .int .i64 x15_3 ∧ Aside0 (minuetlaw11_ParseWrapped.l0 kq a0 a1 t116 t118 x15_3 t102 t103 t104 = some r) ∧ Aside0 (kq ≤ kj19) ∧ Aside0 (Kd.S k34 34 w' w.heap.size (fun k_ => some k_ ≠ ((.slice Ao25 t111.length co25) : Value).ownBlock) (.slice Ao13 t104.length co13) t104) ∧ Aside0 (Kd.S k34 34 w' w.heap.size (fun k_ => some k_ ≠ ((.slice Ao13 t104.length co13) : Value).ownBlock) (.slice Ao25 t111.length co25) t111) ∧ Aside0 (w'.heap[gb108]? = some (.cells #[.int .i64 t102, .int .i64 t103, (.slice Ao13 t104.length co13)] 28 (0, 0))) ∧ Aside0 (w'.heap[gb115]? = some (.cells #[.int .i64 t109, .int .i64 t110, (.slice Ao25 t111.length co25)] 28 (0, 0))) ∧ Aside0 (Below w.heap.size w w'))
               case atStart => exact ⟨(0), (by first | rfl | (simp; done) | (simp [*]; done)), H', ⟨Nat.le_refl _⟩, ⟨by (with_reducible repeat (first | apply Kd.S_alloc | apply Kd.S_drewN | apply Kd.S_drew)); exact HO_109002.out⟩, ⟨by (with_reducible repeat (first | apply Kd.S_alloc | apply Kd.S_drewN | apply Kd.S_drew)); exact HO_116002.out⟩, ⟨by (with_reducible repeat (first | refine blk_drewN ?_ _ | refine blk_drew ?_ | refine blk_alloc ?_ _)); exact BK108.out⟩, ⟨by (with_reducible repeat (first | refine blk_drewN ?_ _ | refine blk_drew ?_ | refine blk_alloc ?_ _)); exact BK115.out⟩, ⟨by repeat (first | (with_reducible first | exact HB.out | apply below_alloc | apply pw_below_drewN | apply below_drew1 | refine below_set ?_ GE108.out | refine below_set ?_ GE115.out) | exact HB.out)⟩⟩
               case round =>
                clear H'
                try clear c1
                try clear c2
                try clear p2
                try clear c3
                try clear c4
                try clear c5
                try clear c5b0
                try clear c5b1
                try clear c10
                try clear c14
                try clear c15
                try clear c15b0
                try clear c15b1
                try clear c15b2
                try clear c16
                try clear c16b0
                try clear c16b1
                try clear c16b2
                try clear c19
                try clear c23
                try clear c24
                try clear c31
                try clear c31b0
                try clear c31b1
                try clear c33
                try clear c33b0
                try clear c33b1
                try clear c34
                try clear c35
                try clear hcz12_0
                try clear hcz12_1
                try clear hcz12_2
                try clear hcz24_0
                try clear hcz24_1
                try clear hcz24_2
                try clear hcz26_0
                try clear hcz26_1
                try clear hcz26_2
                try clear hcz28_0
                try clear hcz28_1
                try clear hcz28_2
                try clear hfz12_0
                try clear hfz12_1
                try clear hfz12_2
                try clear hfz24_0
                try clear hfz24_1
                try clear hfz24_2
                try clear hfz26_0
                try clear hfz26_1
                try clear hfz26_2
                try clear hfz28_0
                try clear hfz28_1
                try clear hfz28_2
                try clear p2
                obtain ⟨x15_3, rfl, HA, HK3, HO_109002, HO_116002, BK108, BK115, HB⟩ := hrel
                cases gk with
                | zero => exact absurd HA.out (by simp [minuetlaw11_ParseWrapped.l0])
                | succ k3 =>
                 have H := HA.out
                 clear HA
                 simp only [minuetlaw11_ParseWrapped.l0] at H
                 by_cases c36 : x15_3 < (t104.length : Int)
                 · rw [if_pos c36] at H
                   have c36b0 : decide (x15_3 < (t104.length : Int)) = true := decide_eq_true c36
                   clear c36
                   by_cases c37 : 0 ≤ x15_3
                   · rw [if_pos c37] at H
                     have c37b0 : decide (0 ≤ x15_3) = true := decide_eq_true c37
                     clear c37
                     by_cases c38 : ((rd_T34 t104 x15_3).f1) = 7
                     · rw [if_pos c38] at H
                       have c38b0 : (((rd_T34 t104 x15_3).f1) == 7) = true := beq_iff_eq.mpr c38
                       have c38b1 : (((rd_T34 t104 x15_3).f1) != 7) = false := bne_eq_false_iff_eq.mpr c38
                       clear c38
                       obtain rfl := Option.some.inj H
                       have hnb39 := NB108_115.out
                       have hnc39 := NB115_108.out
                       have hcz40_0 : wr.cell? ⟨gb108, 0, none⟩ = some (.int .i64 t102) := (blk_cell BK108.out 0).trans rfl
                       have hcz40_1 : wr.cell? ⟨gb108, 1, none⟩ = some (.int .i64 t103) := (blk_cell BK108.out 1).trans rfl
                       have hcz40_2 : wr.cell? ⟨gb108, 2, none⟩ = some (.slice Ao13 t104.length co13) := (blk_cell BK108.out 2).trans rfl
                       have hfz40_0 := blk_frozen BK108.out 0
                       have hfz40_1 := blk_frozen BK108.out 1
                       have hfz40_2 := blk_frozen BK108.out 2
                       have p122 : 0 ≤ (x15_3 : Int) := of_decide_eq_true (by first | (with_reducible assumption) | assumption)
                       have q122 : x15_3 < (t104.length : Int) := of_decide_eq_true (by first | (with_reducible assumption) | assumption)
                       obtain ⟨ad122, A122_4, c122_4, e122, hx122_0, hx122_1, hx122_2, hx122_3, hx122_4, hl122_4, hi122_4⟩ := at_T34 (Kd.S_reads' HO_109002.out).2.2 x15_3 p122 q122
                       cases e122
                       obtain ⟨ce122, hce122, hMe122, hcc122⟩ := Kd.S_get HO_109002.out z34 x15_3 p122 (by first | exact q122 | exact of_decide_eq_true (by first | (with_reducible assumption) | assumption) | (have e_ := (Kd.S_reads' HO_109002.out).1; omega))
                       obtain ⟨ve122_4, rfl, ge122_4⟩ := k34_openM hMe122
                       have hv122_4 := hcc122 4 _ rfl
                       rw [add_field _ _ 4 (by omega)] at hv122_4
                       replace hv122_4 := Option.some.inj (hv122_4.symm.trans hx122_4)
                       rw [hv122_4] at ge122_4
                       have HL122_4 := Aside0.mk (show Kd.R (Kd.int .i64) 3 _ _ _ _ ((rd_T34 t104 x15_3).f4) from ge122_4)
                       clear hv122_4 ge122_4
                       clear hcc122 hce122
                       have HR122_4 := Aside0.mk hi122_4
                       have HC122_4 := Aside0.mk hl122_4
                       clear hi122_4 hl122_4
                       replace p122 := eq_true p122
                       replace q122 := eq_true q122
                       go_wp2
                       go_ret
                       exact ⟨by first | rfl | (simp [errW_none, errW_some] <;> rfl) | (simp [*, errW_none, errW_some] <;> rfl), by repeat (first | (with_reducible first | exact HB.out | apply below_alloc | apply pw_below_drewN | apply below_drew1 | refine below_set ?_ GE108.out | refine below_set ?_ GE115.out) | exact HB.out)⟩
                     · rw [if_neg c38] at H
                       have c38b0 : (((rd_T34 t104 x15_3).f1) == 7) = false := beq_eq_false_iff_ne.mpr c38
                       have c38b1 : (((rd_T34 t104 x15_3).f1) != 7) = true := bne_iff_ne.mpr c38
                       have H' := Aside0.mk H
                       clear H
                       have hnb41 := NB108_115.out
                       have hnc41 := NB115_108.out
                       have hcz42_0 : wr.cell? ⟨gb108, 0, none⟩ = some (.int .i64 t102) := (blk_cell BK108.out 0).trans rfl
                       have hcz42_1 : wr.cell? ⟨gb108, 1, none⟩ = some (.int .i64 t103) := (blk_cell BK108.out 1).trans rfl
                       have hcz42_2 : wr.cell? ⟨gb108, 2, none⟩ = some (.slice Ao13 t104.length co13) := (blk_cell BK108.out 2).trans rfl
                       have hfz42_0 := blk_frozen BK108.out 0
                       have hfz42_1 := blk_frozen BK108.out 1
                       have hfz42_2 := blk_frozen BK108.out 2
                       have p122 : 0 ≤ (x15_3 : Int) := of_decide_eq_true (by first | (with_reducible assumption) | assumption)
                       have q122 : x15_3 < (t104.length : Int) := of_decide_eq_true (by first | (with_reducible assumption) | assumption)
                       obtain ⟨ad122, A122_4, c122_4, e122, hx122_0, hx122_1, hx122_2, hx122_3, hx122_4, hl122_4, hi122_4⟩ := at_T34 (Kd.S_reads' HO_109002.out).2.2 x15_3 p122 q122
                       cases e122
                       obtain ⟨ce122, hce122, hMe122, hcc122⟩ := Kd.S_get HO_109002.out z34 x15_3 p122 (by first | exact q122 | exact of_decide_eq_true (by first | (with_reducible assumption) | assumption) | (have e_ := (Kd.S_reads' HO_109002.out).1; omega))
                       obtain ⟨ve122_4, rfl, ge122_4⟩ := k34_openM hMe122
                       have hv122_4 := hcc122 4 _ rfl
                       rw [add_field _ _ 4 (by omega)] at hv122_4
                       replace hv122_4 := Option.some.inj (hv122_4.symm.trans hx122_4)
                       rw [hv122_4] at ge122_4
                       have HL122_4 := Aside0.mk (show Kd.R (Kd.int .i64) 3 _ _ _ _ ((rd_T34 t104 x15_3).f4) from ge122_4)
                       clear hv122_4 ge122_4
                       clear hcc122 hce122
                       have HR122_4 := Aside0.mk hi122_4
                       have HC122_4 := Aside0.mk hl122_4
                       clear hi122_4 hl122_4
                       replace p122 := eq_true p122
                       replace q122 := eq_true q122
                       go_wp2
                       go_roundg k3
                       case measure => have := HJ7.out; have := HJ19.out; have := HK3.out; omega
                       case rel => exact ⟨(wrap64 (x15_3 + 1)), (by first | rfl | (simp; done) | (simp [*]; done)), H', ⟨by have := HJ7.out; have := HJ19.out; have := HK3.out; omega⟩, ⟨by (with_reducible repeat (first | apply Kd.S_alloc | apply Kd.S_drewN | apply Kd.S_drew)); exact HO_109002.out⟩, ⟨by (with_reducible repeat (first | apply Kd.S_alloc | apply Kd.S_drewN | apply Kd.S_drew)); exact HO_116002.out⟩, ⟨by (with_reducible repeat (first | refine blk_drewN ?_ _ | refine blk_drew ?_ | refine blk_alloc ?_ _)); exact BK108.out⟩, ⟨by (with_reducible repeat (first | refine blk_drewN ?_ _ | refine blk_drew ?_ | refine blk_alloc ?_ _)); exact BK115.out⟩, ⟨by repeat (first | (with_reducible first | exact HB.out | apply below_alloc | apply pw_below_drewN | apply below_drew1 | refine below_set ?_ GE108.out | refine below_set ?_ GE115.out) | exact HB.out)⟩⟩
                   · rw [if_neg c37] at H
                     exact absurd H (by simp)
                 · rw [if_neg c36] at H
                   have c36b0 : decide (x15_3 < (t104.length : Int)) = false := decide_eq_false c36
                   clear c36
                   have H' := Aside0.mk H
                   clear H
                   have hnb43 := NB108_115.out
                   have hnc43 := NB115_108.out
                   have hcz44_0 : wr.cell? ⟨gb108, 0, none⟩ = some (.int .i64 t102) := (blk_cell BK108.out 0).trans rfl
                   have hcz44_1 : wr.cell? ⟨gb108, 1, none⟩ = some (.int .i64 t103) := (blk_cell BK108.out 1).trans rfl
                   have hcz44_2 : wr.cell? ⟨gb108, 2, none⟩ = some (.slice Ao13 t104.length co13) := (blk_cell BK108.out 2).trans rfl
                   have hfz44_0 := blk_frozen BK108.out 0
                   have hfz44_1 := blk_frozen BK108.out 1
                   have hfz44_2 := blk_frozen BK108.out 2
                   go_wp2
                   go_loopg [16, 17] k3 (fun kq v16 v17 w' => ∃ (x16_4 : Int) (x17_4 : Int), v16 = .int .i64 x16_4 ∧ v17 = .int .i64 x17_4 ∧ Aside0 (minuetlaw11_ParseWrapped.l1 kq a0 a1 t116 t118 x16_4 x17_4 = some r) ∧ Aside0 (kq ≤ k3) ∧ Aside0 (Kd.S k34 34 w' w.heap.size (fun k_ => some k_ ≠ ((.slice Ao25 t111.length co25) : Value).ownBlock) (.slice Ao13 t104.length co13) t104) ∧ Aside0 (Kd.S k34 34 w' w.heap.size (fun k_ => some k_ ≠ ((.slice Ao13 t104.length co13) : Value).ownBlock) (.slice Ao25 t111.length co25) t111) ∧ Aside0 (w'.heap[gb108]? = some (.cells #[.int .i64 t102, .int .i64 t103, (.slice Ao13 t104.length co13)] 28 (0, 0))) ∧ Aside0 (w'.heap[gb115]? = some (.cells #[.int .i64 t109, .int .i64 t110, (.slice Ao25 t111.length co25)] 28 (0, 0))) ∧ Aside0 (Below w.heap.size w w'))
                   case atStart => exact ⟨(0), (0), (by first | rfl | (simp; done) | (simp [*]; done)), (by first | rfl | (simp; done) | (simp [*]; done)), H', ⟨Nat.le_refl _⟩, ⟨by (with_reducible repeat (first | apply Kd.S_alloc | apply Kd.S_drewN | apply Kd.S_drew)); exact HO_109002.out⟩, ⟨by (with_reducible repeat (first | apply Kd.S_alloc | apply Kd.S_drewN | apply Kd.S_drew)); exact HO_116002.out⟩, ⟨by (with_reducible repeat (first | refine blk_drewN ?_ _ | refine blk_drew ?_ | refine blk_alloc ?_ _)); exact BK108.out⟩, ⟨by (with_reducible repeat (first | refine blk_drewN ?_ _ | refine blk_drew ?_ | refine blk_alloc ?_ _)); exact BK115.out⟩, ⟨by repeat (first | (with_reducible first | exact HB.out | apply below_alloc | apply pw_below_drewN | apply below_drew1 | refine below_set ?_ GE108.out | refine below_set ?_ GE115.out) | exact HB.out)⟩⟩
                   case round =>
                    clear H'
                    try clear c1
                    try clear p1
                    try clear q1
                    try clear hx1
                    try clear c2
                    try clear p2
                    try clear c3
                    try clear c4
                    try clear c5
                    try clear c5b0
                    try clear c5b1
                    try clear p6
                    try clear c10
                    try clear c12
                    try clear p12
                    try clear q12
                    try clear hx12
                    try clear c14
                    try clear c15
                    try clear c15b0
                    try clear c15b1
                    try clear c15b2
                    try clear c16
                    try clear c16b0
                    try clear c16b1
                    try clear c16b2
                    try clear c19
                    try clear c23
                    try clear c24
                    try clear c31
                    try clear c31b0
                    try clear c31b1
                    try clear c33
                    try clear c33b0
                    try clear c33b1
                    try clear c34
                    try clear c35
                    try clear c36
                    try clear c36b0
                    try clear c37
                    try clear c37b0
                    try clear c38
                    try clear c38b0
                    try clear c38b1
                    try clear c39
                    try clear c41
                    try clear c43
                    try clear hcz12_0
                    try clear hcz12_1
                    try clear hcz12_2
                    try clear hcz24_0
                    try clear hcz24_1
                    try clear hcz24_2
                    try clear hcz26_0
                    try clear hcz26_1
                    try clear hcz26_2
                    try clear hcz28_0
                    try clear hcz28_1
                    try clear hcz28_2
                    try clear hcz40_0
                    try clear hcz40_1
                    try clear hcz40_2
                    try clear hcz42_0
                    try clear hcz42_1
                    try clear hcz42_2
                    try clear hcz44_0
                    try clear hcz44_1
                    try clear hcz44_2
                    try clear hfz12_0
                    try clear hfz12_1
                    try clear hfz12_2
                    try clear hfz24_0
                    try clear hfz24_1
                    try clear hfz24_2
                    try clear hfz26_0
                    try clear hfz26_1
                    try clear hfz26_2
                    try clear hfz28_0
                    try clear hfz28_1
                    try clear hfz28_2
                    try clear hfz40_0
                    try clear hfz40_1
                    try clear hfz40_2
                    try clear hfz42_0
                    try clear hfz42_1
                    try clear hfz42_2
                    try clear hfz44_0
                    try clear hfz44_1
                    try clear hfz44_2
                    try clear hx122_0
                    try clear hx122_1
                    try clear hx122_2
                    try clear hx122_3
                    try clear hx122_4
                    try clear p122
                    try clear p2
                    try clear q122
                    obtain ⟨x16_4, x17_4, rfl, rfl, HA, HK4, HO_109002, HO_116002, BK108, BK115, HB⟩ := hrel
                    cases gk with
                    | zero => exact absurd HA.out (by simp [minuetlaw11_ParseWrapped.l1])
                    | succ k4 =>
                     have H := HA.out
                     clear HA
                     simp only [minuetlaw11_ParseWrapped.l1] at H
                     by_cases c45 : x17_4 < (a0.size : Int)
                     · rw [if_pos c45] at H
                       have c45b0 : decide (x17_4 < (a0.size : Int)) = true := decide_eq_true c45
                       clear c45
                       by_cases c46 : 0 ≤ x17_4
                       · rw [if_pos c46] at H
                         have c46b0 : decide (0 ≤ x17_4) = true := decide_eq_true c46
                         clear c46
                         by_cases c48 : (bt a0 x17_4) = 91
                         · rw [if_pos c48] at H
                           have c48b0 : ((bt a0 x17_4) == 91) = true := beq_iff_eq.mpr c48
                           have c48b1 : ((bt a0 x17_4) != 91) = false := bne_eq_false_iff_eq.mpr c48
                           clear c48
                           have H' := Aside0.mk H
                           clear H
                           have p47 : 0 ≤ (x17_4 : Int) := of_decide_eq_true (by first | (with_reducible assumption) | assumption)
                           have q47 : x17_4 < (a0.size : Int) := of_decide_eq_true (by first | (with_reducible assumption) | assumption)
                           have hx47 := bt_at a0 x17_4
                           replace p47 := eq_true p47
                           replace q47 := eq_true q47
                           go_wp2
                           go_roundg k4
                           case measure => have := HJ7.out; have := HJ19.out; have := HK3.out; have := HK4.out; omega
                           case rel => exact ⟨(wrap64 (x16_4 + 1)), (wrap64 (x17_4 + 1)), (by first | rfl | (simp; done) | (simp [*]; done)), (by first | rfl | (simp; done) | (simp [*]; done)), H', ⟨by have := HJ7.out; have := HJ19.out; have := HK3.out; have := HK4.out; omega⟩, ⟨by (with_reducible repeat (first | apply Kd.S_alloc | apply Kd.S_drewN | apply Kd.S_drew)); exact HO_109002.out⟩, ⟨by (with_reducible repeat (first | apply Kd.S_alloc | apply Kd.S_drewN | apply Kd.S_drew)); exact HO_116002.out⟩, ⟨by (with_reducible repeat (first | refine blk_drewN ?_ _ | refine blk_drew ?_ | refine blk_alloc ?_ _)); exact BK108.out⟩, ⟨by (with_reducible repeat (first | refine blk_drewN ?_ _ | refine blk_drew ?_ | refine blk_alloc ?_ _)); exact BK115.out⟩, ⟨by repeat (first | (with_reducible first | exact HB.out | apply below_alloc | apply pw_below_drewN | apply below_drew1 | refine below_set ?_ GE108.out | refine below_set ?_ GE115.out) | exact HB.out)⟩⟩
                         · rw [if_neg c48] at H
                           have c48b0 : ((bt a0 x17_4) == 91) = false := beq_eq_false_iff_ne.mpr c48
                           have c48b1 : ((bt a0 x17_4) != 91) = true := bne_iff_ne.mpr c48
                           by_cases c50 : (bt a0 x17_4) = 123
                           · rw [if_pos c50] at H
                             have c50b0 : ((bt a0 x17_4) == 123) = true := beq_iff_eq.mpr c50
                             have c50b1 : ((bt a0 x17_4) != 123) = false := bne_eq_false_iff_eq.mpr c50
                             clear c50
                             have H' := Aside0.mk H
                             clear H
                             have p47 : 0 ≤ (x17_4 : Int) := of_decide_eq_true (by first | (with_reducible assumption) | assumption)
                             have q47 : x17_4 < (a0.size : Int) := of_decide_eq_true (by first | (with_reducible assumption) | assumption)
                             have hx47 := bt_at a0 x17_4
                             replace p47 := eq_true p47
                             replace q47 := eq_true q47
                             have p49 : 0 ≤ (x17_4 : Int) := of_decide_eq_true (by first | (with_reducible assumption) | assumption)
                             have q49 : x17_4 < (a0.size : Int) := of_decide_eq_true (by first | (with_reducible assumption) | assumption)
                             have hx49 := bt_at a0 x17_4
                             replace p49 := eq_true p49
                             replace q49 := eq_true q49
                             go_wp2
                             go_roundg k4
                             case measure => have := HJ7.out; have := HJ19.out; have := HK3.out; have := HK4.out; omega
                             case rel => exact ⟨(wrap64 (x16_4 + 1)), (wrap64 (x17_4 + 1)), (by first | rfl | (simp; done) | (simp [*]; done)), (by first | rfl | (simp; done) | (simp [*]; done)), H', ⟨by have := HJ7.out; have := HJ19.out; have := HK3.out; have := HK4.out; omega⟩, ⟨by (with_reducible repeat (first | apply Kd.S_alloc | apply Kd.S_drewN | apply Kd.S_drew)); exact HO_109002.out⟩, ⟨by (with_reducible repeat (first | apply Kd.S_alloc | apply Kd.S_drewN | apply Kd.S_drew)); exact HO_116002.out⟩, ⟨by (with_reducible repeat (first | refine blk_drewN ?_ _ | refine blk_drew ?_ | refine blk_alloc ?_ _)); exact BK108.out⟩, ⟨by (with_reducible repeat (first | refine blk_drewN ?_ _ | refine blk_drew ?_ | refine blk_alloc ?_ _)); exact BK115.out⟩, ⟨by repeat (first | (with_reducible first | exact HB.out | apply below_alloc | apply pw_below_drewN | apply below_drew1 | refine below_set ?_ GE108.out | refine below_set ?_ GE115.out) | exact HB.out)⟩⟩
                           · rw [if_neg c50] at H
                             have c50b0 : ((bt a0 x17_4) == 123) = false := beq_eq_false_iff_ne.mpr c50
                             have c50b1 : ((bt a0 x17_4) != 123) = true := bne_iff_ne.mpr c50
                             have H' := Aside0.mk H
                             clear H
                             have p47 : 0 ≤ (x17_4 : Int) := of_decide_eq_true (by first | (with_reducible assumption) | assumption)
                             have q47 : x17_4 < (a0.size : Int) := of_decide_eq_true (by first | (with_reducible assumption) | assumption)
                             have hx47 := bt_at a0 x17_4
                             replace p47 := eq_true p47
                             replace q47 := eq_true q47
                             have p49 : 0 ≤ (x17_4 : Int) := of_decide_eq_true (by first | (with_reducible assumption) | assumption)
                             have q49 : x17_4 < (a0.size : Int) := of_decide_eq_true (by first | (with_reducible assumption) | assumption)
                             have hx49 := bt_at a0 x17_4
                             replace p49 := eq_true p49
                             replace q49 := eq_true q49
                             go_wp2
                             go_roundg k4
                             case measure => have := HJ7.out; have := HJ19.out; have := HK3.out; have := HK4.out; omega
                             case rel => exact ⟨(x16_4), (wrap64 (x17_4 + 1)), (by first | rfl | (simp; done) | (simp [*]; done)), (by first | rfl | (simp; done) | (simp [*]; done)), H', ⟨by have := HJ7.out; have := HJ19.out; have := HK3.out; have := HK4.out; omega⟩, ⟨by (with_reducible repeat (first | apply Kd.S_alloc | apply Kd.S_drewN | apply Kd.S_drew)); exact HO_109002.out⟩, ⟨by (with_reducible repeat (first | apply Kd.S_alloc | apply Kd.S_drewN | apply Kd.S_drew)); exact HO_116002.out⟩, ⟨by (with_reducible repeat (first | refine blk_drewN ?_ _ | refine blk_drew ?_ | refine blk_alloc ?_ _)); exact BK108.out⟩, ⟨by (with_reducible repeat (first | refine blk_drewN ?_ _ | refine blk_drew ?_ | refine blk_alloc ?_ _)); exact BK115.out⟩, ⟨by repeat (first | (with_reducible first | exact HB.out | apply below_alloc | apply pw_below_drewN | apply below_drew1 | refine below_set ?_ GE108.out | refine below_set ?_ GE115.out) | exact HB.out)⟩⟩
                       · rw [if_neg c46] at H
                         exact absurd H (by simp)
                     · rw [if_neg c45] at H
                       have c45b0 : decide (x17_4 < (a0.size : Int)) = false := decide_eq_false c45
                       clear c45
                       have HC51 := Aside0.mk H
                       clear H
                       go_upto_region 26 with (fail)
                       go_cut [107] (fun v107 wc => ∃ (kq : Nat) (x107_50 : Bool), v107 = .bool x107_50 ∧ Aside0 (minuetlaw11_ParseWrapped.j4 kq a1 t116 t118 x107_50 = some r) ∧ Aside0 (kq ≤ k4) ∧ Aside0 (Kd.S k34 34 wc w.heap.size (fun k_ => some k_ ≠ ((.slice Ao25 t111.length co25) : Value).ownBlock) (.slice Ao13 t104.length co13) t104) ∧ Aside0 (Kd.S k34 34 wc w.heap.size (fun k_ => some k_ ≠ ((.slice Ao13 t104.length co13) : Value).ownBlock) (.slice Ao25 t111.length co25) t111) ∧ Aside0 (wc.heap[gb108]? = some (.cells #[.int .i64 t102, .int .i64 t103, (.slice Ao13 t104.length co13)] 28 (0, 0))) ∧ Aside0 (wc.heap[gb115]? = some (.cells #[.int .i64 t109, .int .i64 t110, (.slice Ao25 t111.length co25)] 28 (0, 0))) ∧ Aside0 (Below w.heap.size w wc))
                       case first =>
                        have H := HC51.out
                        clear HC51
                        by_cases c52 : x16_4 ≥ 12
                        · rw [if_pos c52] at H
                          have c52b0 : decide (12 ≤ x16_4) = true := decide_eq_true c52
                          clear c52
                          (first | rw [c52b0] | (simp only [i64_w, i32_w]; rw [c52b0]) | skip)
                          have H' := Aside0.mk H
                          clear H
                          go_wp2
                          go_meet
                          case rel => exact ⟨_, (true), (by first | rfl | (simp; done) | (simp [*]; done)), H', ⟨by have := HJ7.out; have := HJ19.out; have := HK3.out; have := HK4.out; first | omega | exact Nat.le_refl _⟩, ⟨by (with_reducible repeat (first | apply Kd.S_alloc | apply Kd.S_drewN | apply Kd.S_drew)); exact HO_109002.out⟩, ⟨by (with_reducible repeat (first | apply Kd.S_alloc | apply Kd.S_drewN | apply Kd.S_drew)); exact HO_116002.out⟩, ⟨by (with_reducible repeat (first | refine blk_drewN ?_ _ | refine blk_drew ?_ | refine blk_alloc ?_ _)); exact BK108.out⟩, ⟨by (with_reducible repeat (first | refine blk_drewN ?_ _ | refine blk_drew ?_ | refine blk_alloc ?_ _)); exact BK115.out⟩, ⟨by repeat (first | (with_reducible first | exact HB.out | apply below_alloc | apply pw_below_drewN | apply below_drew1 | refine below_set ?_ GE108.out | refine below_set ?_ GE115.out) | exact HB.out)⟩⟩
                        · rw [if_neg c52] at H
                          have c52b0 : decide (12 ≤ x16_4) = false := decide_eq_false c52
                          clear c52
                          (first | rw [c52b0] | (simp only [i64_w, i32_w]; rw [c52b0]) | skip)
                          have H' := Aside0.mk H
                          clear H
                          go_wp2
                          go_meet
                          case rel => exact ⟨_, (decide ((t116.size : Int) < 3)), (by first | rfl | (simp; done) | (simp [*]; done)), H', ⟨by have := HJ7.out; have := HJ19.out; have := HK3.out; have := HK4.out; first | omega | exact Nat.le_refl _⟩, ⟨by (with_reducible repeat (first | apply Kd.S_alloc | apply Kd.S_drewN | apply Kd.S_drew)); exact HO_109002.out⟩, ⟨by (with_reducible repeat (first | apply Kd.S_alloc | apply Kd.S_drewN | apply Kd.S_drew)); exact HO_116002.out⟩, ⟨by (with_reducible repeat (first | refine blk_drewN ?_ _ | refine blk_drew ?_ | refine blk_alloc ?_ _)); exact BK108.out⟩, ⟨by (with_reducible repeat (first | refine blk_drewN ?_ _ | refine blk_drew ?_ | refine blk_alloc ?_ _)); exact BK115.out⟩, ⟨by repeat (first | (with_reducible first | exact HB.out | apply below_alloc | apply pw_below_drewN | apply below_drew1 | refine below_set ?_ GE108.out | refine below_set ?_ GE115.out) | exact HB.out)⟩⟩
                       case rest =>
                        clear HC51
                        try clear c1
                        try clear p1
                        try clear q1
                        try clear hx1
                        try clear c2
                        try clear p2
                        try clear c3
                        try clear c4
                        try clear p4
                        try clear q4
                        try clear hx4
                        try clear c5
                        try clear c5b0
                        try clear c5b1
                        try clear p6
                        try clear c10
                        try clear c12
                        try clear p12
                        try clear q12
                        try clear hx12
                        try clear c14
                        try clear c15
                        try clear c15b0
                        try clear c15b1
                        try clear c15b2
                        try clear c16
                        try clear c16b0
                        try clear c16b1
                        try clear c16b2
                        try clear c19
                        try clear c23
                        try clear c24
                        try clear c31
                        try clear c31b0
                        try clear c31b1
                        try clear c33
                        try clear c33b0
                        try clear c33b1
                        try clear c34
                        try clear c35
                        try clear c36
                        try clear c36b0
                        try clear c37
                        try clear c37b0
                        try clear c38
                        try clear c38b0
                        try clear c38b1
                        try clear c39
                        try clear c41
                        try clear c43
                        try clear c45
                        try clear c45b0
                        try clear c46
                        try clear c46b0
                        try clear p47
                        try clear q47
                        try clear hx47
                        try clear c48
                        try clear c48b0
                        try clear c48b1
                        try clear p49
                        try clear q49
                        try clear hx49
                        try clear c50
                        try clear c50b0
                        try clear c50b1
                        try clear c52
                        try clear c52b0
                        try clear hcz12_0
                        try clear hcz12_1
                        try clear hcz12_2
                        try clear hcz24_0
                        try clear hcz24_1
                        try clear hcz24_2
                        try clear hcz26_0
                        try clear hcz26_1
                        try clear hcz26_2
                        try clear hcz28_0
                        try clear hcz28_1
                        try clear hcz28_2
                        try clear hcz40_0
                        try clear hcz40_1
                        try clear hcz40_2
                        try clear hcz42_0
                        try clear hcz42_1
                        try clear hcz42_2
                        try clear hcz44_0
                        try clear hcz44_1
                        try clear hcz44_2
                        try clear hfz12_0
                        try clear hfz12_1
                        try clear hfz12_2
                        try clear hfz24_0
                        try clear hfz24_1
                        try clear hfz24_2
                        try clear hfz26_0
                        try clear hfz26_1
                        try clear hfz26_2
                        try clear hfz28_0
                        try clear hfz28_1
                        try clear hfz28_2
                        try clear hfz40_0
                        try clear hfz40_1
                        try clear hfz40_2
                        try clear hfz42_0
                        try clear hfz42_1
                        try clear hfz42_2
                        try clear hfz44_0
                        try clear hfz44_1
                        try clear hfz44_2
                        try clear hx122_0
                        try clear hx122_1
                        try clear hx122_2
                        try clear hx122_3
                        try clear hx122_4
                        try clear p1
                        try clear p12
                        try clear p122
                        try clear p2
                        try clear p47
                        try clear p49
                        try clear p6
                        try clear q1
                        try clear q12
                        try clear q122
                        try clear q47
                        try clear q49
                        obtain ⟨kq, x107_50, rfl, HA, HJ50, HO_109002, HO_116002, BK108, BK115, HB⟩ := hcut
                        cases kq with
                        | zero => exact absurd HA.out (by simp [minuetlaw11_ParseWrapped.j4])
                        | succ kj50 =>
                         have H := HA.out
                         clear HA
                         simp only [minuetlaw11_ParseWrapped.j4] at H
                         by_cases c53 : x107_50 = true
                         · subst c53
                           have H1 : (some true) = some r := by rw [if_pos rfl] at H; exact H
                           clear H
                           have H := H1
                           clear H1
                           obtain rfl := Option.some.inj H
                           go_wp2
                           go_ret
                           exact ⟨by first | rfl | (simp [errW_none, errW_some] <;> rfl) | (simp [*, errW_none, errW_some] <;> rfl), by repeat (first | (with_reducible first | exact HB.out | apply below_alloc | apply pw_below_drewN | apply below_drew1 | refine below_set ?_ GE108.out | refine below_set ?_ GE115.out) | exact HB.out)⟩
                         · replace c53 := Bool.eq_false_iff.mpr c53
                           subst c53
                           have H1 : (if 2 ≤ (wrap64 ((t116.size : Int) - 1)) then (if (wrap64 ((t116.size : Int) - 1)) ≤ (t116.size : Int) then (if a1 = true then (if 7 + (t116.extract 2 ((wrap64 ((t116.size : Int) - 1)) : Int).toNat).size ≤ 9223372036854775807 then (if ((⟨#[82, 40, 79, 40, 80, 40, 84]⟩ : ByteArray) ++ (t116.extract 2 ((wrap64 ((t116.size : Int) - 1)) : Int).toNat)).size + 3 ≤ 9223372036854775807 then (some (t118.toList == (((⟨#[82, 40, 79, 40, 80, 40, 84]⟩ : ByteArray) ++ (t116.extract 2 ((wrap64 ((t116.size : Int) - 1)) : Int).toNat)) ++ (⟨#[41, 41, 41]⟩ : ByteArray)).toList)) else (none)) else (none)) else (if 4 + (t116.extract 2 ((wrap64 ((t116.size : Int) - 1)) : Int).toNat).size ≤ 9223372036854775807 then (if ((⟨#[82, 40, 65, 40]⟩ : ByteArray) ++ (t116.extract 2 ((wrap64 ((t116.size : Int) - 1)) : Int).toNat)).size + 2 ≤ 9223372036854775807 then (some (t118.toList == (((⟨#[82, 40, 65, 40]⟩ : ByteArray) ++ (t116.extract 2 ((wrap64 ((t116.size : Int) - 1)) : Int).toNat)) ++ (⟨#[41, 41]⟩ : ByteArray)).toList)) else (none)) else (none))) else (none)) else (none)) = some r := by rw [if_neg (show ¬ (false = true) by decide)] at H; exact H
                           clear H
                           have H := H1
                           clear H1
                           by_cases c54 : 2 ≤ (wrap64 ((t116.size : Int) - 1))
                           · rw [if_pos c54] at H
                             have c54b0 := eq_true c54
                             have c54b1 : decide (2 ≤ (wrap64 ((t116.size : Int) - 1))) = true := decide_eq_true c54
                             clear c54
                             by_cases c55 : (wrap64 ((t116.size : Int) - 1)) ≤ (t116.size : Int)
                             · rw [if_pos c55] at H
                               have c55b0 := eq_true c55
                               have c55b1 : decide ((wrap64 ((t116.size : Int) - 1)) ≤ (t116.size : Int)) = true := decide_eq_true c55
                               clear c55
                               by_cases c56 : a1 = true
                               · subst c56
                                 have H1 : (if 7 + (t116.extract 2 ((wrap64 ((t116.size : Int) - 1)) : Int).toNat).size ≤ 9223372036854775807 then (if ((⟨#[82, 40, 79, 40, 80, 40, 84]⟩ : ByteArray) ++ (t116.extract 2 ((wrap64 ((t116.size : Int) - 1)) : Int).toNat)).size + 3 ≤ 9223372036854775807 then (some (t118.toList == (((⟨#[82, 40, 79, 40, 80, 40, 84]⟩ : ByteArray) ++ (t116.extract 2 ((wrap64 ((t116.size : Int) - 1)) : Int).toNat)) ++ (⟨#[41, 41, 41]⟩ : ByteArray)).toList)) else (none)) else (none)) = some r := by rw [if_pos rfl] at H; exact H
                                 clear H
                                 have H := H1
                                 clear H1
                                 by_cases c57 : 7 + (t116.extract 2 ((wrap64 ((t116.size : Int) - 1)) : Int).toNat).size ≤ 9223372036854775807
                                 · rw [if_pos c57] at H
                                   have c57b0 := eq_true c57
                                   have c57b1 : decide (7 + (t116.extract 2 ((wrap64 ((t116.size : Int) - 1)) : Int).toNat).size ≤ 9223372036854775807) = true := decide_eq_true c57
                                   try have c57b2 : (9223372036854775807 < 7 + (t116.extract 2 ((wrap64 ((t116.size : Int) - 1)) : Int).toNat).size) = False := eq_false (Nat.not_lt.2 c57)
                                   by_cases c58 : ((⟨#[82, 40, 79, 40, 80, 40, 84]⟩ : ByteArray) ++ (t116.extract 2 ((wrap64 ((t116.size : Int) - 1)) : Int).toNat)).size + 3 ≤ 9223372036854775807
                                   · rw [if_pos c58] at H
                                     have c58b0 := eq_true c58
                                     have c58b1 : decide (((⟨#[82, 40, 79, 40, 80, 40, 84]⟩ : ByteArray) ++ (t116.extract 2 ((wrap64 ((t116.size : Int) - 1)) : Int).toNat)).size + 3 ≤ 9223372036854775807) = true := decide_eq_true c58
                                     try have c58b2 : (9223372036854775807 < ((⟨#[82, 40, 79, 40, 80, 40, 84]⟩ : ByteArray) ++ (t116.extract 2 ((wrap64 ((t116.size : Int) - 1)) : Int).toNat)).size + 3) = False := eq_false (Nat.not_lt.2 c58)
                                     obtain rfl := Option.some.inj H
                                     have hE_ : (wrap64 ((t116.size : Int) - 1)) ≤ (t116.size : Int) := of_eq_true (by assumption)
                                     have zx_ : (t116.extract 2 ((wrap64 ((t116.size : Int) - 1)) : Int).toNat).size = (wrap64 ((t116.size : Int) - 1)).toNat - 2 := by rw [ByteArray.size_extract]; omega
                                     have cxa_ : (9223372036854775807 < 7 + ((wrap64 ((t116.size : Int) - 1)).toNat - 2)) = False := by rw [← zx_]; exact eq_false (Nat.not_lt.2 c57)
                                     have cxb_ : (9223372036854775807 < 7 + ((wrap64 ((t116.size : Int) - 1)).toNat - 2) + 3) = False := by have h_ := c58; rw [ByteArray.size_append, zx_] at h_; exact eq_false (Nat.not_lt.2 h_)
                                     go_wp2
                                     go_ret
                                     exact ⟨by first | rfl | (simp [errW_none, errW_some] <;> rfl) | (simp [*, errW_none, errW_some] <;> rfl), by repeat (first | (with_reducible first | exact HB.out | apply below_alloc | apply pw_below_drewN | apply below_drew1 | refine below_set ?_ GE108.out | refine below_set ?_ GE115.out) | exact HB.out)⟩
                                   · rw [if_neg c58] at H
                                     exact absurd H (by simp)
                                 · rw [if_neg c57] at H
                                   exact absurd H (by simp)
                               · replace c56 := Bool.eq_false_iff.mpr c56
                                 subst c56
                                 have H1 : (if 4 + (t116.extract 2 ((wrap64 ((t116.size : Int) - 1)) : Int).toNat).size ≤ 9223372036854775807 then (if ((⟨#[82, 40, 65, 40]⟩ : ByteArray) ++ (t116.extract 2 ((wrap64 ((t116.size : Int) - 1)) : Int).toNat)).size + 2 ≤ 9223372036854775807 then (some (t118.toList == (((⟨#[82, 40, 65, 40]⟩ : ByteArray) ++ (t116.extract 2 ((wrap64 ((t116.size : Int) - 1)) : Int).toNat)) ++ (⟨#[41, 41]⟩ : ByteArray)).toList)) else (none)) else (none)) = some r := by rw [if_neg (show ¬ (false = true) by decide)] at H; exact H
                                 clear H
                                 have H := H1
                                 clear H1
                                 by_cases c59 : 4 + (t116.extract 2 ((wrap64 ((t116.size : Int) - 1)) : Int).toNat).size ≤ 9223372036854775807
                                 · rw [if_pos c59] at H
                                   have c59b0 := eq_true c59
                                   have c59b1 : decide (4 + (t116.extract 2 ((wrap64 ((t116.size : Int) - 1)) : Int).toNat).size ≤ 9223372036854775807) = true := decide_eq_true c59
                                   try have c59b2 : (9223372036854775807 < 4 + (t116.extract 2 ((wrap64 ((t116.size : Int) - 1)) : Int).toNat).size) = False := eq_false (Nat.not_lt.2 c59)
                                   by_cases c60 : ((⟨#[82, 40, 65, 40]⟩ : ByteArray) ++ (t116.extract 2 ((wrap64 ((t116.size : Int) - 1)) : Int).toNat)).size + 2 ≤ 9223372036854775807
                                   · rw [if_pos c60] at H
                                     have c60b0 := eq_true c60
                                     have c60b1 : decide (((⟨#[82, 40, 65, 40]⟩ : ByteArray) ++ (t116.extract 2 ((wrap64 ((t116.size : Int) - 1)) : Int).toNat)).size + 2 ≤ 9223372036854775807) = true := decide_eq_true c60
                                     try have c60b2 : (9223372036854775807 < ((⟨#[82, 40, 65, 40]⟩ : ByteArray) ++ (t116.extract 2 ((wrap64 ((t116.size : Int) - 1)) : Int).toNat)).size + 2) = False := eq_false (Nat.not_lt.2 c60)
                                     obtain rfl := Option.some.inj H
                                     have hE_ : (wrap64 ((t116.size : Int) - 1)) ≤ (t116.size : Int) := of_eq_true (by assumption)
                                     have zx_ : (t116.extract 2 ((wrap64 ((t116.size : Int) - 1)) : Int).toNat).size = (wrap64 ((t116.size : Int) - 1)).toNat - 2 := by rw [ByteArray.size_extract]; omega
                                     have cxa_ : (9223372036854775807 < 4 + ((wrap64 ((t116.size : Int) - 1)).toNat - 2)) = False := by rw [← zx_]; exact eq_false (Nat.not_lt.2 c59)
                                     have cxb_ : (9223372036854775807 < 4 + ((wrap64 ((t116.size : Int) - 1)).toNat - 2) + 2) = False := by have h_ := c60; rw [ByteArray.size_append, zx_] at h_; exact eq_false (Nat.not_lt.2 h_)
                                     go_wp2
                                     go_ret
                                     exact ⟨by first | rfl | (simp [errW_none, errW_some] <;> rfl) | (simp [*, errW_none, errW_some] <;> rfl), by repeat (first | (with_reducible first | exact HB.out | apply below_alloc | apply pw_below_drewN | apply below_drew1 | refine below_set ?_ GE108.out | refine below_set ?_ GE115.out) | exact HB.out)⟩
                                   · rw [if_neg c60] at H
                                     exact absurd H (by simp)
                                 · rw [if_neg c59] at H
                                   exact absurd H (by simp)
                             · rw [if_neg c55] at H
                               exact absurd H (by simp)
                           · rw [if_neg c54] at H
                             exact absurd H (by simp)
         · rw [if_neg c16] at H
           exact absurd H (by simp)
       · rw [if_neg c15] at H
         exact absurd H (by simp)
 · replace c4 := Bool.eq_false_iff.mpr c4
   subst c4
   have H1 : (none) = some r := by rw [if_neg (show ¬ (false = true) by decide)] at H; exact H
   clear H
   have H := H1
   clear H1
   exact absurd H (by simp)

/-- THE ONE PURE STATEMENT of minuetlaw11_ParseWrapped: yours. -/
def minuetlaw11_ParseWrapped.Pure : Prop := ∀ (a0 : ByteArray) (a1 : Bool), a0.size ≤ 140737488351232 → ∃ k, minuetlaw11_ParseWrapped.f k a0 a1 = some true
theorem minuetlaw11_ParseWrapped.walk (P : minuetlaw11_ParseWrapped.Pure) (a0 : ByteArray) (a1 : Bool) (w : World) (hm_ : MaxOk w) (w0 : a0.size ≤ 140737488351232) :
 Calls Try.prog 10 #[.string a0, .bool a1] w fun e w' => e = .returned (.bool true) ∧ Below w.heap.size w w' := by
 obtain ⟨k, h⟩ := P a0 a1 w0
 refine (minuetlaw11_ParseWrapped.calls k a0 a1 true w hm_ h).mono ?_
 rintro e w' ⟨rfl, hd⟩
 exact ⟨rfl, hd⟩

end Go.Proofs.Ytehojohacombkaa.G
