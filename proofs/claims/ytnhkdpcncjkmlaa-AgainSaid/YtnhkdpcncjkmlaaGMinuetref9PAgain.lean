-- Laid by this session's own program gprint.py (wip/tools), out of the kit's print and of texts of this session. Lean checks it.
import Derived.Test.YtnhkdpcncjkmlaaGx0
import Derived.Test.YtnhkdpcncjkmlaaGx1
import Derived.Test.YtnhkdpcncjkmlaaGMinuetref9PTokens
namespace Go.Proofs.Ytnhkdpcncjkmlaa.G
open Go.RowKit Go.Proofs.YtnhkdpcncjkmlaaW.PrintWords Go.Proofs.YtnhkdpcncjkmlaaW.PrintLast Go.Proofs.YtnhkdpcncjkmlaaW.PrintMore
open List renaming setIfInBounds_toArray → z1_, set_cons_zero → z2_, set_cons_succ → z3_
attribute [local go_sem] max2_int min2_int max_two min_two max_three min_three max_four min_four   -- for this text's walks alone
set_option linter.unusedVariables false
set_option linter.unusedSimpArgs false

attribute [local go_sem high] eqA34
/-! ### minuetref9_Again: function 20 -/
mutual
def minuetref9_Again.j0 : Nat → ByteArray → List (S34) → Int → Int → ByteArray → List (S34) → Bool → Option ((List (S34)) × Int × Int × Int)
 | 0, _, _, _, _, _, _, _ => none
 | k + 1, x0, x1, x2, x3, x4, x14, x64 => if x64 = true then (some (([] : List (S34)), 0, 0, 1000)) else (minuetref9_Again.l0 k x0 x1 x2 x3 x4 x14 0)
def minuetref9_Again.l0 : Nat → ByteArray → List (S34) → Int → Int → ByteArray → List (S34) → Int → Option ((List (S34)) × Int × Int × Int)
 | 0, _, _, _, _, _, _, _ => none
 | k + 1, x0, x1, x2, x3, x4, x14, x16 => if x16 < (x1.length : Int) then (if 0 ≤ x16 then (if x16 < (x14.length : Int) then (if (!(((rd_T34 x1 x16).f0) == ((rd_T34 x14 x16).f0)) || (!(((rd_T34 x1 x16).f1) == ((rd_T34 x14 x16).f1)) || (!(((rd_T34 x1 x16).f2) == ((rd_T34 x14 x16).f2))))) = true then (some (([] : List (S34)), 0, 0, 1000)) else (minuetref9_Again.l0 k x0 x1 x2 x3 x4 x14 (wrap64 (x16 + 1)))) else (none)) else (none)) else (if 0 ≤ x2 then (if x2 ≤ (x0.size : Int) then (if (x0.extract 0 (x2 : Int).toNat).size + x4.size ≤ 9223372036854775807 then (if 0 ≤ (wrap64 (x2 + x3)) then (if (wrap64 (x2 + x3)) ≤ (x0.size : Int) then (if ((x0.extract 0 (x2 : Int).toNat) ++ x4).size + (x0.extract ((wrap64 (x2 + x3)) : Int).toNat x0.size).size ≤ 9223372036854775807 then ((minuetref9_Tokens.f k (((x0.extract 0 (x2 : Int).toNat) ++ x4) ++ (x0.extract ((wrap64 (x2 + x3)) : Int).toNat x0.size))).bind fun bt107 => (if bt107.2 = 0 then (minuetref9_Again.l1 k x14 bt107.1 0 0 (wrap64 ((x4.size : Int) - x3))) else (some (([] : List (S34)), 0, 0, 1000)))) else (none)) else (none)) else (none)) else (none)) else (none)) else (none))
def minuetref9_Again.j3 : Nat → List (S34) → List (S34) → Int → Int → Int → Option ((List (S34)) × Int × Int × Int)
 | 0, _, _, _, _, _ => none
 | k + 1, x14, x17, x19, x20, x21 => minuetref9_Again.l2 k x14 x17 x19 x20 x21
def minuetref9_Again.l2 : Nat → List (S34) → List (S34) → Int → Int → Int → Option ((List (S34)) × Int × Int × Int)
 | 0, _, _, _, _, _ => none
 | k + 1, x14, x17, x19, x20, x21 => if x20 < (wrap64 ((x14.length : Int) - x19)) then (minuetref9_Again.j5 k x14 x17 x19 x20 x21 (decide (x20 < (wrap64 ((x17.length : Int) - x19))))) else (minuetref9_Again.j5 k x14 x17 x19 x20 x21 false)
def minuetref9_Again.j5 : Nat → List (S34) → List (S34) → Int → Int → Int → Bool → Option ((List (S34)) × Int × Int × Int)
 | 0, _, _, _, _, _, _ => none
 | k + 1, x14, x17, x19, x20, x21, x137 => if x137 = true then (if 0 ≤ (wrap64 ((wrap64 ((x14.length : Int) - 1)) - x20)) then (if (wrap64 ((wrap64 ((x14.length : Int) - 1)) - x20)) < (x14.length : Int) then (if 0 ≤ (wrap64 ((wrap64 ((x17.length : Int) - 1)) - x20)) then (if (wrap64 ((wrap64 ((x17.length : Int) - 1)) - x20)) < (x17.length : Int) then (if ((rd_T34 x14 (wrap64 ((wrap64 ((x14.length : Int) - 1)) - x20))).f0) = ((rd_T34 x17 (wrap64 ((wrap64 ((x17.length : Int) - 1)) - x20))).f0) then (if (wrap64 (((rd_T34 x14 (wrap64 ((wrap64 ((x14.length : Int) - 1)) - x20))).f1) + x21)) = ((rd_T34 x17 (wrap64 ((wrap64 ((x17.length : Int) - 1)) - x20))).f1) then (if (wrap64 (((rd_T34 x14 (wrap64 ((wrap64 ((x14.length : Int) - 1)) - x20))).f2) + x21)) = ((rd_T34 x17 (wrap64 ((wrap64 ((x17.length : Int) - 1)) - x20))).f2) then (minuetref9_Again.l2 k x14 x17 x19 (wrap64 (x20 + 1)) x21) else (some (x17, x19, x20, 0))) else (some (x17, x19, x20, 0))) else (some (x17, x19, x20, 0))) else (none)) else (none)) else (none)) else (none)) else (some (x17, x19, x20, 0))
def minuetref9_Again.l1 : Nat → List (S34) → List (S34) → Int → Int → Int → Option ((List (S34)) × Int × Int × Int)
 | 0, _, _, _, _, _ => none
 | k + 1, x14, x17, x19, x20, x21 => if x19 < (x14.length : Int) then (if x19 < (x17.length : Int) then (if 0 ≤ x19 then (if (((rd_T34 x14 x19).f0) == ((rd_T34 x17 x19).f0) && (((rd_T34 x14 x19).f1) == ((rd_T34 x17 x19).f1) && (((rd_T34 x14 x19).f2) == ((rd_T34 x17 x19).f2)))) = true then (minuetref9_Again.l1 k x14 x17 (wrap64 (x19 + 1)) x20 x21) else (minuetref9_Again.j3 k x14 x17 x19 x20 x21)) else (none)) else (minuetref9_Again.j3 k x14 x17 x19 x20 x21)) else (minuetref9_Again.j3 k x14 x17 x19 x20 x21)
end
def minuetref9_Again.f (k : Nat) (a0 : ByteArray) (l1 : List (S34)) (a2 : Int) (a3 : Int) (a4 : ByteArray) : Option ((List (S34)) × Int × Int × Int) := (minuetref9_Tokens.f k a0).bind fun bt101 => (if bt101.2 = 0 then (if (bt101.1.length : Int) = (l1.length : Int) then (if a2 < 0 then (minuetref9_Again.j0 k a0 l1 a2 a3 a4 bt101.1 true) else (if a2 > (a0.size : Int) then (minuetref9_Again.j0 k a0 l1 a2 a3 a4 bt101.1 true) else (if a3 < 0 then (minuetref9_Again.j0 k a0 l1 a2 a3 a4 bt101.1 true) else (if a3 > (wrap64 ((a0.size : Int) - a2)) then (minuetref9_Again.j0 k a0 l1 a2 a3 a4 bt101.1 true) else (minuetref9_Again.j0 k a0 l1 a2 a3 a4 bt101.1 (decide ((a4.size : Int) > 300))))))) else (minuetref9_Again.j0 k a0 l1 a2 a3 a4 bt101.1 true)) else (minuetref9_Again.j0 k a0 l1 a2 a3 a4 bt101.1 true))
theorem minuetref9_Again.mono_l : ∀ k, (∀ y0 y1 y2 y3 y4 y5 y6, LeO (minuetref9_Again.j0 k y0 y1 y2 y3 y4 y5 y6) (minuetref9_Again.j0 (k + 1) y0 y1 y2 y3 y4 y5 y6)) ∧ (∀ y0 y1 y2 y3 y4 y5 y6, LeO (minuetref9_Again.l0 k y0 y1 y2 y3 y4 y5 y6) (minuetref9_Again.l0 (k + 1) y0 y1 y2 y3 y4 y5 y6)) ∧ (∀ y0 y1 y2 y3 y4, LeO (minuetref9_Again.j3 k y0 y1 y2 y3 y4) (minuetref9_Again.j3 (k + 1) y0 y1 y2 y3 y4)) ∧ (∀ y0 y1 y2 y3 y4, LeO (minuetref9_Again.l2 k y0 y1 y2 y3 y4) (minuetref9_Again.l2 (k + 1) y0 y1 y2 y3 y4)) ∧ (∀ y0 y1 y2 y3 y4 y5, LeO (minuetref9_Again.j5 k y0 y1 y2 y3 y4 y5) (minuetref9_Again.j5 (k + 1) y0 y1 y2 y3 y4 y5)) ∧ (∀ y0 y1 y2 y3 y4, LeO (minuetref9_Again.l1 k y0 y1 y2 y3 y4) (minuetref9_Again.l1 (k + 1) y0 y1 y2 y3 y4))
 | 0 => ⟨fun _ _ _ _ _ _ _ r h => by simp [minuetref9_Again.j0] at h, fun _ _ _ _ _ _ _ r h => by simp [minuetref9_Again.l0] at h, fun _ _ _ _ _ r h => by simp [minuetref9_Again.j3] at h, fun _ _ _ _ _ r h => by simp [minuetref9_Again.l2] at h, fun _ _ _ _ _ _ r h => by simp [minuetref9_Again.j5] at h, fun _ _ _ _ _ r h => by simp [minuetref9_Again.l1] at h⟩
 | k + 1 => by
  obtain ⟨ih0, ih1, ih2, ih3, ih4, ih5⟩ := minuetref9_Again.mono_l k
  refine ⟨?_, ?_, ?_, ?_, ?_, ?_⟩
  ·intro y0 y1 y2 y3 y4 y5 y6
   unfold minuetref9_Again.j0
   repeat' first
   | (with_reducible exact ih0 _ _ _ _ _ _ _)
   | (with_reducible exact ih1 _ _ _ _ _ _ _)
   | (with_reducible exact ih2 _ _ _ _ _)
   | (with_reducible exact ih3 _ _ _ _ _)
   | (with_reducible exact ih4 _ _ _ _ _ _)
   | (with_reducible exact ih5 _ _ _ _ _)
   | (with_reducible exact minuetref9_Tokens.mono _ _)
   | (with_reducible exact LeO.refl _)
   | (with_reducible exact LeO.none _)
   | (with_reducible refine LeO.ite ?_ ?_)
   | (with_reducible refine LeO.bind ?_ (fun _ => ?_))
   | exact ih0 _ _ _ _ _ _ _
   | exact ih1 _ _ _ _ _ _ _
   | exact ih2 _ _ _ _ _
   | exact ih3 _ _ _ _ _
   | exact ih4 _ _ _ _ _ _
   | exact ih5 _ _ _ _ _
   | exact minuetref9_Tokens.mono _ _
   | exact LeO.none _
   | refine LeO.ite ?_ ?_
   | refine LeO.bind ?_ (fun _ => ?_)
  ·intro y0 y1 y2 y3 y4 y5 y6
   unfold minuetref9_Again.l0
   repeat' first
   | (with_reducible exact ih0 _ _ _ _ _ _ _)
   | (with_reducible exact ih1 _ _ _ _ _ _ _)
   | (with_reducible exact ih2 _ _ _ _ _)
   | (with_reducible exact ih3 _ _ _ _ _)
   | (with_reducible exact ih4 _ _ _ _ _ _)
   | (with_reducible exact ih5 _ _ _ _ _)
   | (with_reducible exact minuetref9_Tokens.mono _ _)
   | (with_reducible exact LeO.refl _)
   | (with_reducible exact LeO.none _)
   | (with_reducible refine LeO.ite ?_ ?_)
   | (with_reducible refine LeO.bind ?_ (fun _ => ?_))
   | exact ih0 _ _ _ _ _ _ _
   | exact ih1 _ _ _ _ _ _ _
   | exact ih2 _ _ _ _ _
   | exact ih3 _ _ _ _ _
   | exact ih4 _ _ _ _ _ _
   | exact ih5 _ _ _ _ _
   | exact minuetref9_Tokens.mono _ _
   | exact LeO.none _
   | refine LeO.ite ?_ ?_
   | refine LeO.bind ?_ (fun _ => ?_)
  ·intro y0 y1 y2 y3 y4
   unfold minuetref9_Again.j3
   repeat' first
   | (with_reducible exact ih0 _ _ _ _ _ _ _)
   | (with_reducible exact ih1 _ _ _ _ _ _ _)
   | (with_reducible exact ih2 _ _ _ _ _)
   | (with_reducible exact ih3 _ _ _ _ _)
   | (with_reducible exact ih4 _ _ _ _ _ _)
   | (with_reducible exact ih5 _ _ _ _ _)
   | (with_reducible exact minuetref9_Tokens.mono _ _)
   | (with_reducible exact LeO.refl _)
   | (with_reducible exact LeO.none _)
   | (with_reducible refine LeO.ite ?_ ?_)
   | (with_reducible refine LeO.bind ?_ (fun _ => ?_))
   | exact ih0 _ _ _ _ _ _ _
   | exact ih1 _ _ _ _ _ _ _
   | exact ih2 _ _ _ _ _
   | exact ih3 _ _ _ _ _
   | exact ih4 _ _ _ _ _ _
   | exact ih5 _ _ _ _ _
   | exact minuetref9_Tokens.mono _ _
   | exact LeO.none _
   | refine LeO.ite ?_ ?_
   | refine LeO.bind ?_ (fun _ => ?_)
  ·intro y0 y1 y2 y3 y4
   unfold minuetref9_Again.l2
   repeat' first
   | (with_reducible exact ih0 _ _ _ _ _ _ _)
   | (with_reducible exact ih1 _ _ _ _ _ _ _)
   | (with_reducible exact ih2 _ _ _ _ _)
   | (with_reducible exact ih3 _ _ _ _ _)
   | (with_reducible exact ih4 _ _ _ _ _ _)
   | (with_reducible exact ih5 _ _ _ _ _)
   | (with_reducible exact minuetref9_Tokens.mono _ _)
   | (with_reducible exact LeO.refl _)
   | (with_reducible exact LeO.none _)
   | (with_reducible refine LeO.ite ?_ ?_)
   | (with_reducible refine LeO.bind ?_ (fun _ => ?_))
   | exact ih0 _ _ _ _ _ _ _
   | exact ih1 _ _ _ _ _ _ _
   | exact ih2 _ _ _ _ _
   | exact ih3 _ _ _ _ _
   | exact ih4 _ _ _ _ _ _
   | exact ih5 _ _ _ _ _
   | exact minuetref9_Tokens.mono _ _
   | exact LeO.none _
   | refine LeO.ite ?_ ?_
   | refine LeO.bind ?_ (fun _ => ?_)
  ·intro y0 y1 y2 y3 y4 y5
   unfold minuetref9_Again.j5
   repeat' first
   | (with_reducible exact ih0 _ _ _ _ _ _ _)
   | (with_reducible exact ih1 _ _ _ _ _ _ _)
   | (with_reducible exact ih2 _ _ _ _ _)
   | (with_reducible exact ih3 _ _ _ _ _)
   | (with_reducible exact ih4 _ _ _ _ _ _)
   | (with_reducible exact ih5 _ _ _ _ _)
   | (with_reducible exact minuetref9_Tokens.mono _ _)
   | (with_reducible exact LeO.refl _)
   | (with_reducible exact LeO.none _)
   | (with_reducible refine LeO.ite ?_ ?_)
   | (with_reducible refine LeO.bind ?_ (fun _ => ?_))
   | exact ih0 _ _ _ _ _ _ _
   | exact ih1 _ _ _ _ _ _ _
   | exact ih2 _ _ _ _ _
   | exact ih3 _ _ _ _ _
   | exact ih4 _ _ _ _ _ _
   | exact ih5 _ _ _ _ _
   | exact minuetref9_Tokens.mono _ _
   | exact LeO.none _
   | refine LeO.ite ?_ ?_
   | refine LeO.bind ?_ (fun _ => ?_)
  ·intro y0 y1 y2 y3 y4
   unfold minuetref9_Again.l1
   repeat' first
   | (with_reducible exact ih0 _ _ _ _ _ _ _)
   | (with_reducible exact ih1 _ _ _ _ _ _ _)
   | (with_reducible exact ih2 _ _ _ _ _)
   | (with_reducible exact ih3 _ _ _ _ _)
   | (with_reducible exact ih4 _ _ _ _ _ _)
   | (with_reducible exact ih5 _ _ _ _ _)
   | (with_reducible exact minuetref9_Tokens.mono _ _)
   | (with_reducible exact LeO.refl _)
   | (with_reducible exact LeO.none _)
   | (with_reducible refine LeO.ite ?_ ?_)
   | (with_reducible refine LeO.bind ?_ (fun _ => ?_))
   | exact ih0 _ _ _ _ _ _ _
   | exact ih1 _ _ _ _ _ _ _
   | exact ih2 _ _ _ _ _
   | exact ih3 _ _ _ _ _
   | exact ih4 _ _ _ _ _ _
   | exact ih5 _ _ _ _ _
   | exact minuetref9_Tokens.mono _ _
   | exact LeO.none _
   | refine LeO.ite ?_ ?_
   | refine LeO.bind ?_ (fun _ => ?_)
theorem minuetref9_Again.mono : ∀ a0 a1 a2 a3 a4 k, LeO (minuetref9_Again.f k a0 a1 a2 a3 a4) (minuetref9_Again.f (k + 1) a0 a1 a2 a3 a4) := by
 intro a0 a1 a2 a3 a4 k
 obtain ⟨ih0, ih1, ih2, ih3, ih4, ih5⟩ := minuetref9_Again.mono_l k
 unfold minuetref9_Again.f
 repeat' first
  | (with_reducible exact ih0 _ _ _ _ _ _ _)
  | (with_reducible exact ih1 _ _ _ _ _ _ _)
  | (with_reducible exact ih2 _ _ _ _ _)
  | (with_reducible exact ih3 _ _ _ _ _)
  | (with_reducible exact ih4 _ _ _ _ _ _)
  | (with_reducible exact ih5 _ _ _ _ _)
  | (with_reducible exact minuetref9_Tokens.mono _ _)
  | (with_reducible exact LeO.refl _)
  | (with_reducible exact LeO.none _)
  | (with_reducible refine LeO.ite ?_ ?_)
  | (with_reducible refine LeO.bind ?_ (fun _ => ?_))
  | exact ih0 _ _ _ _ _ _ _
  | exact ih1 _ _ _ _ _ _ _
  | exact ih2 _ _ _ _ _
  | exact ih3 _ _ _ _ _
  | exact ih4 _ _ _ _ _ _
  | exact ih5 _ _ _ _ _
  | exact minuetref9_Tokens.mono _ _
  | exact LeO.none _
  | refine LeO.ite ?_ ?_
  | refine LeO.bind ?_ (fun _ => ?_)
def minuetref9_Again.T7 : Bool × List (List Nat × List Nat) := (true, [([], []), ([], []), ([0, 1], [0, 1]), ([2], [2]), ([], []), ([], []), ([4, 5], [4, 5]), ([6], [6]), ([3, 7], [3, 7])])
def minuetref9_Again.B7 : List Nat := [0, 0, 3, 7, 0, 0, 48, 112, 255]
theorem minuetref9_Again.tab7 : rtab .any (opsOf Try.f20 7) = minuetref9_Again.T7 := by kernel_rfl
theorem minuetref9_Again.bits7 : waitsOk minuetref9_Again.T7.2 minuetref9_Again.B7 = true := by kernel_rfl
def minuetref9_Again.T9 : Bool × List (List Nat × List Nat) := (true, [([], []), ([], []), ([0, 1], [0, 1]), ([], []), ([2, 3], [2, 3]), ([], []), ([], []), ([], []), ([6, 7], [6, 7]), ([5, 8], [5, 8]), ([4, 9], [4, 9]), ([10], [10]), ([11], [11]), ([12], [12]), ([12], [12]), ([13, 11, 0, 1, 2, 3, 4, 5, 6, 7, 8, 9, 10, 11, 12, 13], [13]), ([14, 15, 0, 1, 2, 3, 4, 5, 6, 7, 8, 9, 10, 11, 12, 13, 14, 15], [14])])
def minuetref9_Again.B9 : List Nat := [0, 0, 3, 0, 15, 0, 0, 0, 192, 480, 1023, 2047, 4095, 8191, 8191, 16383, 65535]
theorem minuetref9_Again.tab9 : rtab .any (opsOf Try.f20 9) = minuetref9_Again.T9 := by kernel_rfl
theorem minuetref9_Again.bits9 : waitsOk minuetref9_Again.T9.2 minuetref9_Again.B9 = true := by kernel_rfl
def minuetref9_Again.T13 : Bool × List (List Nat × List Nat) := (true, [([], []), ([], []), ([1], [1]), ([0, 2], [0, 2]), ([3], [3]), ([4], [4]), ([4], [4]), ([6, 4], [4, 6]), ([5, 7, 4], [4, 5, 7]), ([4, 8], [4, 8]), ([9, 4], [9]), ([10], [10]), ([10], [10]), ([11, 12, 10], [10, 11, 12]), ([13, 10], [10, 13]), ([10], [10]), ([10], [10]), ([15, 16, 10], [10, 15, 16]), ([17, 10], [10, 17]), ([14, 18, 10], [10, 14, 18]), ([10, 19], [10, 19])])
def minuetref9_Again.B13 : List Nat := [0, 0, 2, 7, 15, 31, 31, 95, 255, 511, 1023, 2047, 2047, 8191, 16383, 2047, 2047, 100351, 231423, 524287, 1048575]
theorem minuetref9_Again.tab13 : rtab .any (opsOf Try.f20 13) = minuetref9_Again.T13 := by kernel_rfl
theorem minuetref9_Again.bits13 : waitsOk minuetref9_Again.T13.2 minuetref9_Again.B13 = true := by kernel_rfl
def minuetref9_Again.T16 : Bool × List (List Nat × List Nat) := (true, [([], []), ([], []), ([1], [1]), ([2], [2]), ([], []), ([3, 4], [3, 4]), ([0, 5], [0, 5]), ([6], [6]), ([], []), ([], []), ([9], [9]), ([10], [10]), ([], []), ([11, 12], [11, 12]), ([8, 13], [8, 13]), ([14], [14]), ([], []), ([], []), ([16, 7, 0, 1, 2, 3, 4, 5, 6, 7, 16, 17], [7, 16]), ([17, 15, 18, 0, 1, 2, 3, 4, 5, 6, 7, 8, 9, 10, 11, 12, 13, 14, 15, 16, 17, 18], [15, 17])])
def minuetref9_Again.B16 : List Nat := [0, 0, 2, 6, 0, 30, 63, 127, 0, 0, 512, 1536, 0, 7680, 16128, 32512, 0, 0, 196863, 524287]
theorem minuetref9_Again.tab16 : rtab .any (opsOf Try.f20 16) = minuetref9_Again.T16 := by kernel_rfl
theorem minuetref9_Again.bits16 : waitsOk minuetref9_Again.T16.2 minuetref9_Again.B16 = true := by kernel_rfl
set_option maxHeartbeats 8000000 in
set_option maxRecDepth 100000 in
theorem minuetref9_Again.calls (k : Nat) (a0 : ByteArray) (A1 : Option Addr) (c1 : Nat) (l1 : List (S34)) (a2 : Int) (a3 : Int) (a4 : ByteArray) (r1 : List (S34)) (r2 : Int) (r3 : Int) (r4 : Int) (w : World) (hr1 : Kd.C k34 w A1 l1.length l1) (hc1 : l1.length ≤ c1) (h : minuetref9_Again.f k a0 l1 a2 a3 a4 = some (r1, r2, r3, r4)) :
 Calls Try.prog 20 #[.string a0, .slice A1 l1.length c1, .int .i64 a2, .int .i64 a3, .string a4] w fun e w' => ∃ v0_ : Value, e = .returned (.tuple #[v0_, .int .i64 r2, .int .i64 r3, .int .i64 r4]) ∧ Kd.R k34 34 w' w.heap.size (fun _ => True) v0_ r1 ∧ Below w.heap.size w w' := by
 have hu34 := Try.underlying34
 have HR1 := Aside0.mk hr1
 have HC1 := Aside0.mk hc1
 clear hr1 hc1
 have HB := Aside0.mk (Below.refl w.heap.size w)
 have H : ((minuetref9_Tokens.f k a0).bind fun bt101 => (if bt101.2 = 0 then (if (bt101.1.length : Int) = (l1.length : Int) then (if a2 < 0 then (minuetref9_Again.j0 k a0 l1 a2 a3 a4 bt101.1 true) else (if a2 > (a0.size : Int) then (minuetref9_Again.j0 k a0 l1 a2 a3 a4 bt101.1 true) else (if a3 < 0 then (minuetref9_Again.j0 k a0 l1 a2 a3 a4 bt101.1 true) else (if a3 > (wrap64 ((a0.size : Int) - a2)) then (minuetref9_Again.j0 k a0 l1 a2 a3 a4 bt101.1 true) else (minuetref9_Again.j0 k a0 l1 a2 a3 a4 bt101.1 (decide ((a4.size : Int) > 300))))))) else (minuetref9_Again.j0 k a0 l1 a2 a3 a4 bt101.1 true)) else (minuetref9_Again.j0 k a0 l1 a2 a3 a4 bt101.1 true))) = some (r1, r2, r3, r4) := h
 clear h
 replace H := Option.bind_eq_some_iff.mp H
 obtain ⟨⟨t101, t102⟩, A60, H⟩ := H
 replace H : (if t102 = 0 then (if (t101.length : Int) = (l1.length : Int) then (if a2 < 0 then (minuetref9_Again.j0 k a0 l1 a2 a3 a4 t101 true) else (if a2 > (a0.size : Int) then (minuetref9_Again.j0 k a0 l1 a2 a3 a4 t101 true) else (if a3 < 0 then (minuetref9_Again.j0 k a0 l1 a2 a3 a4 t101 true) else (if a3 > (wrap64 ((a0.size : Int) - a2)) then (minuetref9_Again.j0 k a0 l1 a2 a3 a4 t101 true) else (minuetref9_Again.j0 k a0 l1 a2 a3 a4 t101 (decide ((a4.size : Int) > 300))))))) else (minuetref9_Again.j0 k a0 l1 a2 a3 a4 t101 true)) else (minuetref9_Again.j0 k a0 l1 a2 a3 a4 t101 true)) = some (r1, r2, r3, r4) := H
 have A6 := Aside0.mk A60
 clear A60
 have HC7 := Aside0.mk H
 clear H
 go_enter Try.func20, Try.ntmps20
 go_upto_region 2 with (first | ((with_reducible refine gate_callee (f := 13) rfl ?_); refine goesL_ (some 26) rfl rfl Try.func13 (by kernel_rfl) rfl #[.string a0] rfl (by (try simp only [List.map_toArray, List.map_cons, List.map_nil]); first | done | rfl | (simp only [List.length_drop, List.length_take]; rfl)) ?_; (with_reducible refine (minuetref9_Tokens.calls k a0 t101 t102 _ A6.out).mono ?_); rintro e w8 ⟨v103, rfl, ho0, hb⟩; refine ⟨_, rfl, ?_⟩; have n0_ := Aside0.mk (Kd.R_lower ho0 (below_size (by repeat (first | (with_reducible first | exact HB.out | apply below_alloc | apply pw_below_drewN | apply below_drew1) | exact HB.out)))); have n1_ := Aside0.mk (below_step (by repeat (first | (with_reducible first | exact HB.out | apply below_alloc | apply pw_below_drewN | apply below_drew1) | exact HB.out)) hb); clear HB; have HO104 := n0_; have HB := n1_; clear n0_ n1_; (try clear hb); (try clear hb2); (try clear hk); (try clear hi); (try clear ho0)))
 (try simp only [Act.put, z1_, z2_, z3_])
 go_cut [64] (fun v64 wc => ∃ (kq : Nat) (x64_6 : Bool), v64 = .bool x64_6 ∧ Aside0 (minuetref9_Again.j0 kq a0 l1 a2 a3 a4 t101 x64_6 = some (r1, r2, r3, r4)) ∧ Aside0 (kq ≤ k) ∧ Aside0 (Kd.R k34 34 wc w.heap.size (fun _ => True) v103 t101) ∧ Aside0 (Below w.heap.size w wc))
 case first =>
  have H := HC7.out
  clear HC7
  by_cases c9 : t102 = 0
  rotate_left
  ·rw [if_neg c9] at H
   have c9b0 : (t102 == 0) = false := beq_eq_false_iff_ne.mpr c9
   have c9b1 : (t102 != 0) = true := bne_iff_ne.mpr c9
   (first | rw [c9b0] | (simp only [i64_w, i32_w]; rw [c9b0]) | skip)
   have H' := Aside0.mk H
   clear H
   go_wp2
   go_meet
   case rel => exact ⟨_, (true), (by first | rfl | (simp; done) | (simp [*]; done)), H', ⟨by first | omega | exact Nat.le_refl _⟩, ⟨by (with_reducible repeat (first | apply Kd.R_alloc | apply Kd.R_drewN | apply Kd.R_drew)); exact HO104.out⟩, ⟨by repeat (first | (with_reducible first | exact HB.out | apply below_alloc | apply pw_below_drewN | apply below_drew1) | exact HB.out)⟩⟩
  rw [if_pos c9] at H
  have c9b0 : (t102 == 0) = true := beq_iff_eq.mpr c9
  have c9b1 : (t102 != 0) = false := bne_eq_false_iff_eq.mpr c9
  clear c9
  (first | rw [c9b0] | (simp only [i64_w, i32_w]; rw [c9b0]) | skip)
  by_cases c10 : (t101.length : Int) = (l1.length : Int)
  rotate_left
  ·rw [if_neg c10] at H
   have c10b0 : ((t101.length : Int) == (l1.length : Int)) = false := beq_eq_false_iff_ne.mpr c10
   have c10b1 : ((t101.length : Int) != (l1.length : Int)) = true := bne_iff_ne.mpr c10
   have c10b2 : (t101.length == l1.length) = false := by first | simpa using c10 | (simp at c10 ⊢; omega)
   have H' := Aside0.mk H
   clear H
   obtain ⟨Ao20, co20, eo20⟩ := Kd.R_slice HO104.out
   subst eo20
   go_wp2
   go_meet
   case rel => exact ⟨_, (true), (by first | rfl | (simp; done) | (simp [*]; done)), H', ⟨by first | omega | exact Nat.le_refl _⟩, ⟨by (with_reducible repeat (first | apply Kd.R_alloc | apply Kd.R_drewN | apply Kd.R_drew)); exact HO104.out⟩, ⟨by repeat (first | (with_reducible first | exact HB.out | apply below_alloc | apply pw_below_drewN | apply below_drew1) | exact HB.out)⟩⟩
  rw [if_pos c10] at H
  have c10b0 : ((t101.length : Int) == (l1.length : Int)) = true := beq_iff_eq.mpr c10
  have c10b1 : ((t101.length : Int) != (l1.length : Int)) = false := bne_eq_false_iff_eq.mpr c10
  have c10b2 : (t101.length == l1.length) = true := by first | simpa using c10 | (simp at c10 ⊢; omega)
  clear c10
  by_cases c11 : a2 < 0
  ·rw [if_pos c11] at H
   have c11b0 : decide (a2 < 0) = true := decide_eq_true c11
   clear c11
   have H' := Aside0.mk H
   clear H
   obtain ⟨Ao12, co12, eo12⟩ := Kd.R_slice HO104.out
   subst eo12
   go_wp2
   go_meet
   case rel => exact ⟨_, (true), (by first | rfl | (simp; done) | (simp [*]; done)), H', ⟨by first | omega | exact Nat.le_refl _⟩, ⟨by (with_reducible repeat (first | apply Kd.R_alloc | apply Kd.R_drewN | apply Kd.R_drew)); exact HO104.out⟩, ⟨by repeat (first | (with_reducible first | exact HB.out | apply below_alloc | apply pw_below_drewN | apply below_drew1) | exact HB.out)⟩⟩
  rw [if_neg c11] at H
  have c11b0 : decide (a2 < 0) = false := decide_eq_false c11
  clear c11
  by_cases c13 : a2 > (a0.size : Int)
  ·rw [if_pos c13] at H
   have c13b0 : decide ((a0.size : Int) < a2) = true := decide_eq_true c13
   clear c13
   have H' := Aside0.mk H
   clear H
   obtain ⟨Ao14, co14, eo14⟩ := Kd.R_slice HO104.out
   subst eo14
   go_wp2
   go_meet
   case rel => exact ⟨_, (true), (by first | rfl | (simp; done) | (simp [*]; done)), H', ⟨by first | omega | exact Nat.le_refl _⟩, ⟨by (with_reducible repeat (first | apply Kd.R_alloc | apply Kd.R_drewN | apply Kd.R_drew)); exact HO104.out⟩, ⟨by repeat (first | (with_reducible first | exact HB.out | apply below_alloc | apply pw_below_drewN | apply below_drew1) | exact HB.out)⟩⟩
  rw [if_neg c13] at H
  have c13b0 : decide ((a0.size : Int) < a2) = false := decide_eq_false c13
  clear c13
  by_cases c15 : a3 < 0
  ·rw [if_pos c15] at H
   have c15b0 : decide (a3 < 0) = true := decide_eq_true c15
   clear c15
   have H' := Aside0.mk H
   clear H
   obtain ⟨Ao16, co16, eo16⟩ := Kd.R_slice HO104.out
   subst eo16
   go_wp2
   go_meet
   case rel => exact ⟨_, (true), (by first | rfl | (simp; done) | (simp [*]; done)), H', ⟨by first | omega | exact Nat.le_refl _⟩, ⟨by (with_reducible repeat (first | apply Kd.R_alloc | apply Kd.R_drewN | apply Kd.R_drew)); exact HO104.out⟩, ⟨by repeat (first | (with_reducible first | exact HB.out | apply below_alloc | apply pw_below_drewN | apply below_drew1) | exact HB.out)⟩⟩
  rw [if_neg c15] at H
  have c15b0 : decide (a3 < 0) = false := decide_eq_false c15
  clear c15
  by_cases c17 : a3 > (wrap64 ((a0.size : Int) - a2))
  ·rw [if_pos c17] at H
   have c17b0 : decide ((wrap64 ((a0.size : Int) - a2)) < a3) = true := decide_eq_true c17
   clear c17
   have H' := Aside0.mk H
   clear H
   obtain ⟨Ao18, co18, eo18⟩ := Kd.R_slice HO104.out
   subst eo18
   go_wp2
   go_meet
   case rel => exact ⟨_, (true), (by first | rfl | (simp; done) | (simp [*]; done)), H', ⟨by first | omega | exact Nat.le_refl _⟩, ⟨by (with_reducible repeat (first | apply Kd.R_alloc | apply Kd.R_drewN | apply Kd.R_drew)); exact HO104.out⟩, ⟨by repeat (first | (with_reducible first | exact HB.out | apply below_alloc | apply pw_below_drewN | apply below_drew1) | exact HB.out)⟩⟩
  rw [if_neg c17] at H
  have c17b0 : decide ((wrap64 ((a0.size : Int) - a2)) < a3) = false := decide_eq_false c17
  clear c17
  have H' := Aside0.mk H
  clear H
  obtain ⟨Ao19, co19, eo19⟩ := Kd.R_slice HO104.out
  subst eo19
  go_wp2
  go_meet
  case rel => exact ⟨_, (decide ((a4.size : Int) > 300)), (by first | rfl | (simp; done) | (simp [*]; done)), H', ⟨by first | omega | exact Nat.le_refl _⟩, ⟨by (with_reducible repeat (first | apply Kd.R_alloc | apply Kd.R_drewN | apply Kd.R_drew)); exact HO104.out⟩, ⟨by repeat (first | (with_reducible first | exact HB.out | apply below_alloc | apply pw_below_drewN | apply below_drew1) | exact HB.out)⟩⟩
 case rest =>
  clear HC7
  try clear c1
  try clear c2
  try clear p2
  try clear p6
  try clear c9
  try clear c9b0
  try clear c9b1
  try clear c10
  try clear c10b0
  try clear c10b1
  try clear c10b2
  try clear c11
  try clear c11b0
  try clear c13
  try clear c13b0
  try clear c15
  try clear c15b0
  try clear c17
  try clear c17b0
  try clear c20
  obtain ⟨kq, x64_6, rfl, HA, HJ6, HO_14, HB⟩ := hcut
  cases kq with
  | zero => exact absurd HA.out (by simp [minuetref9_Again.j0])
  | succ kj6 =>
   have H := HA.out
   clear HA
   simp only [minuetref9_Again.j0] at H
   by_cases c21 : x64_6 = true
   ·subst c21
    have H1 : (some (([] : List (S34)), 0, 0, 1000)) = some (r1, r2, r3, r4) := by rw [if_pos rfl] at H; exact H
    clear H
    have H := H1
    clear H1
    simp only [Option.some.injEq, Prod.mk.injEq] at H
    obtain ⟨rfl, rfl, rfl, rfl⟩ := H
    go_wp2
    refine bodyPost_ret (results_list (rs := [.tmp 10, .tmp 11, .tmp 12, .tmp 13]) rfl (by simp) (.tmp (.tmp (.tmp (.tmp .nil))))) rfl ?_
    exact ⟨_, by first | rfl | (simp [errW_none, errW_some] <;> rfl) | (simp [*, errW_none, errW_some] <;> rfl), by first | exact Kd.R_nil _ _ _ _ _ | exact Kd.N_nil _ _ _ _ _ | exact Kd.V_nil _ _ _ _ _ | exact Kd.Q_nil _ _ _ _ _ | exact Kd.S_nil _ _ _ _ _, by repeat (first | (with_reducible first | exact HB.out | apply below_alloc | apply pw_below_drewN | apply below_drew1) | exact HB.out)⟩
   replace c21 := Bool.eq_false_iff.mpr c21
   subst c21
   have H1 : (minuetref9_Again.l0 kj6 a0 l1 a2 a3 a4 t101 0) = some (r1, r2, r3, r4) := by rw [if_neg (show ¬ (false = true) by decide)] at H; exact H
   clear H
   have H := H1
   clear H1
   have H' := Aside0.mk H
   clear H
   go_wp2
   go_loopg [16] kj6 (fun kq v16 w' => ∃ (x16_2 : Int), v16 = .int .i64 x16_2 ∧ Aside0 (minuetref9_Again.l0 kq a0 l1 a2 a3 a4 t101 x16_2 = some (r1, r2, r3, r4)) ∧ Aside0 (kq ≤ kj6) ∧ Aside0 (Kd.R k34 34 w' w.heap.size (fun _ => True) v103 t101) ∧ Aside0 (Below w.heap.size w w'))
   case atStart => exact ⟨(0), (by first | rfl | (simp; done) | (simp [*]; done)), H', ⟨Nat.le_refl _⟩, ⟨by (with_reducible repeat (first | apply Kd.R_alloc | apply Kd.R_drewN | apply Kd.R_drew)); exact HO_14.out⟩, ⟨by repeat (first | (with_reducible first | exact HB.out | apply below_alloc | apply pw_below_drewN | apply below_drew1) | exact HB.out)⟩⟩
   case round =>
    clear H'
    try clear c1
    try clear c2
    try clear p2
    try clear p6
    try clear c9
    try clear c9b0
    try clear c9b1
    try clear c10
    try clear c10b0
    try clear c10b1
    try clear c10b2
    try clear c11
    try clear c11b0
    try clear c13
    try clear c13b0
    try clear c15
    try clear c15b0
    try clear c17
    try clear c17b0
    try clear c20
    try clear c21
    try clear p2
    try clear p6
    obtain ⟨x16_2, rfl, HA, HK2, HO_14, HB⟩ := hrel
    cases gk with
    | zero => exact absurd HA.out (by simp [minuetref9_Again.l0])
    | succ k2 =>
     have H := HA.out
     clear HA
     simp only [minuetref9_Again.l0] at H
     by_cases c22 : x16_2 < (l1.length : Int)
     ·rw [if_pos c22] at H
      have c22b0 : decide (x16_2 < (l1.length : Int)) = true := decide_eq_true c22
      clear c22
      by_cases c23 : 0 ≤ x16_2
      rotate_left
      ·rw [if_neg c23] at H
       exact absurd H (by simp)
      rw [if_pos c23] at H
      have c23b0 : decide (0 ≤ x16_2) = true := decide_eq_true c23
      clear c23
      by_cases c24 : x16_2 < (t101.length : Int)
      rotate_left
      ·rw [if_neg c24] at H
       exact absurd H (by simp)
      rw [if_pos c24] at H
      have c24b0 : decide (x16_2 < (t101.length : Int)) = true := decide_eq_true c24
      clear c24
      by_cases c25 : (!(((rd_T34 l1 x16_2).f0) == ((rd_T34 t101 x16_2).f0)) || (!(((rd_T34 l1 x16_2).f1) == ((rd_T34 t101 x16_2).f1)) || (!(((rd_T34 l1 x16_2).f2) == ((rd_T34 t101 x16_2).f2))))) = true
      rotate_left
      ·rw [if_neg c25] at H
       have c25b0 : (!(((rd_T34 l1 x16_2).f0) == ((rd_T34 t101 x16_2).f0)) || (!(((rd_T34 l1 x16_2).f1) == ((rd_T34 t101 x16_2).f1)) || (!(((rd_T34 l1 x16_2).f2) == ((rd_T34 t101 x16_2).f2))))) = false := by simpa using c25
       clear c25
       have H' := Aside0.mk H
       clear H
       try go_wp2
       have n0_ := Aside0.mk (Kd.R_drew HO_14.out)
       have n1_ := Aside0.mk (below_drew1 HB.out)
       clear HO_14
       clear HB
       have HO_14 := n0_
       have HB := n1_
       clear n0_ n1_
       have p105 : 0 ≤ (x16_2 : Int) := of_decide_eq_true (by first | (with_reducible assumption) | assumption)
       have q105 : x16_2 < (l1.length : Int) := of_decide_eq_true (by first | (with_reducible assumption) | assumption)
       obtain ⟨ad105, e105, hx105_0, hx105_1, hx105_2⟩ := at_T34 HR1.out x16_2 p105 q105
       have hw105_2 := hx105_2
       have hw105_1 := hx105_1
       have hw105_0 := hx105_0
       cases e105
       replace hx105_0 := (HB.out.cell (World.block_lt_of_cell? w _ hx105_0)).trans hx105_0
       replace hx105_1 := (HB.out.cell (World.block_lt_of_cell? w _ hx105_1)).trans hx105_1
       replace hx105_2 := (HB.out.cell (World.block_lt_of_cell? w _ hx105_2)).trans hx105_2
       replace p105 := eq_true p105
       replace q105 := eq_true q105
       obtain ⟨Ao29, co29, eo29⟩ := Kd.R_slice HO_14.out
       (first | subst eo29 | (injection eo29 with f1_ f2_ f3_; have f4_ := f1_.symm; have f5_ := f3_.symm; clear f1_ f2_ f3_; subst f4_; subst f5_))
       have p106 : 0 ≤ (x16_2 : Int) := of_decide_eq_true (by first | (with_reducible assumption) | assumption)
       have q106 : x16_2 < (t101.length : Int) := of_decide_eq_true (by first | (with_reducible assumption) | assumption)
       obtain ⟨ad106, e106, hx106_0, hx106_1, hx106_2⟩ := at_T34 (Kd.R_reads' HO_14.out).2.2 x16_2 p106 q106
       cases e106
       replace p106 := eq_true p106
       replace q106 := eq_true q106
       refine start_ (n := 9) (S := fun w' => w'.cell? (ad105.add ((x16_2).toNat * 3)) = some (.int .i64 ((rd_T34 l1 x16_2).f0)) ∧ w'.cell? ⟨(ad105.add ((x16_2).toNat * 3)).block, (ad105.add ((x16_2).toNat * 3)).off + 1, none⟩ = some (.int .i64 ((rd_T34 l1 x16_2).f1)) ∧ w'.cell? ⟨(ad105.add ((x16_2).toNat * 3)).block, (ad105.add ((x16_2).toNat * 3)).off + 2, none⟩ = some (.int .i64 ((rd_T34 l1 x16_2).f2)) ∧ w'.cell? (ad106.add ((x16_2).toNat * 3)) = some (.int .i64 ((rd_T34 t101 x16_2).f0)) ∧ w'.cell? ⟨(ad106.add ((x16_2).toNat * 3)).block, (ad106.add ((x16_2).toNat * 3)).off + 1, none⟩ = some (.int .i64 ((rd_T34 t101 x16_2).f1)) ∧ w'.cell? ⟨(ad106.add ((x16_2).toNat * 3)).block, (ad106.add ((x16_2).toNat * 3)).off + 2, none⟩ = some (.int .i64 ((rd_T34 t101 x16_2).f2))) (ds := []) #[false, false, false, false, false, false, false, false, false] (by kernel_rfl) rfl rfl ⟨((HB.out.cell (World.block_lt_of_cell? w _ hw105_0)).trans hw105_0), ((HB.out.cell (World.block_lt_of_cell? w _ hw105_1)).trans hw105_1), ((HB.out.cell (World.block_lt_of_cell? w _ hw105_2)).trans hw105_2), hx106_0, hx106_1, hx106_2⟩ (fun hHeld => ?_); refine with_tabW minuetref9_Again.tab7 minuetref9_Again.bits7 (fun HT_ HW_ => ?_)
       generalize wr.drew = w28 at HO_14 HB hx105_0 hx105_1 hx105_2 hx106_0 hx106_1 hx106_2 hHeld ⊢
       refine pure_ (i := 0) (N := some 71) (v := ?_) (a' := ?_) #[true, false, false, false, false, false, false, false, false] rfl rfl (any_of HT_.out (by kernel_rfl)) (fun _ _ _ h => h) (Or.inl ⟨by rfl, ?_⟩) ?_ ?_
       rotate_left
       ·intro w'
        go_simp
        with_reducible rfl
       rotate_left
       ·simp only [Act.put, z1_, z2_, z3_, i64_w, i32_w]
        rfl
       refine pure_ (i := 1) (N := some 72) (v := ?_) (a' := ?_) #[true, true, false, false, false, false, false, false, false] rfl rfl (any_of HT_.out (by kernel_rfl)) (fun _ _ _ h => h) (Or.inl ⟨by rfl, ?_⟩) ?_ ?_
       rotate_left
       ·intro w'
        go_simp
        with_reducible rfl
       rotate_left
       ·simp only [Act.put, z1_, z2_, z3_, i64_w, i32_w]
        rfl
       refine pure_ (i := 2) (N := some 73) (v := ?_) (a' := ?_) #[true, true, true, false, false, false, false, false, false] rfl rfl (any_of HT_.out (by kernel_rfl)) (fun _ _ _ h => h) (Or.inl ⟨by rfl, ?_⟩) ?_ ?_
       rotate_left
       ·intro w'
        go_simp
        with_reducible rfl
       rotate_left
       ·simp only [Act.put, z1_, z2_, z3_, i64_w, i32_w]
        rfl
       refine pure_ (i := 4) (N := some 75) (v := ?_) (a' := ?_) #[true, true, true, false, true, false, false, false, false] rfl rfl (any_of HT_.out (by kernel_rfl)) (fun _ _ _ h => h) (Or.inl ⟨by rfl, ?_⟩) ?_ ?_
       rotate_left
       ·intro w'
        go_simp
        with_reducible rfl
       rotate_left
       ·simp only [Act.put, z1_, z2_, z3_, i64_w, i32_w]
        rfl
       refine pure_ (i := 5) (N := some 76) (v := ?_) (a' := ?_) #[true, true, true, false, true, true, false, false, false] rfl rfl (any_of HT_.out (by kernel_rfl)) (fun _ _ _ h => h) (Or.inl ⟨by rfl, ?_⟩) ?_ ?_
       rotate_left
       ·intro w'
        go_simp
        with_reducible rfl
       rotate_left
       ·simp only [Act.put, z1_, z2_, z3_, i64_w, i32_w]
        rfl
       refine pure_ (i := 6) (N := some 77) (v := ?_) (a' := ?_) #[true, true, true, false, true, true, true, false, false] rfl rfl (any_of HT_.out (by kernel_rfl)) (fun _ _ _ h => h) (Or.inl ⟨by rfl, ?_⟩) ?_ ?_
       rotate_left
       ·intro w'
        go_simp
        with_reducible rfl
       rotate_left
       ·simp only [Act.put, z1_, z2_, z3_, i64_w, i32_w]
        rfl
       refine take_ (i := 3) (N := some 74) (v := ?_) (a' := ?_) #[true, true, true, true, true, true, true, false, false] rfl rfl (take_ofW HT_.out HW_.out (by kernel_rfl)) (fun _ _ _ h => h) (Or.inl ⟨by rfl, ?_⟩) hHeld ?_ ?_
       rotate_left
       ·rintro w' ⟨s0, s1, s2, s3, s4, s5⟩
        go_simp
        with_reducible rfl
       rotate_left
       ·simp only [Act.put, z1_, z2_, z3_, i64_w, i32_w]
        rfl
       refine take_ (i := 7) (N := some 78) (v := ?_) (a' := ?_) #[true, true, true, true, true, true, true, true, false] rfl rfl (take_ofW HT_.out HW_.out (by kernel_rfl)) (fun _ _ _ h => h) (Or.inl ⟨by rfl, ?_⟩) hHeld ?_ ?_
       rotate_left
       ·rintro w' ⟨s0, s1, s2, s3, s4, s5⟩
        go_simp
        with_reducible rfl
       rotate_left
       ·simp only [Act.put, z1_, z2_, z3_, i64_w, i32_w]
        rfl
       refine pure_ (i := 8) (N := some 79) (v := ?_) (a' := ?_) #[true, true, true, true, true, true, true, true, true] rfl rfl (any_of HT_.out (by kernel_rfl)) (fun _ _ _ h => h) (Or.inl ⟨by rfl, ?_⟩) ?_ ?_
       rotate_left
       ·intro w'
        go_simp
        with_reducible rfl
       rotate_left
       ·simp only [Act.put, z1_, z2_, z3_, i64_w, i32_w]
        rfl
       refine done_ (done_of HT_.out (by kernel_rfl)) ?_
       try go_wp2
       go_roundg k2
       case measure => have := HJ6.out; have := HK2.out; omega
       case rel => exact ⟨(wrap64 (x16_2 + 1)), (by first | rfl | (simp; done) | (simp [*]; done)), H', ⟨by have := HJ6.out; have := HK2.out; omega⟩, ⟨by (with_reducible repeat (first | apply Kd.R_alloc | apply Kd.R_drewN | apply Kd.R_drew)); exact HO_14.out⟩, ⟨by repeat (first | (with_reducible first | exact HB.out | apply below_alloc | apply pw_below_drewN | apply below_drew1) | exact HB.out)⟩⟩
      rw [if_pos c25] at H
      have c25b0 : (!(((rd_T34 l1 x16_2).f0) == ((rd_T34 t101 x16_2).f0)) || (!(((rd_T34 l1 x16_2).f1) == ((rd_T34 t101 x16_2).f1)) || (!(((rd_T34 l1 x16_2).f2) == ((rd_T34 t101 x16_2).f2))))) = true := c25
      clear c25
      simp only [Option.some.injEq, Prod.mk.injEq] at H
      obtain ⟨rfl, rfl, rfl, rfl⟩ := H
      try go_wp2
      have n0_ := Aside0.mk (Kd.R_drew HO_14.out)
      have n1_ := Aside0.mk (below_drew1 HB.out)
      clear HO_14
      clear HB
      have HO_14 := n0_
      have HB := n1_
      clear n0_ n1_
      have p105 : 0 ≤ (x16_2 : Int) := of_decide_eq_true (by first | (with_reducible assumption) | assumption)
      have q105 : x16_2 < (l1.length : Int) := of_decide_eq_true (by first | (with_reducible assumption) | assumption)
      obtain ⟨ad105, e105, hx105_0, hx105_1, hx105_2⟩ := at_T34 HR1.out x16_2 p105 q105
      have hw105_2 := hx105_2
      have hw105_1 := hx105_1
      have hw105_0 := hx105_0
      cases e105
      replace hx105_0 := (HB.out.cell (World.block_lt_of_cell? w _ hx105_0)).trans hx105_0
      replace hx105_1 := (HB.out.cell (World.block_lt_of_cell? w _ hx105_1)).trans hx105_1
      replace hx105_2 := (HB.out.cell (World.block_lt_of_cell? w _ hx105_2)).trans hx105_2
      replace p105 := eq_true p105
      replace q105 := eq_true q105
      obtain ⟨Ao27, co27, eo27⟩ := Kd.R_slice HO_14.out
      (first | subst eo27 | (injection eo27 with f1_ f2_ f3_; have f4_ := f1_.symm; have f5_ := f3_.symm; clear f1_ f2_ f3_; subst f4_; subst f5_))
      have p106 : 0 ≤ (x16_2 : Int) := of_decide_eq_true (by first | (with_reducible assumption) | assumption)
      have q106 : x16_2 < (t101.length : Int) := of_decide_eq_true (by first | (with_reducible assumption) | assumption)
      obtain ⟨ad106, e106, hx106_0, hx106_1, hx106_2⟩ := at_T34 (Kd.R_reads' HO_14.out).2.2 x16_2 p106 q106
      cases e106
      replace p106 := eq_true p106
      replace q106 := eq_true q106
      refine start_ (n := 9) (S := fun w' => w'.cell? (ad105.add ((x16_2).toNat * 3)) = some (.int .i64 ((rd_T34 l1 x16_2).f0)) ∧ w'.cell? ⟨(ad105.add ((x16_2).toNat * 3)).block, (ad105.add ((x16_2).toNat * 3)).off + 1, none⟩ = some (.int .i64 ((rd_T34 l1 x16_2).f1)) ∧ w'.cell? ⟨(ad105.add ((x16_2).toNat * 3)).block, (ad105.add ((x16_2).toNat * 3)).off + 2, none⟩ = some (.int .i64 ((rd_T34 l1 x16_2).f2)) ∧ w'.cell? (ad106.add ((x16_2).toNat * 3)) = some (.int .i64 ((rd_T34 t101 x16_2).f0)) ∧ w'.cell? ⟨(ad106.add ((x16_2).toNat * 3)).block, (ad106.add ((x16_2).toNat * 3)).off + 1, none⟩ = some (.int .i64 ((rd_T34 t101 x16_2).f1)) ∧ w'.cell? ⟨(ad106.add ((x16_2).toNat * 3)).block, (ad106.add ((x16_2).toNat * 3)).off + 2, none⟩ = some (.int .i64 ((rd_T34 t101 x16_2).f2))) (ds := []) #[false, false, false, false, false, false, false, false, false] (by kernel_rfl) rfl rfl ⟨((HB.out.cell (World.block_lt_of_cell? w _ hw105_0)).trans hw105_0), ((HB.out.cell (World.block_lt_of_cell? w _ hw105_1)).trans hw105_1), ((HB.out.cell (World.block_lt_of_cell? w _ hw105_2)).trans hw105_2), hx106_0, hx106_1, hx106_2⟩ (fun hHeld => ?_); refine with_tabW minuetref9_Again.tab7 minuetref9_Again.bits7 (fun HT_ HW_ => ?_)
      generalize wr.drew = w26 at HO_14 HB hx105_0 hx105_1 hx105_2 hx106_0 hx106_1 hx106_2 hHeld ⊢
      refine pure_ (i := 0) (N := some 71) (v := ?_) (a' := ?_) #[true, false, false, false, false, false, false, false, false] rfl rfl (any_of HT_.out (by kernel_rfl)) (fun _ _ _ h => h) (Or.inl ⟨by rfl, ?_⟩) ?_ ?_
      rotate_left
      ·intro w'
       go_simp
       with_reducible rfl
      rotate_left
      ·simp only [Act.put, z1_, z2_, z3_, i64_w, i32_w]
       rfl
      refine pure_ (i := 1) (N := some 72) (v := ?_) (a' := ?_) #[true, true, false, false, false, false, false, false, false] rfl rfl (any_of HT_.out (by kernel_rfl)) (fun _ _ _ h => h) (Or.inl ⟨by rfl, ?_⟩) ?_ ?_
      rotate_left
      ·intro w'
       go_simp
       with_reducible rfl
      rotate_left
      ·simp only [Act.put, z1_, z2_, z3_, i64_w, i32_w]
       rfl
      refine pure_ (i := 2) (N := some 73) (v := ?_) (a' := ?_) #[true, true, true, false, false, false, false, false, false] rfl rfl (any_of HT_.out (by kernel_rfl)) (fun _ _ _ h => h) (Or.inl ⟨by rfl, ?_⟩) ?_ ?_
      rotate_left
      ·intro w'
       go_simp
       with_reducible rfl
      rotate_left
      ·simp only [Act.put, z1_, z2_, z3_, i64_w, i32_w]
       rfl
      refine pure_ (i := 4) (N := some 75) (v := ?_) (a' := ?_) #[true, true, true, false, true, false, false, false, false] rfl rfl (any_of HT_.out (by kernel_rfl)) (fun _ _ _ h => h) (Or.inl ⟨by rfl, ?_⟩) ?_ ?_
      rotate_left
      ·intro w'
       go_simp
       with_reducible rfl
      rotate_left
      ·simp only [Act.put, z1_, z2_, z3_, i64_w, i32_w]
       rfl
      refine pure_ (i := 5) (N := some 76) (v := ?_) (a' := ?_) #[true, true, true, false, true, true, false, false, false] rfl rfl (any_of HT_.out (by kernel_rfl)) (fun _ _ _ h => h) (Or.inl ⟨by rfl, ?_⟩) ?_ ?_
      rotate_left
      ·intro w'
       go_simp
       with_reducible rfl
      rotate_left
      ·simp only [Act.put, z1_, z2_, z3_, i64_w, i32_w]
       rfl
      refine pure_ (i := 6) (N := some 77) (v := ?_) (a' := ?_) #[true, true, true, false, true, true, true, false, false] rfl rfl (any_of HT_.out (by kernel_rfl)) (fun _ _ _ h => h) (Or.inl ⟨by rfl, ?_⟩) ?_ ?_
      rotate_left
      ·intro w'
       go_simp
       with_reducible rfl
      rotate_left
      ·simp only [Act.put, z1_, z2_, z3_, i64_w, i32_w]
       rfl
      refine take_ (i := 3) (N := some 74) (v := ?_) (a' := ?_) #[true, true, true, true, true, true, true, false, false] rfl rfl (take_ofW HT_.out HW_.out (by kernel_rfl)) (fun _ _ _ h => h) (Or.inl ⟨by rfl, ?_⟩) hHeld ?_ ?_
      rotate_left
      ·rintro w' ⟨s0, s1, s2, s3, s4, s5⟩
       go_simp
       with_reducible rfl
      rotate_left
      ·simp only [Act.put, z1_, z2_, z3_, i64_w, i32_w]
       rfl
      refine take_ (i := 7) (N := some 78) (v := ?_) (a' := ?_) #[true, true, true, true, true, true, true, true, false] rfl rfl (take_ofW HT_.out HW_.out (by kernel_rfl)) (fun _ _ _ h => h) (Or.inl ⟨by rfl, ?_⟩) hHeld ?_ ?_
      rotate_left
      ·rintro w' ⟨s0, s1, s2, s3, s4, s5⟩
       go_simp
       with_reducible rfl
      rotate_left
      ·simp only [Act.put, z1_, z2_, z3_, i64_w, i32_w]
       rfl
      refine pure_ (i := 8) (N := some 79) (v := ?_) (a' := ?_) #[true, true, true, true, true, true, true, true, true] rfl rfl (any_of HT_.out (by kernel_rfl)) (fun _ _ _ h => h) (Or.inl ⟨by rfl, ?_⟩) ?_ ?_
      rotate_left
      ·intro w'
       go_simp
       with_reducible rfl
      rotate_left
      ·simp only [Act.put, z1_, z2_, z3_, i64_w, i32_w]
       rfl
      refine done_ (done_of HT_.out (by kernel_rfl)) ?_
      try go_wp2
      refine bodyPost_ret (results_list (rs := [.tmp 10, .tmp 11, .tmp 12, .tmp 13]) rfl (by simp) (.tmp (.tmp (.tmp (.tmp .nil))))) rfl ?_
      exact ⟨_, by first | rfl | (simp [errW_none, errW_some] <;> rfl) | (simp [*, errW_none, errW_some] <;> rfl), by first | exact Kd.R_nil _ _ _ _ _ | exact Kd.N_nil _ _ _ _ _ | exact Kd.V_nil _ _ _ _ _ | exact Kd.Q_nil _ _ _ _ _ | exact Kd.S_nil _ _ _ _ _, by repeat (first | (with_reducible first | exact HB.out | apply below_alloc | apply pw_below_drewN | apply below_drew1) | exact HB.out)⟩
     rw [if_neg c22] at H
     have c22b0 : decide (x16_2 < (l1.length : Int)) = false := decide_eq_false c22
     clear c22
     by_cases c30 : 0 ≤ a2
     rotate_left
     ·rw [if_neg c30] at H
      exact absurd H (by simp)

     rw [if_pos c30] at H
     have c30b0 := eq_true c30
     have c30b1 : decide (0 ≤ a2) = true := decide_eq_true c30
     clear c30
     by_cases c31 : a2 ≤ (a0.size : Int)
     rotate_left
     ·rw [if_neg c31] at H
      exact absurd H (by simp)
     rw [if_pos c31] at H
     have c31b0 := eq_true c31
     have c31b1 : decide (a2 ≤ (a0.size : Int)) = true := decide_eq_true c31
     clear c31
     by_cases c32 : (a0.extract 0 (a2 : Int).toNat).size + a4.size ≤ 9223372036854775807
     rotate_left
     ·rw [if_neg c32] at H
      exact absurd H (by simp)
     rw [if_pos c32] at H
     have c32b0 := eq_true c32
     have c32b1 : decide ((a0.extract 0 (a2 : Int).toNat).size + a4.size ≤ 9223372036854775807) = true := decide_eq_true c32
     try have c32b2 : (9223372036854775807 < (a0.extract 0 (a2 : Int).toNat).size + a4.size) = False := eq_false (Nat.not_lt.2 c32)
     try have c32b3 : (9223372036854775807 < (a2).toNat + a4.size) = False := eq_false (Nat.not_lt.2 (by have h_ := c32; simp only [ByteArray.size_append, ByteArray.size_extract] at h_; have := of_decide_eq_true (p := (a2) ≤ (a0.size : Int)) (by assumption); omega))
     obtain ⟨ji33, hji33⟩ : ∃ j_ : Int, (wrap64 (a2 + a3)) = j_ := ⟨_, rfl⟩
     replace H : (if 0 ≤ (ji33) then (if (ji33) ≤ (a0.size : Int) then (if ((a0.extract 0 (a2 : Int).toNat) ++ a4).size + (a0.extract ((ji33) : Int).toNat a0.size).size ≤ 9223372036854775807 then ((minuetref9_Tokens.f k2 (((a0.extract 0 (a2 : Int).toNat) ++ a4) ++ (a0.extract ((ji33) : Int).toNat a0.size))).bind fun bt107 => (if bt107.2 = 0 then (minuetref9_Again.l1 k2 t101 bt107.1 0 0 (wrap64 ((a4.size : Int) - a3))) else (some (([] : List (S34)), 0, 0, 1000)))) else (none)) else (none)) else (none)) = some (r1, r2, r3, r4) := by first | (rw [hji33] at H; exact H) | (simp only [hji33] at H ⊢; exact H)
     have hji33w : (IntKind.i64.wrap (a2 + a3)) = ji33 := (i64_w _).trans hji33
     by_cases c34 : 0 ≤ (ji33)
     rotate_left
     ·rw [if_neg c34] at H
      exact absurd H (by simp)
     rw [if_pos c34] at H
     have c34b0 := eq_true c34
     have c34b1 : decide (0 ≤ (ji33)) = true := decide_eq_true c34
     clear c34
     by_cases c35 : (ji33) ≤ (a0.size : Int)
     rotate_left
     ·rw [if_neg c35] at H
      exact absurd H (by simp)
     rw [if_pos c35] at H
     have c35b0 := eq_true c35
     have c35b1 : decide ((ji33) ≤ (a0.size : Int)) = true := decide_eq_true c35
     clear c35
     by_cases c36 : ((a0.extract 0 (a2 : Int).toNat) ++ a4).size + (a0.extract ((ji33) : Int).toNat a0.size).size ≤ 9223372036854775807
     rotate_left
     ·rw [if_neg c36] at H
      exact absurd H (by simp)
     rw [if_pos c36] at H
     have c36b0 := eq_true c36
     have c36b1 : decide (((a0.extract 0 (a2 : Int).toNat) ++ a4).size + (a0.extract ((ji33) : Int).toNat a0.size).size ≤ 9223372036854775807) = true := decide_eq_true c36
     try have c36b2 : (9223372036854775807 < ((a0.extract 0 (a2 : Int).toNat) ++ a4).size + (a0.extract ((ji33) : Int).toNat a0.size).size) = False := eq_false (Nat.not_lt.2 c36)
     try have c36b3 : (9223372036854775807 < a2.toNat + a4.size + (a0.size - ji33.toNat)) = False := eq_false (Nat.not_lt.2 (by have h_ := c36; simp only [ByteArray.size_append, ByteArray.size_extract] at h_; have := of_decide_eq_true (p := (a2) ≤ (a0.size : Int)) (by assumption); omega))
     replace H := Option.bind_eq_some_iff.mp H
     obtain ⟨⟨t107, t108⟩, A370, H⟩ := H
     replace H : (if t108 = 0 then (minuetref9_Again.l1 k2 t101 t107 0 0 (wrap64 ((a4.size : Int) - a3))) else (some (([] : List (S34)), 0, 0, 1000))) = some (r1, r2, r3, r4) := H
     have A37 := Aside0.mk A370
     clear A370
     by_cases c38 : t108 = 0
     rotate_left
     ·rw [if_neg c38] at H
      have c38b0 : (t108 == 0) = false := beq_eq_false_iff_ne.mpr c38
      have c38b1 : (t108 != 0) = true := bne_iff_ne.mpr c38
      simp only [Option.some.injEq, Prod.mk.injEq] at H
      obtain ⟨rfl, rfl, rfl, rfl⟩ := H
      try go_wp2
      have n0_ := Aside0.mk (Kd.R_drew HO_14.out)
      have n1_ := Aside0.mk (below_drew1 HB.out)
      clear HO_14
      clear HB
      have HO_14 := n0_
      have HB := n1_
      clear n0_ n1_
      refine start_ (n := 17) (S := fun w' => True) (ds := []) #[false, false, false, false, false, false, false, false, false, false, false, false, false, false, false, false, false] (by kernel_rfl) rfl rfl trivial (fun hHeld => ?_); refine with_tabW minuetref9_Again.tab9 minuetref9_Again.bits9 (fun HT_ HW_ => ?_)
      generalize wr.drew = w132 at HO_14 HB hHeld ⊢
      refine pure_ (i := 0) (N := some 81) (v := ?_) (a' := ?_) #[true, false, false, false, false, false, false, false, false, false, false, false, false, false, false, false, false] rfl rfl (any_of HT_.out (by kernel_rfl)) (fun _ _ _ h => h) (Or.inl ⟨by rfl, ?_⟩) ?_ ?_
      rotate_left
      ·intro w'
       go_simp
       with_reducible rfl
      rotate_left
      ·simp only [Act.put, z1_, z2_, z3_, i64_w, i32_w]
       rfl
      refine pure_ (i := 1) (N := some 82) (v := ?_) (a' := ?_) #[true, true, false, false, false, false, false, false, false, false, false, false, false, false, false, false, false] rfl rfl (any_of HT_.out (by kernel_rfl)) (fun _ _ _ h => h) (Or.inl ⟨by rfl, ?_⟩) ?_ ?_
      rotate_left
      ·intro w'
       go_simp
       with_reducible rfl
      rotate_left
      ·simp only [Act.put, z1_, z2_, z3_, i64_w, i32_w]
       rfl
      refine pure_ (i := 2) (N := some 83) (v := ?_) (a' := ?_) #[true, true, true, false, false, false, false, false, false, false, false, false, false, false, false, false, false] rfl rfl (any_of HT_.out (by kernel_rfl)) (fun _ _ _ h => h) (Or.inl ⟨by rfl, ?_⟩) ?_ ?_
      rotate_left
      ·intro w'
       go_simp
       with_reducible rfl
      rotate_left
      ·simp only [Act.put, z1_, z2_, z3_, i64_w, i32_w]
       rfl
      refine pure_ (i := 3) (N := some 84) (v := ?_) (a' := ?_) #[true, true, true, true, false, false, false, false, false, false, false, false, false, false, false, false, false] rfl rfl (any_of HT_.out (by kernel_rfl)) (fun _ _ _ h => h) (Or.inl ⟨by rfl, ?_⟩) ?_ ?_
      rotate_left
      ·intro w'
       go_simp
       with_reducible rfl
      rotate_left
      ·simp only [Act.put, z1_, z2_, z3_, i64_w, i32_w]
       rfl
      refine pure_ (i := 4) (N := some 85) (v := ?_) (a' := ?_) #[true, true, true, true, true, false, false, false, false, false, false, false, false, false, false, false, false] rfl rfl (any_of HT_.out (by kernel_rfl)) (fun _ _ _ h => h) (Or.inl ⟨by rfl, ?_⟩) ?_ ?_
      rotate_left
      ·intro w'
       go_simp
       with_reducible rfl
      rotate_left
      ·simp only [Act.put, z1_, z2_, z3_, i64_w, i32_w]
       rfl
      refine pure_ (i := 5) (N := some 86) (v := ?_) (a' := ?_) #[true, true, true, true, true, true, false, false, false, false, false, false, false, false, false, false, false] rfl rfl (any_of HT_.out (by kernel_rfl)) (fun _ _ _ h => h) (Or.inl ⟨by rfl, ?_⟩) ?_ ?_
      rotate_left
      ·intro w'
       go_simp
       with_reducible rfl
      rotate_left
      ·simp only [Act.put, z1_, z2_, z3_, i64_w, i32_w]
       rfl
      refine pure_ (i := 6) (N := some 87) (v := ?_) (a' := ?_) #[true, true, true, true, true, true, true, false, false, false, false, false, false, false, false, false, false] rfl rfl (any_of HT_.out (by kernel_rfl)) (fun _ _ _ h => h) (Or.inl ⟨by rfl, ?_⟩) ?_ ?_
      rotate_left
      ·intro w'
       go_simp
       with_reducible rfl
      rotate_left
      ·simp only [Act.put, z1_, z2_, z3_, i64_w, i32_w]
       rfl
      refine pure_ (i := 7) (N := some 88) (v := ?_) (a' := ?_) #[true, true, true, true, true, true, true, true, false, false, false, false, false, false, false, false, false] rfl rfl (any_of HT_.out (by kernel_rfl)) (fun _ _ _ h => h) (Or.inl ⟨by rfl, ?_⟩) ?_ ?_
      rotate_left
      ·intro w'
       go_simp
       with_reducible rfl
      rotate_left
      ·simp only [Act.put, z1_, z2_, z3_, i64_w, i32_w]
       rfl
      refine pure_ (i := 8) (N := some 89) (v := ?_) (a' := ?_) #[true, true, true, true, true, true, true, true, true, false, false, false, false, false, false, false, false] rfl rfl (any_of HT_.out (by kernel_rfl)) (fun _ _ _ h => h) (Or.inl ⟨by rfl, ?_⟩) ?_ ?_
      rotate_left
      ·intro w'
       go_simp
       with_reducible rfl
      rotate_left
      ·simp only [Act.put, z1_, z2_, z3_, i64_w, i32_w]
       rfl
      refine pure_ (i := 9) (N := some 90) (v := ?_) (a' := ?_) #[true, true, true, true, true, true, true, true, true, true, false, false, false, false, false, false, false] rfl rfl (any_of HT_.out (by kernel_rfl)) (fun _ _ _ h => h) (Or.inl ⟨by rfl, ?_⟩) ?_ ?_
      rotate_left
      ·intro w'
       go_simp
       with_reducible rfl
      rotate_left
      ·simp only [Act.put, z1_, z2_, z3_, i64_w, i32_w]
       rfl
      refine pure_ (i := 10) (N := some 91) (v := ?_) (a' := ?_) #[true, true, true, true, true, true, true, true, true, true, true, false, false, false, false, false, false] rfl rfl (any_of HT_.out (by kernel_rfl)) (fun _ _ _ h => h) (Or.inl ⟨by rfl, ?_⟩) ?_ ?_
      rotate_left
      ·intro w'
       go_simp
       with_reducible rfl
      rotate_left
      ·simp only [Act.put, z1_, z2_, z3_, i64_w, i32_w]
       rfl
      refine one_ (i := 11) (N := some 92) #[true, true, true, true, true, true, true, true, true, true, true, true, false, false, false, false, false] rfl rfl (one_of HT_.out (by kernel_rfl)) (by decide) (fun K hK => ?_)
      refine goes_ Try.func13 (by kernel_rfl) rfl #[.string (((a0.extract 0 (a2 : Int).toNat) ++ a4) ++ (a0.extract ((ji33) : Int).toNat a0.size))] (by rfl) rfl rfl (by (try simp only [List.map_toArray, List.map_cons, List.map_nil]); first | done | (simp only [hji33]; rfl) | rfl | (simp only [List.length_drop, List.length_take]; rfl)) ?_
      with_reducible refine (minuetref9_Tokens.calls k2 (((a0.extract 0 (a2 : Int).toNat) ++ a4) ++ (a0.extract ((ji33) : Int).toNat a0.size)) t107 t108 _ A37.out).mono ?_
      rintro e w133 ⟨v109, rfl, ho0, hb⟩
      refine ⟨_, rfl, ?_⟩
      have n0_ := Aside0.mk (Kd.R_elder' (by (with_reducible repeat (first | apply Kd.R_alloc | apply Kd.R_drewN | apply Kd.R_drew)); exact HO_14.out) (Kd.R_base ho0) hb)
      have n1_ := Aside0.mk (Kd.R_lower (Kd.R_new' ho0 (Kd.R_lt (by (with_reducible repeat (first | apply Kd.R_alloc | apply Kd.R_drewN | apply Kd.R_drew)); exact HO_14.out))) (below_size (by repeat (first | (with_reducible first | exact HB.out | apply below_alloc | apply pw_below_drewN | apply below_drew1) | exact HB.out))))
      have n2_ := Aside0.mk (below_step (by repeat (first | (with_reducible first | exact HB.out | apply below_alloc | apply pw_below_drewN | apply below_drew1) | exact HB.out)) hb)
      clear HO_14
      clear HB
      have HO_14 := n0_
      have HO110 := n1_
      have HB := n2_
      clear n0_ n1_ n2_
      (try clear hb)
      (try clear hb2)
      (try clear hk)
      (try clear hi)
      (try clear ho0)
      refine hK.out _ _ trivial (fun hHeld => ?_)
      clear hK K
      refine norm_ (a' := ?_) ?_ ?_
      rotate_left
      ·show Act.put _ (some 92) _ = _
       simp only [Act.put, z1_, z2_, z3_, i64_w, i32_w]
       rfl
      refine pure_ (i := 12) (N := some 80) (v := ?_) (a' := ?_) #[true, true, true, true, true, true, true, true, true, true, true, true, true, false, false, false, false] rfl rfl (any_of HT_.out (by kernel_rfl)) (fun _ _ _ h => h) (Or.inl ⟨by rfl, ?_⟩) ?_ ?_
      rotate_left
      ·intro w'
       go_simp
       with_reducible rfl
      rotate_left
      ·simp only [Act.put, z1_, z2_, z3_, i64_w, i32_w]
       rfl
      refine pure_ (i := 13) (N := some 93) (v := ?_) (a' := ?_) #[true, true, true, true, true, true, true, true, true, true, true, true, true, true, false, false, false] rfl rfl (any_of HT_.out (by kernel_rfl)) (fun _ _ _ h => h) (Or.inl ⟨by rfl, ?_⟩) ?_ ?_
      rotate_left
      ·intro w'
       go_simp
       with_reducible rfl
      rotate_left
      ·simp only [Act.put, z1_, z2_, z3_, i64_w, i32_w]
       rfl
      refine pure_ (i := 14) (N := some 94) (v := ?_) (a' := ?_) #[true, true, true, true, true, true, true, true, true, true, true, true, true, true, true, false, false] rfl rfl (any_of HT_.out (by kernel_rfl)) (fun _ _ _ h => h) (Or.inl ⟨by rfl, ?_⟩) ?_ ?_
      rotate_left
      ·intro w'
       go_simp
       with_reducible rfl
      rotate_left
      ·simp only [Act.put, z1_, z2_, z3_, i64_w, i32_w]
       rfl
      refine pure_ (i := 15) (N := some 17) (v := ?_) (a' := ?_) #[true, true, true, true, true, true, true, true, true, true, true, true, true, true, true, true, false] rfl rfl (any_of HT_.out (by kernel_rfl)) (fun _ _ _ h => h) (Or.inl ⟨by rfl, ?_⟩) ?_ ?_
      rotate_left
      ·intro w'
       go_simp
       with_reducible rfl
      rotate_left
      ·simp only [Act.put, z1_, z2_, z3_, i64_w, i32_w]
       rfl
      refine pure_ (i := 16) (N := some 18) (v := ?_) (a' := ?_) #[true, true, true, true, true, true, true, true, true, true, true, true, true, true, true, true, true] rfl rfl (any_of HT_.out (by kernel_rfl)) (fun _ _ _ h => h) (Or.inl ⟨by rfl, ?_⟩) ?_ ?_
      rotate_left
      ·intro w'
       go_simp
       with_reducible rfl
      rotate_left
      ·simp only [Act.put, z1_, z2_, z3_, i64_w, i32_w]
       rfl
      refine done_ (done_of HT_.out (by kernel_rfl)) ?_
      try go_wp2
      refine bodyPost_ret (results_list (rs := [.tmp 10, .tmp 11, .tmp 12, .tmp 13]) rfl (by simp) (.tmp (.tmp (.tmp (.tmp .nil))))) rfl ?_
      exact ⟨_, by first | rfl | (simp [errW_none, errW_some] <;> rfl) | (simp only [← hji33]; first | rfl | (simp [errW_none, errW_some] <;> rfl)) | (simp [*, errW_none, errW_some] <;> rfl), by first | exact Kd.R_nil _ _ _ _ _ | exact Kd.N_nil _ _ _ _ _ | exact Kd.V_nil _ _ _ _ _ | exact Kd.Q_nil _ _ _ _ _ | exact Kd.S_nil _ _ _ _ _, by repeat (first | (with_reducible first | exact HB.out | apply below_alloc | apply pw_below_drewN | apply below_drew1) | exact HB.out)⟩
     rw [if_pos c38] at H
     have c38b0 : (t108 == 0) = true := beq_iff_eq.mpr c38
     have c38b1 : (t108 != 0) = false := bne_eq_false_iff_eq.mpr c38
     clear c38
     have HC39 := Aside0.mk H
     clear H
     try go_wp2
     have n0_ := Aside0.mk (Kd.R_drew HO_14.out)
     have n1_ := Aside0.mk (below_drew1 HB.out)
     clear HO_14
     clear HB
     have HO_14 := n0_
     have HB := n1_
     clear n0_ n1_
     refine start_ (n := 17) (S := fun w' => True) (ds := []) #[false, false, false, false, false, false, false, false, false, false, false, false, false, false, false, false, false] (by kernel_rfl) rfl rfl trivial (fun hHeld => ?_); refine with_tabW minuetref9_Again.tab9 minuetref9_Again.bits9 (fun HT_ HW_ => ?_)
     generalize wr.drew = w40 at HO_14 HB hHeld ⊢
     refine pure_ (i := 0) (N := some 81) (v := ?_) (a' := ?_) #[true, false, false, false, false, false, false, false, false, false, false, false, false, false, false, false, false] rfl rfl (any_of HT_.out (by kernel_rfl)) (fun _ _ _ h => h) (Or.inl ⟨by rfl, ?_⟩) ?_ ?_
     rotate_left
     ·intro w'
      go_simp
      with_reducible rfl
     rotate_left
     ·simp only [Act.put, z1_, z2_, z3_, i64_w, i32_w]
      rfl
     refine pure_ (i := 1) (N := some 82) (v := ?_) (a' := ?_) #[true, true, false, false, false, false, false, false, false, false, false, false, false, false, false, false, false] rfl rfl (any_of HT_.out (by kernel_rfl)) (fun _ _ _ h => h) (Or.inl ⟨by rfl, ?_⟩) ?_ ?_
     rotate_left
     ·intro w'
      go_simp
      with_reducible rfl
     rotate_left
     ·simp only [Act.put, z1_, z2_, z3_, i64_w, i32_w]
      rfl
     refine pure_ (i := 2) (N := some 83) (v := ?_) (a' := ?_) #[true, true, true, false, false, false, false, false, false, false, false, false, false, false, false, false, false] rfl rfl (any_of HT_.out (by kernel_rfl)) (fun _ _ _ h => h) (Or.inl ⟨by rfl, ?_⟩) ?_ ?_
     rotate_left
     ·intro w'
      go_simp
      with_reducible rfl
     rotate_left
     ·simp only [Act.put, z1_, z2_, z3_, i64_w, i32_w]
      rfl
     refine pure_ (i := 3) (N := some 84) (v := ?_) (a' := ?_) #[true, true, true, true, false, false, false, false, false, false, false, false, false, false, false, false, false] rfl rfl (any_of HT_.out (by kernel_rfl)) (fun _ _ _ h => h) (Or.inl ⟨by rfl, ?_⟩) ?_ ?_
     rotate_left
     ·intro w'
      go_simp
      with_reducible rfl
     rotate_left
     ·simp only [Act.put, z1_, z2_, z3_, i64_w, i32_w]
      rfl
     refine pure_ (i := 4) (N := some 85) (v := ?_) (a' := ?_) #[true, true, true, true, true, false, false, false, false, false, false, false, false, false, false, false, false] rfl rfl (any_of HT_.out (by kernel_rfl)) (fun _ _ _ h => h) (Or.inl ⟨by rfl, ?_⟩) ?_ ?_
     rotate_left
     ·intro w'
      go_simp
      with_reducible rfl
     rotate_left
     ·simp only [Act.put, z1_, z2_, z3_, i64_w, i32_w]
      rfl
     refine pure_ (i := 5) (N := some 86) (v := ?_) (a' := ?_) #[true, true, true, true, true, true, false, false, false, false, false, false, false, false, false, false, false] rfl rfl (any_of HT_.out (by kernel_rfl)) (fun _ _ _ h => h) (Or.inl ⟨by rfl, ?_⟩) ?_ ?_
     rotate_left
     ·intro w'
      go_simp
      with_reducible rfl
     rotate_left
     ·simp only [Act.put, z1_, z2_, z3_, i64_w, i32_w]
      rfl
     refine pure_ (i := 6) (N := some 87) (v := ?_) (a' := ?_) #[true, true, true, true, true, true, true, false, false, false, false, false, false, false, false, false, false] rfl rfl (any_of HT_.out (by kernel_rfl)) (fun _ _ _ h => h) (Or.inl ⟨by rfl, ?_⟩) ?_ ?_
     rotate_left
     ·intro w'
      go_simp
      with_reducible rfl
     rotate_left
     ·simp only [Act.put, z1_, z2_, z3_, i64_w, i32_w]
      rfl
     refine pure_ (i := 7) (N := some 88) (v := ?_) (a' := ?_) #[true, true, true, true, true, true, true, true, false, false, false, false, false, false, false, false, false] rfl rfl (any_of HT_.out (by kernel_rfl)) (fun _ _ _ h => h) (Or.inl ⟨by rfl, ?_⟩) ?_ ?_
     rotate_left
     ·intro w'
      go_simp
      with_reducible rfl
     rotate_left
     ·simp only [Act.put, z1_, z2_, z3_, i64_w, i32_w]
      rfl
     refine pure_ (i := 8) (N := some 89) (v := ?_) (a' := ?_) #[true, true, true, true, true, true, true, true, true, false, false, false, false, false, false, false, false] rfl rfl (any_of HT_.out (by kernel_rfl)) (fun _ _ _ h => h) (Or.inl ⟨by rfl, ?_⟩) ?_ ?_
     rotate_left
     ·intro w'
      go_simp
      with_reducible rfl
     rotate_left
     ·simp only [Act.put, z1_, z2_, z3_, i64_w, i32_w]
      rfl
     refine pure_ (i := 9) (N := some 90) (v := ?_) (a' := ?_) #[true, true, true, true, true, true, true, true, true, true, false, false, false, false, false, false, false] rfl rfl (any_of HT_.out (by kernel_rfl)) (fun _ _ _ h => h) (Or.inl ⟨by rfl, ?_⟩) ?_ ?_
     rotate_left
     ·intro w'
      go_simp
      with_reducible rfl
     rotate_left
     ·simp only [Act.put, z1_, z2_, z3_, i64_w, i32_w]
      rfl
     refine pure_ (i := 10) (N := some 91) (v := ?_) (a' := ?_) #[true, true, true, true, true, true, true, true, true, true, true, false, false, false, false, false, false] rfl rfl (any_of HT_.out (by kernel_rfl)) (fun _ _ _ h => h) (Or.inl ⟨by rfl, ?_⟩) ?_ ?_
     rotate_left
     ·intro w'
      go_simp
      with_reducible rfl
     rotate_left
     ·simp only [Act.put, z1_, z2_, z3_, i64_w, i32_w]
      rfl
     refine one_ (i := 11) (N := some 92) #[true, true, true, true, true, true, true, true, true, true, true, true, false, false, false, false, false] rfl rfl (one_of HT_.out (by kernel_rfl)) (by decide) (fun K hK => ?_)
     refine goes_ Try.func13 (by kernel_rfl) rfl #[.string (((a0.extract 0 (a2 : Int).toNat) ++ a4) ++ (a0.extract ((ji33) : Int).toNat a0.size))] (by rfl) rfl rfl (by (try simp only [List.map_toArray, List.map_cons, List.map_nil]); first | done | (simp only [hji33]; rfl) | rfl | (simp only [List.length_drop, List.length_take]; rfl)) ?_
     with_reducible refine (minuetref9_Tokens.calls k2 (((a0.extract 0 (a2 : Int).toNat) ++ a4) ++ (a0.extract ((ji33) : Int).toNat a0.size)) t107 t108 _ A37.out).mono ?_
     rintro e w41 ⟨v109, rfl, ho0, hb⟩
     refine ⟨_, rfl, ?_⟩
     have n0_ := Aside0.mk (Kd.R_elder' (by (with_reducible repeat (first | apply Kd.R_alloc | apply Kd.R_drewN | apply Kd.R_drew)); exact HO_14.out) (Kd.R_base ho0) hb)
     have n1_ := Aside0.mk (Kd.R_lower (Kd.R_new' ho0 (Kd.R_lt (by (with_reducible repeat (first | apply Kd.R_alloc | apply Kd.R_drewN | apply Kd.R_drew)); exact HO_14.out))) (below_size (by repeat (first | (with_reducible first | exact HB.out | apply below_alloc | apply pw_below_drewN | apply below_drew1) | exact HB.out))))
     have n2_ := Aside0.mk (below_step (by repeat (first | (with_reducible first | exact HB.out | apply below_alloc | apply pw_below_drewN | apply below_drew1) | exact HB.out)) hb)
     clear HO_14
     clear HB
     have HO_14 := n0_
     have HO110 := n1_
     have HB := n2_
     clear n0_ n1_ n2_
     (try clear hb)
     (try clear hb2)
     (try clear hk)
     (try clear hi)
     (try clear ho0)
     refine hK.out _ _ trivial (fun hHeld => ?_)
     clear hK K
     refine norm_ (a' := ?_) ?_ ?_
     rotate_left
     ·show Act.put _ (some 92) _ = _
      simp only [Act.put, z1_, z2_, z3_, i64_w, i32_w]
      rfl
     refine pure_ (i := 12) (N := some 80) (v := ?_) (a' := ?_) #[true, true, true, true, true, true, true, true, true, true, true, true, true, false, false, false, false] rfl rfl (any_of HT_.out (by kernel_rfl)) (fun _ _ _ h => h) (Or.inl ⟨by rfl, ?_⟩) ?_ ?_
     rotate_left
     ·intro w'
      go_simp
      with_reducible rfl
     rotate_left
     ·simp only [Act.put, z1_, z2_, z3_, i64_w, i32_w]
      rfl
     refine pure_ (i := 13) (N := some 93) (v := ?_) (a' := ?_) #[true, true, true, true, true, true, true, true, true, true, true, true, true, true, false, false, false] rfl rfl (any_of HT_.out (by kernel_rfl)) (fun _ _ _ h => h) (Or.inl ⟨by rfl, ?_⟩) ?_ ?_
     rotate_left
     ·intro w'
      go_simp
      with_reducible rfl
     rotate_left
     ·simp only [Act.put, z1_, z2_, z3_, i64_w, i32_w]
      rfl
     refine pure_ (i := 14) (N := some 94) (v := ?_) (a' := ?_) #[true, true, true, true, true, true, true, true, true, true, true, true, true, true, true, false, false] rfl rfl (any_of HT_.out (by kernel_rfl)) (fun _ _ _ h => h) (Or.inl ⟨by rfl, ?_⟩) ?_ ?_
     rotate_left
     ·intro w'
      go_simp
      with_reducible rfl
     rotate_left
     ·simp only [Act.put, z1_, z2_, z3_, i64_w, i32_w]
      rfl
     refine pure_ (i := 15) (N := some 17) (v := ?_) (a' := ?_) #[true, true, true, true, true, true, true, true, true, true, true, true, true, true, true, true, false] rfl rfl (any_of HT_.out (by kernel_rfl)) (fun _ _ _ h => h) (Or.inl ⟨by rfl, ?_⟩) ?_ ?_
     rotate_left
     ·intro w'
      go_simp
      with_reducible rfl
     rotate_left
     ·simp only [Act.put, z1_, z2_, z3_, i64_w, i32_w]
      rfl
     refine pure_ (i := 16) (N := some 18) (v := ?_) (a' := ?_) #[true, true, true, true, true, true, true, true, true, true, true, true, true, true, true, true, true] rfl rfl (any_of HT_.out (by kernel_rfl)) (fun _ _ _ h => h) (Or.inl ⟨by rfl, ?_⟩) ?_ ?_
     rotate_left
     ·intro w'
      go_simp
      with_reducible rfl
     rotate_left
     ·simp only [Act.put, z1_, z2_, z3_, i64_w, i32_w]
      rfl
     refine done_ (done_of HT_.out (by kernel_rfl)) ?_
     go_upto_block 2 with (fail)
     go_cut [19] (fun v19 wc => ∃ (kq : Nat) (x19_38 : Int), v19 = .int .i64 x19_38 ∧ Aside0 (minuetref9_Again.j3 kq t101 t107 x19_38 0 (wrap64 ((a4.size : Int) - a3)) = some (r1, r2, r3, r4)) ∧ Aside0 (kq ≤ k2) ∧ Aside0 (Kd.R k34 34 wc w.heap.size (fun k_ => some k_ ≠ (v109 : Value).ownBlock) v103 t101) ∧ Aside0 (Kd.R k34 34 wc w.heap.size (fun k_ => some k_ ≠ (v103 : Value).ownBlock) v109 t107) ∧ Aside0 (Below w.heap.size w wc))
     case first =>
      have H := HC39.out
      clear HC39
      have H' := Aside0.mk H
      clear H
      go_wp2
      go_loopg [19] k2 (fun kq v19 w' => ∃ (x19_3 : Int), v19 = .int .i64 x19_3 ∧ Aside0 (minuetref9_Again.l1 kq t101 t107 x19_3 0 (wrap64 ((a4.size : Int) - a3)) = some (r1, r2, r3, r4)) ∧ Aside0 (kq ≤ k2) ∧ Aside0 (Kd.R k34 34 w' w.heap.size (fun k_ => some k_ ≠ (v109 : Value).ownBlock) v103 t101) ∧ Aside0 (Kd.R k34 34 w' w.heap.size (fun k_ => some k_ ≠ (v103 : Value).ownBlock) v109 t107) ∧ Aside0 (Below w.heap.size w w'))
      case atStart => exact ⟨(0), (by first | rfl | (simp; done) | (simp [*]; done)), H', ⟨Nat.le_refl _⟩, ⟨by (with_reducible repeat (first | apply Kd.R_alloc | apply Kd.R_drewN | apply Kd.R_drew)); exact Kd.R_mono HO_14.out (fun _ hk => hk.2)⟩, ⟨by (with_reducible repeat (first | apply Kd.R_alloc | apply Kd.R_drewN | apply Kd.R_drew)); exact Kd.R_mono HO110.out (fun _ hk => hk.2)⟩, ⟨by repeat (first | (with_reducible first | exact HB.out | apply below_alloc | apply pw_below_drewN | apply below_drew1) | exact HB.out)⟩⟩
      case round =>
       clear H'
       try clear c1
       try clear p1
       try clear q1
       try clear hx1
       try clear c2
       try clear p2
       try clear c3
       try clear p6
       try clear c9
       try clear c9b0
       try clear c9b1
       try clear c10
       try clear c10b0
       try clear c10b1
       try clear c10b2
       try clear p10
       try clear q10
       try clear hx10
       try clear c11
       try clear c11b0
       try clear c13
       try clear c13b0
       try clear c15
       try clear c15b0
       try clear c17
       try clear c17b0
       try clear c20
       try clear c21
       try clear c22
       try clear c22b0
       try clear c23
       try clear c23b0
       try clear c24
       try clear c24b0
       try clear c25
       try clear c25b0
       try clear c30
       try clear c30b0
       try clear c30b1
       try clear c31
       try clear c31b0
       try clear c31b1
       try clear c32
       try clear c32b0
       try clear c32b1
       try clear c32b2
       try clear c34
       try clear c34b0
       try clear c34b1
       try clear c35
       try clear c35b0
       try clear c35b1
       try clear c36
       try clear c36b0
       try clear c36b1
       try clear c36b2
       try clear c38
       try clear c38b0
       try clear c38b1
       try clear hx105_0
       try clear hx105_1
       try clear hx105_2
       try clear hx106_0
       try clear hx106_1
       try clear hx106_2
       try clear p105
       try clear p106
       try clear p2
       try clear p6
       try clear q105
       try clear q106
       obtain ⟨x19_3, rfl, HA, HK3, HO_14, HO_17, HB⟩ := hrel
       cases gk with
       | zero => exact absurd HA.out (by simp [minuetref9_Again.l1])
       | succ k3 =>
        have H := HA.out
        clear HA
        simp only [minuetref9_Again.l1] at H
        by_cases c42 : x19_3 < (t101.length : Int)
        rotate_left
        ·rw [if_neg c42] at H
         have c42b0 : decide (x19_3 < (t101.length : Int)) = false := decide_eq_false c42
         clear c42
         (first | rw [c42b0] | (simp only [i64_w, i32_w]; rw [c42b0]) | skip)
         have H' := Aside0.mk H
         clear H
         try go_wp2
         have n0_ := Aside0.mk (Kd.R_drew HO_14.out)
         have n1_ := Aside0.mk (Kd.R_drew HO_17.out)
         have n2_ := Aside0.mk (below_drew1 HB.out)
         clear HO_14
         clear HO_17
         clear HB
         have HO_14 := n0_
         have HO_17 := n1_
         have HB := n2_
         clear n0_ n1_ n2_
         obtain ⟨Ao56, co56, eo56⟩ := Kd.R_slice HO_14.out
         (first | subst eo56 | (injection eo56 with f1_ f2_ f3_; have f4_ := f1_.symm; have f5_ := f3_.symm; clear f1_ f2_ f3_; subst f4_; subst f5_))
         refine start_ (n := 21) (S := fun w' => True) (ds := []) #[false, false, false, false, false, false, false, false, false, false, false, false, false, false, false, false, false, false, false, false, false] (by kernel_rfl) rfl rfl trivial (fun hHeld => ?_); refine with_tabW minuetref9_Again.tab13 minuetref9_Again.bits13 (fun HT_ HW_ => ?_)
         generalize wr.drew = w55 at HO_14 HO_17 HB hHeld ⊢
         refine pure_ (i := 0) (N := some 101) (v := ?_) (a' := ?_) #[true, false, false, false, false, false, false, false, false, false, false, false, false, false, false, false, false, false, false, false, false] rfl rfl (any_of HT_.out (by kernel_rfl)) (fun _ _ _ h => h) (Or.inl ⟨by rfl, ?_⟩) ?_ ?_
         rotate_left
         ·intro w'
          go_simp
          with_reducible rfl
         rotate_left
         ·simp only [Act.put, z1_, z2_, z3_, i64_w, i32_w]
          rfl
         refine pure_ (i := 1) (N := some 102) (v := ?_) (a' := ?_) #[true, true, false, false, false, false, false, false, false, false, false, false, false, false, false, false, false, false, false, false, false] rfl rfl (any_of HT_.out (by kernel_rfl)) (fun _ _ _ h => h) (Or.inl ⟨by rfl, ?_⟩) ?_ ?_
         rotate_left
         ·intro w'
          go_simp
          with_reducible rfl
         rotate_left
         ·simp only [Act.put, z1_, z2_, z3_, i64_w, i32_w]
          rfl
         refine pure_ (i := 2) (N := some 103) (v := ?_) (a' := ?_) #[true, true, true, false, false, false, false, false, false, false, false, false, false, false, false, false, false, false, false, false, false] rfl rfl (any_of HT_.out (by kernel_rfl)) (fun _ _ _ h => h) (Or.inl ⟨by rfl, ?_⟩) ?_ ?_
         rotate_left
         ·intro w'
          go_simp
          with_reducible rfl
         rotate_left
         ·simp only [Act.put, z1_, z2_, z3_, i64_w, i32_w]
          rfl
         refine pure_ (i := 3) (N := some 104) (v := ?_) (a' := ?_) #[true, true, true, true, false, false, false, false, false, false, false, false, false, false, false, false, false, false, false, false, false] rfl rfl (any_of HT_.out (by kernel_rfl)) (fun _ _ _ h => h) (Or.inl ⟨by rfl, ?_⟩) ?_ ?_
         rotate_left
         ·intro w'
          go_simp
          with_reducible rfl
         rotate_left
         ·simp only [Act.put, z1_, z2_, z3_, i64_w, i32_w]
          rfl
         refine pure_ (i := 4) (N := some 105) (v := ?_) (a' := ?_) #[true, true, true, true, true, false, false, false, false, false, false, false, false, false, false, false, false, false, false, false, false] rfl rfl (any_of HT_.out (by kernel_rfl)) (fun _ _ _ h => h) (Or.inl ⟨by rfl, ?_⟩) ?_ ?_
         rotate_left
         ·intro w'
          go_simp
          with_reducible rfl
         rotate_left
         ·simp only [Act.put, z1_, z2_, z3_, i64_w, i32_w]
          rfl
         refine pure_ (i := 5) (N := some 106) (v := undef) (a' := ?_) #[true, true, true, true, true, true, false, false, false, false, false, false, false, false, false, false, false, false, false, false, false] rfl rfl (any_of HT_.out (by kernel_rfl)) (fun _ _ _ h => h) (Or.inr ⟨by rfl, rfl⟩) ?_ ?_
         rotate_left
         ·simp only [Act.put, z1_, z2_, z3_, i64_w, i32_w]
          rfl
         refine pure_ (i := 6) (N := some 107) (v := undef) (a' := ?_) #[true, true, true, true, true, true, true, false, false, false, false, false, false, false, false, false, false, false, false, false, false] rfl rfl (any_of HT_.out (by kernel_rfl)) (fun _ _ _ h => h) (Or.inr ⟨by rfl, rfl⟩) ?_ ?_
         rotate_left
         ·simp only [Act.put, z1_, z2_, z3_, i64_w, i32_w]
          rfl
         refine pure_ (i := 7) (N := some 108) (v := undef) (a' := ?_) #[true, true, true, true, true, true, true, true, false, false, false, false, false, false, false, false, false, false, false, false, false] rfl rfl (any_of HT_.out (by kernel_rfl)) (fun _ _ _ h => h) (Or.inr ⟨by rfl, rfl⟩) ?_ ?_
         rotate_left
         ·simp only [Act.put, z1_, z2_, z3_, i64_w, i32_w]
          rfl
         refine pure_ (i := 8) (N := some 109) (v := undef) (a' := ?_) #[true, true, true, true, true, true, true, true, true, false, false, false, false, false, false, false, false, false, false, false, false] rfl rfl (any_of HT_.out (by kernel_rfl)) (fun _ _ _ h => h) (Or.inr ⟨by rfl, rfl⟩) ?_ ?_
         rotate_left
         ·simp only [Act.put, z1_, z2_, z3_, i64_w, i32_w]
          rfl
         refine pure_ (i := 9) (N := some 110) (v := ?_) (a' := ?_) #[true, true, true, true, true, true, true, true, true, true, false, false, false, false, false, false, false, false, false, false, false] rfl rfl (any_of HT_.out (by kernel_rfl)) (fun _ _ _ h => h) (Or.inl ⟨by rfl, ?_⟩) ?_ ?_
         rotate_left
         ·intro w'
          go_simp
          with_reducible rfl
         rotate_left
         ·simp only [Act.put, z1_, z2_, z3_, i64_w, i32_w]
          rfl
         refine pure_ (i := 10) (N := some 111) (v := ?_) (a' := ?_) #[true, true, true, true, true, true, true, true, true, true, true, false, false, false, false, false, false, false, false, false, false] rfl rfl (any_of HT_.out (by kernel_rfl)) (fun _ _ _ h => h) (Or.inl ⟨by rfl, ?_⟩) ?_ ?_
         rotate_left
         ·intro w'
          go_simp
          with_reducible rfl
         rotate_left
         ·simp only [Act.put, z1_, z2_, z3_, i64_w, i32_w]
          rfl
         refine pure_ (i := 11) (N := some 112) (v := undef) (a' := ?_) #[true, true, true, true, true, true, true, true, true, true, true, true, false, false, false, false, false, false, false, false, false] rfl rfl (any_of HT_.out (by kernel_rfl)) (fun _ _ _ h => h) (Or.inr ⟨by rfl, rfl⟩) ?_ ?_
         rotate_left
         ·simp only [Act.put, z1_, z2_, z3_, i64_w, i32_w]
          rfl
         refine pure_ (i := 12) (N := some 113) (v := undef) (a' := ?_) #[true, true, true, true, true, true, true, true, true, true, true, true, true, false, false, false, false, false, false, false, false] rfl rfl (any_of HT_.out (by kernel_rfl)) (fun _ _ _ h => h) (Or.inr ⟨by rfl, rfl⟩) ?_ ?_
         rotate_left
         ·simp only [Act.put, z1_, z2_, z3_, i64_w, i32_w]
          rfl
         refine pure_ (i := 13) (N := some 114) (v := undef) (a' := ?_) #[true, true, true, true, true, true, true, true, true, true, true, true, true, true, false, false, false, false, false, false, false] rfl rfl (any_of HT_.out (by kernel_rfl)) (fun _ _ _ h => h) (Or.inr ⟨by rfl, rfl⟩) ?_ ?_
         rotate_left
         ·simp only [Act.put, z1_, z2_, z3_, i64_w, i32_w]
          rfl
         refine pure_ (i := 14) (N := some 115) (v := undef) (a' := ?_) #[true, true, true, true, true, true, true, true, true, true, true, true, true, true, true, false, false, false, false, false, false] rfl rfl (any_of HT_.out (by kernel_rfl)) (fun _ _ _ h => h) (Or.inr ⟨by rfl, rfl⟩) ?_ ?_
         rotate_left
         ·simp only [Act.put, z1_, z2_, z3_, i64_w, i32_w]
          rfl
         refine pure_ (i := 15) (N := some 116) (v := undef) (a' := ?_) #[true, true, true, true, true, true, true, true, true, true, true, true, true, true, true, true, false, false, false, false, false] rfl rfl (any_of HT_.out (by kernel_rfl)) (fun _ _ _ h => h) (Or.inr ⟨by rfl, rfl⟩) ?_ ?_
         rotate_left
         ·simp only [Act.put, z1_, z2_, z3_, i64_w, i32_w]
          rfl
         refine pure_ (i := 16) (N := some 117) (v := undef) (a' := ?_) #[true, true, true, true, true, true, true, true, true, true, true, true, true, true, true, true, true, false, false, false, false] rfl rfl (any_of HT_.out (by kernel_rfl)) (fun _ _ _ h => h) (Or.inr ⟨by rfl, rfl⟩) ?_ ?_
         rotate_left
         ·simp only [Act.put, z1_, z2_, z3_, i64_w, i32_w]
          rfl
         refine pure_ (i := 17) (N := some 118) (v := undef) (a' := ?_) #[true, true, true, true, true, true, true, true, true, true, true, true, true, true, true, true, true, true, false, false, false] rfl rfl (any_of HT_.out (by kernel_rfl)) (fun _ _ _ h => h) (Or.inr ⟨by rfl, rfl⟩) ?_ ?_
         rotate_left
         ·simp only [Act.put, z1_, z2_, z3_, i64_w, i32_w]
          rfl
         refine pure_ (i := 18) (N := some 119) (v := undef) (a' := ?_) #[true, true, true, true, true, true, true, true, true, true, true, true, true, true, true, true, true, true, true, false, false] rfl rfl (any_of HT_.out (by kernel_rfl)) (fun _ _ _ h => h) (Or.inr ⟨by rfl, rfl⟩) ?_ ?_
         rotate_left
         ·simp only [Act.put, z1_, z2_, z3_, i64_w, i32_w]
          rfl
         refine pure_ (i := 19) (N := some 120) (v := undef) (a' := ?_) #[true, true, true, true, true, true, true, true, true, true, true, true, true, true, true, true, true, true, true, true, false] rfl rfl (any_of HT_.out (by kernel_rfl)) (fun _ _ _ h => h) (Or.inr ⟨by rfl, rfl⟩) ?_ ?_
         rotate_left
         ·simp only [Act.put, z1_, z2_, z3_, i64_w, i32_w]
          rfl
         refine pure_ (i := 20) (N := some 121) (v := ?_) (a' := ?_) #[true, true, true, true, true, true, true, true, true, true, true, true, true, true, true, true, true, true, true, true, true] rfl rfl (any_of HT_.out (by kernel_rfl)) (fun _ _ _ h => h) (Or.inl ⟨by rfl, ?_⟩) ?_ ?_
         rotate_left
         ·intro w'
          go_simp
          with_reducible rfl
         rotate_left
         ·simp only [Act.put, z1_, z2_, z3_, i64_w, i32_w]
          rfl
         refine done_ (done_of HT_.out (by kernel_rfl)) ?_
         try go_wp2
         go_meet
         case rel => exact ⟨_, (x19_3), (by first | rfl | (simp; done) | (simp [*]; done)), H', ⟨by have := HJ6.out; have := HK2.out; have := HK3.out; first | omega | exact Nat.le_refl _⟩, ⟨by (with_reducible repeat (first | apply Kd.R_alloc | apply Kd.R_drewN | apply Kd.R_drew)); exact HO_14.out⟩, ⟨by (with_reducible repeat (first | apply Kd.R_alloc | apply Kd.R_drewN | apply Kd.R_drew)); exact HO_17.out⟩, ⟨by repeat (first | (with_reducible first | exact HB.out | apply below_alloc | apply pw_below_drewN | apply below_drew1) | exact HB.out)⟩⟩
        rw [if_pos c42] at H
        have c42b0 : decide (x19_3 < (t101.length : Int)) = true := decide_eq_true c42
        clear c42
        (first | rw [c42b0] | (simp only [i64_w, i32_w]; rw [c42b0]) | skip)
        by_cases c43 : x19_3 < (t107.length : Int)
        rotate_left
        ·rw [if_neg c43] at H
         have c43b0 : decide (x19_3 < (t107.length : Int)) = false := decide_eq_false c43
         clear c43
         have H' := Aside0.mk H
         clear H
         try go_wp2
         have n0_ := Aside0.mk (Kd.R_drew HO_14.out)
         have n1_ := Aside0.mk (Kd.R_drew HO_17.out)
         have n2_ := Aside0.mk (below_drew1 HB.out)
         clear HO_14
         clear HO_17
         clear HB
         have HO_14 := n0_
         have HO_17 := n1_
         have HB := n2_
         clear n0_ n1_ n2_
         obtain ⟨Ao53, co53, eo53⟩ := Kd.R_slice HO_14.out
         (first | subst eo53 | (injection eo53 with f1_ f2_ f3_; have f4_ := f1_.symm; have f5_ := f3_.symm; clear f1_ f2_ f3_; subst f4_; subst f5_))
         obtain ⟨Ao54, co54, eo54⟩ := Kd.R_slice HO_17.out
         (first | subst eo54 | (injection eo54 with f1_ f2_ f3_; have f4_ := f1_.symm; have f5_ := f3_.symm; clear f1_ f2_ f3_; subst f4_; subst f5_))
         refine start_ (n := 21) (S := fun w' => True) (ds := []) #[false, false, false, false, false, false, false, false, false, false, false, false, false, false, false, false, false, false, false, false, false] (by kernel_rfl) rfl rfl trivial (fun hHeld => ?_); refine with_tabW minuetref9_Again.tab13 minuetref9_Again.bits13 (fun HT_ HW_ => ?_)
         generalize wr.drew = w52 at HO_14 HO_17 HB hHeld ⊢
         refine pure_ (i := 0) (N := some 101) (v := ?_) (a' := ?_) #[true, false, false, false, false, false, false, false, false, false, false, false, false, false, false, false, false, false, false, false, false] rfl rfl (any_of HT_.out (by kernel_rfl)) (fun _ _ _ h => h) (Or.inl ⟨by rfl, ?_⟩) ?_ ?_
         rotate_left
         ·intro w'
          go_simp
          with_reducible rfl
         rotate_left
         ·simp only [Act.put, z1_, z2_, z3_, i64_w, i32_w]
          rfl
         refine pure_ (i := 1) (N := some 102) (v := ?_) (a' := ?_) #[true, true, false, false, false, false, false, false, false, false, false, false, false, false, false, false, false, false, false, false, false] rfl rfl (any_of HT_.out (by kernel_rfl)) (fun _ _ _ h => h) (Or.inl ⟨by rfl, ?_⟩) ?_ ?_
         rotate_left
         ·intro w'
          go_simp
          with_reducible rfl
         rotate_left
         ·simp only [Act.put, z1_, z2_, z3_, i64_w, i32_w]
          rfl
         refine pure_ (i := 2) (N := some 103) (v := ?_) (a' := ?_) #[true, true, true, false, false, false, false, false, false, false, false, false, false, false, false, false, false, false, false, false, false] rfl rfl (any_of HT_.out (by kernel_rfl)) (fun _ _ _ h => h) (Or.inl ⟨by rfl, ?_⟩) ?_ ?_
         rotate_left
         ·intro w'
          go_simp
          with_reducible rfl
         rotate_left
         ·simp only [Act.put, z1_, z2_, z3_, i64_w, i32_w]
          rfl
         refine pure_ (i := 3) (N := some 104) (v := ?_) (a' := ?_) #[true, true, true, true, false, false, false, false, false, false, false, false, false, false, false, false, false, false, false, false, false] rfl rfl (any_of HT_.out (by kernel_rfl)) (fun _ _ _ h => h) (Or.inl ⟨by rfl, ?_⟩) ?_ ?_
         rotate_left
         ·intro w'
          go_simp
          with_reducible rfl
         rotate_left
         ·simp only [Act.put, z1_, z2_, z3_, i64_w, i32_w]
          rfl
         refine pure_ (i := 4) (N := some 105) (v := ?_) (a' := ?_) #[true, true, true, true, true, false, false, false, false, false, false, false, false, false, false, false, false, false, false, false, false] rfl rfl (any_of HT_.out (by kernel_rfl)) (fun _ _ _ h => h) (Or.inl ⟨by rfl, ?_⟩) ?_ ?_
         rotate_left
         ·intro w'
          go_simp
          with_reducible rfl
         rotate_left
         ·simp only [Act.put, z1_, z2_, z3_, i64_w, i32_w]
          rfl
         refine pure_ (i := 5) (N := some 106) (v := ?_) (a' := ?_) #[true, true, true, true, true, true, false, false, false, false, false, false, false, false, false, false, false, false, false, false, false] rfl rfl (any_of HT_.out (by kernel_rfl)) (fun _ _ _ h => h) (Or.inl ⟨by rfl, ?_⟩) ?_ ?_
         rotate_left
         ·intro w'
          go_simp
          with_reducible rfl
         rotate_left
         ·simp only [Act.put, z1_, z2_, z3_, i64_w, i32_w]
          rfl
         refine pure_ (i := 6) (N := some 107) (v := ?_) (a' := ?_) #[true, true, true, true, true, true, true, false, false, false, false, false, false, false, false, false, false, false, false, false, false] rfl rfl (any_of HT_.out (by kernel_rfl)) (fun _ _ _ h => h) (Or.inl ⟨by rfl, ?_⟩) ?_ ?_
         rotate_left
         ·intro w'
          go_simp
          with_reducible rfl
         rotate_left
         ·simp only [Act.put, z1_, z2_, z3_, i64_w, i32_w]
          rfl
         refine pure_ (i := 7) (N := some 108) (v := ?_) (a' := ?_) #[true, true, true, true, true, true, true, true, false, false, false, false, false, false, false, false, false, false, false, false, false] rfl rfl (any_of HT_.out (by kernel_rfl)) (fun _ _ _ h => h) (Or.inl ⟨by rfl, ?_⟩) ?_ ?_
         rotate_left
         ·intro w'
          go_simp
          with_reducible rfl
         rotate_left
         ·simp only [Act.put, z1_, z2_, z3_, i64_w, i32_w]
          rfl
         refine pure_ (i := 8) (N := some 109) (v := ?_) (a' := ?_) #[true, true, true, true, true, true, true, true, true, false, false, false, false, false, false, false, false, false, false, false, false] rfl rfl (any_of HT_.out (by kernel_rfl)) (fun _ _ _ h => h) (Or.inl ⟨by rfl, ?_⟩) ?_ ?_
         rotate_left
         ·intro w'
          go_simp
          with_reducible rfl
         rotate_left
         ·simp only [Act.put, z1_, z2_, z3_, i64_w, i32_w]
          rfl
         refine pure_ (i := 9) (N := some 110) (v := ?_) (a' := ?_) #[true, true, true, true, true, true, true, true, true, true, false, false, false, false, false, false, false, false, false, false, false] rfl rfl (any_of HT_.out (by kernel_rfl)) (fun _ _ _ h => h) (Or.inl ⟨by rfl, ?_⟩) ?_ ?_
         rotate_left
         ·intro w'
          go_simp
          with_reducible rfl
         rotate_left
         ·simp only [Act.put, z1_, z2_, z3_, i64_w, i32_w]
          rfl
         refine pure_ (i := 10) (N := some 111) (v := ?_) (a' := ?_) #[true, true, true, true, true, true, true, true, true, true, true, false, false, false, false, false, false, false, false, false, false] rfl rfl (any_of HT_.out (by kernel_rfl)) (fun _ _ _ h => h) (Or.inl ⟨by rfl, ?_⟩) ?_ ?_
         rotate_left
         ·intro w'
          go_simp
          with_reducible rfl
         rotate_left
         ·simp only [Act.put, z1_, z2_, z3_, i64_w, i32_w]
          rfl
         refine pure_ (i := 11) (N := some 112) (v := undef) (a' := ?_) #[true, true, true, true, true, true, true, true, true, true, true, true, false, false, false, false, false, false, false, false, false] rfl rfl (any_of HT_.out (by kernel_rfl)) (fun _ _ _ h => h) (Or.inr ⟨by rfl, rfl⟩) ?_ ?_
         rotate_left
         ·simp only [Act.put, z1_, z2_, z3_, i64_w, i32_w]
          rfl
         refine pure_ (i := 12) (N := some 113) (v := undef) (a' := ?_) #[true, true, true, true, true, true, true, true, true, true, true, true, true, false, false, false, false, false, false, false, false] rfl rfl (any_of HT_.out (by kernel_rfl)) (fun _ _ _ h => h) (Or.inr ⟨by rfl, rfl⟩) ?_ ?_
         rotate_left
         ·simp only [Act.put, z1_, z2_, z3_, i64_w, i32_w]
          rfl
         refine pure_ (i := 13) (N := some 114) (v := undef) (a' := ?_) #[true, true, true, true, true, true, true, true, true, true, true, true, true, true, false, false, false, false, false, false, false] rfl rfl (any_of HT_.out (by kernel_rfl)) (fun _ _ _ h => h) (Or.inr ⟨by rfl, rfl⟩) ?_ ?_
         rotate_left
         ·simp only [Act.put, z1_, z2_, z3_, i64_w, i32_w]
          rfl
         refine pure_ (i := 14) (N := some 115) (v := undef) (a' := ?_) #[true, true, true, true, true, true, true, true, true, true, true, true, true, true, true, false, false, false, false, false, false] rfl rfl (any_of HT_.out (by kernel_rfl)) (fun _ _ _ h => h) (Or.inr ⟨by rfl, rfl⟩) ?_ ?_
         rotate_left
         ·simp only [Act.put, z1_, z2_, z3_, i64_w, i32_w]
          rfl
         refine pure_ (i := 15) (N := some 116) (v := undef) (a' := ?_) #[true, true, true, true, true, true, true, true, true, true, true, true, true, true, true, true, false, false, false, false, false] rfl rfl (any_of HT_.out (by kernel_rfl)) (fun _ _ _ h => h) (Or.inr ⟨by rfl, rfl⟩) ?_ ?_
         rotate_left
         ·simp only [Act.put, z1_, z2_, z3_, i64_w, i32_w]
          rfl
         refine pure_ (i := 16) (N := some 117) (v := undef) (a' := ?_) #[true, true, true, true, true, true, true, true, true, true, true, true, true, true, true, true, true, false, false, false, false] rfl rfl (any_of HT_.out (by kernel_rfl)) (fun _ _ _ h => h) (Or.inr ⟨by rfl, rfl⟩) ?_ ?_
         rotate_left
         ·simp only [Act.put, z1_, z2_, z3_, i64_w, i32_w]
          rfl
         refine pure_ (i := 17) (N := some 118) (v := undef) (a' := ?_) #[true, true, true, true, true, true, true, true, true, true, true, true, true, true, true, true, true, true, false, false, false] rfl rfl (any_of HT_.out (by kernel_rfl)) (fun _ _ _ h => h) (Or.inr ⟨by rfl, rfl⟩) ?_ ?_
         rotate_left
         ·simp only [Act.put, z1_, z2_, z3_, i64_w, i32_w]
          rfl
         refine pure_ (i := 18) (N := some 119) (v := undef) (a' := ?_) #[true, true, true, true, true, true, true, true, true, true, true, true, true, true, true, true, true, true, true, false, false] rfl rfl (any_of HT_.out (by kernel_rfl)) (fun _ _ _ h => h) (Or.inr ⟨by rfl, rfl⟩) ?_ ?_
         rotate_left
         ·simp only [Act.put, z1_, z2_, z3_, i64_w, i32_w]
          rfl
         refine pure_ (i := 19) (N := some 120) (v := undef) (a' := ?_) #[true, true, true, true, true, true, true, true, true, true, true, true, true, true, true, true, true, true, true, true, false] rfl rfl (any_of HT_.out (by kernel_rfl)) (fun _ _ _ h => h) (Or.inr ⟨by rfl, rfl⟩) ?_ ?_
         rotate_left
         ·simp only [Act.put, z1_, z2_, z3_, i64_w, i32_w]
          rfl
         refine pure_ (i := 20) (N := some 121) (v := ?_) (a' := ?_) #[true, true, true, true, true, true, true, true, true, true, true, true, true, true, true, true, true, true, true, true, true] rfl rfl (any_of HT_.out (by kernel_rfl)) (fun _ _ _ h => h) (Or.inl ⟨by rfl, ?_⟩) ?_ ?_
         rotate_left
         ·intro w'
          go_simp
          with_reducible rfl
         rotate_left
         ·simp only [Act.put, z1_, z2_, z3_, i64_w, i32_w]
          rfl
         refine done_ (done_of HT_.out (by kernel_rfl)) ?_
         try go_wp2
         go_meet
         case rel => exact ⟨_, (x19_3), (by first | rfl | (simp; done) | (simp [*]; done)), H', ⟨by have := HJ6.out; have := HK2.out; have := HK3.out; first | omega | exact Nat.le_refl _⟩, ⟨by (with_reducible repeat (first | apply Kd.R_alloc | apply Kd.R_drewN | apply Kd.R_drew)); exact HO_14.out⟩, ⟨by (with_reducible repeat (first | apply Kd.R_alloc | apply Kd.R_drewN | apply Kd.R_drew)); exact HO_17.out⟩, ⟨by repeat (first | (with_reducible first | exact HB.out | apply below_alloc | apply pw_below_drewN | apply below_drew1) | exact HB.out)⟩⟩
        rw [if_pos c43] at H
        have c43b0 : decide (x19_3 < (t107.length : Int)) = true := decide_eq_true c43
        clear c43
        by_cases c44 : 0 ≤ x19_3
        rotate_left
        ·rw [if_neg c44] at H
         exact absurd H (by simp)
        rw [if_pos c44] at H
        have c44b0 : decide (0 ≤ x19_3) = true := decide_eq_true c44
        clear c44
        by_cases c45 : (((rd_T34 t101 x19_3).f0) == ((rd_T34 t107 x19_3).f0) && (((rd_T34 t101 x19_3).f1) == ((rd_T34 t107 x19_3).f1) && (((rd_T34 t101 x19_3).f2) == ((rd_T34 t107 x19_3).f2)))) = true
        ·rw [if_pos c45] at H
         have c45b0 : (((rd_T34 t101 x19_3).f0) == ((rd_T34 t107 x19_3).f0) && (((rd_T34 t101 x19_3).f1) == ((rd_T34 t107 x19_3).f1) && (((rd_T34 t101 x19_3).f2) == ((rd_T34 t107 x19_3).f2)))) = true := c45
         (try (have c45b1 : decide (((rd_T34 t101 x19_3).f0) = ((rd_T34 t107 x19_3).f0) && (((rd_T34 t101 x19_3).f1) == ((rd_T34 t107 x19_3).f1) && (((rd_T34 t101 x19_3).f2) == ((rd_T34 t107 x19_3).f2)))) = true := by simpa using c45))
         (try (have c45b2 : (((rd_T34 t101 x19_3).f0) == ((rd_T34 t107 x19_3).f0) && (((rd_T34 t101 x19_3).f1) == ((rd_T34 t107 x19_3).f1) && (((rd_T34 t101 x19_3).f2) == ((rd_T34 t107 x19_3).f2)))) = true := by simpa using c45))
         clear c45
         have H' := Aside0.mk H
         clear H
         try go_wp2
         have n0_ := Aside0.mk (Kd.R_drew HO_14.out)
         have n1_ := Aside0.mk (Kd.R_drew HO_17.out)
         have n2_ := Aside0.mk (below_drew1 HB.out)
         clear HO_14
         clear HO_17
         clear HB
         have HO_14 := n0_
         have HO_17 := n1_
         have HB := n2_
         clear n0_ n1_ n2_
         obtain ⟨Ao47, co47, eo47⟩ := Kd.R_slice HO_14.out
         (first | subst eo47 | (injection eo47 with f1_ f2_ f3_; have f4_ := f1_.symm; have f5_ := f3_.symm; clear f1_ f2_ f3_; subst f4_; subst f5_))
         obtain ⟨Ao48, co48, eo48⟩ := Kd.R_slice HO_17.out
         (first | subst eo48 | (injection eo48 with f1_ f2_ f3_; have f4_ := f1_.symm; have f5_ := f3_.symm; clear f1_ f2_ f3_; subst f4_; subst f5_))
         have p111 : 0 ≤ (x19_3 : Int) := of_decide_eq_true (by first | (with_reducible assumption) | assumption)
         have q111 : x19_3 < (t101.length : Int) := of_decide_eq_true (by first | (with_reducible assumption) | assumption)
         obtain ⟨ad111, e111, hx111_0, hx111_1, hx111_2⟩ := at_T34 (Kd.R_reads' HO_14.out).2.2 x19_3 p111 q111
         cases e111
         replace p111 := eq_true p111
         replace q111 := eq_true q111
         have p112 : 0 ≤ (x19_3 : Int) := of_decide_eq_true (by first | (with_reducible assumption) | assumption)
         have q112 : x19_3 < (t107.length : Int) := of_decide_eq_true (by first | (with_reducible assumption) | assumption)
         obtain ⟨ad112, e112, hx112_0, hx112_1, hx112_2⟩ := at_T34 (Kd.R_reads' HO_17.out).2.2 x19_3 p112 q112
         cases e112
         replace p112 := eq_true p112
         replace q112 := eq_true q112
         refine start_ (n := 21) (S := fun w' => w'.cell? (ad111.add ((x19_3).toNat * 3)) = some (.int .i64 ((rd_T34 t101 x19_3).f0)) ∧ w'.cell? ⟨(ad111.add ((x19_3).toNat * 3)).block, (ad111.add ((x19_3).toNat * 3)).off + 1, none⟩ = some (.int .i64 ((rd_T34 t101 x19_3).f1)) ∧ w'.cell? ⟨(ad111.add ((x19_3).toNat * 3)).block, (ad111.add ((x19_3).toNat * 3)).off + 2, none⟩ = some (.int .i64 ((rd_T34 t101 x19_3).f2)) ∧ w'.cell? (ad112.add ((x19_3).toNat * 3)) = some (.int .i64 ((rd_T34 t107 x19_3).f0)) ∧ w'.cell? ⟨(ad112.add ((x19_3).toNat * 3)).block, (ad112.add ((x19_3).toNat * 3)).off + 1, none⟩ = some (.int .i64 ((rd_T34 t107 x19_3).f1)) ∧ w'.cell? ⟨(ad112.add ((x19_3).toNat * 3)).block, (ad112.add ((x19_3).toNat * 3)).off + 2, none⟩ = some (.int .i64 ((rd_T34 t107 x19_3).f2))) (ds := []) #[false, false, false, false, false, false, false, false, false, false, false, false, false, false, false, false, false, false, false, false, false] (by kernel_rfl) rfl rfl ⟨hx111_0, hx111_1, hx111_2, hx112_0, hx112_1, hx112_2⟩ (fun hHeld => ?_); refine with_tabW minuetref9_Again.tab13 minuetref9_Again.bits13 (fun HT_ HW_ => ?_)
         generalize wr.drew = w46 at HO_14 HO_17 HB hx111_0 hx111_1 hx111_2 hx112_0 hx112_1 hx112_2 hHeld ⊢
         refine pure_ (i := 0) (N := some 101) (v := ?_) (a' := ?_) #[true, false, false, false, false, false, false, false, false, false, false, false, false, false, false, false, false, false, false, false, false] rfl rfl (any_of HT_.out (by kernel_rfl)) (fun _ _ _ h => h) (Or.inl ⟨by rfl, ?_⟩) ?_ ?_
         rotate_left
         ·intro w'
          go_simp
          with_reducible rfl
         rotate_left
         ·simp only [Act.put, z1_, z2_, z3_, i64_w, i32_w]
          rfl
         refine pure_ (i := 1) (N := some 102) (v := ?_) (a' := ?_) #[true, true, false, false, false, false, false, false, false, false, false, false, false, false, false, false, false, false, false, false, false] rfl rfl (any_of HT_.out (by kernel_rfl)) (fun _ _ _ h => h) (Or.inl ⟨by rfl, ?_⟩) ?_ ?_
         rotate_left
         ·intro w'
          go_simp
          with_reducible rfl
         rotate_left
         ·simp only [Act.put, z1_, z2_, z3_, i64_w, i32_w]
          rfl
         refine pure_ (i := 2) (N := some 103) (v := ?_) (a' := ?_) #[true, true, true, false, false, false, false, false, false, false, false, false, false, false, false, false, false, false, false, false, false] rfl rfl (any_of HT_.out (by kernel_rfl)) (fun _ _ _ h => h) (Or.inl ⟨by rfl, ?_⟩) ?_ ?_
         rotate_left
         ·intro w'
          go_simp
          with_reducible rfl
         rotate_left
         ·simp only [Act.put, z1_, z2_, z3_, i64_w, i32_w]
          rfl
         refine pure_ (i := 3) (N := some 104) (v := ?_) (a' := ?_) #[true, true, true, true, false, false, false, false, false, false, false, false, false, false, false, false, false, false, false, false, false] rfl rfl (any_of HT_.out (by kernel_rfl)) (fun _ _ _ h => h) (Or.inl ⟨by rfl, ?_⟩) ?_ ?_
         rotate_left
         ·intro w'
          go_simp
          with_reducible rfl
         rotate_left
         ·simp only [Act.put, z1_, z2_, z3_, i64_w, i32_w]
          rfl
         refine pure_ (i := 4) (N := some 105) (v := ?_) (a' := ?_) #[true, true, true, true, true, false, false, false, false, false, false, false, false, false, false, false, false, false, false, false, false] rfl rfl (any_of HT_.out (by kernel_rfl)) (fun _ _ _ h => h) (Or.inl ⟨by rfl, ?_⟩) ?_ ?_
         rotate_left
         ·intro w'
          go_simp
          with_reducible rfl
         rotate_left
         ·simp only [Act.put, z1_, z2_, z3_, i64_w, i32_w]
          rfl
         refine pure_ (i := 5) (N := some 106) (v := ?_) (a' := ?_) #[true, true, true, true, true, true, false, false, false, false, false, false, false, false, false, false, false, false, false, false, false] rfl rfl (any_of HT_.out (by kernel_rfl)) (fun _ _ _ h => h) (Or.inl ⟨by rfl, ?_⟩) ?_ ?_
         rotate_left
         ·intro w'
          go_simp
          with_reducible rfl
         rotate_left
         ·simp only [Act.put, z1_, z2_, z3_, i64_w, i32_w]
          rfl
         refine pure_ (i := 6) (N := some 107) (v := ?_) (a' := ?_) #[true, true, true, true, true, true, true, false, false, false, false, false, false, false, false, false, false, false, false, false, false] rfl rfl (any_of HT_.out (by kernel_rfl)) (fun _ _ _ h => h) (Or.inl ⟨by rfl, ?_⟩) ?_ ?_
         rotate_left
         ·intro w'
          go_simp
          with_reducible rfl
         rotate_left
         ·simp only [Act.put, z1_, z2_, z3_, i64_w, i32_w]
          rfl
         refine pure_ (i := 7) (N := some 108) (v := ?_) (a' := ?_) #[true, true, true, true, true, true, true, true, false, false, false, false, false, false, false, false, false, false, false, false, false] rfl rfl (any_of HT_.out (by kernel_rfl)) (fun _ _ _ h => h) (Or.inl ⟨by rfl, ?_⟩) ?_ ?_
         rotate_left
         ·intro w'
          go_simp
          with_reducible rfl
         rotate_left
         ·simp only [Act.put, z1_, z2_, z3_, i64_w, i32_w]
          rfl
         refine pure_ (i := 8) (N := some 109) (v := ?_) (a' := ?_) #[true, true, true, true, true, true, true, true, true, false, false, false, false, false, false, false, false, false, false, false, false] rfl rfl (any_of HT_.out (by kernel_rfl)) (fun _ _ _ h => h) (Or.inl ⟨by rfl, ?_⟩) ?_ ?_
         rotate_left
         ·intro w'
          go_simp
          with_reducible rfl
         rotate_left
         ·simp only [Act.put, z1_, z2_, z3_, i64_w, i32_w]
          rfl
         refine pure_ (i := 9) (N := some 110) (v := ?_) (a' := ?_) #[true, true, true, true, true, true, true, true, true, true, false, false, false, false, false, false, false, false, false, false, false] rfl rfl (any_of HT_.out (by kernel_rfl)) (fun _ _ _ h => h) (Or.inl ⟨by rfl, ?_⟩) ?_ ?_
         rotate_left
         ·intro w'
          go_simp
          with_reducible rfl
         rotate_left
         ·simp only [Act.put, z1_, z2_, z3_, i64_w, i32_w]
          rfl
         refine pure_ (i := 10) (N := some 111) (v := ?_) (a' := ?_) #[true, true, true, true, true, true, true, true, true, true, true, false, false, false, false, false, false, false, false, false, false] rfl rfl (any_of HT_.out (by kernel_rfl)) (fun _ _ _ h => h) (Or.inl ⟨by rfl, ?_⟩) ?_ ?_
         rotate_left
         ·intro w'
          go_simp
          with_reducible rfl
         rotate_left
         ·simp only [Act.put, z1_, z2_, z3_, i64_w, i32_w]
          rfl
         refine pure_ (i := 11) (N := some 112) (v := ?_) (a' := ?_) #[true, true, true, true, true, true, true, true, true, true, true, true, false, false, false, false, false, false, false, false, false] rfl rfl (any_of HT_.out (by kernel_rfl)) (fun _ _ _ h => h) (Or.inl ⟨by rfl, ?_⟩) ?_ ?_
         rotate_left
         ·intro w'
          go_simp
          with_reducible rfl
         rotate_left
         ·simp only [Act.put, z1_, z2_, z3_, i64_w, i32_w]
          rfl
         refine pure_ (i := 12) (N := some 113) (v := ?_) (a' := ?_) #[true, true, true, true, true, true, true, true, true, true, true, true, true, false, false, false, false, false, false, false, false] rfl rfl (any_of HT_.out (by kernel_rfl)) (fun _ _ _ h => h) (Or.inl ⟨by rfl, ?_⟩) ?_ ?_
         rotate_left
         ·intro w'
          go_simp
          with_reducible rfl
         rotate_left
         ·simp only [Act.put, z1_, z2_, z3_, i64_w, i32_w]
          rfl
         refine pure_ (i := 13) (N := some 114) (v := ?_) (a' := ?_) #[true, true, true, true, true, true, true, true, true, true, true, true, true, true, false, false, false, false, false, false, false] rfl rfl (any_of HT_.out (by kernel_rfl)) (fun _ _ _ h => h) (Or.inl ⟨by rfl, ?_⟩) ?_ ?_
         rotate_left
         ·intro w'
          go_simp
          with_reducible rfl
         rotate_left
         ·simp only [Act.put, z1_, z2_, z3_, i64_w, i32_w]
          rfl
         refine pure_ (i := 15) (N := some 116) (v := ?_) (a' := ?_) #[true, true, true, true, true, true, true, true, true, true, true, true, true, true, false, true, false, false, false, false, false] rfl rfl (any_of HT_.out (by kernel_rfl)) (fun _ _ _ h => h) (Or.inl ⟨by rfl, ?_⟩) ?_ ?_
         rotate_left
         ·intro w'
          go_simp
          with_reducible rfl
         rotate_left
         ·simp only [Act.put, z1_, z2_, z3_, i64_w, i32_w]
          rfl
         refine pure_ (i := 16) (N := some 117) (v := ?_) (a' := ?_) #[true, true, true, true, true, true, true, true, true, true, true, true, true, true, false, true, true, false, false, false, false] rfl rfl (any_of HT_.out (by kernel_rfl)) (fun _ _ _ h => h) (Or.inl ⟨by rfl, ?_⟩) ?_ ?_
         rotate_left
         ·intro w'
          go_simp
          with_reducible rfl
         rotate_left
         ·simp only [Act.put, z1_, z2_, z3_, i64_w, i32_w]
          rfl
         refine pure_ (i := 17) (N := some 118) (v := ?_) (a' := ?_) #[true, true, true, true, true, true, true, true, true, true, true, true, true, true, false, true, true, true, false, false, false] rfl rfl (any_of HT_.out (by kernel_rfl)) (fun _ _ _ h => h) (Or.inl ⟨by rfl, ?_⟩) ?_ ?_
         rotate_left
         ·intro w'
          go_simp
          with_reducible rfl
         rotate_left
         ·simp only [Act.put, z1_, z2_, z3_, i64_w, i32_w]
          rfl
         refine take_ (i := 14) (N := some 115) (v := ?_) (a' := ?_) #[true, true, true, true, true, true, true, true, true, true, true, true, true, true, true, true, true, true, false, false, false] rfl rfl (take_ofW HT_.out HW_.out (by kernel_rfl)) (fun _ _ _ h => h) (Or.inl ⟨by rfl, ?_⟩) hHeld ?_ ?_
         rotate_left
         ·rintro w' ⟨s0, s1, s2, s3, s4, s5⟩
          go_simp
          with_reducible rfl
         rotate_left
         ·simp only [Act.put, z1_, z2_, z3_, i64_w, i32_w]
          rfl
         refine take_ (i := 18) (N := some 119) (v := ?_) (a' := ?_) #[true, true, true, true, true, true, true, true, true, true, true, true, true, true, true, true, true, true, true, false, false] rfl rfl (take_ofW HT_.out HW_.out (by kernel_rfl)) (fun _ _ _ h => h) (Or.inl ⟨by rfl, ?_⟩) hHeld ?_ ?_
         rotate_left
         ·rintro w' ⟨s0, s1, s2, s3, s4, s5⟩
          go_simp
          with_reducible rfl
         rotate_left
         ·simp only [Act.put, z1_, z2_, z3_, i64_w, i32_w]
          rfl
         refine pure_ (i := 19) (N := some 120) (v := ?_) (a' := ?_) #[true, true, true, true, true, true, true, true, true, true, true, true, true, true, true, true, true, true, true, true, false] rfl rfl (any_of HT_.out (by kernel_rfl)) (fun _ _ _ h => h) (Or.inl ⟨by rfl, ?_⟩) ?_ ?_
         rotate_left
         ·intro w'
          go_simp
          with_reducible rfl
         rotate_left
         ·simp only [Act.put, z1_, z2_, z3_, i64_w, i32_w]
          rfl
         refine pure_ (i := 20) (N := some 121) (v := ?_) (a' := ?_) #[true, true, true, true, true, true, true, true, true, true, true, true, true, true, true, true, true, true, true, true, true] rfl rfl (any_of HT_.out (by kernel_rfl)) (fun _ _ _ h => h) (Or.inl ⟨by rfl, ?_⟩) ?_ ?_
         rotate_left
         ·intro w'
          go_simp
          with_reducible rfl
         rotate_left
         ·simp only [Act.put, z1_, z2_, z3_, i64_w, i32_w]
          rfl
         refine done_ (done_of HT_.out (by kernel_rfl)) ?_
         try go_wp2
         go_roundg k3
         case measure => have := HJ6.out; have := HK2.out; have := HK3.out; omega
         case rel => exact ⟨(wrap64 (x19_3 + 1)), (by first | rfl | (simp; done) | (simp [*]; done)), H', ⟨by have := HJ6.out; have := HK2.out; have := HK3.out; omega⟩, ⟨by (with_reducible repeat (first | apply Kd.R_alloc | apply Kd.R_drewN | apply Kd.R_drew)); exact HO_14.out⟩, ⟨by (with_reducible repeat (first | apply Kd.R_alloc | apply Kd.R_drewN | apply Kd.R_drew)); exact HO_17.out⟩, ⟨by repeat (first | (with_reducible first | exact HB.out | apply below_alloc | apply pw_below_drewN | apply below_drew1) | exact HB.out)⟩⟩
        rw [if_neg c45] at H
        have c45b0 : (((rd_T34 t101 x19_3).f0) == ((rd_T34 t107 x19_3).f0) && (((rd_T34 t101 x19_3).f1) == ((rd_T34 t107 x19_3).f1) && (((rd_T34 t101 x19_3).f2) == ((rd_T34 t107 x19_3).f2)))) = false := by simpa using c45
        (try (have c45b1 : decide (((rd_T34 t101 x19_3).f0) = ((rd_T34 t107 x19_3).f0) && (((rd_T34 t101 x19_3).f1) == ((rd_T34 t107 x19_3).f1) && (((rd_T34 t101 x19_3).f2) == ((rd_T34 t107 x19_3).f2)))) = false := by simpa using c45))
        (try (have c45b2 : (((rd_T34 t101 x19_3).f0) == ((rd_T34 t107 x19_3).f0) && (((rd_T34 t101 x19_3).f1) == ((rd_T34 t107 x19_3).f1) && (((rd_T34 t101 x19_3).f2) == ((rd_T34 t107 x19_3).f2)))) = false := by simpa using c45))
        (try (have c45b3 : ¬ (((rd_T34 t101 x19_3).f0) = ((rd_T34 t107 x19_3).f0) && (((rd_T34 t101 x19_3).f1) == ((rd_T34 t107 x19_3).f1) && (((rd_T34 t101 x19_3).f2) == ((rd_T34 t107 x19_3).f2)))) := by simpa using c45))
        clear c45
        have H' := Aside0.mk H
        clear H
        try go_wp2
        have n0_ := Aside0.mk (Kd.R_drew HO_14.out)
        have n1_ := Aside0.mk (Kd.R_drew HO_17.out)
        have n2_ := Aside0.mk (below_drew1 HB.out)
        clear HO_14
        clear HO_17
        clear HB
        have HO_14 := n0_
        have HO_17 := n1_
        have HB := n2_
        clear n0_ n1_ n2_
        obtain ⟨Ao50, co50, eo50⟩ := Kd.R_slice HO_14.out
        (first | subst eo50 | (injection eo50 with f1_ f2_ f3_; have f4_ := f1_.symm; have f5_ := f3_.symm; clear f1_ f2_ f3_; subst f4_; subst f5_))
        obtain ⟨Ao51, co51, eo51⟩ := Kd.R_slice HO_17.out
        (first | subst eo51 | (injection eo51 with f1_ f2_ f3_; have f4_ := f1_.symm; have f5_ := f3_.symm; clear f1_ f2_ f3_; subst f4_; subst f5_))
        have p111 : 0 ≤ (x19_3 : Int) := of_decide_eq_true (by first | (with_reducible assumption) | assumption)
        have q111 : x19_3 < (t101.length : Int) := of_decide_eq_true (by first | (with_reducible assumption) | assumption)
        obtain ⟨ad111, e111, hx111_0, hx111_1, hx111_2⟩ := at_T34 (Kd.R_reads' HO_14.out).2.2 x19_3 p111 q111
        cases e111
        replace p111 := eq_true p111
        replace q111 := eq_true q111
        have p112 : 0 ≤ (x19_3 : Int) := of_decide_eq_true (by first | (with_reducible assumption) | assumption)
        have q112 : x19_3 < (t107.length : Int) := of_decide_eq_true (by first | (with_reducible assumption) | assumption)
        obtain ⟨ad112, e112, hx112_0, hx112_1, hx112_2⟩ := at_T34 (Kd.R_reads' HO_17.out).2.2 x19_3 p112 q112
        cases e112
        replace p112 := eq_true p112
        replace q112 := eq_true q112
        refine start_ (n := 21) (S := fun w' => w'.cell? (ad111.add ((x19_3).toNat * 3)) = some (.int .i64 ((rd_T34 t101 x19_3).f0)) ∧ w'.cell? ⟨(ad111.add ((x19_3).toNat * 3)).block, (ad111.add ((x19_3).toNat * 3)).off + 1, none⟩ = some (.int .i64 ((rd_T34 t101 x19_3).f1)) ∧ w'.cell? ⟨(ad111.add ((x19_3).toNat * 3)).block, (ad111.add ((x19_3).toNat * 3)).off + 2, none⟩ = some (.int .i64 ((rd_T34 t101 x19_3).f2)) ∧ w'.cell? (ad112.add ((x19_3).toNat * 3)) = some (.int .i64 ((rd_T34 t107 x19_3).f0)) ∧ w'.cell? ⟨(ad112.add ((x19_3).toNat * 3)).block, (ad112.add ((x19_3).toNat * 3)).off + 1, none⟩ = some (.int .i64 ((rd_T34 t107 x19_3).f1)) ∧ w'.cell? ⟨(ad112.add ((x19_3).toNat * 3)).block, (ad112.add ((x19_3).toNat * 3)).off + 2, none⟩ = some (.int .i64 ((rd_T34 t107 x19_3).f2))) (ds := []) #[false, false, false, false, false, false, false, false, false, false, false, false, false, false, false, false, false, false, false, false, false] (by kernel_rfl) rfl rfl ⟨hx111_0, hx111_1, hx111_2, hx112_0, hx112_1, hx112_2⟩ (fun hHeld => ?_); refine with_tabW minuetref9_Again.tab13 minuetref9_Again.bits13 (fun HT_ HW_ => ?_)
        generalize wr.drew = w49 at HO_14 HO_17 HB hx111_0 hx111_1 hx111_2 hx112_0 hx112_1 hx112_2 hHeld ⊢
        refine pure_ (i := 0) (N := some 101) (v := ?_) (a' := ?_) #[true, false, false, false, false, false, false, false, false, false, false, false, false, false, false, false, false, false, false, false, false] rfl rfl (any_of HT_.out (by kernel_rfl)) (fun _ _ _ h => h) (Or.inl ⟨by rfl, ?_⟩) ?_ ?_
        rotate_left
        ·intro w'
         go_simp
         with_reducible rfl
        rotate_left
        ·simp only [Act.put, z1_, z2_, z3_, i64_w, i32_w]
         rfl
        refine pure_ (i := 1) (N := some 102) (v := ?_) (a' := ?_) #[true, true, false, false, false, false, false, false, false, false, false, false, false, false, false, false, false, false, false, false, false] rfl rfl (any_of HT_.out (by kernel_rfl)) (fun _ _ _ h => h) (Or.inl ⟨by rfl, ?_⟩) ?_ ?_
        rotate_left
        ·intro w'
         go_simp
         with_reducible rfl
        rotate_left
        ·simp only [Act.put, z1_, z2_, z3_, i64_w, i32_w]
         rfl
        refine pure_ (i := 2) (N := some 103) (v := ?_) (a' := ?_) #[true, true, true, false, false, false, false, false, false, false, false, false, false, false, false, false, false, false, false, false, false] rfl rfl (any_of HT_.out (by kernel_rfl)) (fun _ _ _ h => h) (Or.inl ⟨by rfl, ?_⟩) ?_ ?_
        rotate_left
        ·intro w'
         go_simp
         with_reducible rfl
        rotate_left
        ·simp only [Act.put, z1_, z2_, z3_, i64_w, i32_w]
         rfl
        refine pure_ (i := 3) (N := some 104) (v := ?_) (a' := ?_) #[true, true, true, true, false, false, false, false, false, false, false, false, false, false, false, false, false, false, false, false, false] rfl rfl (any_of HT_.out (by kernel_rfl)) (fun _ _ _ h => h) (Or.inl ⟨by rfl, ?_⟩) ?_ ?_
        rotate_left
        ·intro w'
         go_simp
         with_reducible rfl
        rotate_left
        ·simp only [Act.put, z1_, z2_, z3_, i64_w, i32_w]
         rfl
        refine pure_ (i := 4) (N := some 105) (v := ?_) (a' := ?_) #[true, true, true, true, true, false, false, false, false, false, false, false, false, false, false, false, false, false, false, false, false] rfl rfl (any_of HT_.out (by kernel_rfl)) (fun _ _ _ h => h) (Or.inl ⟨by rfl, ?_⟩) ?_ ?_
        rotate_left
        ·intro w'
         go_simp
         with_reducible rfl
        rotate_left
        ·simp only [Act.put, z1_, z2_, z3_, i64_w, i32_w]
         rfl
        refine pure_ (i := 5) (N := some 106) (v := ?_) (a' := ?_) #[true, true, true, true, true, true, false, false, false, false, false, false, false, false, false, false, false, false, false, false, false] rfl rfl (any_of HT_.out (by kernel_rfl)) (fun _ _ _ h => h) (Or.inl ⟨by rfl, ?_⟩) ?_ ?_
        rotate_left
        ·intro w'
         go_simp
         with_reducible rfl
        rotate_left
        ·simp only [Act.put, z1_, z2_, z3_, i64_w, i32_w]
         rfl
        refine pure_ (i := 6) (N := some 107) (v := ?_) (a' := ?_) #[true, true, true, true, true, true, true, false, false, false, false, false, false, false, false, false, false, false, false, false, false] rfl rfl (any_of HT_.out (by kernel_rfl)) (fun _ _ _ h => h) (Or.inl ⟨by rfl, ?_⟩) ?_ ?_
        rotate_left
        ·intro w'
         go_simp
         with_reducible rfl
        rotate_left
        ·simp only [Act.put, z1_, z2_, z3_, i64_w, i32_w]
         rfl
        refine pure_ (i := 7) (N := some 108) (v := ?_) (a' := ?_) #[true, true, true, true, true, true, true, true, false, false, false, false, false, false, false, false, false, false, false, false, false] rfl rfl (any_of HT_.out (by kernel_rfl)) (fun _ _ _ h => h) (Or.inl ⟨by rfl, ?_⟩) ?_ ?_
        rotate_left
        ·intro w'
         go_simp
         with_reducible rfl
        rotate_left
        ·simp only [Act.put, z1_, z2_, z3_, i64_w, i32_w]
         rfl
        refine pure_ (i := 8) (N := some 109) (v := ?_) (a' := ?_) #[true, true, true, true, true, true, true, true, true, false, false, false, false, false, false, false, false, false, false, false, false] rfl rfl (any_of HT_.out (by kernel_rfl)) (fun _ _ _ h => h) (Or.inl ⟨by rfl, ?_⟩) ?_ ?_
        rotate_left
        ·intro w'
         go_simp
         with_reducible rfl
        rotate_left
        ·simp only [Act.put, z1_, z2_, z3_, i64_w, i32_w]
         rfl
        refine pure_ (i := 9) (N := some 110) (v := ?_) (a' := ?_) #[true, true, true, true, true, true, true, true, true, true, false, false, false, false, false, false, false, false, false, false, false] rfl rfl (any_of HT_.out (by kernel_rfl)) (fun _ _ _ h => h) (Or.inl ⟨by rfl, ?_⟩) ?_ ?_
        rotate_left
        ·intro w'
         go_simp
         with_reducible rfl
        rotate_left
        ·simp only [Act.put, z1_, z2_, z3_, i64_w, i32_w]
         rfl
        refine pure_ (i := 10) (N := some 111) (v := ?_) (a' := ?_) #[true, true, true, true, true, true, true, true, true, true, true, false, false, false, false, false, false, false, false, false, false] rfl rfl (any_of HT_.out (by kernel_rfl)) (fun _ _ _ h => h) (Or.inl ⟨by rfl, ?_⟩) ?_ ?_
        rotate_left
        ·intro w'
         go_simp
         with_reducible rfl
        rotate_left
        ·simp only [Act.put, z1_, z2_, z3_, i64_w, i32_w]
         rfl
        refine pure_ (i := 11) (N := some 112) (v := ?_) (a' := ?_) #[true, true, true, true, true, true, true, true, true, true, true, true, false, false, false, false, false, false, false, false, false] rfl rfl (any_of HT_.out (by kernel_rfl)) (fun _ _ _ h => h) (Or.inl ⟨by rfl, ?_⟩) ?_ ?_
        rotate_left
        ·intro w'
         go_simp
         with_reducible rfl
        rotate_left
        ·simp only [Act.put, z1_, z2_, z3_, i64_w, i32_w]
         rfl
        refine pure_ (i := 12) (N := some 113) (v := ?_) (a' := ?_) #[true, true, true, true, true, true, true, true, true, true, true, true, true, false, false, false, false, false, false, false, false] rfl rfl (any_of HT_.out (by kernel_rfl)) (fun _ _ _ h => h) (Or.inl ⟨by rfl, ?_⟩) ?_ ?_
        rotate_left
        ·intro w'
         go_simp
         with_reducible rfl
        rotate_left
        ·simp only [Act.put, z1_, z2_, z3_, i64_w, i32_w]
         rfl
        refine pure_ (i := 13) (N := some 114) (v := ?_) (a' := ?_) #[true, true, true, true, true, true, true, true, true, true, true, true, true, true, false, false, false, false, false, false, false] rfl rfl (any_of HT_.out (by kernel_rfl)) (fun _ _ _ h => h) (Or.inl ⟨by rfl, ?_⟩) ?_ ?_
        rotate_left
        ·intro w'
         go_simp
         with_reducible rfl
        rotate_left
        ·simp only [Act.put, z1_, z2_, z3_, i64_w, i32_w]
         rfl
        refine pure_ (i := 15) (N := some 116) (v := ?_) (a' := ?_) #[true, true, true, true, true, true, true, true, true, true, true, true, true, true, false, true, false, false, false, false, false] rfl rfl (any_of HT_.out (by kernel_rfl)) (fun _ _ _ h => h) (Or.inl ⟨by rfl, ?_⟩) ?_ ?_
        rotate_left
        ·intro w'
         go_simp
         with_reducible rfl
        rotate_left
        ·simp only [Act.put, z1_, z2_, z3_, i64_w, i32_w]
         rfl
        refine pure_ (i := 16) (N := some 117) (v := ?_) (a' := ?_) #[true, true, true, true, true, true, true, true, true, true, true, true, true, true, false, true, true, false, false, false, false] rfl rfl (any_of HT_.out (by kernel_rfl)) (fun _ _ _ h => h) (Or.inl ⟨by rfl, ?_⟩) ?_ ?_
        rotate_left
        ·intro w'
         go_simp
         with_reducible rfl
        rotate_left
        ·simp only [Act.put, z1_, z2_, z3_, i64_w, i32_w]
         rfl
        refine pure_ (i := 17) (N := some 118) (v := ?_) (a' := ?_) #[true, true, true, true, true, true, true, true, true, true, true, true, true, true, false, true, true, true, false, false, false] rfl rfl (any_of HT_.out (by kernel_rfl)) (fun _ _ _ h => h) (Or.inl ⟨by rfl, ?_⟩) ?_ ?_
        rotate_left
        ·intro w'
         go_simp
         with_reducible rfl
        rotate_left
        ·simp only [Act.put, z1_, z2_, z3_, i64_w, i32_w]
         rfl
        refine take_ (i := 14) (N := some 115) (v := ?_) (a' := ?_) #[true, true, true, true, true, true, true, true, true, true, true, true, true, true, true, true, true, true, false, false, false] rfl rfl (take_ofW HT_.out HW_.out (by kernel_rfl)) (fun _ _ _ h => h) (Or.inl ⟨by rfl, ?_⟩) hHeld ?_ ?_
        rotate_left
        ·rintro w' ⟨s0, s1, s2, s3, s4, s5⟩
         go_simp
         with_reducible rfl
        rotate_left
        ·simp only [Act.put, z1_, z2_, z3_, i64_w, i32_w]
         rfl
        refine take_ (i := 18) (N := some 119) (v := ?_) (a' := ?_) #[true, true, true, true, true, true, true, true, true, true, true, true, true, true, true, true, true, true, true, false, false] rfl rfl (take_ofW HT_.out HW_.out (by kernel_rfl)) (fun _ _ _ h => h) (Or.inl ⟨by rfl, ?_⟩) hHeld ?_ ?_
        rotate_left
        ·rintro w' ⟨s0, s1, s2, s3, s4, s5⟩
         go_simp
         with_reducible rfl
        rotate_left
        ·simp only [Act.put, z1_, z2_, z3_, i64_w, i32_w]
         rfl
        refine pure_ (i := 19) (N := some 120) (v := ?_) (a' := ?_) #[true, true, true, true, true, true, true, true, true, true, true, true, true, true, true, true, true, true, true, true, false] rfl rfl (any_of HT_.out (by kernel_rfl)) (fun _ _ _ h => h) (Or.inl ⟨by rfl, ?_⟩) ?_ ?_
        rotate_left
        ·intro w'
         go_simp
         with_reducible rfl
        rotate_left
        ·simp only [Act.put, z1_, z2_, z3_, i64_w, i32_w]
         rfl
        refine pure_ (i := 20) (N := some 121) (v := ?_) (a' := ?_) #[true, true, true, true, true, true, true, true, true, true, true, true, true, true, true, true, true, true, true, true, true] rfl rfl (any_of HT_.out (by kernel_rfl)) (fun _ _ _ h => h) (Or.inl ⟨by rfl, ?_⟩) ?_ ?_
        rotate_left
        ·intro w'
         go_simp
         with_reducible rfl
        rotate_left
        ·simp only [Act.put, z1_, z2_, z3_, i64_w, i32_w]
         rfl
        refine done_ (done_of HT_.out (by kernel_rfl)) ?_
        try go_wp2
        go_meet
        case rel => exact ⟨_, (x19_3), (by first | rfl | (simp; done) | (simp [*]; done)), H', ⟨by have := HJ6.out; have := HK2.out; have := HK3.out; first | omega | exact Nat.le_refl _⟩, ⟨by (with_reducible repeat (first | apply Kd.R_alloc | apply Kd.R_drewN | apply Kd.R_drew)); exact HO_14.out⟩, ⟨by (with_reducible repeat (first | apply Kd.R_alloc | apply Kd.R_drewN | apply Kd.R_drew)); exact HO_17.out⟩, ⟨by repeat (first | (with_reducible first | exact HB.out | apply below_alloc | apply pw_below_drewN | apply below_drew1) | exact HB.out)⟩⟩
     case rest =>
      clear HC39
      try clear p1
      try clear q1
      try clear hx1
      try clear p2
      try clear c4
      try clear p6
      try clear p11
      try clear q11
      try clear hx11
      try clear c42
      try clear c42b0
      try clear c43
      try clear c43b0
      try clear c44
      try clear c45
      try clear c45b0
      try clear c45b1
      try clear c45b2
      try clear hx111_0
      try clear hx111_1
      try clear hx111_2
      try clear hx112_0
      try clear hx112_1
      try clear hx112_2
      try clear p111
      try clear p112
      try clear q111
      try clear q112
      obtain ⟨kq, x19_38, rfl, HA, HJ38, HO_14, HO_17, HB⟩ := hcut
      cases kq with
      | zero => exact absurd HA.out (by simp [minuetref9_Again.j3])
      | succ kj38 =>
       have H := HA.out
       clear HA
       simp only [minuetref9_Again.j3] at H
       have H' := Aside0.mk H
       clear H
       go_wp2
       go_loopg [20] kj38 (fun kq v20 w' => ∃ (x20_4 : Int), v20 = .int .i64 x20_4 ∧ Aside0 (minuetref9_Again.l2 kq t101 t107 x19_38 x20_4 (wrap64 ((a4.size : Int) - a3)) = some (r1, r2, r3, r4)) ∧ Aside0 (kq ≤ kj38) ∧ Aside0 (Kd.R k34 34 w' w.heap.size (fun k_ => some k_ ≠ (v109 : Value).ownBlock) v103 t101) ∧ Aside0 (Kd.R k34 34 w' w.heap.size (fun k_ => some k_ ≠ (v103 : Value).ownBlock) v109 t107) ∧ Aside0 (Below w.heap.size w w'))
       case atStart => exact ⟨(0), (by first | rfl | (simp; done) | (simp [*]; done)), H', ⟨Nat.le_refl _⟩, ⟨by (with_reducible repeat (first | apply Kd.R_alloc | apply Kd.R_drewN | apply Kd.R_drew)); exact HO_14.out⟩, ⟨by (with_reducible repeat (first | apply Kd.R_alloc | apply Kd.R_drewN | apply Kd.R_drew)); exact HO_17.out⟩, ⟨by repeat (first | (with_reducible first | exact HB.out | apply below_alloc | apply pw_below_drewN | apply below_drew1) | exact HB.out)⟩⟩
       case round =>
        clear H'
        try clear p1
        try clear q1
        try clear hx1
        try clear p2
        try clear c4
        try clear p6
        try clear p11
        try clear q11
        try clear hx11
        try clear c42
        try clear c42b0
        try clear c43
        try clear c43b0
        try clear c44
        try clear c45
        try clear c45b0
        try clear c45b1
        try clear c45b2
        try clear hx111_0
        try clear hx111_1
        try clear hx111_2
        try clear hx112_0
        try clear hx112_1
        try clear hx112_2
        try clear p1
        try clear p11
        try clear p111
        try clear p112
        try clear p2
        try clear p6
        try clear q1
        try clear q11
        try clear q111
        try clear q112
        obtain ⟨x20_4, rfl, HA, HK4, HO_14, HO_17, HB⟩ := hrel
        cases gk with
        | zero => exact absurd HA.out (by simp [minuetref9_Again.l2])
        | succ k4 =>
         have H := HA.out
         clear HA
         simp only [minuetref9_Again.l2] at H
         have HC57 := Aside0.mk H
         clear H
         go_upto_region 15 with (fail)
         go_cut [137] (fun v137 wc => ∃ (kq : Nat) (x137_56 : Bool), v137 = .bool x137_56 ∧ Aside0 (minuetref9_Again.j5 kq t101 t107 x19_38 x20_4 (wrap64 ((a4.size : Int) - a3)) x137_56 = some (r1, r2, r3, r4)) ∧ Aside0 (kq ≤ k4) ∧ Aside0 (Kd.R k34 34 wc w.heap.size (fun k_ => some k_ ≠ (v109 : Value).ownBlock) v103 t101) ∧ Aside0 (Kd.R k34 34 wc w.heap.size (fun k_ => some k_ ≠ (v103 : Value).ownBlock) v109 t107) ∧ Aside0 (Below w.heap.size w wc))
         case first =>
          have H := HC57.out
          clear HC57
          by_cases c58 : x20_4 < (wrap64 ((t101.length : Int) - x19_38))
          rotate_left
          ·rw [if_neg c58] at H
           have c58b0 : decide (x20_4 < (wrap64 ((t101.length : Int) - x19_38))) = false := decide_eq_false c58
           clear c58
           (first | rw [c58b0] | (simp only [i64_w, i32_w]; rw [c58b0]) | skip)
           have H' := Aside0.mk H
           clear H
           obtain ⟨Ao61, co61, eo61⟩ := Kd.R_slice HO_14.out
           subst eo61
           go_wp2
           go_meet
           case rel => exact ⟨_, (false), (by first | rfl | (simp; done) | (simp [*]; done)), H', ⟨by have := HJ6.out; have := HK2.out; have := HJ38.out; have := HK4.out; first | omega | exact Nat.le_refl _⟩, ⟨by (with_reducible repeat (first | apply Kd.R_alloc | apply Kd.R_drewN | apply Kd.R_drew)); exact HO_14.out⟩, ⟨by (with_reducible repeat (first | apply Kd.R_alloc | apply Kd.R_drewN | apply Kd.R_drew)); exact HO_17.out⟩, ⟨by repeat (first | (with_reducible first | exact HB.out | apply below_alloc | apply pw_below_drewN | apply below_drew1) | exact HB.out)⟩⟩
          rw [if_pos c58] at H
          have c58b0 : decide (x20_4 < (wrap64 ((t101.length : Int) - x19_38))) = true := decide_eq_true c58
          clear c58
          (first | rw [c58b0] | (simp only [i64_w, i32_w]; rw [c58b0]) | skip)
          have H' := Aside0.mk H
          clear H
          obtain ⟨Ao59, co59, eo59⟩ := Kd.R_slice HO_14.out
          subst eo59
          obtain ⟨Ao60, co60, eo60⟩ := Kd.R_slice HO_17.out
          subst eo60
          go_wp2
          go_meet
          case rel => exact ⟨_, (decide (x20_4 < (wrap64 ((t107.length : Int) - x19_38)))), (by first | rfl | (simp; done) | (simp [*]; done)), H', ⟨by have := HJ6.out; have := HK2.out; have := HJ38.out; have := HK4.out; first | omega | exact Nat.le_refl _⟩, ⟨by (with_reducible repeat (first | apply Kd.R_alloc | apply Kd.R_drewN | apply Kd.R_drew)); exact HO_14.out⟩, ⟨by (with_reducible repeat (first | apply Kd.R_alloc | apply Kd.R_drewN | apply Kd.R_drew)); exact HO_17.out⟩, ⟨by repeat (first | (with_reducible first | exact HB.out | apply below_alloc | apply pw_below_drewN | apply below_drew1) | exact HB.out)⟩⟩
         case rest =>
          clear HC57
          try clear p1
          try clear q1
          try clear hx1
          try clear p2
          try clear c4
          try clear c5
          try clear p6
          try clear p11
          try clear q11
          try clear hx11
          try clear c42
          try clear c42b0
          try clear c43
          try clear c43b0
          try clear c44
          try clear c45
          try clear c45b0
          try clear c45b1
          try clear c45b2
          try clear c58
          try clear c58b0
          try clear hx111_0
          try clear hx111_1
          try clear hx111_2
          try clear hx112_0
          try clear hx112_1
          try clear hx112_2
          try clear p1
          try clear p11
          try clear p111
          try clear p112
          try clear p2
          try clear p6
          try clear q1
          try clear q11
          try clear q111
          try clear q112
          obtain ⟨kq, x137_56, rfl, HA, HJ56, HO_14, HO_17, HB⟩ := hcut
          cases kq with
          | zero => exact absurd HA.out (by simp [minuetref9_Again.j5])
          | succ kj56 =>
           have H := HA.out
           clear HA
           simp only [minuetref9_Again.j5] at H
           by_cases c62 : x137_56 = true
           rotate_left
           ·replace c62 := Bool.eq_false_iff.mpr c62
            subst c62
            have H1 : (some (t107, x19_38, x20_4, 0)) = some (r1, r2, r3, r4) := by rw [if_neg (show ¬ (false = true) by decide)] at H; exact H
            clear H
            have H := H1
            clear H1
            simp only [Option.some.injEq, Prod.mk.injEq] at H
            obtain ⟨rfl, rfl, rfl, rfl⟩ := H
            go_wp2
            refine bodyPost_ret (results_list (rs := [.tmp 10, .tmp 11, .tmp 12, .tmp 13]) rfl (by simp) (.tmp (.tmp (.tmp (.tmp .nil))))) rfl ?_
            exact ⟨_, by first | rfl | (simp [errW_none, errW_some] <;> rfl) | (simp only [← hji33]; first | rfl | (simp [errW_none, errW_some] <;> rfl)) | (simp [*, errW_none, errW_some] <;> rfl), by (with_reducible repeat (first | apply Kd.R_alloc | apply Kd.R_drewN | apply Kd.R_drew)); exact Kd.R_mono HO_17.out (fun _ hk => trivial), by repeat (first | (with_reducible first | exact HB.out | apply below_alloc | apply pw_below_drewN | apply below_drew1) | exact HB.out)⟩
           subst c62
           have H1 : (if 0 ≤ (wrap64 ((wrap64 ((t101.length : Int) - 1)) - x20_4)) then (if (wrap64 ((wrap64 ((t101.length : Int) - 1)) - x20_4)) < (t101.length : Int) then (if 0 ≤ (wrap64 ((wrap64 ((t107.length : Int) - 1)) - x20_4)) then (if (wrap64 ((wrap64 ((t107.length : Int) - 1)) - x20_4)) < (t107.length : Int) then (if ((rd_T34 t101 (wrap64 ((wrap64 ((t101.length : Int) - 1)) - x20_4))).f0) = ((rd_T34 t107 (wrap64 ((wrap64 ((t107.length : Int) - 1)) - x20_4))).f0) then (if (wrap64 (((rd_T34 t101 (wrap64 ((wrap64 ((t101.length : Int) - 1)) - x20_4))).f1) + (wrap64 ((a4.size : Int) - a3)))) = ((rd_T34 t107 (wrap64 ((wrap64 ((t107.length : Int) - 1)) - x20_4))).f1) then (if (wrap64 (((rd_T34 t101 (wrap64 ((wrap64 ((t101.length : Int) - 1)) - x20_4))).f2) + (wrap64 ((a4.size : Int) - a3)))) = ((rd_T34 t107 (wrap64 ((wrap64 ((t107.length : Int) - 1)) - x20_4))).f2) then (minuetref9_Again.l2 kj56 t101 t107 x19_38 (wrap64 (x20_4 + 1)) (wrap64 ((a4.size : Int) - a3))) else (some (t107, x19_38, x20_4, 0))) else (some (t107, x19_38, x20_4, 0))) else (some (t107, x19_38, x20_4, 0))) else (none)) else (none)) else (none)) else (none)) = some (r1, r2, r3, r4) := by rw [if_pos rfl] at H; exact H
           clear H
           have H := H1
           clear H1
           obtain ⟨ji63, hji63⟩ : ∃ j_ : Int, (wrap64 ((wrap64 ((t101.length : Int) - 1)) - x20_4)) = j_ := ⟨_, rfl⟩
           replace H : (if 0 ≤ (ji63) then (if (ji63) < (t101.length : Int) then (if 0 ≤ (wrap64 ((wrap64 ((t107.length : Int) - 1)) - x20_4)) then (if (wrap64 ((wrap64 ((t107.length : Int) - 1)) - x20_4)) < (t107.length : Int) then (if ((rd_T34 t101 (ji63)).f0) = ((rd_T34 t107 (wrap64 ((wrap64 ((t107.length : Int) - 1)) - x20_4))).f0) then (if (wrap64 (((rd_T34 t101 (ji63)).f1) + (wrap64 ((a4.size : Int) - a3)))) = ((rd_T34 t107 (wrap64 ((wrap64 ((t107.length : Int) - 1)) - x20_4))).f1) then (if (wrap64 (((rd_T34 t101 (ji63)).f2) + (wrap64 ((a4.size : Int) - a3)))) = ((rd_T34 t107 (wrap64 ((wrap64 ((t107.length : Int) - 1)) - x20_4))).f2) then (minuetref9_Again.l2 kj56 t101 t107 x19_38 (wrap64 (x20_4 + 1)) (wrap64 ((a4.size : Int) - a3))) else (some (t107, x19_38, x20_4, 0))) else (some (t107, x19_38, x20_4, 0))) else (some (t107, x19_38, x20_4, 0))) else (none)) else (none)) else (none)) else (none)) = some (r1, r2, r3, r4) := by first | (rw [hji63] at H; exact H) | (simp only [hji63] at H ⊢; exact H)
           have hji63w : (IntKind.i64.wrap ((wrap64 ((t101.length : Int) - 1)) - x20_4)) = ji63 := (i64_w _).trans hji63
           by_cases c64 : 0 ≤ (ji63)
           rotate_left
           ·rw [if_neg c64] at H
            exact absurd H (by simp)
           rw [if_pos c64] at H
           have c64b0 : decide (0 ≤ (ji63)) = true := decide_eq_true c64
           clear c64
           by_cases c65 : (ji63) < (t101.length : Int)
           rotate_left
           ·rw [if_neg c65] at H
            exact absurd H (by simp)
           rw [if_pos c65] at H
           have c65b0 : decide ((ji63) < (t101.length : Int)) = true := decide_eq_true c65
           clear c65
           obtain ⟨ji66, hji66⟩ : ∃ j_ : Int, (wrap64 ((wrap64 ((t107.length : Int) - 1)) - x20_4)) = j_ := ⟨_, rfl⟩
           replace H : (if 0 ≤ (ji66) then (if (ji66) < (t107.length : Int) then (if ((rd_T34 t101 (ji63)).f0) = ((rd_T34 t107 (ji66)).f0) then (if (wrap64 (((rd_T34 t101 (ji63)).f1) + (wrap64 ((a4.size : Int) - a3)))) = ((rd_T34 t107 (ji66)).f1) then (if (wrap64 (((rd_T34 t101 (ji63)).f2) + (wrap64 ((a4.size : Int) - a3)))) = ((rd_T34 t107 (ji66)).f2) then (minuetref9_Again.l2 kj56 t101 t107 x19_38 (wrap64 (x20_4 + 1)) (wrap64 ((a4.size : Int) - a3))) else (some (t107, x19_38, x20_4, 0))) else (some (t107, x19_38, x20_4, 0))) else (some (t107, x19_38, x20_4, 0))) else (none)) else (none)) = some (r1, r2, r3, r4) := by first | (rw [hji66] at H; exact H) | (simp only [hji66] at H ⊢; exact H)
           have hji66w : (IntKind.i64.wrap ((wrap64 ((t107.length : Int) - 1)) - x20_4)) = ji66 := (i64_w _).trans hji66
           by_cases c67 : 0 ≤ (ji66)
           rotate_left
           ·rw [if_neg c67] at H
            exact absurd H (by simp)
           rw [if_pos c67] at H
           have c67b0 : decide (0 ≤ (ji66)) = true := decide_eq_true c67
           clear c67
           by_cases c68 : (ji66) < (t107.length : Int)
           rotate_left
           ·rw [if_neg c68] at H
            exact absurd H (by simp)
           rw [if_pos c68] at H
           have c68b0 : decide ((ji66) < (t107.length : Int)) = true := decide_eq_true c68
           clear c68
           by_cases c69 : ((rd_T34 t101 (ji63)).f0) = ((rd_T34 t107 (ji66)).f0)
           rotate_left
           ·rw [if_neg c69] at H
            have c69b0 : (((rd_T34 t101 (ji63)).f0) == ((rd_T34 t107 (ji66)).f0)) = false := beq_eq_false_iff_ne.mpr c69
            have c69b1 : (((rd_T34 t101 (ji63)).f0) != ((rd_T34 t107 (ji66)).f0)) = true := bne_iff_ne.mpr c69
            simp only [Option.some.injEq, Prod.mk.injEq] at H
            obtain ⟨rfl, rfl, rfl, rfl⟩ := H
            try go_wp2
            have n0_ := Aside0.mk (Kd.R_drew HO_14.out)
            have n1_ := Aside0.mk (Kd.R_drew HO_17.out)
            have n2_ := Aside0.mk (below_drew1 HB.out)
            clear HO_14
            clear HO_17
            clear HB
            have HO_14 := n0_
            have HO_17 := n1_
            have HB := n2_
            clear n0_ n1_ n2_
            obtain ⟨Ao118, co118, eo118⟩ := Kd.R_slice HO_14.out
            (first | subst eo118 | (injection eo118 with f1_ f2_ f3_; have f4_ := f1_.symm; have f5_ := f3_.symm; clear f1_ f2_ f3_; subst f4_; subst f5_))
            have p113 : 0 ≤ ((ji63) : Int) := of_decide_eq_true (by first | (with_reducible assumption) | assumption)
            have q113 : (ji63) < (t101.length : Int) := of_decide_eq_true (by first | (with_reducible assumption) | assumption)
            obtain ⟨ad113, e113, hx113_0, hx113_1, hx113_2⟩ := at_T34 (Kd.R_reads' HO_14.out).2.2 (ji63) p113 q113
            cases e113
            replace p113 := eq_true p113
            replace q113 := eq_true q113
            obtain ⟨Ao119, co119, eo119⟩ := Kd.R_slice HO_17.out
            (first | subst eo119 | (injection eo119 with f1_ f2_ f3_; have f4_ := f1_.symm; have f5_ := f3_.symm; clear f1_ f2_ f3_; subst f4_; subst f5_))
            have p114 : 0 ≤ ((ji66) : Int) := of_decide_eq_true (by first | (with_reducible assumption) | assumption)
            have q114 : (ji66) < (t107.length : Int) := of_decide_eq_true (by first | (with_reducible assumption) | assumption)
            obtain ⟨ad114, e114, hx114_0, hx114_1, hx114_2⟩ := at_T34 (Kd.R_reads' HO_17.out).2.2 (ji66) p114 q114
            cases e114
            replace p114 := eq_true p114
            replace q114 := eq_true q114
            refine start_ (n := 20) (S := fun w' => w'.cell? (ad113.add (((ji63)).toNat * 3)) = some (.int .i64 ((rd_T34 t101 (ji63)).f0)) ∧ w'.cell? ⟨(ad113.add (((ji63)).toNat * 3)).block, (ad113.add (((ji63)).toNat * 3)).off + 1, none⟩ = some (.int .i64 ((rd_T34 t101 (ji63)).f1)) ∧ w'.cell? ⟨(ad113.add (((ji63)).toNat * 3)).block, (ad113.add (((ji63)).toNat * 3)).off + 2, none⟩ = some (.int .i64 ((rd_T34 t101 (ji63)).f2)) ∧ w'.cell? (ad114.add (((ji66)).toNat * 3)) = some (.int .i64 ((rd_T34 t107 (ji66)).f0)) ∧ w'.cell? ⟨(ad114.add (((ji66)).toNat * 3)).block, (ad114.add (((ji66)).toNat * 3)).off + 1, none⟩ = some (.int .i64 ((rd_T34 t107 (ji66)).f1)) ∧ w'.cell? ⟨(ad114.add (((ji66)).toNat * 3)).block, (ad114.add (((ji66)).toNat * 3)).off + 2, none⟩ = some (.int .i64 ((rd_T34 t107 (ji66)).f2))) (ds := []) #[false, false, false, false, false, false, false, false, false, false, false, false, false, false, false, false, false, false, false, false] (by kernel_rfl) rfl rfl ⟨hx113_0, hx113_1, hx113_2, hx114_0, hx114_1, hx114_2⟩ (fun hHeld => ?_); refine with_tabW minuetref9_Again.tab16 minuetref9_Again.bits16 (fun HT_ HW_ => ?_)
            generalize wc.drew = w117 at HO_14 HO_17 HB hx113_0 hx113_1 hx113_2 hx114_0 hx114_1 hx114_2 hHeld ⊢
            refine pure_ (i := 0) (N := some 138) (v := ?_) (a' := ?_) #[true, false, false, false, false, false, false, false, false, false, false, false, false, false, false, false, false, false, false, false] rfl rfl (any_of HT_.out (by kernel_rfl)) (fun _ _ _ h => h) (Or.inl ⟨by rfl, ?_⟩) ?_ ?_
            rotate_left
            ·intro w'
             go_simp
             with_reducible rfl
            rotate_left
            ·simp only [Act.put, z1_, z2_, z3_, i64_w, i32_w]
             rfl
            refine pure_ (i := 1) (N := some 139) (v := ?_) (a' := ?_) #[true, true, false, false, false, false, false, false, false, false, false, false, false, false, false, false, false, false, false, false] rfl rfl (any_of HT_.out (by kernel_rfl)) (fun _ _ _ h => h) (Or.inl ⟨by rfl, ?_⟩) ?_ ?_
            rotate_left
            ·intro w'
             go_simp
             with_reducible rfl
            rotate_left
            ·simp only [Act.put, z1_, z2_, z3_, i64_w, i32_w]
             rfl
            refine pure_ (i := 2) (N := some 140) (v := ?_) (a' := ?_) #[true, true, true, false, false, false, false, false, false, false, false, false, false, false, false, false, false, false, false, false] rfl rfl (any_of HT_.out (by kernel_rfl)) (fun _ _ _ h => h) (Or.inl ⟨by rfl, ?_⟩) ?_ ?_
            rotate_left
            ·intro w'
             go_simp
             with_reducible rfl
            rotate_left
            ·simp only [Act.put, z1_, z2_, z3_, i64_w, i32_w]
             rfl
            refine pure_ (i := 3) (N := some 141) (v := ?_) (a' := ?_) #[true, true, true, true, false, false, false, false, false, false, false, false, false, false, false, false, false, false, false, false] rfl rfl (any_of HT_.out (by kernel_rfl)) (fun _ _ _ h => h) (Or.inl ⟨by rfl, ?_⟩) ?_ ?_
            rotate_left
            ·intro w'
             go_simp
             with_reducible rfl
            rotate_left
            ·simp only [Act.put, z1_, z2_, z3_, i64_w, i32_w]
             rfl
            refine pure_ (i := 4) (N := some 142) (v := ?_) (a' := ?_) #[true, true, true, true, true, false, false, false, false, false, false, false, false, false, false, false, false, false, false, false] rfl rfl (any_of HT_.out (by kernel_rfl)) (fun _ _ _ h => h) (Or.inl ⟨by rfl, ?_⟩) ?_ ?_
            rotate_left
            ·intro w'
             go_simp
             with_reducible rfl
            rotate_left
            ·simp only [Act.put, z1_, z2_, z3_, i64_w, i32_w]
             rfl
            refine pure_ (i := 5) (N := some 143) (v := ?_) (a' := ?_) #[true, true, true, true, true, true, false, false, false, false, false, false, false, false, false, false, false, false, false, false] rfl rfl (any_of HT_.out (by kernel_rfl)) (fun _ _ _ h => h) (Or.inl ⟨by rfl, ?_⟩) ?_ ?_
            rotate_left
            ·intro w'
             go_simp
             with_reducible rfl
            rotate_left
            ·simp only [Act.put, z1_, z2_, z3_, i64_w, i32_w]
             rfl
            refine pure_ (i := 6) (N := some 144) (v := ?_) (a' := ?_) #[true, true, true, true, true, true, true, false, false, false, false, false, false, false, false, false, false, false, false, false] rfl rfl (any_of HT_.out (by kernel_rfl)) (fun _ _ _ h => h) (Or.inl ⟨by rfl, ?_⟩) ?_ ?_
            rotate_left
            ·intro w'
             go_simp
             with_reducible rfl
            rotate_left
            ·simp only [Act.put, z1_, z2_, z3_, i64_w, i32_w]
             rfl
            refine pure_ (i := 8) (N := some 146) (v := ?_) (a' := ?_) #[true, true, true, true, true, true, true, false, true, false, false, false, false, false, false, false, false, false, false, false] rfl rfl (any_of HT_.out (by kernel_rfl)) (fun _ _ _ h => h) (Or.inl ⟨by rfl, ?_⟩) ?_ ?_
            rotate_left
            ·intro w'
             go_simp
             with_reducible rfl
            rotate_left
            ·simp only [Act.put, z1_, z2_, z3_, i64_w, i32_w]
             rfl
            refine pure_ (i := 9) (N := some 147) (v := ?_) (a' := ?_) #[true, true, true, true, true, true, true, false, true, true, false, false, false, false, false, false, false, false, false, false] rfl rfl (any_of HT_.out (by kernel_rfl)) (fun _ _ _ h => h) (Or.inl ⟨by rfl, ?_⟩) ?_ ?_
            rotate_left
            ·intro w'
             go_simp
             with_reducible rfl
            rotate_left
            ·simp only [Act.put, z1_, z2_, z3_, i64_w, i32_w]
             rfl
            refine pure_ (i := 10) (N := some 148) (v := ?_) (a' := ?_) #[true, true, true, true, true, true, true, false, true, true, true, false, false, false, false, false, false, false, false, false] rfl rfl (any_of HT_.out (by kernel_rfl)) (fun _ _ _ h => h) (Or.inl ⟨by rfl, ?_⟩) ?_ ?_
            rotate_left
            ·intro w'
             go_simp
             with_reducible rfl
            rotate_left
            ·simp only [Act.put, z1_, z2_, z3_, i64_w, i32_w]
             rfl
            refine pure_ (i := 11) (N := some 149) (v := ?_) (a' := ?_) #[true, true, true, true, true, true, true, false, true, true, true, true, false, false, false, false, false, false, false, false] rfl rfl (any_of HT_.out (by kernel_rfl)) (fun _ _ _ h => h) (Or.inl ⟨by rfl, ?_⟩) ?_ ?_
            rotate_left
            ·intro w'
             go_simp
             with_reducible rfl
            rotate_left
            ·simp only [Act.put, z1_, z2_, z3_, i64_w, i32_w]
             rfl
            refine pure_ (i := 12) (N := some 150) (v := ?_) (a' := ?_) #[true, true, true, true, true, true, true, false, true, true, true, true, true, false, false, false, false, false, false, false] rfl rfl (any_of HT_.out (by kernel_rfl)) (fun _ _ _ h => h) (Or.inl ⟨by rfl, ?_⟩) ?_ ?_
            rotate_left
            ·intro w'
             go_simp
             with_reducible rfl
            rotate_left
            ·simp only [Act.put, z1_, z2_, z3_, i64_w, i32_w]
             rfl
            refine pure_ (i := 13) (N := some 151) (v := ?_) (a' := ?_) #[true, true, true, true, true, true, true, false, true, true, true, true, true, true, false, false, false, false, false, false] rfl rfl (any_of HT_.out (by kernel_rfl)) (fun _ _ _ h => h) (Or.inl ⟨by rfl, ?_⟩) ?_ ?_
            rotate_left
            ·intro w'
             go_simp
             with_reducible rfl
            rotate_left
            ·simp only [Act.put, z1_, z2_, z3_, i64_w, i32_w]
             rfl
            refine pure_ (i := 14) (N := some 152) (v := ?_) (a' := ?_) #[true, true, true, true, true, true, true, false, true, true, true, true, true, true, true, false, false, false, false, false] rfl rfl (any_of HT_.out (by kernel_rfl)) (fun _ _ _ h => h) (Or.inl ⟨by rfl, ?_⟩) ?_ ?_
            rotate_left
            ·intro w'
             go_simp
             with_reducible rfl
            rotate_left
            ·simp only [Act.put, z1_, z2_, z3_, i64_w, i32_w]
             rfl
            refine take_ (i := 7) (N := some 145) (v := ?_) (a' := ?_) #[true, true, true, true, true, true, true, true, true, true, true, true, true, true, true, false, false, false, false, false] rfl rfl (take_ofW HT_.out HW_.out (by kernel_rfl)) (fun _ _ _ h => h) (Or.inl ⟨by rfl, ?_⟩) hHeld ?_ ?_
            rotate_left
            ·rintro w' ⟨s0, s1, s2, s3, s4, s5⟩
             go_simp
             with_reducible rfl
            rotate_left
            ·simp only [Act.put, z1_, z2_, z3_, i64_w, i32_w]
             rfl
            refine take_ (i := 15) (N := some 153) (v := ?_) (a' := ?_) #[true, true, true, true, true, true, true, true, true, true, true, true, true, true, true, true, false, false, false, false] rfl rfl (take_ofW HT_.out HW_.out (by kernel_rfl)) (fun _ _ _ h => h) (Or.inl ⟨by rfl, ?_⟩) hHeld ?_ ?_
            rotate_left
            ·rintro w' ⟨s0, s1, s2, s3, s4, s5⟩
             go_simp
             with_reducible rfl
            rotate_left
            ·simp only [Act.put, z1_, z2_, z3_, i64_w, i32_w]
             rfl
            refine join_ (σ := Nat × Nat) 2 #[true, true, true, true, true, true, true, true, true, true, true, true, true, true, true, true, true, true, false, false] (fun s_ => [(22, .pointer (some ⟨s_.1, 0, none⟩)), (23, .pointer (some ⟨s_.2, 0, none⟩))]) (fun s_ w' => (w'.cell? (ad113.add (((ji63)).toNat * 3)) = some (.int .i64 ((rd_T34 t101 (ji63)).f0)) ∧ w'.cell? ⟨(ad113.add (((ji63)).toNat * 3)).block, (ad113.add (((ji63)).toNat * 3)).off + 1, none⟩ = some (.int .i64 ((rd_T34 t101 (ji63)).f1)) ∧ w'.cell? ⟨(ad113.add (((ji63)).toNat * 3)).block, (ad113.add (((ji63)).toNat * 3)).off + 2, none⟩ = some (.int .i64 ((rd_T34 t101 (ji63)).f2)) ∧ w'.cell? (ad114.add (((ji66)).toNat * 3)) = some (.int .i64 ((rd_T34 t107 (ji66)).f0)) ∧ w'.cell? ⟨(ad114.add (((ji66)).toNat * 3)).block, (ad114.add (((ji66)).toNat * 3)).off + 1, none⟩ = some (.int .i64 ((rd_T34 t107 (ji66)).f1)) ∧ w'.cell? ⟨(ad114.add (((ji66)).toNat * 3)).block, (ad114.add (((ji66)).toNat * 3)).off + 2, none⟩ = some (.int .i64 ((rd_T34 t107 (ji66)).f2))) ∧ (Kd.R k34 34 w' w.heap.size (fun k_ => some k_ ≠ (.slice (some ad114) t107.length co119 : Value).ownBlock ∧ k_ ≠ s_.1 ∧ k_ ≠ s_.2) (.slice (some ad113) t101.length co118) t101) ∧ (Kd.R k34 34 w' w.heap.size (fun k_ => some k_ ≠ (.slice (some ad113) t101.length co118 : Value).ownBlock ∧ k_ ≠ s_.1 ∧ k_ ≠ s_.2) (.slice (some ad114) t107.length co119) t107) ∧ (w'.heap[s_.1]? = some (.cells #[.int .i64 0, .int .i64 0, .int .i64 0] 34 (0, 0))) ∧ (w'.heap[s_.2]? = some (.cells #[.int .i64 0, .int .i64 0, .int .i64 0] 34 (0, 0))) ∧ (w.heap.size ≤ s_.1) ∧ (w.heap.size ≤ s_.1) ∧ (s_.2 ≠ s_.1) ∧ (s_.1 ≠ s_.2) ∧ (w.heap.size ≤ s_.2) ∧ (w.heap.size ≤ s_.2) ∧ (Below w.heap.size w w')) ?_ ?_
            rotate_left
            ·intro hCont
             refine two_ (i := 16) (j := 17) (Ni := some 22) (Nj := some 23) #[true, true, true, true, true, true, true, true, true, true, true, true, true, true, true, true, true, false, false, false] #[true, true, true, true, true, true, true, true, true, true, true, true, true, true, true, true, false, true, false, false] rfl rfl rfl rfl (two_of HT_.out (by kernel_rfl)) (by decide) (by decide) (fun K hK => ?_) (fun K hK => ?_)
             ·skip
              refine box_step ?hg (N := 22) ?hd (cs := #[.int .i64 0, .int .i64 0, .int .i64 0]) (t := 34) ?hr ?_; (case hd => rfl); (case hg => rfl); (case hr => first | (go_simp; done) | (go_simp; rfl))
              intro gb115 hg w120 hbox hb
              have HS0_ := (hb.cell (World.block_lt_of_cell? _ _ (hHeld.1))).trans (hHeld.1)
              have HS1_ := (hb.cell (World.block_lt_of_cell? _ _ (hHeld.2.1))).trans (hHeld.2.1)
              have HS2_ := (hb.cell (World.block_lt_of_cell? _ _ (hHeld.2.2.1))).trans (hHeld.2.2.1)
              have HS3_ := (hb.cell (World.block_lt_of_cell? _ _ (hHeld.2.2.2.1))).trans (hHeld.2.2.2.1)
              have HS4_ := (hb.cell (World.block_lt_of_cell? _ _ (hHeld.2.2.2.2.1))).trans (hHeld.2.2.2.2.1)
              have HS5_ := (hb.cell (World.block_lt_of_cell? _ _ (hHeld.2.2.2.2.2))).trans (hHeld.2.2.2.2.2)
              have n0_ := Aside0.mk (Kd.R_below (Kd.R_elderB (by (with_reducible repeat (first | apply Kd.R_alloc | apply Kd.R_drewN | apply Kd.R_drew)); exact HO_14.out) gb115 (Nat.le_of_eq hg.symm)) hb)
              have n1_ := Aside0.mk (Kd.R_below (Kd.R_elderB (by (with_reducible repeat (first | apply Kd.R_alloc | apply Kd.R_drewN | apply Kd.R_drew)); exact HO_17.out) gb115 (Nat.le_of_eq hg.symm)) hb)
              have n2_ := Aside0.mk (below_step (by repeat (first | (with_reducible first | exact HB.out | apply below_alloc | apply pw_below_drewN | apply below_drew1) | exact HB.out)) hb)
              have n3_ := Aside0.mk (hbox)
              have n4_ := Aside0.mk ((by rw [hg]; exact (below_size (by repeat (first | (with_reducible first | exact HB.out | apply below_alloc | apply pw_below_drewN | apply below_drew1) | exact HB.out))) : w.heap.size ≤ gb115))
              have n5_ := Aside0.mk ((by rw [hg]; exact (below_size (by repeat (first | (with_reducible first | exact HB.out | apply below_alloc | apply pw_below_drewN | apply below_drew1) | exact HB.out))) : w.heap.size ≤ gb115))
              clear HO_14
              clear HO_17
              clear HB
              have HO_14 := n0_
              have HO_17 := n1_
              have HB := n2_
              have BK115 := n3_
              have GW115 := n4_
              have GE115 := n5_
              clear n0_ n1_ n2_ n3_ n4_ n5_
              clear hb hbox hg
              refine hK.out _ _ ⟨HS0_, HS1_, HS2_, HS3_, HS4_, HS5_⟩ (fun hHeld => ?_)
              clear hK K
              refine norm_ (a' := ?_) ?_ ?_
              rotate_left
              ·show Act.put _ (some 22) _ = _
               simp only [Act.put, z1_, z2_, z3_, i64_w, i32_w]
               rfl
              refine one_ (i := 17) (N := some 23) #[true, true, true, true, true, true, true, true, true, true, true, true, true, true, true, true, true, true, false, false] rfl rfl (one_of HT_.out (by kernel_rfl)) (by decide) (fun K hK => ?_)
              refine box_step ?hg (N := 23) ?hd (cs := #[.int .i64 0, .int .i64 0, .int .i64 0]) (t := 34) ?hr ?_; (case hd => rfl); (case hg => rfl); (case hr => first | (go_simp; done) | (go_simp; rfl))
              intro gb116 hg w121 hbox hb
              have HS0_ := (hb.cell (World.block_lt_of_cell? _ _ (hHeld.1))).trans (hHeld.1)
              have HS1_ := (hb.cell (World.block_lt_of_cell? _ _ (hHeld.2.1))).trans (hHeld.2.1)
              have HS2_ := (hb.cell (World.block_lt_of_cell? _ _ (hHeld.2.2.1))).trans (hHeld.2.2.1)
              have HS3_ := (hb.cell (World.block_lt_of_cell? _ _ (hHeld.2.2.2.1))).trans (hHeld.2.2.2.1)
              have HS4_ := (hb.cell (World.block_lt_of_cell? _ _ (hHeld.2.2.2.2.1))).trans (hHeld.2.2.2.2.1)
              have HS5_ := (hb.cell (World.block_lt_of_cell? _ _ (hHeld.2.2.2.2.2))).trans (hHeld.2.2.2.2.2)
              have n0_ := Aside0.mk (Kd.R_below (Kd.R_elderB (by (with_reducible repeat (first | apply Kd.R_alloc | apply Kd.R_drewN | apply Kd.R_drew)); exact HO_14.out) gb116 (Nat.le_of_eq hg.symm)) hb)
              have n1_ := Aside0.mk (Kd.R_below (Kd.R_elderB (by (with_reducible repeat (first | apply Kd.R_alloc | apply Kd.R_drewN | apply Kd.R_drew)); exact HO_17.out) gb116 (Nat.le_of_eq hg.symm)) hb)
              have n2_ := Aside0.mk (blk_below (g := gb115) (o := .cells #[.int .i64 0, .int .i64 0, .int .i64 0] 34 (0, 0)) (by (with_reducible repeat (first | refine blk_drewN ?_ _ | refine blk_drew ?_ | refine blk_alloc ?_ _)); exact BK115.out) hb)
              have n3_ := Aside0.mk (below_step (by repeat (first | (with_reducible first | exact HB.out | apply below_alloc | apply pw_below_drewN | apply below_drew1 | refine below_set ?_ GE115.out) | exact HB.out)) hb)
              have n4_ := Aside0.mk (hbox)
              have n5_ := Aside0.mk ((by rw [hg]; exact (below_size (by repeat (first | (with_reducible first | exact HB.out | apply below_alloc | apply pw_below_drewN | apply below_drew1 | refine below_set ?_ GE115.out) | exact HB.out))) : w.heap.size ≤ gb116))
              have n6_ := Aside0.mk ((by rw [hg]; exact (below_size (by repeat (first | (with_reducible first | exact HB.out | apply below_alloc | apply pw_below_drewN | apply below_drew1 | refine below_set ?_ GE115.out) | exact HB.out))) : w.heap.size ≤ gb116))
              have n7_ := Aside0.mk ((by rw [hg]; exact Nat.ne_of_lt (blk_lt (g := gb115) (o := .cells #[.int .i64 0, .int .i64 0, .int .i64 0] 34 (0, 0)) (by (with_reducible repeat (first | refine blk_drewN ?_ _ | refine blk_drew ?_ | refine blk_alloc ?_ _)); exact BK115.out)) : gb115 ≠ gb116))
              have n8_ := Aside0.mk ((by rw [hg]; exact Nat.ne_of_gt (blk_lt (g := gb115) (o := .cells #[.int .i64 0, .int .i64 0, .int .i64 0] 34 (0, 0)) (by (with_reducible repeat (first | refine blk_drewN ?_ _ | refine blk_drew ?_ | refine blk_alloc ?_ _)); exact BK115.out)) : gb116 ≠ gb115))
              clear HO_14
              clear HO_17
              clear BK115
              clear HB
              have HO_14 := n0_
              have HO_17 := n1_
              have BK115 := n2_
              have HB := n3_
              have BK116 := n4_
              have GW116 := n5_
              have GE116 := n6_
              have NB115_116 := n7_
              have NB116_115 := n8_
              clear n0_ n1_ n2_ n3_ n4_ n5_ n6_ n7_ n8_
              clear hb hbox hg
              refine hK.out _ _ ⟨HS0_, HS1_, HS2_, HS3_, HS4_, HS5_⟩ (fun hHeld => ?_)
              clear hK K
              refine norm_ (a' := ?_) ?_ ?_
              rotate_left
              ·show Act.put _ (some 23) _ = _
               simp only [Act.put, z1_, z2_, z3_, i64_w, i32_w]
               rfl
              exact norm_ (by simp only [putAll, Act.put, z1_, z2_, z3_]) (hCont (gb115, gb116) _ ⟨hHeld, (by (with_reducible repeat (first | apply Kd.R_alloc | apply Kd.R_drewN | apply Kd.R_drew)); exact Kd.R_mono HO_14.out (fun _ hk => ⟨hk.1.1, ⟨hk.1.2, hk.2⟩⟩)), (by (with_reducible repeat (first | apply Kd.R_alloc | apply Kd.R_drewN | apply Kd.R_drew)); exact Kd.R_mono HO_17.out (fun _ hk => ⟨hk.1.1, ⟨hk.1.2, hk.2⟩⟩)), (by (with_reducible repeat (first | refine blk_drewN ?_ _ | refine blk_drew ?_ | refine blk_alloc ?_ _)); exact BK115.out), (by (with_reducible repeat (first | refine blk_drewN ?_ _ | refine blk_drew ?_ | refine blk_alloc ?_ _)); exact BK116.out), GW115.out, GE115.out, NB116_115.out, NB115_116.out, GW116.out, GE116.out, (by repeat (first | (with_reducible first | exact HB.out | apply below_alloc | apply pw_below_drewN | apply below_drew1 | refine below_set ?_ GE115.out | refine below_set ?_ GE116.out) | exact HB.out))⟩)
             ·skip
              refine box_step ?hg (N := 23) ?hd (cs := #[.int .i64 0, .int .i64 0, .int .i64 0]) (t := 34) ?hr ?_; (case hd => rfl); (case hg => rfl); (case hr => first | (go_simp; done) | (go_simp; rfl))
              intro gb116 hg w120 hbox hb
              have HS0_ := (hb.cell (World.block_lt_of_cell? _ _ (hHeld.1))).trans (hHeld.1)
              have HS1_ := (hb.cell (World.block_lt_of_cell? _ _ (hHeld.2.1))).trans (hHeld.2.1)
              have HS2_ := (hb.cell (World.block_lt_of_cell? _ _ (hHeld.2.2.1))).trans (hHeld.2.2.1)
              have HS3_ := (hb.cell (World.block_lt_of_cell? _ _ (hHeld.2.2.2.1))).trans (hHeld.2.2.2.1)
              have HS4_ := (hb.cell (World.block_lt_of_cell? _ _ (hHeld.2.2.2.2.1))).trans (hHeld.2.2.2.2.1)
              have HS5_ := (hb.cell (World.block_lt_of_cell? _ _ (hHeld.2.2.2.2.2))).trans (hHeld.2.2.2.2.2)
              have n0_ := Aside0.mk (Kd.R_below (Kd.R_elderB (by (with_reducible repeat (first | apply Kd.R_alloc | apply Kd.R_drewN | apply Kd.R_drew)); exact HO_14.out) gb116 (Nat.le_of_eq hg.symm)) hb)
              have n1_ := Aside0.mk (Kd.R_below (Kd.R_elderB (by (with_reducible repeat (first | apply Kd.R_alloc | apply Kd.R_drewN | apply Kd.R_drew)); exact HO_17.out) gb116 (Nat.le_of_eq hg.symm)) hb)
              have n2_ := Aside0.mk (below_step (by repeat (first | (with_reducible first | exact HB.out | apply below_alloc | apply pw_below_drewN | apply below_drew1) | exact HB.out)) hb)
              have n3_ := Aside0.mk (hbox)
              have n4_ := Aside0.mk ((by rw [hg]; exact (below_size (by repeat (first | (with_reducible first | exact HB.out | apply below_alloc | apply pw_below_drewN | apply below_drew1) | exact HB.out))) : w.heap.size ≤ gb116))
              have n5_ := Aside0.mk ((by rw [hg]; exact (below_size (by repeat (first | (with_reducible first | exact HB.out | apply below_alloc | apply pw_below_drewN | apply below_drew1) | exact HB.out))) : w.heap.size ≤ gb116))
              clear HO_14
              clear HO_17
              clear HB
              have HO_14 := n0_
              have HO_17 := n1_
              have HB := n2_
              have BK116 := n3_
              have GW116 := n4_
              have GE116 := n5_
              clear n0_ n1_ n2_ n3_ n4_ n5_
              clear hb hbox hg
              refine hK.out _ _ ⟨HS0_, HS1_, HS2_, HS3_, HS4_, HS5_⟩ (fun hHeld => ?_)
              clear hK K
              refine norm_ (a' := ?_) ?_ ?_
              rotate_left
              ·show Act.put _ (some 23) _ = _
               simp only [Act.put, z1_, z2_, z3_, i64_w, i32_w]
               rfl
              refine one_ (i := 16) (N := some 22) #[true, true, true, true, true, true, true, true, true, true, true, true, true, true, true, true, true, true, false, false] rfl rfl (one_of HT_.out (by kernel_rfl)) (by decide) (fun K hK => ?_)
              refine box_step ?hg (N := 22) ?hd (cs := #[.int .i64 0, .int .i64 0, .int .i64 0]) (t := 34) ?hr ?_; (case hd => rfl); (case hg => rfl); (case hr => first | (go_simp; done) | (go_simp; rfl))
              intro gb115 hg w121 hbox hb
              have HS0_ := (hb.cell (World.block_lt_of_cell? _ _ (hHeld.1))).trans (hHeld.1)
              have HS1_ := (hb.cell (World.block_lt_of_cell? _ _ (hHeld.2.1))).trans (hHeld.2.1)
              have HS2_ := (hb.cell (World.block_lt_of_cell? _ _ (hHeld.2.2.1))).trans (hHeld.2.2.1)
              have HS3_ := (hb.cell (World.block_lt_of_cell? _ _ (hHeld.2.2.2.1))).trans (hHeld.2.2.2.1)
              have HS4_ := (hb.cell (World.block_lt_of_cell? _ _ (hHeld.2.2.2.2.1))).trans (hHeld.2.2.2.2.1)
              have HS5_ := (hb.cell (World.block_lt_of_cell? _ _ (hHeld.2.2.2.2.2))).trans (hHeld.2.2.2.2.2)
              have n0_ := Aside0.mk (Kd.R_below (Kd.R_elderB (by (with_reducible repeat (first | apply Kd.R_alloc | apply Kd.R_drewN | apply Kd.R_drew)); exact HO_14.out) gb115 (Nat.le_of_eq hg.symm)) hb)
              have n1_ := Aside0.mk (Kd.R_below (Kd.R_elderB (by (with_reducible repeat (first | apply Kd.R_alloc | apply Kd.R_drewN | apply Kd.R_drew)); exact HO_17.out) gb115 (Nat.le_of_eq hg.symm)) hb)
              have n2_ := Aside0.mk (blk_below (g := gb116) (o := .cells #[.int .i64 0, .int .i64 0, .int .i64 0] 34 (0, 0)) (by (with_reducible repeat (first | refine blk_drewN ?_ _ | refine blk_drew ?_ | refine blk_alloc ?_ _)); exact BK116.out) hb)
              have n3_ := Aside0.mk (below_step (by repeat (first | (with_reducible first | exact HB.out | apply below_alloc | apply pw_below_drewN | apply below_drew1 | refine below_set ?_ GE116.out) | exact HB.out)) hb)
              have n4_ := Aside0.mk (hbox)
              have n5_ := Aside0.mk ((by rw [hg]; exact (below_size (by repeat (first | (with_reducible first | exact HB.out | apply below_alloc | apply pw_below_drewN | apply below_drew1 | refine below_set ?_ GE116.out) | exact HB.out))) : w.heap.size ≤ gb115))
              have n6_ := Aside0.mk ((by rw [hg]; exact (below_size (by repeat (first | (with_reducible first | exact HB.out | apply below_alloc | apply pw_below_drewN | apply below_drew1 | refine below_set ?_ GE116.out) | exact HB.out))) : w.heap.size ≤ gb115))
              have n7_ := Aside0.mk ((by rw [hg]; exact Nat.ne_of_lt (blk_lt (g := gb116) (o := .cells #[.int .i64 0, .int .i64 0, .int .i64 0] 34 (0, 0)) (by (with_reducible repeat (first | refine blk_drewN ?_ _ | refine blk_drew ?_ | refine blk_alloc ?_ _)); exact BK116.out)) : gb116 ≠ gb115))
              have n8_ := Aside0.mk ((by rw [hg]; exact Nat.ne_of_gt (blk_lt (g := gb116) (o := .cells #[.int .i64 0, .int .i64 0, .int .i64 0] 34 (0, 0)) (by (with_reducible repeat (first | refine blk_drewN ?_ _ | refine blk_drew ?_ | refine blk_alloc ?_ _)); exact BK116.out)) : gb115 ≠ gb116))
              clear HO_14
              clear HO_17
              clear BK116
              clear HB
              have HO_14 := n0_
              have HO_17 := n1_
              have BK116 := n2_
              have HB := n3_
              have BK115 := n4_
              have GW115 := n5_
              have GE115 := n6_
              have NB116_115 := n7_
              have NB115_116 := n8_
              clear n0_ n1_ n2_ n3_ n4_ n5_ n6_ n7_ n8_
              clear hb hbox hg
              refine hK.out _ _ ⟨HS0_, HS1_, HS2_, HS3_, HS4_, HS5_⟩ (fun hHeld => ?_)
              clear hK K
              refine norm_ (a' := ?_) ?_ ?_
              rotate_left
              ·show Act.put _ (some 22) _ = _
               simp only [Act.put, z1_, z2_, z3_, i64_w, i32_w]
               rfl
              exact norm_ (by simp only [putAll, Act.put, z1_, z2_, z3_]) (hCont (gb115, gb116) _ ⟨hHeld, (by (with_reducible repeat (first | apply Kd.R_alloc | apply Kd.R_drewN | apply Kd.R_drew)); exact Kd.R_mono HO_14.out (fun _ hk => ⟨hk.1.1, ⟨hk.2, hk.1.2⟩⟩)), (by (with_reducible repeat (first | apply Kd.R_alloc | apply Kd.R_drewN | apply Kd.R_drew)); exact Kd.R_mono HO_17.out (fun _ hk => ⟨hk.1.1, ⟨hk.2, hk.1.2⟩⟩)), (by (with_reducible repeat (first | refine blk_drewN ?_ _ | refine blk_drew ?_ | refine blk_alloc ?_ _)); exact BK115.out), (by (with_reducible repeat (first | refine blk_drewN ?_ _ | refine blk_drew ?_ | refine blk_alloc ?_ _)); exact BK116.out), GW115.out, GE115.out, NB116_115.out, NB115_116.out, GW116.out, GE116.out, (by repeat (first | (with_reducible first | exact HB.out | apply below_alloc | apply pw_below_drewN | apply below_drew1 | refine below_set ?_ GE116.out | refine below_set ?_ GE115.out) | exact HB.out))⟩)
            rintro ⟨gb115, gb116⟩ w122 ⟨hS_, h0_, h1_, h2_, h3_, h4_, h5_, h6_, h7_, h8_, h9_, h10_⟩
            have n0_ : Aside0 (Kd.R k34 34 w122 w.heap.size (fun k_ => some k_ ≠ (.slice (some ad114) t107.length co119 : Value).ownBlock ∧ k_ ≠ gb115 ∧ k_ ≠ gb116) (.slice (some ad113) t101.length co118) t101) := ⟨h0_⟩
            have n1_ : Aside0 (Kd.R k34 34 w122 w.heap.size (fun k_ => some k_ ≠ (.slice (some ad113) t101.length co118 : Value).ownBlock ∧ k_ ≠ gb115 ∧ k_ ≠ gb116) (.slice (some ad114) t107.length co119) t107) := ⟨h1_⟩
            have n2_ : Aside0 (w122.heap[gb115]? = some (.cells #[.int .i64 0, .int .i64 0, .int .i64 0] 34 (0, 0))) := ⟨h2_⟩
            have n3_ : Aside0 (w122.heap[gb116]? = some (.cells #[.int .i64 0, .int .i64 0, .int .i64 0] 34 (0, 0))) := ⟨h3_⟩
            have n4_ : Aside0 (w.heap.size ≤ gb115) := ⟨h4_⟩
            have n5_ : Aside0 (w.heap.size ≤ gb115) := ⟨h5_⟩
            have n6_ : Aside0 (gb116 ≠ gb115) := ⟨h6_⟩
            have n7_ : Aside0 (gb115 ≠ gb116) := ⟨h7_⟩
            have n8_ : Aside0 (w.heap.size ≤ gb116) := ⟨h8_⟩
            have n9_ : Aside0 (w.heap.size ≤ gb116) := ⟨h9_⟩
            have n10_ : Aside0 (Below w.heap.size w w122) := ⟨h10_⟩
            clear HO_14
            clear HO_17
            clear HB
            clear h0_ h1_ h2_ h3_ h4_ h5_ h6_ h7_ h8_ h9_ h10_
            have HO_14 := n0_
            have HO_17 := n1_
            have BK115 := n2_
            have BK116 := n3_
            have GW115 := n4_
            have GE115 := n5_
            have NB116_115 := n6_
            have NB115_116 := n7_
            have GW116 := n8_
            have GE116 := n9_
            have HB := n10_
            clear n0_ n1_ n2_ n3_ n4_ n5_ n6_ n7_ n8_ n9_ n10_
            have hHeld : w122.cell? (ad113.add (((ji63)).toNat * 3)) = some (.int .i64 ((rd_T34 t101 (ji63)).f0)) ∧ w122.cell? ⟨(ad113.add (((ji63)).toNat * 3)).block, (ad113.add (((ji63)).toNat * 3)).off + 1, none⟩ = some (.int .i64 ((rd_T34 t101 (ji63)).f1)) ∧ w122.cell? ⟨(ad113.add (((ji63)).toNat * 3)).block, (ad113.add (((ji63)).toNat * 3)).off + 2, none⟩ = some (.int .i64 ((rd_T34 t101 (ji63)).f2)) ∧ w122.cell? (ad114.add (((ji66)).toNat * 3)) = some (.int .i64 ((rd_T34 t107 (ji66)).f0)) ∧ w122.cell? ⟨(ad114.add (((ji66)).toNat * 3)).block, (ad114.add (((ji66)).toNat * 3)).off + 1, none⟩ = some (.int .i64 ((rd_T34 t107 (ji66)).f1)) ∧ w122.cell? ⟨(ad114.add (((ji66)).toNat * 3)).block, (ad114.add (((ji66)).toNat * 3)).off + 2, none⟩ = some (.int .i64 ((rd_T34 t107 (ji66)).f2)) := hS_
            refine norm_ (a' := ?_) ?_ ?_
            rotate_left
            ·simp only [putAll, Act.put, z1_, z2_, z3_]
             rfl
            refine one_ (i := 18) (N := none) #[true, true, true, true, true, true, true, true, true, true, true, true, true, true, true, true, true, true, true, false] rfl rfl (one_of HT_.out (by kernel_rfl)) (by decide) (fun K hK => ?_)
            have hs123 : w122.cell? ⟨gb115, 0, none⟩ = some (.int .i64 0) := (blk_cell BK115.out 0).trans rfl
            have hfs123 := blk_frozen BK115.out 0
            have hns123_1 := NB116_115.out
            have hms123_1 := NB115_116.out
            have hs124 : w122.cell? ⟨gb115, 1, none⟩ = some (.int .i64 0) := (blk_cell BK115.out 1).trans rfl
            have hfs124 := blk_frozen BK115.out 1
            have hns124_1 := NB116_115.out
            have hms124_1 := NB115_116.out
            have hs125 : w122.cell? ⟨gb115, 2, none⟩ = some (.int .i64 0) := (blk_cell BK115.out 2).trans rfl
            have hfs125 := blk_frozen BK115.out 2
            have hns125_1 := NB116_115.out
            have hms125_1 := NB115_116.out
            refine skip_ (w1 := ?_) (by rfl) rfl ?_ ?_
            rotate_left
            ·go_simp
             rfl
            refine hK.out _ _ ⟨(by (iterate 3 (refine (cell_far (p := ⟨gb115, _, none⟩) (by first | exact Kd.own_blk (Kd.R_away HO_14.out (fun _ hk => hk.2.1)) | (rw [add_block]; exact Kd.own_blk (Kd.R_away HO_14.out (fun _ hk => hk.2.1)))) _).trans ?_)); exact hHeld.1), (by (iterate 3 (refine (cell_far (p := ⟨gb115, _, none⟩) (by first | exact Kd.own_blk (Kd.R_away HO_14.out (fun _ hk => hk.2.1)) | (rw [add_block]; exact Kd.own_blk (Kd.R_away HO_14.out (fun _ hk => hk.2.1)))) _).trans ?_)); exact hHeld.2.1), (by (iterate 3 (refine (cell_far (p := ⟨gb115, _, none⟩) (by first | exact Kd.own_blk (Kd.R_away HO_14.out (fun _ hk => hk.2.1)) | (rw [add_block]; exact Kd.own_blk (Kd.R_away HO_14.out (fun _ hk => hk.2.1)))) _).trans ?_)); exact hHeld.2.2.1), (by (iterate 3 (refine (cell_far (p := ⟨gb115, _, none⟩) (by first | exact Kd.own_blk (Kd.R_away HO_17.out (fun _ hk => hk.2.1)) | (rw [add_block]; exact Kd.own_blk (Kd.R_away HO_17.out (fun _ hk => hk.2.1)))) _).trans ?_)); exact hHeld.2.2.2.1), (by (iterate 3 (refine (cell_far (p := ⟨gb115, _, none⟩) (by first | exact Kd.own_blk (Kd.R_away HO_17.out (fun _ hk => hk.2.1)) | (rw [add_block]; exact Kd.own_blk (Kd.R_away HO_17.out (fun _ hk => hk.2.1)))) _).trans ?_)); exact hHeld.2.2.2.2.1), (by (iterate 3 (refine (cell_far (p := ⟨gb115, _, none⟩) (by first | exact Kd.own_blk (Kd.R_away HO_17.out (fun _ hk => hk.2.1)) | (rw [add_block]; exact Kd.own_blk (Kd.R_away HO_17.out (fun _ hk => hk.2.1)))) _).trans ?_)); exact hHeld.2.2.2.2.2)⟩ (fun hHeld => ?_)
            clear hK K
            refine one_ (i := 19) (N := none) #[true, true, true, true, true, true, true, true, true, true, true, true, true, true, true, true, true, true, true, true] rfl rfl (one_of HT_.out (by kernel_rfl)) (by decide) (fun K hK => ?_)
            have hs126 : w122.cell? ⟨gb116, 0, none⟩ = some (.int .i64 0) := (blk_cell BK116.out 0).trans rfl
            have hfs126 := blk_frozen BK116.out 0
            have hns126_0 := NB115_116.out
            have hms126_0 := NB116_115.out
            have hs127 : w122.cell? ⟨gb116, 1, none⟩ = some (.int .i64 0) := (blk_cell BK116.out 1).trans rfl
            have hfs127 := blk_frozen BK116.out 1
            have hns127_0 := NB115_116.out
            have hms127_0 := NB116_115.out
            have hs128 : w122.cell? ⟨gb116, 2, none⟩ = some (.int .i64 0) := (blk_cell BK116.out 2).trans rfl
            have hfs128 := blk_frozen BK116.out 2
            have hns128_0 := NB115_116.out
            have hms128_0 := NB116_115.out
            refine skip_ (w1 := ?_) (by rfl) rfl ?_ ?_
            rotate_left
            ·go_simp
             rfl
            refine hK.out _ _ ⟨(by (iterate 3 (refine (cell_far (p := ⟨gb116, _, none⟩) (by first | exact Kd.own_blk (Kd.R_away HO_14.out (fun _ hk => hk.2.2)) | (rw [add_block]; exact Kd.own_blk (Kd.R_away HO_14.out (fun _ hk => hk.2.2)))) _).trans ?_)); exact hHeld.1), (by (iterate 3 (refine (cell_far (p := ⟨gb116, _, none⟩) (by first | exact Kd.own_blk (Kd.R_away HO_14.out (fun _ hk => hk.2.2)) | (rw [add_block]; exact Kd.own_blk (Kd.R_away HO_14.out (fun _ hk => hk.2.2)))) _).trans ?_)); exact hHeld.2.1), (by (iterate 3 (refine (cell_far (p := ⟨gb116, _, none⟩) (by first | exact Kd.own_blk (Kd.R_away HO_14.out (fun _ hk => hk.2.2)) | (rw [add_block]; exact Kd.own_blk (Kd.R_away HO_14.out (fun _ hk => hk.2.2)))) _).trans ?_)); exact hHeld.2.2.1), (by (iterate 3 (refine (cell_far (p := ⟨gb116, _, none⟩) (by first | exact Kd.own_blk (Kd.R_away HO_17.out (fun _ hk => hk.2.2)) | (rw [add_block]; exact Kd.own_blk (Kd.R_away HO_17.out (fun _ hk => hk.2.2)))) _).trans ?_)); exact hHeld.2.2.2.1), (by (iterate 3 (refine (cell_far (p := ⟨gb116, _, none⟩) (by first | exact Kd.own_blk (Kd.R_away HO_17.out (fun _ hk => hk.2.2)) | (rw [add_block]; exact Kd.own_blk (Kd.R_away HO_17.out (fun _ hk => hk.2.2)))) _).trans ?_)); exact hHeld.2.2.2.2.1), (by (iterate 3 (refine (cell_far (p := ⟨gb116, _, none⟩) (by first | exact Kd.own_blk (Kd.R_away HO_17.out (fun _ hk => hk.2.2)) | (rw [add_block]; exact Kd.own_blk (Kd.R_away HO_17.out (fun _ hk => hk.2.2)))) _).trans ?_)); exact hHeld.2.2.2.2.2)⟩ (fun hHeld => ?_)
            clear hK K
            refine done_ (done_of HT_.out (by kernel_rfl)) ?_
            have hnb129 := NB115_116.out
            have hnc129 := NB116_115.out
            have hcz130_0 : w122.cell? ⟨gb115, 0, none⟩ = some (.int .i64 0) := (blk_cell BK115.out 0).trans rfl
            have hcz130_1 : w122.cell? ⟨gb115, 1, none⟩ = some (.int .i64 0) := (blk_cell BK115.out 1).trans rfl
            have hcz130_2 : w122.cell? ⟨gb115, 2, none⟩ = some (.int .i64 0) := (blk_cell BK115.out 2).trans rfl
            have hfz130_0 := blk_frozen BK115.out 0
            have hfz130_1 := blk_frozen BK115.out 1
            have hfz130_2 := blk_frozen BK115.out 2
            have hcz131_0 : w122.cell? ⟨gb116, 0, none⟩ = some (.int .i64 0) := (blk_cell BK116.out 0).trans rfl
            have hcz131_1 : w122.cell? ⟨gb116, 1, none⟩ = some (.int .i64 0) := (blk_cell BK116.out 1).trans rfl
            have hcz131_2 : w122.cell? ⟨gb116, 2, none⟩ = some (.int .i64 0) := (blk_cell BK116.out 2).trans rfl
            have hfz131_0 := blk_frozen BK116.out 0
            have hfz131_1 := blk_frozen BK116.out 1
            have hfz131_2 := blk_frozen BK116.out 2
            try go_wp2
            refine bodyPost_ret (results_list (rs := [.tmp 10, .tmp 11, .tmp 12, .tmp 13]) rfl (by simp) (.tmp (.tmp (.tmp (.tmp .nil))))) rfl ?_
            exact ⟨_, by first | rfl | (simp [errW_none, errW_some] <;> rfl) | (simp only [← hji33, ← hji63, ← hji66]; first | rfl | (simp [errW_none, errW_some] <;> rfl)) | (simp [*, errW_none, errW_some] <;> rfl), by (with_reducible repeat (first | apply Kd.R_alloc | apply Kd.R_drewN | apply Kd.R_drew)); exact Kd.R_mono (Kd.R_far (p := ⟨gb116, 2, none⟩) (Kd.R_far (p := ⟨gb116, 1, none⟩) (Kd.R_far (p := ⟨gb116, 0, none⟩) (Kd.R_far (p := ⟨gb115, 2, none⟩) (Kd.R_far (p := ⟨gb115, 1, none⟩) (Kd.R_far (p := ⟨gb115, 0, none⟩) (Kd.R_mono (Kd.R_mono HO_17.out (fun k_ hk => (⟨hk, hk.2.1⟩ : _ ∧ k_ ≠ gb115))) (fun k_ hk => (⟨hk, hk.1.2.2⟩ : _ ∧ k_ ≠ gb116))) (fun _ hk => hk.1.2) (.int .i64 ((rd_T34 t101 (ji63)).f0))) (fun _ hk => hk.1.2) (.int .i64 ((rd_T34 t101 (ji63)).f1))) (fun _ hk => hk.1.2) (.int .i64 ((rd_T34 t101 (ji63)).f2))) (fun _ hk => hk.2) (.int .i64 ((rd_T34 t107 (ji66)).f0))) (fun _ hk => hk.2) (.int .i64 ((rd_T34 t107 (ji66)).f1))) (fun _ hk => hk.2) (.int .i64 ((rd_T34 t107 (ji66)).f2))) (fun _ hk => trivial), by repeat (first | (with_reducible first | exact HB.out | apply below_alloc | apply pw_below_drewN | apply below_drew1 | refine below_set ?_ GE115.out | refine below_set ?_ GE116.out) | exact HB.out)⟩
           rw [if_pos c69] at H
           have c69b0 : (((rd_T34 t101 (ji63)).f0) == ((rd_T34 t107 (ji66)).f0)) = true := beq_iff_eq.mpr c69
           have c69b1 : (((rd_T34 t101 (ji63)).f0) != ((rd_T34 t107 (ji66)).f0)) = false := bne_eq_false_iff_eq.mpr c69
           clear c69
           by_cases c70 : (wrap64 (((rd_T34 t101 (ji63)).f1) + (wrap64 ((a4.size : Int) - a3)))) = ((rd_T34 t107 (ji66)).f1)
           rotate_left
           ·rw [if_neg c70] at H
            have c70b0 : ((wrap64 (((rd_T34 t101 (ji63)).f1) + (wrap64 ((a4.size : Int) - a3)))) == ((rd_T34 t107 (ji66)).f1)) = false := beq_eq_false_iff_ne.mpr c70
            have c70b1 : ((wrap64 (((rd_T34 t101 (ji63)).f1) + (wrap64 ((a4.size : Int) - a3)))) != ((rd_T34 t107 (ji66)).f1)) = true := bne_iff_ne.mpr c70
            simp only [Option.some.injEq, Prod.mk.injEq] at H
            obtain ⟨rfl, rfl, rfl, rfl⟩ := H
            try go_wp2
            have n0_ := Aside0.mk (Kd.R_drew HO_14.out)
            have n1_ := Aside0.mk (Kd.R_drew HO_17.out)
            have n2_ := Aside0.mk (below_drew1 HB.out)
            clear HO_14
            clear HO_17
            clear HB
            have HO_14 := n0_
            have HO_17 := n1_
            have HB := n2_
            clear n0_ n1_ n2_
            obtain ⟨Ao103, co103, eo103⟩ := Kd.R_slice HO_14.out
            (first | subst eo103 | (injection eo103 with f1_ f2_ f3_; have f4_ := f1_.symm; have f5_ := f3_.symm; clear f1_ f2_ f3_; subst f4_; subst f5_))
            have p113 : 0 ≤ ((ji63) : Int) := of_decide_eq_true (by first | (with_reducible assumption) | assumption)
            have q113 : (ji63) < (t101.length : Int) := of_decide_eq_true (by first | (with_reducible assumption) | assumption)
            obtain ⟨ad113, e113, hx113_0, hx113_1, hx113_2⟩ := at_T34 (Kd.R_reads' HO_14.out).2.2 (ji63) p113 q113
            cases e113
            replace p113 := eq_true p113
            replace q113 := eq_true q113
            obtain ⟨Ao104, co104, eo104⟩ := Kd.R_slice HO_17.out
            (first | subst eo104 | (injection eo104 with f1_ f2_ f3_; have f4_ := f1_.symm; have f5_ := f3_.symm; clear f1_ f2_ f3_; subst f4_; subst f5_))
            have p114 : 0 ≤ ((ji66) : Int) := of_decide_eq_true (by first | (with_reducible assumption) | assumption)
            have q114 : (ji66) < (t107.length : Int) := of_decide_eq_true (by first | (with_reducible assumption) | assumption)
            obtain ⟨ad114, e114, hx114_0, hx114_1, hx114_2⟩ := at_T34 (Kd.R_reads' HO_17.out).2.2 (ji66) p114 q114
            cases e114
            replace p114 := eq_true p114
            replace q114 := eq_true q114
            refine start_ (n := 20) (S := fun w' => w'.cell? (ad113.add (((ji63)).toNat * 3)) = some (.int .i64 ((rd_T34 t101 (ji63)).f0)) ∧ w'.cell? ⟨(ad113.add (((ji63)).toNat * 3)).block, (ad113.add (((ji63)).toNat * 3)).off + 1, none⟩ = some (.int .i64 ((rd_T34 t101 (ji63)).f1)) ∧ w'.cell? ⟨(ad113.add (((ji63)).toNat * 3)).block, (ad113.add (((ji63)).toNat * 3)).off + 2, none⟩ = some (.int .i64 ((rd_T34 t101 (ji63)).f2)) ∧ w'.cell? (ad114.add (((ji66)).toNat * 3)) = some (.int .i64 ((rd_T34 t107 (ji66)).f0)) ∧ w'.cell? ⟨(ad114.add (((ji66)).toNat * 3)).block, (ad114.add (((ji66)).toNat * 3)).off + 1, none⟩ = some (.int .i64 ((rd_T34 t107 (ji66)).f1)) ∧ w'.cell? ⟨(ad114.add (((ji66)).toNat * 3)).block, (ad114.add (((ji66)).toNat * 3)).off + 2, none⟩ = some (.int .i64 ((rd_T34 t107 (ji66)).f2))) (ds := []) #[false, false, false, false, false, false, false, false, false, false, false, false, false, false, false, false, false, false, false, false] (by kernel_rfl) rfl rfl ⟨hx113_0, hx113_1, hx113_2, hx114_0, hx114_1, hx114_2⟩ (fun hHeld => ?_); refine with_tabW minuetref9_Again.tab16 minuetref9_Again.bits16 (fun HT_ HW_ => ?_)
            generalize wc.drew = w102 at HO_14 HO_17 HB hx113_0 hx113_1 hx113_2 hx114_0 hx114_1 hx114_2 hHeld ⊢
            refine pure_ (i := 0) (N := some 138) (v := ?_) (a' := ?_) #[true, false, false, false, false, false, false, false, false, false, false, false, false, false, false, false, false, false, false, false] rfl rfl (any_of HT_.out (by kernel_rfl)) (fun _ _ _ h => h) (Or.inl ⟨by rfl, ?_⟩) ?_ ?_
            rotate_left
            ·intro w'
             go_simp
             with_reducible rfl
            rotate_left
            ·simp only [Act.put, z1_, z2_, z3_, i64_w, i32_w]
             rfl
            refine pure_ (i := 1) (N := some 139) (v := ?_) (a' := ?_) #[true, true, false, false, false, false, false, false, false, false, false, false, false, false, false, false, false, false, false, false] rfl rfl (any_of HT_.out (by kernel_rfl)) (fun _ _ _ h => h) (Or.inl ⟨by rfl, ?_⟩) ?_ ?_
            rotate_left
            ·intro w'
             go_simp
             with_reducible rfl
            rotate_left
            ·simp only [Act.put, z1_, z2_, z3_, i64_w, i32_w]
             rfl
            refine pure_ (i := 2) (N := some 140) (v := ?_) (a' := ?_) #[true, true, true, false, false, false, false, false, false, false, false, false, false, false, false, false, false, false, false, false] rfl rfl (any_of HT_.out (by kernel_rfl)) (fun _ _ _ h => h) (Or.inl ⟨by rfl, ?_⟩) ?_ ?_
            rotate_left
            ·intro w'
             go_simp
             with_reducible rfl
            rotate_left
            ·simp only [Act.put, z1_, z2_, z3_, i64_w, i32_w]
             rfl
            refine pure_ (i := 3) (N := some 141) (v := ?_) (a' := ?_) #[true, true, true, true, false, false, false, false, false, false, false, false, false, false, false, false, false, false, false, false] rfl rfl (any_of HT_.out (by kernel_rfl)) (fun _ _ _ h => h) (Or.inl ⟨by rfl, ?_⟩) ?_ ?_
            rotate_left
            ·intro w'
             go_simp
             with_reducible rfl
            rotate_left
            ·simp only [Act.put, z1_, z2_, z3_, i64_w, i32_w]
             rfl
            refine pure_ (i := 4) (N := some 142) (v := ?_) (a' := ?_) #[true, true, true, true, true, false, false, false, false, false, false, false, false, false, false, false, false, false, false, false] rfl rfl (any_of HT_.out (by kernel_rfl)) (fun _ _ _ h => h) (Or.inl ⟨by rfl, ?_⟩) ?_ ?_
            rotate_left
            ·intro w'
             go_simp
             with_reducible rfl
            rotate_left
            ·simp only [Act.put, z1_, z2_, z3_, i64_w, i32_w]
             rfl
            refine pure_ (i := 5) (N := some 143) (v := ?_) (a' := ?_) #[true, true, true, true, true, true, false, false, false, false, false, false, false, false, false, false, false, false, false, false] rfl rfl (any_of HT_.out (by kernel_rfl)) (fun _ _ _ h => h) (Or.inl ⟨by rfl, ?_⟩) ?_ ?_
            rotate_left
            ·intro w'
             go_simp
             with_reducible rfl
            rotate_left
            ·simp only [Act.put, z1_, z2_, z3_, i64_w, i32_w]
             rfl
            refine pure_ (i := 6) (N := some 144) (v := ?_) (a' := ?_) #[true, true, true, true, true, true, true, false, false, false, false, false, false, false, false, false, false, false, false, false] rfl rfl (any_of HT_.out (by kernel_rfl)) (fun _ _ _ h => h) (Or.inl ⟨by rfl, ?_⟩) ?_ ?_
            rotate_left
            ·intro w'
             go_simp
             with_reducible rfl
            rotate_left
            ·simp only [Act.put, z1_, z2_, z3_, i64_w, i32_w]
             rfl
            refine pure_ (i := 8) (N := some 146) (v := ?_) (a' := ?_) #[true, true, true, true, true, true, true, false, true, false, false, false, false, false, false, false, false, false, false, false] rfl rfl (any_of HT_.out (by kernel_rfl)) (fun _ _ _ h => h) (Or.inl ⟨by rfl, ?_⟩) ?_ ?_
            rotate_left
            ·intro w'
             go_simp
             with_reducible rfl
            rotate_left
            ·simp only [Act.put, z1_, z2_, z3_, i64_w, i32_w]
             rfl
            refine pure_ (i := 9) (N := some 147) (v := ?_) (a' := ?_) #[true, true, true, true, true, true, true, false, true, true, false, false, false, false, false, false, false, false, false, false] rfl rfl (any_of HT_.out (by kernel_rfl)) (fun _ _ _ h => h) (Or.inl ⟨by rfl, ?_⟩) ?_ ?_
            rotate_left
            ·intro w'
             go_simp
             with_reducible rfl
            rotate_left
            ·simp only [Act.put, z1_, z2_, z3_, i64_w, i32_w]
             rfl
            refine pure_ (i := 10) (N := some 148) (v := ?_) (a' := ?_) #[true, true, true, true, true, true, true, false, true, true, true, false, false, false, false, false, false, false, false, false] rfl rfl (any_of HT_.out (by kernel_rfl)) (fun _ _ _ h => h) (Or.inl ⟨by rfl, ?_⟩) ?_ ?_
            rotate_left
            ·intro w'
             go_simp
             with_reducible rfl
            rotate_left
            ·simp only [Act.put, z1_, z2_, z3_, i64_w, i32_w]
             rfl
            refine pure_ (i := 11) (N := some 149) (v := ?_) (a' := ?_) #[true, true, true, true, true, true, true, false, true, true, true, true, false, false, false, false, false, false, false, false] rfl rfl (any_of HT_.out (by kernel_rfl)) (fun _ _ _ h => h) (Or.inl ⟨by rfl, ?_⟩) ?_ ?_
            rotate_left
            ·intro w'
             go_simp
             with_reducible rfl
            rotate_left
            ·simp only [Act.put, z1_, z2_, z3_, i64_w, i32_w]
             rfl
            refine pure_ (i := 12) (N := some 150) (v := ?_) (a' := ?_) #[true, true, true, true, true, true, true, false, true, true, true, true, true, false, false, false, false, false, false, false] rfl rfl (any_of HT_.out (by kernel_rfl)) (fun _ _ _ h => h) (Or.inl ⟨by rfl, ?_⟩) ?_ ?_
            rotate_left
            ·intro w'
             go_simp
             with_reducible rfl
            rotate_left
            ·simp only [Act.put, z1_, z2_, z3_, i64_w, i32_w]
             rfl
            refine pure_ (i := 13) (N := some 151) (v := ?_) (a' := ?_) #[true, true, true, true, true, true, true, false, true, true, true, true, true, true, false, false, false, false, false, false] rfl rfl (any_of HT_.out (by kernel_rfl)) (fun _ _ _ h => h) (Or.inl ⟨by rfl, ?_⟩) ?_ ?_
            rotate_left
            ·intro w'
             go_simp
             with_reducible rfl
            rotate_left
            ·simp only [Act.put, z1_, z2_, z3_, i64_w, i32_w]
             rfl
            refine pure_ (i := 14) (N := some 152) (v := ?_) (a' := ?_) #[true, true, true, true, true, true, true, false, true, true, true, true, true, true, true, false, false, false, false, false] rfl rfl (any_of HT_.out (by kernel_rfl)) (fun _ _ _ h => h) (Or.inl ⟨by rfl, ?_⟩) ?_ ?_
            rotate_left
            ·intro w'
             go_simp
             with_reducible rfl
            rotate_left
            ·simp only [Act.put, z1_, z2_, z3_, i64_w, i32_w]
             rfl
            refine take_ (i := 7) (N := some 145) (v := ?_) (a' := ?_) #[true, true, true, true, true, true, true, true, true, true, true, true, true, true, true, false, false, false, false, false] rfl rfl (take_ofW HT_.out HW_.out (by kernel_rfl)) (fun _ _ _ h => h) (Or.inl ⟨by rfl, ?_⟩) hHeld ?_ ?_
            rotate_left
            ·rintro w' ⟨s0, s1, s2, s3, s4, s5⟩
             go_simp
             with_reducible rfl
            rotate_left
            ·simp only [Act.put, z1_, z2_, z3_, i64_w, i32_w]
             rfl
            refine take_ (i := 15) (N := some 153) (v := ?_) (a' := ?_) #[true, true, true, true, true, true, true, true, true, true, true, true, true, true, true, true, false, false, false, false] rfl rfl (take_ofW HT_.out HW_.out (by kernel_rfl)) (fun _ _ _ h => h) (Or.inl ⟨by rfl, ?_⟩) hHeld ?_ ?_
            rotate_left
            ·rintro w' ⟨s0, s1, s2, s3, s4, s5⟩
             go_simp
             with_reducible rfl
            rotate_left
            ·simp only [Act.put, z1_, z2_, z3_, i64_w, i32_w]
             rfl
            refine join_ (σ := Nat × Nat) 2 #[true, true, true, true, true, true, true, true, true, true, true, true, true, true, true, true, true, true, false, false] (fun s_ => [(22, .pointer (some ⟨s_.1, 0, none⟩)), (23, .pointer (some ⟨s_.2, 0, none⟩))]) (fun s_ w' => (w'.cell? (ad113.add (((ji63)).toNat * 3)) = some (.int .i64 ((rd_T34 t101 (ji63)).f0)) ∧ w'.cell? ⟨(ad113.add (((ji63)).toNat * 3)).block, (ad113.add (((ji63)).toNat * 3)).off + 1, none⟩ = some (.int .i64 ((rd_T34 t101 (ji63)).f1)) ∧ w'.cell? ⟨(ad113.add (((ji63)).toNat * 3)).block, (ad113.add (((ji63)).toNat * 3)).off + 2, none⟩ = some (.int .i64 ((rd_T34 t101 (ji63)).f2)) ∧ w'.cell? (ad114.add (((ji66)).toNat * 3)) = some (.int .i64 ((rd_T34 t107 (ji66)).f0)) ∧ w'.cell? ⟨(ad114.add (((ji66)).toNat * 3)).block, (ad114.add (((ji66)).toNat * 3)).off + 1, none⟩ = some (.int .i64 ((rd_T34 t107 (ji66)).f1)) ∧ w'.cell? ⟨(ad114.add (((ji66)).toNat * 3)).block, (ad114.add (((ji66)).toNat * 3)).off + 2, none⟩ = some (.int .i64 ((rd_T34 t107 (ji66)).f2))) ∧ (Kd.R k34 34 w' w.heap.size (fun k_ => some k_ ≠ (.slice (some ad114) t107.length co104 : Value).ownBlock ∧ k_ ≠ s_.1 ∧ k_ ≠ s_.2) (.slice (some ad113) t101.length co103) t101) ∧ (Kd.R k34 34 w' w.heap.size (fun k_ => some k_ ≠ (.slice (some ad113) t101.length co103 : Value).ownBlock ∧ k_ ≠ s_.1 ∧ k_ ≠ s_.2) (.slice (some ad114) t107.length co104) t107) ∧ (w'.heap[s_.1]? = some (.cells #[.int .i64 0, .int .i64 0, .int .i64 0] 34 (0, 0))) ∧ (w'.heap[s_.2]? = some (.cells #[.int .i64 0, .int .i64 0, .int .i64 0] 34 (0, 0))) ∧ (w.heap.size ≤ s_.1) ∧ (w.heap.size ≤ s_.1) ∧ (s_.2 ≠ s_.1) ∧ (s_.1 ≠ s_.2) ∧ (w.heap.size ≤ s_.2) ∧ (w.heap.size ≤ s_.2) ∧ (Below w.heap.size w w')) ?_ ?_
            rotate_left
            ·intro hCont
             refine two_ (i := 16) (j := 17) (Ni := some 22) (Nj := some 23) #[true, true, true, true, true, true, true, true, true, true, true, true, true, true, true, true, true, false, false, false] #[true, true, true, true, true, true, true, true, true, true, true, true, true, true, true, true, false, true, false, false] rfl rfl rfl rfl (two_of HT_.out (by kernel_rfl)) (by decide) (by decide) (fun K hK => ?_) (fun K hK => ?_)
             ·skip
              refine box_step ?hg (N := 22) ?hd (cs := #[.int .i64 0, .int .i64 0, .int .i64 0]) (t := 34) ?hr ?_; (case hd => rfl); (case hg => rfl); (case hr => first | (go_simp; done) | (go_simp; rfl))
              intro gb115 hg w105 hbox hb
              have HS0_ := (hb.cell (World.block_lt_of_cell? _ _ (hHeld.1))).trans (hHeld.1)
              have HS1_ := (hb.cell (World.block_lt_of_cell? _ _ (hHeld.2.1))).trans (hHeld.2.1)
              have HS2_ := (hb.cell (World.block_lt_of_cell? _ _ (hHeld.2.2.1))).trans (hHeld.2.2.1)
              have HS3_ := (hb.cell (World.block_lt_of_cell? _ _ (hHeld.2.2.2.1))).trans (hHeld.2.2.2.1)
              have HS4_ := (hb.cell (World.block_lt_of_cell? _ _ (hHeld.2.2.2.2.1))).trans (hHeld.2.2.2.2.1)
              have HS5_ := (hb.cell (World.block_lt_of_cell? _ _ (hHeld.2.2.2.2.2))).trans (hHeld.2.2.2.2.2)
              have n0_ := Aside0.mk (Kd.R_below (Kd.R_elderB (by (with_reducible repeat (first | apply Kd.R_alloc | apply Kd.R_drewN | apply Kd.R_drew)); exact HO_14.out) gb115 (Nat.le_of_eq hg.symm)) hb)
              have n1_ := Aside0.mk (Kd.R_below (Kd.R_elderB (by (with_reducible repeat (first | apply Kd.R_alloc | apply Kd.R_drewN | apply Kd.R_drew)); exact HO_17.out) gb115 (Nat.le_of_eq hg.symm)) hb)
              have n2_ := Aside0.mk (below_step (by repeat (first | (with_reducible first | exact HB.out | apply below_alloc | apply pw_below_drewN | apply below_drew1) | exact HB.out)) hb)
              have n3_ := Aside0.mk (hbox)
              have n4_ := Aside0.mk ((by rw [hg]; exact (below_size (by repeat (first | (with_reducible first | exact HB.out | apply below_alloc | apply pw_below_drewN | apply below_drew1) | exact HB.out))) : w.heap.size ≤ gb115))
              have n5_ := Aside0.mk ((by rw [hg]; exact (below_size (by repeat (first | (with_reducible first | exact HB.out | apply below_alloc | apply pw_below_drewN | apply below_drew1) | exact HB.out))) : w.heap.size ≤ gb115))
              clear HO_14
              clear HO_17
              clear HB
              have HO_14 := n0_
              have HO_17 := n1_
              have HB := n2_
              have BK115 := n3_
              have GW115 := n4_
              have GE115 := n5_
              clear n0_ n1_ n2_ n3_ n4_ n5_
              clear hb hbox hg
              refine hK.out _ _ ⟨HS0_, HS1_, HS2_, HS3_, HS4_, HS5_⟩ (fun hHeld => ?_)
              clear hK K
              refine norm_ (a' := ?_) ?_ ?_
              rotate_left
              ·show Act.put _ (some 22) _ = _
               simp only [Act.put, z1_, z2_, z3_, i64_w, i32_w]
               rfl
              refine one_ (i := 17) (N := some 23) #[true, true, true, true, true, true, true, true, true, true, true, true, true, true, true, true, true, true, false, false] rfl rfl (one_of HT_.out (by kernel_rfl)) (by decide) (fun K hK => ?_)
              refine box_step ?hg (N := 23) ?hd (cs := #[.int .i64 0, .int .i64 0, .int .i64 0]) (t := 34) ?hr ?_; (case hd => rfl); (case hg => rfl); (case hr => first | (go_simp; done) | (go_simp; rfl))
              intro gb116 hg w106 hbox hb
              have HS0_ := (hb.cell (World.block_lt_of_cell? _ _ (hHeld.1))).trans (hHeld.1)
              have HS1_ := (hb.cell (World.block_lt_of_cell? _ _ (hHeld.2.1))).trans (hHeld.2.1)
              have HS2_ := (hb.cell (World.block_lt_of_cell? _ _ (hHeld.2.2.1))).trans (hHeld.2.2.1)
              have HS3_ := (hb.cell (World.block_lt_of_cell? _ _ (hHeld.2.2.2.1))).trans (hHeld.2.2.2.1)
              have HS4_ := (hb.cell (World.block_lt_of_cell? _ _ (hHeld.2.2.2.2.1))).trans (hHeld.2.2.2.2.1)
              have HS5_ := (hb.cell (World.block_lt_of_cell? _ _ (hHeld.2.2.2.2.2))).trans (hHeld.2.2.2.2.2)
              have n0_ := Aside0.mk (Kd.R_below (Kd.R_elderB (by (with_reducible repeat (first | apply Kd.R_alloc | apply Kd.R_drewN | apply Kd.R_drew)); exact HO_14.out) gb116 (Nat.le_of_eq hg.symm)) hb)
              have n1_ := Aside0.mk (Kd.R_below (Kd.R_elderB (by (with_reducible repeat (first | apply Kd.R_alloc | apply Kd.R_drewN | apply Kd.R_drew)); exact HO_17.out) gb116 (Nat.le_of_eq hg.symm)) hb)
              have n2_ := Aside0.mk (blk_below (g := gb115) (o := .cells #[.int .i64 0, .int .i64 0, .int .i64 0] 34 (0, 0)) (by (with_reducible repeat (first | refine blk_drewN ?_ _ | refine blk_drew ?_ | refine blk_alloc ?_ _)); exact BK115.out) hb)
              have n3_ := Aside0.mk (below_step (by repeat (first | (with_reducible first | exact HB.out | apply below_alloc | apply pw_below_drewN | apply below_drew1 | refine below_set ?_ GE115.out) | exact HB.out)) hb)
              have n4_ := Aside0.mk (hbox)
              have n5_ := Aside0.mk ((by rw [hg]; exact (below_size (by repeat (first | (with_reducible first | exact HB.out | apply below_alloc | apply pw_below_drewN | apply below_drew1 | refine below_set ?_ GE115.out) | exact HB.out))) : w.heap.size ≤ gb116))
              have n6_ := Aside0.mk ((by rw [hg]; exact (below_size (by repeat (first | (with_reducible first | exact HB.out | apply below_alloc | apply pw_below_drewN | apply below_drew1 | refine below_set ?_ GE115.out) | exact HB.out))) : w.heap.size ≤ gb116))
              have n7_ := Aside0.mk ((by rw [hg]; exact Nat.ne_of_lt (blk_lt (g := gb115) (o := .cells #[.int .i64 0, .int .i64 0, .int .i64 0] 34 (0, 0)) (by (with_reducible repeat (first | refine blk_drewN ?_ _ | refine blk_drew ?_ | refine blk_alloc ?_ _)); exact BK115.out)) : gb115 ≠ gb116))
              have n8_ := Aside0.mk ((by rw [hg]; exact Nat.ne_of_gt (blk_lt (g := gb115) (o := .cells #[.int .i64 0, .int .i64 0, .int .i64 0] 34 (0, 0)) (by (with_reducible repeat (first | refine blk_drewN ?_ _ | refine blk_drew ?_ | refine blk_alloc ?_ _)); exact BK115.out)) : gb116 ≠ gb115))
              clear HO_14
              clear HO_17
              clear BK115
              clear HB
              have HO_14 := n0_
              have HO_17 := n1_
              have BK115 := n2_
              have HB := n3_
              have BK116 := n4_
              have GW116 := n5_
              have GE116 := n6_
              have NB115_116 := n7_
              have NB116_115 := n8_
              clear n0_ n1_ n2_ n3_ n4_ n5_ n6_ n7_ n8_
              clear hb hbox hg
              refine hK.out _ _ ⟨HS0_, HS1_, HS2_, HS3_, HS4_, HS5_⟩ (fun hHeld => ?_)
              clear hK K
              refine norm_ (a' := ?_) ?_ ?_
              rotate_left
              ·show Act.put _ (some 23) _ = _
               simp only [Act.put, z1_, z2_, z3_, i64_w, i32_w]
               rfl
              exact norm_ (by simp only [putAll, Act.put, z1_, z2_, z3_]) (hCont (gb115, gb116) _ ⟨hHeld, (by (with_reducible repeat (first | apply Kd.R_alloc | apply Kd.R_drewN | apply Kd.R_drew)); exact Kd.R_mono HO_14.out (fun _ hk => ⟨hk.1.1, ⟨hk.1.2, hk.2⟩⟩)), (by (with_reducible repeat (first | apply Kd.R_alloc | apply Kd.R_drewN | apply Kd.R_drew)); exact Kd.R_mono HO_17.out (fun _ hk => ⟨hk.1.1, ⟨hk.1.2, hk.2⟩⟩)), (by (with_reducible repeat (first | refine blk_drewN ?_ _ | refine blk_drew ?_ | refine blk_alloc ?_ _)); exact BK115.out), (by (with_reducible repeat (first | refine blk_drewN ?_ _ | refine blk_drew ?_ | refine blk_alloc ?_ _)); exact BK116.out), GW115.out, GE115.out, NB116_115.out, NB115_116.out, GW116.out, GE116.out, (by repeat (first | (with_reducible first | exact HB.out | apply below_alloc | apply pw_below_drewN | apply below_drew1 | refine below_set ?_ GE115.out | refine below_set ?_ GE116.out) | exact HB.out))⟩)
             ·skip
              refine box_step ?hg (N := 23) ?hd (cs := #[.int .i64 0, .int .i64 0, .int .i64 0]) (t := 34) ?hr ?_; (case hd => rfl); (case hg => rfl); (case hr => first | (go_simp; done) | (go_simp; rfl))
              intro gb116 hg w105 hbox hb
              have HS0_ := (hb.cell (World.block_lt_of_cell? _ _ (hHeld.1))).trans (hHeld.1)
              have HS1_ := (hb.cell (World.block_lt_of_cell? _ _ (hHeld.2.1))).trans (hHeld.2.1)
              have HS2_ := (hb.cell (World.block_lt_of_cell? _ _ (hHeld.2.2.1))).trans (hHeld.2.2.1)
              have HS3_ := (hb.cell (World.block_lt_of_cell? _ _ (hHeld.2.2.2.1))).trans (hHeld.2.2.2.1)
              have HS4_ := (hb.cell (World.block_lt_of_cell? _ _ (hHeld.2.2.2.2.1))).trans (hHeld.2.2.2.2.1)
              have HS5_ := (hb.cell (World.block_lt_of_cell? _ _ (hHeld.2.2.2.2.2))).trans (hHeld.2.2.2.2.2)
              have n0_ := Aside0.mk (Kd.R_below (Kd.R_elderB (by (with_reducible repeat (first | apply Kd.R_alloc | apply Kd.R_drewN | apply Kd.R_drew)); exact HO_14.out) gb116 (Nat.le_of_eq hg.symm)) hb)
              have n1_ := Aside0.mk (Kd.R_below (Kd.R_elderB (by (with_reducible repeat (first | apply Kd.R_alloc | apply Kd.R_drewN | apply Kd.R_drew)); exact HO_17.out) gb116 (Nat.le_of_eq hg.symm)) hb)
              have n2_ := Aside0.mk (below_step (by repeat (first | (with_reducible first | exact HB.out | apply below_alloc | apply pw_below_drewN | apply below_drew1) | exact HB.out)) hb)
              have n3_ := Aside0.mk (hbox)
              have n4_ := Aside0.mk ((by rw [hg]; exact (below_size (by repeat (first | (with_reducible first | exact HB.out | apply below_alloc | apply pw_below_drewN | apply below_drew1) | exact HB.out))) : w.heap.size ≤ gb116))
              have n5_ := Aside0.mk ((by rw [hg]; exact (below_size (by repeat (first | (with_reducible first | exact HB.out | apply below_alloc | apply pw_below_drewN | apply below_drew1) | exact HB.out))) : w.heap.size ≤ gb116))
              clear HO_14
              clear HO_17
              clear HB
              have HO_14 := n0_
              have HO_17 := n1_
              have HB := n2_
              have BK116 := n3_
              have GW116 := n4_
              have GE116 := n5_
              clear n0_ n1_ n2_ n3_ n4_ n5_
              clear hb hbox hg
              refine hK.out _ _ ⟨HS0_, HS1_, HS2_, HS3_, HS4_, HS5_⟩ (fun hHeld => ?_)
              clear hK K
              refine norm_ (a' := ?_) ?_ ?_
              rotate_left
              ·show Act.put _ (some 23) _ = _
               simp only [Act.put, z1_, z2_, z3_, i64_w, i32_w]
               rfl
              refine one_ (i := 16) (N := some 22) #[true, true, true, true, true, true, true, true, true, true, true, true, true, true, true, true, true, true, false, false] rfl rfl (one_of HT_.out (by kernel_rfl)) (by decide) (fun K hK => ?_)
              refine box_step ?hg (N := 22) ?hd (cs := #[.int .i64 0, .int .i64 0, .int .i64 0]) (t := 34) ?hr ?_; (case hd => rfl); (case hg => rfl); (case hr => first | (go_simp; done) | (go_simp; rfl))
              intro gb115 hg w106 hbox hb
              have HS0_ := (hb.cell (World.block_lt_of_cell? _ _ (hHeld.1))).trans (hHeld.1)
              have HS1_ := (hb.cell (World.block_lt_of_cell? _ _ (hHeld.2.1))).trans (hHeld.2.1)
              have HS2_ := (hb.cell (World.block_lt_of_cell? _ _ (hHeld.2.2.1))).trans (hHeld.2.2.1)
              have HS3_ := (hb.cell (World.block_lt_of_cell? _ _ (hHeld.2.2.2.1))).trans (hHeld.2.2.2.1)
              have HS4_ := (hb.cell (World.block_lt_of_cell? _ _ (hHeld.2.2.2.2.1))).trans (hHeld.2.2.2.2.1)
              have HS5_ := (hb.cell (World.block_lt_of_cell? _ _ (hHeld.2.2.2.2.2))).trans (hHeld.2.2.2.2.2)
              have n0_ := Aside0.mk (Kd.R_below (Kd.R_elderB (by (with_reducible repeat (first | apply Kd.R_alloc | apply Kd.R_drewN | apply Kd.R_drew)); exact HO_14.out) gb115 (Nat.le_of_eq hg.symm)) hb)
              have n1_ := Aside0.mk (Kd.R_below (Kd.R_elderB (by (with_reducible repeat (first | apply Kd.R_alloc | apply Kd.R_drewN | apply Kd.R_drew)); exact HO_17.out) gb115 (Nat.le_of_eq hg.symm)) hb)
              have n2_ := Aside0.mk (blk_below (g := gb116) (o := .cells #[.int .i64 0, .int .i64 0, .int .i64 0] 34 (0, 0)) (by (with_reducible repeat (first | refine blk_drewN ?_ _ | refine blk_drew ?_ | refine blk_alloc ?_ _)); exact BK116.out) hb)
              have n3_ := Aside0.mk (below_step (by repeat (first | (with_reducible first | exact HB.out | apply below_alloc | apply pw_below_drewN | apply below_drew1 | refine below_set ?_ GE116.out) | exact HB.out)) hb)
              have n4_ := Aside0.mk (hbox)
              have n5_ := Aside0.mk ((by rw [hg]; exact (below_size (by repeat (first | (with_reducible first | exact HB.out | apply below_alloc | apply pw_below_drewN | apply below_drew1 | refine below_set ?_ GE116.out) | exact HB.out))) : w.heap.size ≤ gb115))
              have n6_ := Aside0.mk ((by rw [hg]; exact (below_size (by repeat (first | (with_reducible first | exact HB.out | apply below_alloc | apply pw_below_drewN | apply below_drew1 | refine below_set ?_ GE116.out) | exact HB.out))) : w.heap.size ≤ gb115))
              have n7_ := Aside0.mk ((by rw [hg]; exact Nat.ne_of_lt (blk_lt (g := gb116) (o := .cells #[.int .i64 0, .int .i64 0, .int .i64 0] 34 (0, 0)) (by (with_reducible repeat (first | refine blk_drewN ?_ _ | refine blk_drew ?_ | refine blk_alloc ?_ _)); exact BK116.out)) : gb116 ≠ gb115))
              have n8_ := Aside0.mk ((by rw [hg]; exact Nat.ne_of_gt (blk_lt (g := gb116) (o := .cells #[.int .i64 0, .int .i64 0, .int .i64 0] 34 (0, 0)) (by (with_reducible repeat (first | refine blk_drewN ?_ _ | refine blk_drew ?_ | refine blk_alloc ?_ _)); exact BK116.out)) : gb115 ≠ gb116))
              clear HO_14
              clear HO_17
              clear BK116
              clear HB
              have HO_14 := n0_
              have HO_17 := n1_
              have BK116 := n2_
              have HB := n3_
              have BK115 := n4_
              have GW115 := n5_
              have GE115 := n6_
              have NB116_115 := n7_
              have NB115_116 := n8_
              clear n0_ n1_ n2_ n3_ n4_ n5_ n6_ n7_ n8_
              clear hb hbox hg
              refine hK.out _ _ ⟨HS0_, HS1_, HS2_, HS3_, HS4_, HS5_⟩ (fun hHeld => ?_)
              clear hK K
              refine norm_ (a' := ?_) ?_ ?_
              rotate_left
              ·show Act.put _ (some 22) _ = _
               simp only [Act.put, z1_, z2_, z3_, i64_w, i32_w]
               rfl
              exact norm_ (by simp only [putAll, Act.put, z1_, z2_, z3_]) (hCont (gb115, gb116) _ ⟨hHeld, (by (with_reducible repeat (first | apply Kd.R_alloc | apply Kd.R_drewN | apply Kd.R_drew)); exact Kd.R_mono HO_14.out (fun _ hk => ⟨hk.1.1, ⟨hk.2, hk.1.2⟩⟩)), (by (with_reducible repeat (first | apply Kd.R_alloc | apply Kd.R_drewN | apply Kd.R_drew)); exact Kd.R_mono HO_17.out (fun _ hk => ⟨hk.1.1, ⟨hk.2, hk.1.2⟩⟩)), (by (with_reducible repeat (first | refine blk_drewN ?_ _ | refine blk_drew ?_ | refine blk_alloc ?_ _)); exact BK115.out), (by (with_reducible repeat (first | refine blk_drewN ?_ _ | refine blk_drew ?_ | refine blk_alloc ?_ _)); exact BK116.out), GW115.out, GE115.out, NB116_115.out, NB115_116.out, GW116.out, GE116.out, (by repeat (first | (with_reducible first | exact HB.out | apply below_alloc | apply pw_below_drewN | apply below_drew1 | refine below_set ?_ GE116.out | refine below_set ?_ GE115.out) | exact HB.out))⟩)
            rintro ⟨gb115, gb116⟩ w107 ⟨hS_, h0_, h1_, h2_, h3_, h4_, h5_, h6_, h7_, h8_, h9_, h10_⟩
            have n0_ : Aside0 (Kd.R k34 34 w107 w.heap.size (fun k_ => some k_ ≠ (.slice (some ad114) t107.length co104 : Value).ownBlock ∧ k_ ≠ gb115 ∧ k_ ≠ gb116) (.slice (some ad113) t101.length co103) t101) := ⟨h0_⟩
            have n1_ : Aside0 (Kd.R k34 34 w107 w.heap.size (fun k_ => some k_ ≠ (.slice (some ad113) t101.length co103 : Value).ownBlock ∧ k_ ≠ gb115 ∧ k_ ≠ gb116) (.slice (some ad114) t107.length co104) t107) := ⟨h1_⟩
            have n2_ : Aside0 (w107.heap[gb115]? = some (.cells #[.int .i64 0, .int .i64 0, .int .i64 0] 34 (0, 0))) := ⟨h2_⟩
            have n3_ : Aside0 (w107.heap[gb116]? = some (.cells #[.int .i64 0, .int .i64 0, .int .i64 0] 34 (0, 0))) := ⟨h3_⟩
            have n4_ : Aside0 (w.heap.size ≤ gb115) := ⟨h4_⟩
            have n5_ : Aside0 (w.heap.size ≤ gb115) := ⟨h5_⟩
            have n6_ : Aside0 (gb116 ≠ gb115) := ⟨h6_⟩
            have n7_ : Aside0 (gb115 ≠ gb116) := ⟨h7_⟩
            have n8_ : Aside0 (w.heap.size ≤ gb116) := ⟨h8_⟩
            have n9_ : Aside0 (w.heap.size ≤ gb116) := ⟨h9_⟩
            have n10_ : Aside0 (Below w.heap.size w w107) := ⟨h10_⟩
            clear HO_14
            clear HO_17
            clear HB
            clear h0_ h1_ h2_ h3_ h4_ h5_ h6_ h7_ h8_ h9_ h10_
            have HO_14 := n0_
            have HO_17 := n1_
            have BK115 := n2_
            have BK116 := n3_
            have GW115 := n4_
            have GE115 := n5_
            have NB116_115 := n6_
            have NB115_116 := n7_
            have GW116 := n8_
            have GE116 := n9_
            have HB := n10_
            clear n0_ n1_ n2_ n3_ n4_ n5_ n6_ n7_ n8_ n9_ n10_
            have hHeld : w107.cell? (ad113.add (((ji63)).toNat * 3)) = some (.int .i64 ((rd_T34 t101 (ji63)).f0)) ∧ w107.cell? ⟨(ad113.add (((ji63)).toNat * 3)).block, (ad113.add (((ji63)).toNat * 3)).off + 1, none⟩ = some (.int .i64 ((rd_T34 t101 (ji63)).f1)) ∧ w107.cell? ⟨(ad113.add (((ji63)).toNat * 3)).block, (ad113.add (((ji63)).toNat * 3)).off + 2, none⟩ = some (.int .i64 ((rd_T34 t101 (ji63)).f2)) ∧ w107.cell? (ad114.add (((ji66)).toNat * 3)) = some (.int .i64 ((rd_T34 t107 (ji66)).f0)) ∧ w107.cell? ⟨(ad114.add (((ji66)).toNat * 3)).block, (ad114.add (((ji66)).toNat * 3)).off + 1, none⟩ = some (.int .i64 ((rd_T34 t107 (ji66)).f1)) ∧ w107.cell? ⟨(ad114.add (((ji66)).toNat * 3)).block, (ad114.add (((ji66)).toNat * 3)).off + 2, none⟩ = some (.int .i64 ((rd_T34 t107 (ji66)).f2)) := hS_
            refine norm_ (a' := ?_) ?_ ?_
            rotate_left
            ·simp only [putAll, Act.put, z1_, z2_, z3_]
             rfl
            refine one_ (i := 18) (N := none) #[true, true, true, true, true, true, true, true, true, true, true, true, true, true, true, true, true, true, true, false] rfl rfl (one_of HT_.out (by kernel_rfl)) (by decide) (fun K hK => ?_)
            have hs108 : w107.cell? ⟨gb115, 0, none⟩ = some (.int .i64 0) := (blk_cell BK115.out 0).trans rfl
            have hfs108 := blk_frozen BK115.out 0
            have hns108_1 := NB116_115.out
            have hms108_1 := NB115_116.out
            have hs109 : w107.cell? ⟨gb115, 1, none⟩ = some (.int .i64 0) := (blk_cell BK115.out 1).trans rfl
            have hfs109 := blk_frozen BK115.out 1
            have hns109_1 := NB116_115.out
            have hms109_1 := NB115_116.out
            have hs110 : w107.cell? ⟨gb115, 2, none⟩ = some (.int .i64 0) := (blk_cell BK115.out 2).trans rfl
            have hfs110 := blk_frozen BK115.out 2
            have hns110_1 := NB116_115.out
            have hms110_1 := NB115_116.out
            refine skip_ (w1 := ?_) (by rfl) rfl ?_ ?_
            rotate_left
            ·go_simp
             rfl
            refine hK.out _ _ ⟨(by (iterate 3 (refine (cell_far (p := ⟨gb115, _, none⟩) (by first | exact Kd.own_blk (Kd.R_away HO_14.out (fun _ hk => hk.2.1)) | (rw [add_block]; exact Kd.own_blk (Kd.R_away HO_14.out (fun _ hk => hk.2.1)))) _).trans ?_)); exact hHeld.1), (by (iterate 3 (refine (cell_far (p := ⟨gb115, _, none⟩) (by first | exact Kd.own_blk (Kd.R_away HO_14.out (fun _ hk => hk.2.1)) | (rw [add_block]; exact Kd.own_blk (Kd.R_away HO_14.out (fun _ hk => hk.2.1)))) _).trans ?_)); exact hHeld.2.1), (by (iterate 3 (refine (cell_far (p := ⟨gb115, _, none⟩) (by first | exact Kd.own_blk (Kd.R_away HO_14.out (fun _ hk => hk.2.1)) | (rw [add_block]; exact Kd.own_blk (Kd.R_away HO_14.out (fun _ hk => hk.2.1)))) _).trans ?_)); exact hHeld.2.2.1), (by (iterate 3 (refine (cell_far (p := ⟨gb115, _, none⟩) (by first | exact Kd.own_blk (Kd.R_away HO_17.out (fun _ hk => hk.2.1)) | (rw [add_block]; exact Kd.own_blk (Kd.R_away HO_17.out (fun _ hk => hk.2.1)))) _).trans ?_)); exact hHeld.2.2.2.1), (by (iterate 3 (refine (cell_far (p := ⟨gb115, _, none⟩) (by first | exact Kd.own_blk (Kd.R_away HO_17.out (fun _ hk => hk.2.1)) | (rw [add_block]; exact Kd.own_blk (Kd.R_away HO_17.out (fun _ hk => hk.2.1)))) _).trans ?_)); exact hHeld.2.2.2.2.1), (by (iterate 3 (refine (cell_far (p := ⟨gb115, _, none⟩) (by first | exact Kd.own_blk (Kd.R_away HO_17.out (fun _ hk => hk.2.1)) | (rw [add_block]; exact Kd.own_blk (Kd.R_away HO_17.out (fun _ hk => hk.2.1)))) _).trans ?_)); exact hHeld.2.2.2.2.2)⟩ (fun hHeld => ?_)
            clear hK K
            refine one_ (i := 19) (N := none) #[true, true, true, true, true, true, true, true, true, true, true, true, true, true, true, true, true, true, true, true] rfl rfl (one_of HT_.out (by kernel_rfl)) (by decide) (fun K hK => ?_)
            have hs111 : w107.cell? ⟨gb116, 0, none⟩ = some (.int .i64 0) := (blk_cell BK116.out 0).trans rfl
            have hfs111 := blk_frozen BK116.out 0
            have hns111_0 := NB115_116.out
            have hms111_0 := NB116_115.out
            have hs112 : w107.cell? ⟨gb116, 1, none⟩ = some (.int .i64 0) := (blk_cell BK116.out 1).trans rfl
            have hfs112 := blk_frozen BK116.out 1
            have hns112_0 := NB115_116.out
            have hms112_0 := NB116_115.out
            have hs113 : w107.cell? ⟨gb116, 2, none⟩ = some (.int .i64 0) := (blk_cell BK116.out 2).trans rfl
            have hfs113 := blk_frozen BK116.out 2
            have hns113_0 := NB115_116.out
            have hms113_0 := NB116_115.out
            refine skip_ (w1 := ?_) (by rfl) rfl ?_ ?_
            rotate_left
            ·go_simp
             rfl
            refine hK.out _ _ ⟨(by (iterate 3 (refine (cell_far (p := ⟨gb116, _, none⟩) (by first | exact Kd.own_blk (Kd.R_away HO_14.out (fun _ hk => hk.2.2)) | (rw [add_block]; exact Kd.own_blk (Kd.R_away HO_14.out (fun _ hk => hk.2.2)))) _).trans ?_)); exact hHeld.1), (by (iterate 3 (refine (cell_far (p := ⟨gb116, _, none⟩) (by first | exact Kd.own_blk (Kd.R_away HO_14.out (fun _ hk => hk.2.2)) | (rw [add_block]; exact Kd.own_blk (Kd.R_away HO_14.out (fun _ hk => hk.2.2)))) _).trans ?_)); exact hHeld.2.1), (by (iterate 3 (refine (cell_far (p := ⟨gb116, _, none⟩) (by first | exact Kd.own_blk (Kd.R_away HO_14.out (fun _ hk => hk.2.2)) | (rw [add_block]; exact Kd.own_blk (Kd.R_away HO_14.out (fun _ hk => hk.2.2)))) _).trans ?_)); exact hHeld.2.2.1), (by (iterate 3 (refine (cell_far (p := ⟨gb116, _, none⟩) (by first | exact Kd.own_blk (Kd.R_away HO_17.out (fun _ hk => hk.2.2)) | (rw [add_block]; exact Kd.own_blk (Kd.R_away HO_17.out (fun _ hk => hk.2.2)))) _).trans ?_)); exact hHeld.2.2.2.1), (by (iterate 3 (refine (cell_far (p := ⟨gb116, _, none⟩) (by first | exact Kd.own_blk (Kd.R_away HO_17.out (fun _ hk => hk.2.2)) | (rw [add_block]; exact Kd.own_blk (Kd.R_away HO_17.out (fun _ hk => hk.2.2)))) _).trans ?_)); exact hHeld.2.2.2.2.1), (by (iterate 3 (refine (cell_far (p := ⟨gb116, _, none⟩) (by first | exact Kd.own_blk (Kd.R_away HO_17.out (fun _ hk => hk.2.2)) | (rw [add_block]; exact Kd.own_blk (Kd.R_away HO_17.out (fun _ hk => hk.2.2)))) _).trans ?_)); exact hHeld.2.2.2.2.2)⟩ (fun hHeld => ?_)
            clear hK K
            refine done_ (done_of HT_.out (by kernel_rfl)) ?_
            have hnb114 := NB115_116.out
            have hnc114 := NB116_115.out
            have hcz115_0 : w107.cell? ⟨gb115, 0, none⟩ = some (.int .i64 0) := (blk_cell BK115.out 0).trans rfl
            have hcz115_1 : w107.cell? ⟨gb115, 1, none⟩ = some (.int .i64 0) := (blk_cell BK115.out 1).trans rfl
            have hcz115_2 : w107.cell? ⟨gb115, 2, none⟩ = some (.int .i64 0) := (blk_cell BK115.out 2).trans rfl
            have hfz115_0 := blk_frozen BK115.out 0
            have hfz115_1 := blk_frozen BK115.out 1
            have hfz115_2 := blk_frozen BK115.out 2
            have hcz116_0 : w107.cell? ⟨gb116, 0, none⟩ = some (.int .i64 0) := (blk_cell BK116.out 0).trans rfl
            have hcz116_1 : w107.cell? ⟨gb116, 1, none⟩ = some (.int .i64 0) := (blk_cell BK116.out 1).trans rfl
            have hcz116_2 : w107.cell? ⟨gb116, 2, none⟩ = some (.int .i64 0) := (blk_cell BK116.out 2).trans rfl
            have hfz116_0 := blk_frozen BK116.out 0
            have hfz116_1 := blk_frozen BK116.out 1
            have hfz116_2 := blk_frozen BK116.out 2
            try go_wp2
            refine bodyPost_ret (results_list (rs := [.tmp 10, .tmp 11, .tmp 12, .tmp 13]) rfl (by simp) (.tmp (.tmp (.tmp (.tmp .nil))))) rfl ?_
            exact ⟨_, by first | rfl | (simp [errW_none, errW_some] <;> rfl) | (simp only [← hji33, ← hji63, ← hji66]; first | rfl | (simp [errW_none, errW_some] <;> rfl)) | (simp [*, errW_none, errW_some] <;> rfl), by (with_reducible repeat (first | apply Kd.R_alloc | apply Kd.R_drewN | apply Kd.R_drew)); exact Kd.R_mono (Kd.R_far (p := ⟨gb116, 2, none⟩) (Kd.R_far (p := ⟨gb116, 1, none⟩) (Kd.R_far (p := ⟨gb116, 0, none⟩) (Kd.R_far (p := ⟨gb115, 2, none⟩) (Kd.R_far (p := ⟨gb115, 1, none⟩) (Kd.R_far (p := ⟨gb115, 0, none⟩) (Kd.R_mono (Kd.R_mono HO_17.out (fun k_ hk => (⟨hk, hk.2.1⟩ : _ ∧ k_ ≠ gb115))) (fun k_ hk => (⟨hk, hk.1.2.2⟩ : _ ∧ k_ ≠ gb116))) (fun _ hk => hk.1.2) (.int .i64 ((rd_T34 t101 (ji63)).f0))) (fun _ hk => hk.1.2) (.int .i64 ((rd_T34 t101 (ji63)).f1))) (fun _ hk => hk.1.2) (.int .i64 ((rd_T34 t101 (ji63)).f2))) (fun _ hk => hk.2) (.int .i64 ((rd_T34 t107 (ji66)).f0))) (fun _ hk => hk.2) (.int .i64 ((rd_T34 t107 (ji66)).f1))) (fun _ hk => hk.2) (.int .i64 ((rd_T34 t107 (ji66)).f2))) (fun _ hk => trivial), by repeat (first | (with_reducible first | exact HB.out | apply below_alloc | apply pw_below_drewN | apply below_drew1 | refine below_set ?_ GE115.out | refine below_set ?_ GE116.out) | exact HB.out)⟩
           rw [if_pos c70] at H
           have c70b0 : ((wrap64 (((rd_T34 t101 (ji63)).f1) + (wrap64 ((a4.size : Int) - a3)))) == ((rd_T34 t107 (ji66)).f1)) = true := beq_iff_eq.mpr c70
           have c70b1 : ((wrap64 (((rd_T34 t101 (ji63)).f1) + (wrap64 ((a4.size : Int) - a3)))) != ((rd_T34 t107 (ji66)).f1)) = false := bne_eq_false_iff_eq.mpr c70
           clear c70
           by_cases c71 : (wrap64 (((rd_T34 t101 (ji63)).f2) + (wrap64 ((a4.size : Int) - a3)))) = ((rd_T34 t107 (ji66)).f2)
           rotate_left
           ·rw [if_neg c71] at H
            have c71b0 : ((wrap64 (((rd_T34 t101 (ji63)).f2) + (wrap64 ((a4.size : Int) - a3)))) == ((rd_T34 t107 (ji66)).f2)) = false := beq_eq_false_iff_ne.mpr c71
            have c71b1 : ((wrap64 (((rd_T34 t101 (ji63)).f2) + (wrap64 ((a4.size : Int) - a3)))) != ((rd_T34 t107 (ji66)).f2)) = true := bne_iff_ne.mpr c71
            simp only [Option.some.injEq, Prod.mk.injEq] at H
            obtain ⟨rfl, rfl, rfl, rfl⟩ := H
            try go_wp2
            have n0_ := Aside0.mk (Kd.R_drew HO_14.out)
            have n1_ := Aside0.mk (Kd.R_drew HO_17.out)
            have n2_ := Aside0.mk (below_drew1 HB.out)
            clear HO_14
            clear HO_17
            clear HB
            have HO_14 := n0_
            have HO_17 := n1_
            have HB := n2_
            clear n0_ n1_ n2_
            obtain ⟨Ao88, co88, eo88⟩ := Kd.R_slice HO_14.out
            (first | subst eo88 | (injection eo88 with f1_ f2_ f3_; have f4_ := f1_.symm; have f5_ := f3_.symm; clear f1_ f2_ f3_; subst f4_; subst f5_))
            have p113 : 0 ≤ ((ji63) : Int) := of_decide_eq_true (by first | (with_reducible assumption) | assumption)
            have q113 : (ji63) < (t101.length : Int) := of_decide_eq_true (by first | (with_reducible assumption) | assumption)
            obtain ⟨ad113, e113, hx113_0, hx113_1, hx113_2⟩ := at_T34 (Kd.R_reads' HO_14.out).2.2 (ji63) p113 q113
            cases e113
            replace p113 := eq_true p113
            replace q113 := eq_true q113
            obtain ⟨Ao89, co89, eo89⟩ := Kd.R_slice HO_17.out
            (first | subst eo89 | (injection eo89 with f1_ f2_ f3_; have f4_ := f1_.symm; have f5_ := f3_.symm; clear f1_ f2_ f3_; subst f4_; subst f5_))
            have p114 : 0 ≤ ((ji66) : Int) := of_decide_eq_true (by first | (with_reducible assumption) | assumption)
            have q114 : (ji66) < (t107.length : Int) := of_decide_eq_true (by first | (with_reducible assumption) | assumption)
            obtain ⟨ad114, e114, hx114_0, hx114_1, hx114_2⟩ := at_T34 (Kd.R_reads' HO_17.out).2.2 (ji66) p114 q114
            cases e114
            replace p114 := eq_true p114
            replace q114 := eq_true q114
            refine start_ (n := 20) (S := fun w' => w'.cell? (ad113.add (((ji63)).toNat * 3)) = some (.int .i64 ((rd_T34 t101 (ji63)).f0)) ∧ w'.cell? ⟨(ad113.add (((ji63)).toNat * 3)).block, (ad113.add (((ji63)).toNat * 3)).off + 1, none⟩ = some (.int .i64 ((rd_T34 t101 (ji63)).f1)) ∧ w'.cell? ⟨(ad113.add (((ji63)).toNat * 3)).block, (ad113.add (((ji63)).toNat * 3)).off + 2, none⟩ = some (.int .i64 ((rd_T34 t101 (ji63)).f2)) ∧ w'.cell? (ad114.add (((ji66)).toNat * 3)) = some (.int .i64 ((rd_T34 t107 (ji66)).f0)) ∧ w'.cell? ⟨(ad114.add (((ji66)).toNat * 3)).block, (ad114.add (((ji66)).toNat * 3)).off + 1, none⟩ = some (.int .i64 ((rd_T34 t107 (ji66)).f1)) ∧ w'.cell? ⟨(ad114.add (((ji66)).toNat * 3)).block, (ad114.add (((ji66)).toNat * 3)).off + 2, none⟩ = some (.int .i64 ((rd_T34 t107 (ji66)).f2))) (ds := []) #[false, false, false, false, false, false, false, false, false, false, false, false, false, false, false, false, false, false, false, false] (by kernel_rfl) rfl rfl ⟨hx113_0, hx113_1, hx113_2, hx114_0, hx114_1, hx114_2⟩ (fun hHeld => ?_); refine with_tabW minuetref9_Again.tab16 minuetref9_Again.bits16 (fun HT_ HW_ => ?_)
            generalize wc.drew = w87 at HO_14 HO_17 HB hx113_0 hx113_1 hx113_2 hx114_0 hx114_1 hx114_2 hHeld ⊢
            refine pure_ (i := 0) (N := some 138) (v := ?_) (a' := ?_) #[true, false, false, false, false, false, false, false, false, false, false, false, false, false, false, false, false, false, false, false] rfl rfl (any_of HT_.out (by kernel_rfl)) (fun _ _ _ h => h) (Or.inl ⟨by rfl, ?_⟩) ?_ ?_
            rotate_left
            ·intro w'
             go_simp
             with_reducible rfl
            rotate_left
            ·simp only [Act.put, z1_, z2_, z3_, i64_w, i32_w]
             rfl
            refine pure_ (i := 1) (N := some 139) (v := ?_) (a' := ?_) #[true, true, false, false, false, false, false, false, false, false, false, false, false, false, false, false, false, false, false, false] rfl rfl (any_of HT_.out (by kernel_rfl)) (fun _ _ _ h => h) (Or.inl ⟨by rfl, ?_⟩) ?_ ?_
            rotate_left
            ·intro w'
             go_simp
             with_reducible rfl
            rotate_left
            ·simp only [Act.put, z1_, z2_, z3_, i64_w, i32_w]
             rfl
            refine pure_ (i := 2) (N := some 140) (v := ?_) (a' := ?_) #[true, true, true, false, false, false, false, false, false, false, false, false, false, false, false, false, false, false, false, false] rfl rfl (any_of HT_.out (by kernel_rfl)) (fun _ _ _ h => h) (Or.inl ⟨by rfl, ?_⟩) ?_ ?_
            rotate_left
            ·intro w'
             go_simp
             with_reducible rfl
            rotate_left
            ·simp only [Act.put, z1_, z2_, z3_, i64_w, i32_w]
             rfl
            refine pure_ (i := 3) (N := some 141) (v := ?_) (a' := ?_) #[true, true, true, true, false, false, false, false, false, false, false, false, false, false, false, false, false, false, false, false] rfl rfl (any_of HT_.out (by kernel_rfl)) (fun _ _ _ h => h) (Or.inl ⟨by rfl, ?_⟩) ?_ ?_
            rotate_left
            ·intro w'
             go_simp
             with_reducible rfl
            rotate_left
            ·simp only [Act.put, z1_, z2_, z3_, i64_w, i32_w]
             rfl
            refine pure_ (i := 4) (N := some 142) (v := ?_) (a' := ?_) #[true, true, true, true, true, false, false, false, false, false, false, false, false, false, false, false, false, false, false, false] rfl rfl (any_of HT_.out (by kernel_rfl)) (fun _ _ _ h => h) (Or.inl ⟨by rfl, ?_⟩) ?_ ?_
            rotate_left
            ·intro w'
             go_simp
             with_reducible rfl
            rotate_left
            ·simp only [Act.put, z1_, z2_, z3_, i64_w, i32_w]
             rfl
            refine pure_ (i := 5) (N := some 143) (v := ?_) (a' := ?_) #[true, true, true, true, true, true, false, false, false, false, false, false, false, false, false, false, false, false, false, false] rfl rfl (any_of HT_.out (by kernel_rfl)) (fun _ _ _ h => h) (Or.inl ⟨by rfl, ?_⟩) ?_ ?_
            rotate_left
            ·intro w'
             go_simp
             with_reducible rfl
            rotate_left
            ·simp only [Act.put, z1_, z2_, z3_, i64_w, i32_w]
             rfl
            refine pure_ (i := 6) (N := some 144) (v := ?_) (a' := ?_) #[true, true, true, true, true, true, true, false, false, false, false, false, false, false, false, false, false, false, false, false] rfl rfl (any_of HT_.out (by kernel_rfl)) (fun _ _ _ h => h) (Or.inl ⟨by rfl, ?_⟩) ?_ ?_
            rotate_left
            ·intro w'
             go_simp
             with_reducible rfl
            rotate_left
            ·simp only [Act.put, z1_, z2_, z3_, i64_w, i32_w]
             rfl
            refine pure_ (i := 8) (N := some 146) (v := ?_) (a' := ?_) #[true, true, true, true, true, true, true, false, true, false, false, false, false, false, false, false, false, false, false, false] rfl rfl (any_of HT_.out (by kernel_rfl)) (fun _ _ _ h => h) (Or.inl ⟨by rfl, ?_⟩) ?_ ?_
            rotate_left
            ·intro w'
             go_simp
             with_reducible rfl
            rotate_left
            ·simp only [Act.put, z1_, z2_, z3_, i64_w, i32_w]
             rfl
            refine pure_ (i := 9) (N := some 147) (v := ?_) (a' := ?_) #[true, true, true, true, true, true, true, false, true, true, false, false, false, false, false, false, false, false, false, false] rfl rfl (any_of HT_.out (by kernel_rfl)) (fun _ _ _ h => h) (Or.inl ⟨by rfl, ?_⟩) ?_ ?_
            rotate_left
            ·intro w'
             go_simp
             with_reducible rfl
            rotate_left
            ·simp only [Act.put, z1_, z2_, z3_, i64_w, i32_w]
             rfl
            refine pure_ (i := 10) (N := some 148) (v := ?_) (a' := ?_) #[true, true, true, true, true, true, true, false, true, true, true, false, false, false, false, false, false, false, false, false] rfl rfl (any_of HT_.out (by kernel_rfl)) (fun _ _ _ h => h) (Or.inl ⟨by rfl, ?_⟩) ?_ ?_
            rotate_left
            ·intro w'
             go_simp
             with_reducible rfl
            rotate_left
            ·simp only [Act.put, z1_, z2_, z3_, i64_w, i32_w]
             rfl
            refine pure_ (i := 11) (N := some 149) (v := ?_) (a' := ?_) #[true, true, true, true, true, true, true, false, true, true, true, true, false, false, false, false, false, false, false, false] rfl rfl (any_of HT_.out (by kernel_rfl)) (fun _ _ _ h => h) (Or.inl ⟨by rfl, ?_⟩) ?_ ?_
            rotate_left
            ·intro w'
             go_simp
             with_reducible rfl
            rotate_left
            ·simp only [Act.put, z1_, z2_, z3_, i64_w, i32_w]
             rfl
            refine pure_ (i := 12) (N := some 150) (v := ?_) (a' := ?_) #[true, true, true, true, true, true, true, false, true, true, true, true, true, false, false, false, false, false, false, false] rfl rfl (any_of HT_.out (by kernel_rfl)) (fun _ _ _ h => h) (Or.inl ⟨by rfl, ?_⟩) ?_ ?_
            rotate_left
            ·intro w'
             go_simp
             with_reducible rfl
            rotate_left
            ·simp only [Act.put, z1_, z2_, z3_, i64_w, i32_w]
             rfl
            refine pure_ (i := 13) (N := some 151) (v := ?_) (a' := ?_) #[true, true, true, true, true, true, true, false, true, true, true, true, true, true, false, false, false, false, false, false] rfl rfl (any_of HT_.out (by kernel_rfl)) (fun _ _ _ h => h) (Or.inl ⟨by rfl, ?_⟩) ?_ ?_
            rotate_left
            ·intro w'
             go_simp
             with_reducible rfl
            rotate_left
            ·simp only [Act.put, z1_, z2_, z3_, i64_w, i32_w]
             rfl
            refine pure_ (i := 14) (N := some 152) (v := ?_) (a' := ?_) #[true, true, true, true, true, true, true, false, true, true, true, true, true, true, true, false, false, false, false, false] rfl rfl (any_of HT_.out (by kernel_rfl)) (fun _ _ _ h => h) (Or.inl ⟨by rfl, ?_⟩) ?_ ?_
            rotate_left
            ·intro w'
             go_simp
             with_reducible rfl
            rotate_left
            ·simp only [Act.put, z1_, z2_, z3_, i64_w, i32_w]
             rfl
            refine take_ (i := 7) (N := some 145) (v := ?_) (a' := ?_) #[true, true, true, true, true, true, true, true, true, true, true, true, true, true, true, false, false, false, false, false] rfl rfl (take_ofW HT_.out HW_.out (by kernel_rfl)) (fun _ _ _ h => h) (Or.inl ⟨by rfl, ?_⟩) hHeld ?_ ?_
            rotate_left
            ·rintro w' ⟨s0, s1, s2, s3, s4, s5⟩
             go_simp
             with_reducible rfl
            rotate_left
            ·simp only [Act.put, z1_, z2_, z3_, i64_w, i32_w]
             rfl
            refine take_ (i := 15) (N := some 153) (v := ?_) (a' := ?_) #[true, true, true, true, true, true, true, true, true, true, true, true, true, true, true, true, false, false, false, false] rfl rfl (take_ofW HT_.out HW_.out (by kernel_rfl)) (fun _ _ _ h => h) (Or.inl ⟨by rfl, ?_⟩) hHeld ?_ ?_
            rotate_left
            ·rintro w' ⟨s0, s1, s2, s3, s4, s5⟩
             go_simp
             with_reducible rfl
            rotate_left
            ·simp only [Act.put, z1_, z2_, z3_, i64_w, i32_w]
             rfl
            refine join_ (σ := Nat × Nat) 2 #[true, true, true, true, true, true, true, true, true, true, true, true, true, true, true, true, true, true, false, false] (fun s_ => [(22, .pointer (some ⟨s_.1, 0, none⟩)), (23, .pointer (some ⟨s_.2, 0, none⟩))]) (fun s_ w' => (w'.cell? (ad113.add (((ji63)).toNat * 3)) = some (.int .i64 ((rd_T34 t101 (ji63)).f0)) ∧ w'.cell? ⟨(ad113.add (((ji63)).toNat * 3)).block, (ad113.add (((ji63)).toNat * 3)).off + 1, none⟩ = some (.int .i64 ((rd_T34 t101 (ji63)).f1)) ∧ w'.cell? ⟨(ad113.add (((ji63)).toNat * 3)).block, (ad113.add (((ji63)).toNat * 3)).off + 2, none⟩ = some (.int .i64 ((rd_T34 t101 (ji63)).f2)) ∧ w'.cell? (ad114.add (((ji66)).toNat * 3)) = some (.int .i64 ((rd_T34 t107 (ji66)).f0)) ∧ w'.cell? ⟨(ad114.add (((ji66)).toNat * 3)).block, (ad114.add (((ji66)).toNat * 3)).off + 1, none⟩ = some (.int .i64 ((rd_T34 t107 (ji66)).f1)) ∧ w'.cell? ⟨(ad114.add (((ji66)).toNat * 3)).block, (ad114.add (((ji66)).toNat * 3)).off + 2, none⟩ = some (.int .i64 ((rd_T34 t107 (ji66)).f2))) ∧ (Kd.R k34 34 w' w.heap.size (fun k_ => some k_ ≠ (.slice (some ad114) t107.length co89 : Value).ownBlock ∧ k_ ≠ s_.1 ∧ k_ ≠ s_.2) (.slice (some ad113) t101.length co88) t101) ∧ (Kd.R k34 34 w' w.heap.size (fun k_ => some k_ ≠ (.slice (some ad113) t101.length co88 : Value).ownBlock ∧ k_ ≠ s_.1 ∧ k_ ≠ s_.2) (.slice (some ad114) t107.length co89) t107) ∧ (w'.heap[s_.1]? = some (.cells #[.int .i64 0, .int .i64 0, .int .i64 0] 34 (0, 0))) ∧ (w'.heap[s_.2]? = some (.cells #[.int .i64 0, .int .i64 0, .int .i64 0] 34 (0, 0))) ∧ (w.heap.size ≤ s_.1) ∧ (w.heap.size ≤ s_.1) ∧ (s_.2 ≠ s_.1) ∧ (s_.1 ≠ s_.2) ∧ (w.heap.size ≤ s_.2) ∧ (w.heap.size ≤ s_.2) ∧ (Below w.heap.size w w')) ?_ ?_
            rotate_left
            ·intro hCont
             refine two_ (i := 16) (j := 17) (Ni := some 22) (Nj := some 23) #[true, true, true, true, true, true, true, true, true, true, true, true, true, true, true, true, true, false, false, false] #[true, true, true, true, true, true, true, true, true, true, true, true, true, true, true, true, false, true, false, false] rfl rfl rfl rfl (two_of HT_.out (by kernel_rfl)) (by decide) (by decide) (fun K hK => ?_) (fun K hK => ?_)
             ·skip
              refine box_step ?hg (N := 22) ?hd (cs := #[.int .i64 0, .int .i64 0, .int .i64 0]) (t := 34) ?hr ?_; (case hd => rfl); (case hg => rfl); (case hr => first | (go_simp; done) | (go_simp; rfl))
              intro gb115 hg w90 hbox hb
              have HS0_ := (hb.cell (World.block_lt_of_cell? _ _ (hHeld.1))).trans (hHeld.1)
              have HS1_ := (hb.cell (World.block_lt_of_cell? _ _ (hHeld.2.1))).trans (hHeld.2.1)
              have HS2_ := (hb.cell (World.block_lt_of_cell? _ _ (hHeld.2.2.1))).trans (hHeld.2.2.1)
              have HS3_ := (hb.cell (World.block_lt_of_cell? _ _ (hHeld.2.2.2.1))).trans (hHeld.2.2.2.1)
              have HS4_ := (hb.cell (World.block_lt_of_cell? _ _ (hHeld.2.2.2.2.1))).trans (hHeld.2.2.2.2.1)
              have HS5_ := (hb.cell (World.block_lt_of_cell? _ _ (hHeld.2.2.2.2.2))).trans (hHeld.2.2.2.2.2)
              have n0_ := Aside0.mk (Kd.R_below (Kd.R_elderB (by (with_reducible repeat (first | apply Kd.R_alloc | apply Kd.R_drewN | apply Kd.R_drew)); exact HO_14.out) gb115 (Nat.le_of_eq hg.symm)) hb)
              have n1_ := Aside0.mk (Kd.R_below (Kd.R_elderB (by (with_reducible repeat (first | apply Kd.R_alloc | apply Kd.R_drewN | apply Kd.R_drew)); exact HO_17.out) gb115 (Nat.le_of_eq hg.symm)) hb)
              have n2_ := Aside0.mk (below_step (by repeat (first | (with_reducible first | exact HB.out | apply below_alloc | apply pw_below_drewN | apply below_drew1) | exact HB.out)) hb)
              have n3_ := Aside0.mk (hbox)
              have n4_ := Aside0.mk ((by rw [hg]; exact (below_size (by repeat (first | (with_reducible first | exact HB.out | apply below_alloc | apply pw_below_drewN | apply below_drew1) | exact HB.out))) : w.heap.size ≤ gb115))
              have n5_ := Aside0.mk ((by rw [hg]; exact (below_size (by repeat (first | (with_reducible first | exact HB.out | apply below_alloc | apply pw_below_drewN | apply below_drew1) | exact HB.out))) : w.heap.size ≤ gb115))
              clear HO_14
              clear HO_17
              clear HB
              have HO_14 := n0_
              have HO_17 := n1_
              have HB := n2_
              have BK115 := n3_
              have GW115 := n4_
              have GE115 := n5_
              clear n0_ n1_ n2_ n3_ n4_ n5_
              clear hb hbox hg
              refine hK.out _ _ ⟨HS0_, HS1_, HS2_, HS3_, HS4_, HS5_⟩ (fun hHeld => ?_)
              clear hK K
              refine norm_ (a' := ?_) ?_ ?_
              rotate_left
              ·show Act.put _ (some 22) _ = _
               simp only [Act.put, z1_, z2_, z3_, i64_w, i32_w]
               rfl
              refine one_ (i := 17) (N := some 23) #[true, true, true, true, true, true, true, true, true, true, true, true, true, true, true, true, true, true, false, false] rfl rfl (one_of HT_.out (by kernel_rfl)) (by decide) (fun K hK => ?_)
              refine box_step ?hg (N := 23) ?hd (cs := #[.int .i64 0, .int .i64 0, .int .i64 0]) (t := 34) ?hr ?_; (case hd => rfl); (case hg => rfl); (case hr => first | (go_simp; done) | (go_simp; rfl))
              intro gb116 hg w91 hbox hb
              have HS0_ := (hb.cell (World.block_lt_of_cell? _ _ (hHeld.1))).trans (hHeld.1)
              have HS1_ := (hb.cell (World.block_lt_of_cell? _ _ (hHeld.2.1))).trans (hHeld.2.1)
              have HS2_ := (hb.cell (World.block_lt_of_cell? _ _ (hHeld.2.2.1))).trans (hHeld.2.2.1)
              have HS3_ := (hb.cell (World.block_lt_of_cell? _ _ (hHeld.2.2.2.1))).trans (hHeld.2.2.2.1)
              have HS4_ := (hb.cell (World.block_lt_of_cell? _ _ (hHeld.2.2.2.2.1))).trans (hHeld.2.2.2.2.1)
              have HS5_ := (hb.cell (World.block_lt_of_cell? _ _ (hHeld.2.2.2.2.2))).trans (hHeld.2.2.2.2.2)
              have n0_ := Aside0.mk (Kd.R_below (Kd.R_elderB (by (with_reducible repeat (first | apply Kd.R_alloc | apply Kd.R_drewN | apply Kd.R_drew)); exact HO_14.out) gb116 (Nat.le_of_eq hg.symm)) hb)
              have n1_ := Aside0.mk (Kd.R_below (Kd.R_elderB (by (with_reducible repeat (first | apply Kd.R_alloc | apply Kd.R_drewN | apply Kd.R_drew)); exact HO_17.out) gb116 (Nat.le_of_eq hg.symm)) hb)
              have n2_ := Aside0.mk (blk_below (g := gb115) (o := .cells #[.int .i64 0, .int .i64 0, .int .i64 0] 34 (0, 0)) (by (with_reducible repeat (first | refine blk_drewN ?_ _ | refine blk_drew ?_ | refine blk_alloc ?_ _)); exact BK115.out) hb)
              have n3_ := Aside0.mk (below_step (by repeat (first | (with_reducible first | exact HB.out | apply below_alloc | apply pw_below_drewN | apply below_drew1 | refine below_set ?_ GE115.out) | exact HB.out)) hb)
              have n4_ := Aside0.mk (hbox)
              have n5_ := Aside0.mk ((by rw [hg]; exact (below_size (by repeat (first | (with_reducible first | exact HB.out | apply below_alloc | apply pw_below_drewN | apply below_drew1 | refine below_set ?_ GE115.out) | exact HB.out))) : w.heap.size ≤ gb116))
              have n6_ := Aside0.mk ((by rw [hg]; exact (below_size (by repeat (first | (with_reducible first | exact HB.out | apply below_alloc | apply pw_below_drewN | apply below_drew1 | refine below_set ?_ GE115.out) | exact HB.out))) : w.heap.size ≤ gb116))
              have n7_ := Aside0.mk ((by rw [hg]; exact Nat.ne_of_lt (blk_lt (g := gb115) (o := .cells #[.int .i64 0, .int .i64 0, .int .i64 0] 34 (0, 0)) (by (with_reducible repeat (first | refine blk_drewN ?_ _ | refine blk_drew ?_ | refine blk_alloc ?_ _)); exact BK115.out)) : gb115 ≠ gb116))
              have n8_ := Aside0.mk ((by rw [hg]; exact Nat.ne_of_gt (blk_lt (g := gb115) (o := .cells #[.int .i64 0, .int .i64 0, .int .i64 0] 34 (0, 0)) (by (with_reducible repeat (first | refine blk_drewN ?_ _ | refine blk_drew ?_ | refine blk_alloc ?_ _)); exact BK115.out)) : gb116 ≠ gb115))
              clear HO_14
              clear HO_17
              clear BK115
              clear HB
              have HO_14 := n0_
              have HO_17 := n1_
              have BK115 := n2_
              have HB := n3_
              have BK116 := n4_
              have GW116 := n5_
              have GE116 := n6_
              have NB115_116 := n7_
              have NB116_115 := n8_
              clear n0_ n1_ n2_ n3_ n4_ n5_ n6_ n7_ n8_
              clear hb hbox hg
              refine hK.out _ _ ⟨HS0_, HS1_, HS2_, HS3_, HS4_, HS5_⟩ (fun hHeld => ?_)
              clear hK K
              refine norm_ (a' := ?_) ?_ ?_
              rotate_left
              ·show Act.put _ (some 23) _ = _
               simp only [Act.put, z1_, z2_, z3_, i64_w, i32_w]
               rfl
              exact norm_ (by simp only [putAll, Act.put, z1_, z2_, z3_]) (hCont (gb115, gb116) _ ⟨hHeld, (by (with_reducible repeat (first | apply Kd.R_alloc | apply Kd.R_drewN | apply Kd.R_drew)); exact Kd.R_mono HO_14.out (fun _ hk => ⟨hk.1.1, ⟨hk.1.2, hk.2⟩⟩)), (by (with_reducible repeat (first | apply Kd.R_alloc | apply Kd.R_drewN | apply Kd.R_drew)); exact Kd.R_mono HO_17.out (fun _ hk => ⟨hk.1.1, ⟨hk.1.2, hk.2⟩⟩)), (by (with_reducible repeat (first | refine blk_drewN ?_ _ | refine blk_drew ?_ | refine blk_alloc ?_ _)); exact BK115.out), (by (with_reducible repeat (first | refine blk_drewN ?_ _ | refine blk_drew ?_ | refine blk_alloc ?_ _)); exact BK116.out), GW115.out, GE115.out, NB116_115.out, NB115_116.out, GW116.out, GE116.out, (by repeat (first | (with_reducible first | exact HB.out | apply below_alloc | apply pw_below_drewN | apply below_drew1 | refine below_set ?_ GE115.out | refine below_set ?_ GE116.out) | exact HB.out))⟩)
             ·skip
              refine box_step ?hg (N := 23) ?hd (cs := #[.int .i64 0, .int .i64 0, .int .i64 0]) (t := 34) ?hr ?_; (case hd => rfl); (case hg => rfl); (case hr => first | (go_simp; done) | (go_simp; rfl))
              intro gb116 hg w90 hbox hb
              have HS0_ := (hb.cell (World.block_lt_of_cell? _ _ (hHeld.1))).trans (hHeld.1)
              have HS1_ := (hb.cell (World.block_lt_of_cell? _ _ (hHeld.2.1))).trans (hHeld.2.1)
              have HS2_ := (hb.cell (World.block_lt_of_cell? _ _ (hHeld.2.2.1))).trans (hHeld.2.2.1)
              have HS3_ := (hb.cell (World.block_lt_of_cell? _ _ (hHeld.2.2.2.1))).trans (hHeld.2.2.2.1)
              have HS4_ := (hb.cell (World.block_lt_of_cell? _ _ (hHeld.2.2.2.2.1))).trans (hHeld.2.2.2.2.1)
              have HS5_ := (hb.cell (World.block_lt_of_cell? _ _ (hHeld.2.2.2.2.2))).trans (hHeld.2.2.2.2.2)
              have n0_ := Aside0.mk (Kd.R_below (Kd.R_elderB (by (with_reducible repeat (first | apply Kd.R_alloc | apply Kd.R_drewN | apply Kd.R_drew)); exact HO_14.out) gb116 (Nat.le_of_eq hg.symm)) hb)
              have n1_ := Aside0.mk (Kd.R_below (Kd.R_elderB (by (with_reducible repeat (first | apply Kd.R_alloc | apply Kd.R_drewN | apply Kd.R_drew)); exact HO_17.out) gb116 (Nat.le_of_eq hg.symm)) hb)
              have n2_ := Aside0.mk (below_step (by repeat (first | (with_reducible first | exact HB.out | apply below_alloc | apply pw_below_drewN | apply below_drew1) | exact HB.out)) hb)
              have n3_ := Aside0.mk (hbox)
              have n4_ := Aside0.mk ((by rw [hg]; exact (below_size (by repeat (first | (with_reducible first | exact HB.out | apply below_alloc | apply pw_below_drewN | apply below_drew1) | exact HB.out))) : w.heap.size ≤ gb116))
              have n5_ := Aside0.mk ((by rw [hg]; exact (below_size (by repeat (first | (with_reducible first | exact HB.out | apply below_alloc | apply pw_below_drewN | apply below_drew1) | exact HB.out))) : w.heap.size ≤ gb116))
              clear HO_14
              clear HO_17
              clear HB
              have HO_14 := n0_
              have HO_17 := n1_
              have HB := n2_
              have BK116 := n3_
              have GW116 := n4_
              have GE116 := n5_
              clear n0_ n1_ n2_ n3_ n4_ n5_
              clear hb hbox hg
              refine hK.out _ _ ⟨HS0_, HS1_, HS2_, HS3_, HS4_, HS5_⟩ (fun hHeld => ?_)
              clear hK K
              refine norm_ (a' := ?_) ?_ ?_
              rotate_left
              ·show Act.put _ (some 23) _ = _
               simp only [Act.put, z1_, z2_, z3_, i64_w, i32_w]
               rfl
              refine one_ (i := 16) (N := some 22) #[true, true, true, true, true, true, true, true, true, true, true, true, true, true, true, true, true, true, false, false] rfl rfl (one_of HT_.out (by kernel_rfl)) (by decide) (fun K hK => ?_)
              refine box_step ?hg (N := 22) ?hd (cs := #[.int .i64 0, .int .i64 0, .int .i64 0]) (t := 34) ?hr ?_; (case hd => rfl); (case hg => rfl); (case hr => first | (go_simp; done) | (go_simp; rfl))
              intro gb115 hg w91 hbox hb
              have HS0_ := (hb.cell (World.block_lt_of_cell? _ _ (hHeld.1))).trans (hHeld.1)
              have HS1_ := (hb.cell (World.block_lt_of_cell? _ _ (hHeld.2.1))).trans (hHeld.2.1)
              have HS2_ := (hb.cell (World.block_lt_of_cell? _ _ (hHeld.2.2.1))).trans (hHeld.2.2.1)
              have HS3_ := (hb.cell (World.block_lt_of_cell? _ _ (hHeld.2.2.2.1))).trans (hHeld.2.2.2.1)
              have HS4_ := (hb.cell (World.block_lt_of_cell? _ _ (hHeld.2.2.2.2.1))).trans (hHeld.2.2.2.2.1)
              have HS5_ := (hb.cell (World.block_lt_of_cell? _ _ (hHeld.2.2.2.2.2))).trans (hHeld.2.2.2.2.2)
              have n0_ := Aside0.mk (Kd.R_below (Kd.R_elderB (by (with_reducible repeat (first | apply Kd.R_alloc | apply Kd.R_drewN | apply Kd.R_drew)); exact HO_14.out) gb115 (Nat.le_of_eq hg.symm)) hb)
              have n1_ := Aside0.mk (Kd.R_below (Kd.R_elderB (by (with_reducible repeat (first | apply Kd.R_alloc | apply Kd.R_drewN | apply Kd.R_drew)); exact HO_17.out) gb115 (Nat.le_of_eq hg.symm)) hb)
              have n2_ := Aside0.mk (blk_below (g := gb116) (o := .cells #[.int .i64 0, .int .i64 0, .int .i64 0] 34 (0, 0)) (by (with_reducible repeat (first | refine blk_drewN ?_ _ | refine blk_drew ?_ | refine blk_alloc ?_ _)); exact BK116.out) hb)
              have n3_ := Aside0.mk (below_step (by repeat (first | (with_reducible first | exact HB.out | apply below_alloc | apply pw_below_drewN | apply below_drew1 | refine below_set ?_ GE116.out) | exact HB.out)) hb)
              have n4_ := Aside0.mk (hbox)
              have n5_ := Aside0.mk ((by rw [hg]; exact (below_size (by repeat (first | (with_reducible first | exact HB.out | apply below_alloc | apply pw_below_drewN | apply below_drew1 | refine below_set ?_ GE116.out) | exact HB.out))) : w.heap.size ≤ gb115))
              have n6_ := Aside0.mk ((by rw [hg]; exact (below_size (by repeat (first | (with_reducible first | exact HB.out | apply below_alloc | apply pw_below_drewN | apply below_drew1 | refine below_set ?_ GE116.out) | exact HB.out))) : w.heap.size ≤ gb115))
              have n7_ := Aside0.mk ((by rw [hg]; exact Nat.ne_of_lt (blk_lt (g := gb116) (o := .cells #[.int .i64 0, .int .i64 0, .int .i64 0] 34 (0, 0)) (by (with_reducible repeat (first | refine blk_drewN ?_ _ | refine blk_drew ?_ | refine blk_alloc ?_ _)); exact BK116.out)) : gb116 ≠ gb115))
              have n8_ := Aside0.mk ((by rw [hg]; exact Nat.ne_of_gt (blk_lt (g := gb116) (o := .cells #[.int .i64 0, .int .i64 0, .int .i64 0] 34 (0, 0)) (by (with_reducible repeat (first | refine blk_drewN ?_ _ | refine blk_drew ?_ | refine blk_alloc ?_ _)); exact BK116.out)) : gb115 ≠ gb116))
              clear HO_14
              clear HO_17
              clear BK116
              clear HB
              have HO_14 := n0_
              have HO_17 := n1_
              have BK116 := n2_
              have HB := n3_
              have BK115 := n4_
              have GW115 := n5_
              have GE115 := n6_
              have NB116_115 := n7_
              have NB115_116 := n8_
              clear n0_ n1_ n2_ n3_ n4_ n5_ n6_ n7_ n8_
              clear hb hbox hg
              refine hK.out _ _ ⟨HS0_, HS1_, HS2_, HS3_, HS4_, HS5_⟩ (fun hHeld => ?_)
              clear hK K
              refine norm_ (a' := ?_) ?_ ?_
              rotate_left
              ·show Act.put _ (some 22) _ = _
               simp only [Act.put, z1_, z2_, z3_, i64_w, i32_w]
               rfl
              exact norm_ (by simp only [putAll, Act.put, z1_, z2_, z3_]) (hCont (gb115, gb116) _ ⟨hHeld, (by (with_reducible repeat (first | apply Kd.R_alloc | apply Kd.R_drewN | apply Kd.R_drew)); exact Kd.R_mono HO_14.out (fun _ hk => ⟨hk.1.1, ⟨hk.2, hk.1.2⟩⟩)), (by (with_reducible repeat (first | apply Kd.R_alloc | apply Kd.R_drewN | apply Kd.R_drew)); exact Kd.R_mono HO_17.out (fun _ hk => ⟨hk.1.1, ⟨hk.2, hk.1.2⟩⟩)), (by (with_reducible repeat (first | refine blk_drewN ?_ _ | refine blk_drew ?_ | refine blk_alloc ?_ _)); exact BK115.out), (by (with_reducible repeat (first | refine blk_drewN ?_ _ | refine blk_drew ?_ | refine blk_alloc ?_ _)); exact BK116.out), GW115.out, GE115.out, NB116_115.out, NB115_116.out, GW116.out, GE116.out, (by repeat (first | (with_reducible first | exact HB.out | apply below_alloc | apply pw_below_drewN | apply below_drew1 | refine below_set ?_ GE116.out | refine below_set ?_ GE115.out) | exact HB.out))⟩)
            rintro ⟨gb115, gb116⟩ w92 ⟨hS_, h0_, h1_, h2_, h3_, h4_, h5_, h6_, h7_, h8_, h9_, h10_⟩
            have n0_ : Aside0 (Kd.R k34 34 w92 w.heap.size (fun k_ => some k_ ≠ (.slice (some ad114) t107.length co89 : Value).ownBlock ∧ k_ ≠ gb115 ∧ k_ ≠ gb116) (.slice (some ad113) t101.length co88) t101) := ⟨h0_⟩
            have n1_ : Aside0 (Kd.R k34 34 w92 w.heap.size (fun k_ => some k_ ≠ (.slice (some ad113) t101.length co88 : Value).ownBlock ∧ k_ ≠ gb115 ∧ k_ ≠ gb116) (.slice (some ad114) t107.length co89) t107) := ⟨h1_⟩
            have n2_ : Aside0 (w92.heap[gb115]? = some (.cells #[.int .i64 0, .int .i64 0, .int .i64 0] 34 (0, 0))) := ⟨h2_⟩
            have n3_ : Aside0 (w92.heap[gb116]? = some (.cells #[.int .i64 0, .int .i64 0, .int .i64 0] 34 (0, 0))) := ⟨h3_⟩
            have n4_ : Aside0 (w.heap.size ≤ gb115) := ⟨h4_⟩
            have n5_ : Aside0 (w.heap.size ≤ gb115) := ⟨h5_⟩
            have n6_ : Aside0 (gb116 ≠ gb115) := ⟨h6_⟩
            have n7_ : Aside0 (gb115 ≠ gb116) := ⟨h7_⟩
            have n8_ : Aside0 (w.heap.size ≤ gb116) := ⟨h8_⟩
            have n9_ : Aside0 (w.heap.size ≤ gb116) := ⟨h9_⟩
            have n10_ : Aside0 (Below w.heap.size w w92) := ⟨h10_⟩
            clear HO_14
            clear HO_17
            clear HB
            clear h0_ h1_ h2_ h3_ h4_ h5_ h6_ h7_ h8_ h9_ h10_
            have HO_14 := n0_
            have HO_17 := n1_
            have BK115 := n2_
            have BK116 := n3_
            have GW115 := n4_
            have GE115 := n5_
            have NB116_115 := n6_
            have NB115_116 := n7_
            have GW116 := n8_
            have GE116 := n9_
            have HB := n10_
            clear n0_ n1_ n2_ n3_ n4_ n5_ n6_ n7_ n8_ n9_ n10_
            have hHeld : w92.cell? (ad113.add (((ji63)).toNat * 3)) = some (.int .i64 ((rd_T34 t101 (ji63)).f0)) ∧ w92.cell? ⟨(ad113.add (((ji63)).toNat * 3)).block, (ad113.add (((ji63)).toNat * 3)).off + 1, none⟩ = some (.int .i64 ((rd_T34 t101 (ji63)).f1)) ∧ w92.cell? ⟨(ad113.add (((ji63)).toNat * 3)).block, (ad113.add (((ji63)).toNat * 3)).off + 2, none⟩ = some (.int .i64 ((rd_T34 t101 (ji63)).f2)) ∧ w92.cell? (ad114.add (((ji66)).toNat * 3)) = some (.int .i64 ((rd_T34 t107 (ji66)).f0)) ∧ w92.cell? ⟨(ad114.add (((ji66)).toNat * 3)).block, (ad114.add (((ji66)).toNat * 3)).off + 1, none⟩ = some (.int .i64 ((rd_T34 t107 (ji66)).f1)) ∧ w92.cell? ⟨(ad114.add (((ji66)).toNat * 3)).block, (ad114.add (((ji66)).toNat * 3)).off + 2, none⟩ = some (.int .i64 ((rd_T34 t107 (ji66)).f2)) := hS_
            refine norm_ (a' := ?_) ?_ ?_
            rotate_left
            ·simp only [putAll, Act.put, z1_, z2_, z3_]
             rfl
            refine one_ (i := 18) (N := none) #[true, true, true, true, true, true, true, true, true, true, true, true, true, true, true, true, true, true, true, false] rfl rfl (one_of HT_.out (by kernel_rfl)) (by decide) (fun K hK => ?_)
            have hs93 : w92.cell? ⟨gb115, 0, none⟩ = some (.int .i64 0) := (blk_cell BK115.out 0).trans rfl
            have hfs93 := blk_frozen BK115.out 0
            have hns93_1 := NB116_115.out
            have hms93_1 := NB115_116.out
            have hs94 : w92.cell? ⟨gb115, 1, none⟩ = some (.int .i64 0) := (blk_cell BK115.out 1).trans rfl
            have hfs94 := blk_frozen BK115.out 1
            have hns94_1 := NB116_115.out
            have hms94_1 := NB115_116.out
            have hs95 : w92.cell? ⟨gb115, 2, none⟩ = some (.int .i64 0) := (blk_cell BK115.out 2).trans rfl
            have hfs95 := blk_frozen BK115.out 2
            have hns95_1 := NB116_115.out
            have hms95_1 := NB115_116.out
            refine skip_ (w1 := ?_) (by rfl) rfl ?_ ?_
            rotate_left
            ·go_simp
             rfl
            refine hK.out _ _ ⟨(by (iterate 3 (refine (cell_far (p := ⟨gb115, _, none⟩) (by first | exact Kd.own_blk (Kd.R_away HO_14.out (fun _ hk => hk.2.1)) | (rw [add_block]; exact Kd.own_blk (Kd.R_away HO_14.out (fun _ hk => hk.2.1)))) _).trans ?_)); exact hHeld.1), (by (iterate 3 (refine (cell_far (p := ⟨gb115, _, none⟩) (by first | exact Kd.own_blk (Kd.R_away HO_14.out (fun _ hk => hk.2.1)) | (rw [add_block]; exact Kd.own_blk (Kd.R_away HO_14.out (fun _ hk => hk.2.1)))) _).trans ?_)); exact hHeld.2.1), (by (iterate 3 (refine (cell_far (p := ⟨gb115, _, none⟩) (by first | exact Kd.own_blk (Kd.R_away HO_14.out (fun _ hk => hk.2.1)) | (rw [add_block]; exact Kd.own_blk (Kd.R_away HO_14.out (fun _ hk => hk.2.1)))) _).trans ?_)); exact hHeld.2.2.1), (by (iterate 3 (refine (cell_far (p := ⟨gb115, _, none⟩) (by first | exact Kd.own_blk (Kd.R_away HO_17.out (fun _ hk => hk.2.1)) | (rw [add_block]; exact Kd.own_blk (Kd.R_away HO_17.out (fun _ hk => hk.2.1)))) _).trans ?_)); exact hHeld.2.2.2.1), (by (iterate 3 (refine (cell_far (p := ⟨gb115, _, none⟩) (by first | exact Kd.own_blk (Kd.R_away HO_17.out (fun _ hk => hk.2.1)) | (rw [add_block]; exact Kd.own_blk (Kd.R_away HO_17.out (fun _ hk => hk.2.1)))) _).trans ?_)); exact hHeld.2.2.2.2.1), (by (iterate 3 (refine (cell_far (p := ⟨gb115, _, none⟩) (by first | exact Kd.own_blk (Kd.R_away HO_17.out (fun _ hk => hk.2.1)) | (rw [add_block]; exact Kd.own_blk (Kd.R_away HO_17.out (fun _ hk => hk.2.1)))) _).trans ?_)); exact hHeld.2.2.2.2.2)⟩ (fun hHeld => ?_)
            clear hK K
            refine one_ (i := 19) (N := none) #[true, true, true, true, true, true, true, true, true, true, true, true, true, true, true, true, true, true, true, true] rfl rfl (one_of HT_.out (by kernel_rfl)) (by decide) (fun K hK => ?_)
            have hs96 : w92.cell? ⟨gb116, 0, none⟩ = some (.int .i64 0) := (blk_cell BK116.out 0).trans rfl
            have hfs96 := blk_frozen BK116.out 0
            have hns96_0 := NB115_116.out
            have hms96_0 := NB116_115.out
            have hs97 : w92.cell? ⟨gb116, 1, none⟩ = some (.int .i64 0) := (blk_cell BK116.out 1).trans rfl
            have hfs97 := blk_frozen BK116.out 1
            have hns97_0 := NB115_116.out
            have hms97_0 := NB116_115.out
            have hs98 : w92.cell? ⟨gb116, 2, none⟩ = some (.int .i64 0) := (blk_cell BK116.out 2).trans rfl
            have hfs98 := blk_frozen BK116.out 2
            have hns98_0 := NB115_116.out
            have hms98_0 := NB116_115.out
            refine skip_ (w1 := ?_) (by rfl) rfl ?_ ?_
            rotate_left
            ·go_simp
             rfl
            refine hK.out _ _ ⟨(by (iterate 3 (refine (cell_far (p := ⟨gb116, _, none⟩) (by first | exact Kd.own_blk (Kd.R_away HO_14.out (fun _ hk => hk.2.2)) | (rw [add_block]; exact Kd.own_blk (Kd.R_away HO_14.out (fun _ hk => hk.2.2)))) _).trans ?_)); exact hHeld.1), (by (iterate 3 (refine (cell_far (p := ⟨gb116, _, none⟩) (by first | exact Kd.own_blk (Kd.R_away HO_14.out (fun _ hk => hk.2.2)) | (rw [add_block]; exact Kd.own_blk (Kd.R_away HO_14.out (fun _ hk => hk.2.2)))) _).trans ?_)); exact hHeld.2.1), (by (iterate 3 (refine (cell_far (p := ⟨gb116, _, none⟩) (by first | exact Kd.own_blk (Kd.R_away HO_14.out (fun _ hk => hk.2.2)) | (rw [add_block]; exact Kd.own_blk (Kd.R_away HO_14.out (fun _ hk => hk.2.2)))) _).trans ?_)); exact hHeld.2.2.1), (by (iterate 3 (refine (cell_far (p := ⟨gb116, _, none⟩) (by first | exact Kd.own_blk (Kd.R_away HO_17.out (fun _ hk => hk.2.2)) | (rw [add_block]; exact Kd.own_blk (Kd.R_away HO_17.out (fun _ hk => hk.2.2)))) _).trans ?_)); exact hHeld.2.2.2.1), (by (iterate 3 (refine (cell_far (p := ⟨gb116, _, none⟩) (by first | exact Kd.own_blk (Kd.R_away HO_17.out (fun _ hk => hk.2.2)) | (rw [add_block]; exact Kd.own_blk (Kd.R_away HO_17.out (fun _ hk => hk.2.2)))) _).trans ?_)); exact hHeld.2.2.2.2.1), (by (iterate 3 (refine (cell_far (p := ⟨gb116, _, none⟩) (by first | exact Kd.own_blk (Kd.R_away HO_17.out (fun _ hk => hk.2.2)) | (rw [add_block]; exact Kd.own_blk (Kd.R_away HO_17.out (fun _ hk => hk.2.2)))) _).trans ?_)); exact hHeld.2.2.2.2.2)⟩ (fun hHeld => ?_)
            clear hK K
            refine done_ (done_of HT_.out (by kernel_rfl)) ?_
            have hnb99 := NB115_116.out
            have hnc99 := NB116_115.out
            have hcz100_0 : w92.cell? ⟨gb115, 0, none⟩ = some (.int .i64 0) := (blk_cell BK115.out 0).trans rfl
            have hcz100_1 : w92.cell? ⟨gb115, 1, none⟩ = some (.int .i64 0) := (blk_cell BK115.out 1).trans rfl
            have hcz100_2 : w92.cell? ⟨gb115, 2, none⟩ = some (.int .i64 0) := (blk_cell BK115.out 2).trans rfl
            have hfz100_0 := blk_frozen BK115.out 0
            have hfz100_1 := blk_frozen BK115.out 1
            have hfz100_2 := blk_frozen BK115.out 2
            have hcz101_0 : w92.cell? ⟨gb116, 0, none⟩ = some (.int .i64 0) := (blk_cell BK116.out 0).trans rfl
            have hcz101_1 : w92.cell? ⟨gb116, 1, none⟩ = some (.int .i64 0) := (blk_cell BK116.out 1).trans rfl
            have hcz101_2 : w92.cell? ⟨gb116, 2, none⟩ = some (.int .i64 0) := (blk_cell BK116.out 2).trans rfl
            have hfz101_0 := blk_frozen BK116.out 0
            have hfz101_1 := blk_frozen BK116.out 1
            have hfz101_2 := blk_frozen BK116.out 2
            try go_wp2
            refine bodyPost_ret (results_list (rs := [.tmp 10, .tmp 11, .tmp 12, .tmp 13]) rfl (by simp) (.tmp (.tmp (.tmp (.tmp .nil))))) rfl ?_
            exact ⟨_, by first | rfl | (simp [errW_none, errW_some] <;> rfl) | (simp only [← hji33, ← hji63, ← hji66]; first | rfl | (simp [errW_none, errW_some] <;> rfl)) | (simp [*, errW_none, errW_some] <;> rfl), by (with_reducible repeat (first | apply Kd.R_alloc | apply Kd.R_drewN | apply Kd.R_drew)); exact Kd.R_mono (Kd.R_far (p := ⟨gb116, 2, none⟩) (Kd.R_far (p := ⟨gb116, 1, none⟩) (Kd.R_far (p := ⟨gb116, 0, none⟩) (Kd.R_far (p := ⟨gb115, 2, none⟩) (Kd.R_far (p := ⟨gb115, 1, none⟩) (Kd.R_far (p := ⟨gb115, 0, none⟩) (Kd.R_mono (Kd.R_mono HO_17.out (fun k_ hk => (⟨hk, hk.2.1⟩ : _ ∧ k_ ≠ gb115))) (fun k_ hk => (⟨hk, hk.1.2.2⟩ : _ ∧ k_ ≠ gb116))) (fun _ hk => hk.1.2) (.int .i64 ((rd_T34 t101 (ji63)).f0))) (fun _ hk => hk.1.2) (.int .i64 ((rd_T34 t101 (ji63)).f1))) (fun _ hk => hk.1.2) (.int .i64 ((rd_T34 t101 (ji63)).f2))) (fun _ hk => hk.2) (.int .i64 ((rd_T34 t107 (ji66)).f0))) (fun _ hk => hk.2) (.int .i64 ((rd_T34 t107 (ji66)).f1))) (fun _ hk => hk.2) (.int .i64 ((rd_T34 t107 (ji66)).f2))) (fun _ hk => trivial), by repeat (first | (with_reducible first | exact HB.out | apply below_alloc | apply pw_below_drewN | apply below_drew1 | refine below_set ?_ GE115.out | refine below_set ?_ GE116.out) | exact HB.out)⟩
           rw [if_pos c71] at H
           have c71b0 : ((wrap64 (((rd_T34 t101 (ji63)).f2) + (wrap64 ((a4.size : Int) - a3)))) == ((rd_T34 t107 (ji66)).f2)) = true := beq_iff_eq.mpr c71
           have c71b1 : ((wrap64 (((rd_T34 t101 (ji63)).f2) + (wrap64 ((a4.size : Int) - a3)))) != ((rd_T34 t107 (ji66)).f2)) = false := bne_eq_false_iff_eq.mpr c71
           clear c71
           have H' := Aside0.mk H
           clear H
           try go_wp2
           have n0_ := Aside0.mk (Kd.R_drew HO_14.out)
           have n1_ := Aside0.mk (Kd.R_drew HO_17.out)
           have n2_ := Aside0.mk (below_drew1 HB.out)
           clear HO_14
           clear HO_17
           clear HB
           have HO_14 := n0_
           have HO_17 := n1_
           have HB := n2_
           clear n0_ n1_ n2_
           obtain ⟨Ao73, co73, eo73⟩ := Kd.R_slice HO_14.out
           (first | subst eo73 | (injection eo73 with f1_ f2_ f3_; have f4_ := f1_.symm; have f5_ := f3_.symm; clear f1_ f2_ f3_; subst f4_; subst f5_))
           have p113 : 0 ≤ ((ji63) : Int) := of_decide_eq_true (by first | (with_reducible assumption) | assumption)
           have q113 : (ji63) < (t101.length : Int) := of_decide_eq_true (by first | (with_reducible assumption) | assumption)
           obtain ⟨ad113, e113, hx113_0, hx113_1, hx113_2⟩ := at_T34 (Kd.R_reads' HO_14.out).2.2 (ji63) p113 q113
           cases e113
           replace p113 := eq_true p113
           replace q113 := eq_true q113
           obtain ⟨Ao74, co74, eo74⟩ := Kd.R_slice HO_17.out
           (first | subst eo74 | (injection eo74 with f1_ f2_ f3_; have f4_ := f1_.symm; have f5_ := f3_.symm; clear f1_ f2_ f3_; subst f4_; subst f5_))
           have p114 : 0 ≤ ((ji66) : Int) := of_decide_eq_true (by first | (with_reducible assumption) | assumption)
           have q114 : (ji66) < (t107.length : Int) := of_decide_eq_true (by first | (with_reducible assumption) | assumption)
           obtain ⟨ad114, e114, hx114_0, hx114_1, hx114_2⟩ := at_T34 (Kd.R_reads' HO_17.out).2.2 (ji66) p114 q114
           cases e114
           replace p114 := eq_true p114
           replace q114 := eq_true q114
           refine start_ (n := 20) (S := fun w' => w'.cell? (ad113.add (((ji63)).toNat * 3)) = some (.int .i64 ((rd_T34 t101 (ji63)).f0)) ∧ w'.cell? ⟨(ad113.add (((ji63)).toNat * 3)).block, (ad113.add (((ji63)).toNat * 3)).off + 1, none⟩ = some (.int .i64 ((rd_T34 t101 (ji63)).f1)) ∧ w'.cell? ⟨(ad113.add (((ji63)).toNat * 3)).block, (ad113.add (((ji63)).toNat * 3)).off + 2, none⟩ = some (.int .i64 ((rd_T34 t101 (ji63)).f2)) ∧ w'.cell? (ad114.add (((ji66)).toNat * 3)) = some (.int .i64 ((rd_T34 t107 (ji66)).f0)) ∧ w'.cell? ⟨(ad114.add (((ji66)).toNat * 3)).block, (ad114.add (((ji66)).toNat * 3)).off + 1, none⟩ = some (.int .i64 ((rd_T34 t107 (ji66)).f1)) ∧ w'.cell? ⟨(ad114.add (((ji66)).toNat * 3)).block, (ad114.add (((ji66)).toNat * 3)).off + 2, none⟩ = some (.int .i64 ((rd_T34 t107 (ji66)).f2))) (ds := []) #[false, false, false, false, false, false, false, false, false, false, false, false, false, false, false, false, false, false, false, false] (by kernel_rfl) rfl rfl ⟨hx113_0, hx113_1, hx113_2, hx114_0, hx114_1, hx114_2⟩ (fun hHeld => ?_); refine with_tabW minuetref9_Again.tab16 minuetref9_Again.bits16 (fun HT_ HW_ => ?_)
           generalize wc.drew = w72 at HO_14 HO_17 HB hx113_0 hx113_1 hx113_2 hx114_0 hx114_1 hx114_2 hHeld ⊢
           refine pure_ (i := 0) (N := some 138) (v := ?_) (a' := ?_) #[true, false, false, false, false, false, false, false, false, false, false, false, false, false, false, false, false, false, false, false] rfl rfl (any_of HT_.out (by kernel_rfl)) (fun _ _ _ h => h) (Or.inl ⟨by rfl, ?_⟩) ?_ ?_
           rotate_left
           ·intro w'
            go_simp
            with_reducible rfl
           rotate_left
           ·simp only [Act.put, z1_, z2_, z3_, i64_w, i32_w]
            rfl
           refine pure_ (i := 1) (N := some 139) (v := ?_) (a' := ?_) #[true, true, false, false, false, false, false, false, false, false, false, false, false, false, false, false, false, false, false, false] rfl rfl (any_of HT_.out (by kernel_rfl)) (fun _ _ _ h => h) (Or.inl ⟨by rfl, ?_⟩) ?_ ?_
           rotate_left
           ·intro w'
            go_simp
            with_reducible rfl
           rotate_left
           ·simp only [Act.put, z1_, z2_, z3_, i64_w, i32_w]
            rfl
           refine pure_ (i := 2) (N := some 140) (v := ?_) (a' := ?_) #[true, true, true, false, false, false, false, false, false, false, false, false, false, false, false, false, false, false, false, false] rfl rfl (any_of HT_.out (by kernel_rfl)) (fun _ _ _ h => h) (Or.inl ⟨by rfl, ?_⟩) ?_ ?_
           rotate_left
           ·intro w'
            go_simp
            with_reducible rfl
           rotate_left
           ·simp only [Act.put, z1_, z2_, z3_, i64_w, i32_w]
            rfl
           refine pure_ (i := 3) (N := some 141) (v := ?_) (a' := ?_) #[true, true, true, true, false, false, false, false, false, false, false, false, false, false, false, false, false, false, false, false] rfl rfl (any_of HT_.out (by kernel_rfl)) (fun _ _ _ h => h) (Or.inl ⟨by rfl, ?_⟩) ?_ ?_
           rotate_left
           ·intro w'
            go_simp
            with_reducible rfl
           rotate_left
           ·simp only [Act.put, z1_, z2_, z3_, i64_w, i32_w]
            rfl
           refine pure_ (i := 4) (N := some 142) (v := ?_) (a' := ?_) #[true, true, true, true, true, false, false, false, false, false, false, false, false, false, false, false, false, false, false, false] rfl rfl (any_of HT_.out (by kernel_rfl)) (fun _ _ _ h => h) (Or.inl ⟨by rfl, ?_⟩) ?_ ?_
           rotate_left
           ·intro w'
            go_simp
            with_reducible rfl
           rotate_left
           ·simp only [Act.put, z1_, z2_, z3_, i64_w, i32_w]
            rfl
           refine pure_ (i := 5) (N := some 143) (v := ?_) (a' := ?_) #[true, true, true, true, true, true, false, false, false, false, false, false, false, false, false, false, false, false, false, false] rfl rfl (any_of HT_.out (by kernel_rfl)) (fun _ _ _ h => h) (Or.inl ⟨by rfl, ?_⟩) ?_ ?_
           rotate_left
           ·intro w'
            go_simp
            with_reducible rfl
           rotate_left
           ·simp only [Act.put, z1_, z2_, z3_, i64_w, i32_w]
            rfl
           refine pure_ (i := 6) (N := some 144) (v := ?_) (a' := ?_) #[true, true, true, true, true, true, true, false, false, false, false, false, false, false, false, false, false, false, false, false] rfl rfl (any_of HT_.out (by kernel_rfl)) (fun _ _ _ h => h) (Or.inl ⟨by rfl, ?_⟩) ?_ ?_
           rotate_left
           ·intro w'
            go_simp
            with_reducible rfl
           rotate_left
           ·simp only [Act.put, z1_, z2_, z3_, i64_w, i32_w]
            rfl
           refine pure_ (i := 8) (N := some 146) (v := ?_) (a' := ?_) #[true, true, true, true, true, true, true, false, true, false, false, false, false, false, false, false, false, false, false, false] rfl rfl (any_of HT_.out (by kernel_rfl)) (fun _ _ _ h => h) (Or.inl ⟨by rfl, ?_⟩) ?_ ?_
           rotate_left
           ·intro w'
            go_simp
            with_reducible rfl
           rotate_left
           ·simp only [Act.put, z1_, z2_, z3_, i64_w, i32_w]
            rfl
           refine pure_ (i := 9) (N := some 147) (v := ?_) (a' := ?_) #[true, true, true, true, true, true, true, false, true, true, false, false, false, false, false, false, false, false, false, false] rfl rfl (any_of HT_.out (by kernel_rfl)) (fun _ _ _ h => h) (Or.inl ⟨by rfl, ?_⟩) ?_ ?_
           rotate_left
           ·intro w'
            go_simp
            with_reducible rfl
           rotate_left
           ·simp only [Act.put, z1_, z2_, z3_, i64_w, i32_w]
            rfl
           refine pure_ (i := 10) (N := some 148) (v := ?_) (a' := ?_) #[true, true, true, true, true, true, true, false, true, true, true, false, false, false, false, false, false, false, false, false] rfl rfl (any_of HT_.out (by kernel_rfl)) (fun _ _ _ h => h) (Or.inl ⟨by rfl, ?_⟩) ?_ ?_
           rotate_left
           ·intro w'
            go_simp
            with_reducible rfl
           rotate_left
           ·simp only [Act.put, z1_, z2_, z3_, i64_w, i32_w]
            rfl
           refine pure_ (i := 11) (N := some 149) (v := ?_) (a' := ?_) #[true, true, true, true, true, true, true, false, true, true, true, true, false, false, false, false, false, false, false, false] rfl rfl (any_of HT_.out (by kernel_rfl)) (fun _ _ _ h => h) (Or.inl ⟨by rfl, ?_⟩) ?_ ?_
           rotate_left
           ·intro w'
            go_simp
            with_reducible rfl
           rotate_left
           ·simp only [Act.put, z1_, z2_, z3_, i64_w, i32_w]
            rfl
           refine pure_ (i := 12) (N := some 150) (v := ?_) (a' := ?_) #[true, true, true, true, true, true, true, false, true, true, true, true, true, false, false, false, false, false, false, false] rfl rfl (any_of HT_.out (by kernel_rfl)) (fun _ _ _ h => h) (Or.inl ⟨by rfl, ?_⟩) ?_ ?_
           rotate_left
           ·intro w'
            go_simp
            with_reducible rfl
           rotate_left
           ·simp only [Act.put, z1_, z2_, z3_, i64_w, i32_w]
            rfl
           refine pure_ (i := 13) (N := some 151) (v := ?_) (a' := ?_) #[true, true, true, true, true, true, true, false, true, true, true, true, true, true, false, false, false, false, false, false] rfl rfl (any_of HT_.out (by kernel_rfl)) (fun _ _ _ h => h) (Or.inl ⟨by rfl, ?_⟩) ?_ ?_
           rotate_left
           ·intro w'
            go_simp
            with_reducible rfl
           rotate_left
           ·simp only [Act.put, z1_, z2_, z3_, i64_w, i32_w]
            rfl
           refine pure_ (i := 14) (N := some 152) (v := ?_) (a' := ?_) #[true, true, true, true, true, true, true, false, true, true, true, true, true, true, true, false, false, false, false, false] rfl rfl (any_of HT_.out (by kernel_rfl)) (fun _ _ _ h => h) (Or.inl ⟨by rfl, ?_⟩) ?_ ?_
           rotate_left
           ·intro w'
            go_simp
            with_reducible rfl
           rotate_left
           ·simp only [Act.put, z1_, z2_, z3_, i64_w, i32_w]
            rfl
           refine take_ (i := 7) (N := some 145) (v := ?_) (a' := ?_) #[true, true, true, true, true, true, true, true, true, true, true, true, true, true, true, false, false, false, false, false] rfl rfl (take_ofW HT_.out HW_.out (by kernel_rfl)) (fun _ _ _ h => h) (Or.inl ⟨by rfl, ?_⟩) hHeld ?_ ?_
           rotate_left
           ·rintro w' ⟨s0, s1, s2, s3, s4, s5⟩
            go_simp
            with_reducible rfl
           rotate_left
           ·simp only [Act.put, z1_, z2_, z3_, i64_w, i32_w]
            rfl
           refine take_ (i := 15) (N := some 153) (v := ?_) (a' := ?_) #[true, true, true, true, true, true, true, true, true, true, true, true, true, true, true, true, false, false, false, false] rfl rfl (take_ofW HT_.out HW_.out (by kernel_rfl)) (fun _ _ _ h => h) (Or.inl ⟨by rfl, ?_⟩) hHeld ?_ ?_
           rotate_left
           ·rintro w' ⟨s0, s1, s2, s3, s4, s5⟩
            go_simp
            with_reducible rfl
           rotate_left
           ·simp only [Act.put, z1_, z2_, z3_, i64_w, i32_w]
            rfl
           refine join_ (σ := Nat × Nat) 2 #[true, true, true, true, true, true, true, true, true, true, true, true, true, true, true, true, true, true, false, false] (fun s_ => [(22, .pointer (some ⟨s_.1, 0, none⟩)), (23, .pointer (some ⟨s_.2, 0, none⟩))]) (fun s_ w' => (w'.cell? (ad113.add (((ji63)).toNat * 3)) = some (.int .i64 ((rd_T34 t101 (ji63)).f0)) ∧ w'.cell? ⟨(ad113.add (((ji63)).toNat * 3)).block, (ad113.add (((ji63)).toNat * 3)).off + 1, none⟩ = some (.int .i64 ((rd_T34 t101 (ji63)).f1)) ∧ w'.cell? ⟨(ad113.add (((ji63)).toNat * 3)).block, (ad113.add (((ji63)).toNat * 3)).off + 2, none⟩ = some (.int .i64 ((rd_T34 t101 (ji63)).f2)) ∧ w'.cell? (ad114.add (((ji66)).toNat * 3)) = some (.int .i64 ((rd_T34 t107 (ji66)).f0)) ∧ w'.cell? ⟨(ad114.add (((ji66)).toNat * 3)).block, (ad114.add (((ji66)).toNat * 3)).off + 1, none⟩ = some (.int .i64 ((rd_T34 t107 (ji66)).f1)) ∧ w'.cell? ⟨(ad114.add (((ji66)).toNat * 3)).block, (ad114.add (((ji66)).toNat * 3)).off + 2, none⟩ = some (.int .i64 ((rd_T34 t107 (ji66)).f2))) ∧ (Kd.R k34 34 w' w.heap.size (fun k_ => some k_ ≠ (.slice (some ad114) t107.length co74 : Value).ownBlock ∧ k_ ≠ s_.1 ∧ k_ ≠ s_.2) (.slice (some ad113) t101.length co73) t101) ∧ (Kd.R k34 34 w' w.heap.size (fun k_ => some k_ ≠ (.slice (some ad113) t101.length co73 : Value).ownBlock ∧ k_ ≠ s_.1 ∧ k_ ≠ s_.2) (.slice (some ad114) t107.length co74) t107) ∧ (w'.heap[s_.1]? = some (.cells #[.int .i64 0, .int .i64 0, .int .i64 0] 34 (0, 0))) ∧ (w'.heap[s_.2]? = some (.cells #[.int .i64 0, .int .i64 0, .int .i64 0] 34 (0, 0))) ∧ (w.heap.size ≤ s_.1) ∧ (w.heap.size ≤ s_.1) ∧ (s_.2 ≠ s_.1) ∧ (s_.1 ≠ s_.2) ∧ (w.heap.size ≤ s_.2) ∧ (w.heap.size ≤ s_.2) ∧ (Below w.heap.size w w')) ?_ ?_
           rotate_left
           ·intro hCont
            refine two_ (i := 16) (j := 17) (Ni := some 22) (Nj := some 23) #[true, true, true, true, true, true, true, true, true, true, true, true, true, true, true, true, true, false, false, false] #[true, true, true, true, true, true, true, true, true, true, true, true, true, true, true, true, false, true, false, false] rfl rfl rfl rfl (two_of HT_.out (by kernel_rfl)) (by decide) (by decide) (fun K hK => ?_) (fun K hK => ?_)
            ·skip
             refine box_step ?hg (N := 22) ?hd (cs := #[.int .i64 0, .int .i64 0, .int .i64 0]) (t := 34) ?hr ?_; (case hd => rfl); (case hg => rfl); (case hr => first | (go_simp; done) | (go_simp; rfl))
             intro gb115 hg w75 hbox hb
             have HS0_ := (hb.cell (World.block_lt_of_cell? _ _ (hHeld.1))).trans (hHeld.1)
             have HS1_ := (hb.cell (World.block_lt_of_cell? _ _ (hHeld.2.1))).trans (hHeld.2.1)
             have HS2_ := (hb.cell (World.block_lt_of_cell? _ _ (hHeld.2.2.1))).trans (hHeld.2.2.1)
             have HS3_ := (hb.cell (World.block_lt_of_cell? _ _ (hHeld.2.2.2.1))).trans (hHeld.2.2.2.1)
             have HS4_ := (hb.cell (World.block_lt_of_cell? _ _ (hHeld.2.2.2.2.1))).trans (hHeld.2.2.2.2.1)
             have HS5_ := (hb.cell (World.block_lt_of_cell? _ _ (hHeld.2.2.2.2.2))).trans (hHeld.2.2.2.2.2)
             have n0_ := Aside0.mk (Kd.R_below (Kd.R_elderB (by (with_reducible repeat (first | apply Kd.R_alloc | apply Kd.R_drewN | apply Kd.R_drew)); exact HO_14.out) gb115 (Nat.le_of_eq hg.symm)) hb)
             have n1_ := Aside0.mk (Kd.R_below (Kd.R_elderB (by (with_reducible repeat (first | apply Kd.R_alloc | apply Kd.R_drewN | apply Kd.R_drew)); exact HO_17.out) gb115 (Nat.le_of_eq hg.symm)) hb)
             have n2_ := Aside0.mk (below_step (by repeat (first | (with_reducible first | exact HB.out | apply below_alloc | apply pw_below_drewN | apply below_drew1) | exact HB.out)) hb)
             have n3_ := Aside0.mk (hbox)
             have n4_ := Aside0.mk ((by rw [hg]; exact (below_size (by repeat (first | (with_reducible first | exact HB.out | apply below_alloc | apply pw_below_drewN | apply below_drew1) | exact HB.out))) : w.heap.size ≤ gb115))
             have n5_ := Aside0.mk ((by rw [hg]; exact (below_size (by repeat (first | (with_reducible first | exact HB.out | apply below_alloc | apply pw_below_drewN | apply below_drew1) | exact HB.out))) : w.heap.size ≤ gb115))
             clear HO_14
             clear HO_17
             clear HB
             have HO_14 := n0_
             have HO_17 := n1_
             have HB := n2_
             have BK115 := n3_
             have GW115 := n4_
             have GE115 := n5_
             clear n0_ n1_ n2_ n3_ n4_ n5_
             clear hb hbox hg
             refine hK.out _ _ ⟨HS0_, HS1_, HS2_, HS3_, HS4_, HS5_⟩ (fun hHeld => ?_)
             clear hK K
             refine norm_ (a' := ?_) ?_ ?_
             rotate_left
             ·show Act.put _ (some 22) _ = _
              simp only [Act.put, z1_, z2_, z3_, i64_w, i32_w]
              rfl
             refine one_ (i := 17) (N := some 23) #[true, true, true, true, true, true, true, true, true, true, true, true, true, true, true, true, true, true, false, false] rfl rfl (one_of HT_.out (by kernel_rfl)) (by decide) (fun K hK => ?_)
             refine box_step ?hg (N := 23) ?hd (cs := #[.int .i64 0, .int .i64 0, .int .i64 0]) (t := 34) ?hr ?_; (case hd => rfl); (case hg => rfl); (case hr => first | (go_simp; done) | (go_simp; rfl))
             intro gb116 hg w76 hbox hb
             have HS0_ := (hb.cell (World.block_lt_of_cell? _ _ (hHeld.1))).trans (hHeld.1)
             have HS1_ := (hb.cell (World.block_lt_of_cell? _ _ (hHeld.2.1))).trans (hHeld.2.1)
             have HS2_ := (hb.cell (World.block_lt_of_cell? _ _ (hHeld.2.2.1))).trans (hHeld.2.2.1)
             have HS3_ := (hb.cell (World.block_lt_of_cell? _ _ (hHeld.2.2.2.1))).trans (hHeld.2.2.2.1)
             have HS4_ := (hb.cell (World.block_lt_of_cell? _ _ (hHeld.2.2.2.2.1))).trans (hHeld.2.2.2.2.1)
             have HS5_ := (hb.cell (World.block_lt_of_cell? _ _ (hHeld.2.2.2.2.2))).trans (hHeld.2.2.2.2.2)
             have n0_ := Aside0.mk (Kd.R_below (Kd.R_elderB (by (with_reducible repeat (first | apply Kd.R_alloc | apply Kd.R_drewN | apply Kd.R_drew)); exact HO_14.out) gb116 (Nat.le_of_eq hg.symm)) hb)
             have n1_ := Aside0.mk (Kd.R_below (Kd.R_elderB (by (with_reducible repeat (first | apply Kd.R_alloc | apply Kd.R_drewN | apply Kd.R_drew)); exact HO_17.out) gb116 (Nat.le_of_eq hg.symm)) hb)
             have n2_ := Aside0.mk (blk_below (g := gb115) (o := .cells #[.int .i64 0, .int .i64 0, .int .i64 0] 34 (0, 0)) (by (with_reducible repeat (first | refine blk_drewN ?_ _ | refine blk_drew ?_ | refine blk_alloc ?_ _)); exact BK115.out) hb)
             have n3_ := Aside0.mk (below_step (by repeat (first | (with_reducible first | exact HB.out | apply below_alloc | apply pw_below_drewN | apply below_drew1 | refine below_set ?_ GE115.out) | exact HB.out)) hb)
             have n4_ := Aside0.mk (hbox)
             have n5_ := Aside0.mk ((by rw [hg]; exact (below_size (by repeat (first | (with_reducible first | exact HB.out | apply below_alloc | apply pw_below_drewN | apply below_drew1 | refine below_set ?_ GE115.out) | exact HB.out))) : w.heap.size ≤ gb116))
             have n6_ := Aside0.mk ((by rw [hg]; exact (below_size (by repeat (first | (with_reducible first | exact HB.out | apply below_alloc | apply pw_below_drewN | apply below_drew1 | refine below_set ?_ GE115.out) | exact HB.out))) : w.heap.size ≤ gb116))
             have n7_ := Aside0.mk ((by rw [hg]; exact Nat.ne_of_lt (blk_lt (g := gb115) (o := .cells #[.int .i64 0, .int .i64 0, .int .i64 0] 34 (0, 0)) (by (with_reducible repeat (first | refine blk_drewN ?_ _ | refine blk_drew ?_ | refine blk_alloc ?_ _)); exact BK115.out)) : gb115 ≠ gb116))
             have n8_ := Aside0.mk ((by rw [hg]; exact Nat.ne_of_gt (blk_lt (g := gb115) (o := .cells #[.int .i64 0, .int .i64 0, .int .i64 0] 34 (0, 0)) (by (with_reducible repeat (first | refine blk_drewN ?_ _ | refine blk_drew ?_ | refine blk_alloc ?_ _)); exact BK115.out)) : gb116 ≠ gb115))
             clear HO_14
             clear HO_17
             clear BK115
             clear HB
             have HO_14 := n0_
             have HO_17 := n1_
             have BK115 := n2_
             have HB := n3_
             have BK116 := n4_
             have GW116 := n5_
             have GE116 := n6_
             have NB115_116 := n7_
             have NB116_115 := n8_
             clear n0_ n1_ n2_ n3_ n4_ n5_ n6_ n7_ n8_
             clear hb hbox hg
             refine hK.out _ _ ⟨HS0_, HS1_, HS2_, HS3_, HS4_, HS5_⟩ (fun hHeld => ?_)
             clear hK K
             refine norm_ (a' := ?_) ?_ ?_
             rotate_left
             ·show Act.put _ (some 23) _ = _
              simp only [Act.put, z1_, z2_, z3_, i64_w, i32_w]
              rfl
             exact norm_ (by simp only [putAll, Act.put, z1_, z2_, z3_]) (hCont (gb115, gb116) _ ⟨hHeld, (by (with_reducible repeat (first | apply Kd.R_alloc | apply Kd.R_drewN | apply Kd.R_drew)); exact Kd.R_mono HO_14.out (fun _ hk => ⟨hk.1.1, ⟨hk.1.2, hk.2⟩⟩)), (by (with_reducible repeat (first | apply Kd.R_alloc | apply Kd.R_drewN | apply Kd.R_drew)); exact Kd.R_mono HO_17.out (fun _ hk => ⟨hk.1.1, ⟨hk.1.2, hk.2⟩⟩)), (by (with_reducible repeat (first | refine blk_drewN ?_ _ | refine blk_drew ?_ | refine blk_alloc ?_ _)); exact BK115.out), (by (with_reducible repeat (first | refine blk_drewN ?_ _ | refine blk_drew ?_ | refine blk_alloc ?_ _)); exact BK116.out), GW115.out, GE115.out, NB116_115.out, NB115_116.out, GW116.out, GE116.out, (by repeat (first | (with_reducible first | exact HB.out | apply below_alloc | apply pw_below_drewN | apply below_drew1 | refine below_set ?_ GE115.out | refine below_set ?_ GE116.out) | exact HB.out))⟩)
            ·skip
             refine box_step ?hg (N := 23) ?hd (cs := #[.int .i64 0, .int .i64 0, .int .i64 0]) (t := 34) ?hr ?_; (case hd => rfl); (case hg => rfl); (case hr => first | (go_simp; done) | (go_simp; rfl))
             intro gb116 hg w75 hbox hb
             have HS0_ := (hb.cell (World.block_lt_of_cell? _ _ (hHeld.1))).trans (hHeld.1)
             have HS1_ := (hb.cell (World.block_lt_of_cell? _ _ (hHeld.2.1))).trans (hHeld.2.1)
             have HS2_ := (hb.cell (World.block_lt_of_cell? _ _ (hHeld.2.2.1))).trans (hHeld.2.2.1)
             have HS3_ := (hb.cell (World.block_lt_of_cell? _ _ (hHeld.2.2.2.1))).trans (hHeld.2.2.2.1)
             have HS4_ := (hb.cell (World.block_lt_of_cell? _ _ (hHeld.2.2.2.2.1))).trans (hHeld.2.2.2.2.1)
             have HS5_ := (hb.cell (World.block_lt_of_cell? _ _ (hHeld.2.2.2.2.2))).trans (hHeld.2.2.2.2.2)
             have n0_ := Aside0.mk (Kd.R_below (Kd.R_elderB (by (with_reducible repeat (first | apply Kd.R_alloc | apply Kd.R_drewN | apply Kd.R_drew)); exact HO_14.out) gb116 (Nat.le_of_eq hg.symm)) hb)
             have n1_ := Aside0.mk (Kd.R_below (Kd.R_elderB (by (with_reducible repeat (first | apply Kd.R_alloc | apply Kd.R_drewN | apply Kd.R_drew)); exact HO_17.out) gb116 (Nat.le_of_eq hg.symm)) hb)
             have n2_ := Aside0.mk (below_step (by repeat (first | (with_reducible first | exact HB.out | apply below_alloc | apply pw_below_drewN | apply below_drew1) | exact HB.out)) hb)
             have n3_ := Aside0.mk (hbox)
             have n4_ := Aside0.mk ((by rw [hg]; exact (below_size (by repeat (first | (with_reducible first | exact HB.out | apply below_alloc | apply pw_below_drewN | apply below_drew1) | exact HB.out))) : w.heap.size ≤ gb116))
             have n5_ := Aside0.mk ((by rw [hg]; exact (below_size (by repeat (first | (with_reducible first | exact HB.out | apply below_alloc | apply pw_below_drewN | apply below_drew1) | exact HB.out))) : w.heap.size ≤ gb116))
             clear HO_14
             clear HO_17
             clear HB
             have HO_14 := n0_
             have HO_17 := n1_
             have HB := n2_
             have BK116 := n3_
             have GW116 := n4_
             have GE116 := n5_
             clear n0_ n1_ n2_ n3_ n4_ n5_
             clear hb hbox hg
             refine hK.out _ _ ⟨HS0_, HS1_, HS2_, HS3_, HS4_, HS5_⟩ (fun hHeld => ?_)
             clear hK K
             refine norm_ (a' := ?_) ?_ ?_
             rotate_left
             ·show Act.put _ (some 23) _ = _
              simp only [Act.put, z1_, z2_, z3_, i64_w, i32_w]
              rfl
             refine one_ (i := 16) (N := some 22) #[true, true, true, true, true, true, true, true, true, true, true, true, true, true, true, true, true, true, false, false] rfl rfl (one_of HT_.out (by kernel_rfl)) (by decide) (fun K hK => ?_)
             refine box_step ?hg (N := 22) ?hd (cs := #[.int .i64 0, .int .i64 0, .int .i64 0]) (t := 34) ?hr ?_; (case hd => rfl); (case hg => rfl); (case hr => first | (go_simp; done) | (go_simp; rfl))
             intro gb115 hg w76 hbox hb
             have HS0_ := (hb.cell (World.block_lt_of_cell? _ _ (hHeld.1))).trans (hHeld.1)
             have HS1_ := (hb.cell (World.block_lt_of_cell? _ _ (hHeld.2.1))).trans (hHeld.2.1)
             have HS2_ := (hb.cell (World.block_lt_of_cell? _ _ (hHeld.2.2.1))).trans (hHeld.2.2.1)
             have HS3_ := (hb.cell (World.block_lt_of_cell? _ _ (hHeld.2.2.2.1))).trans (hHeld.2.2.2.1)
             have HS4_ := (hb.cell (World.block_lt_of_cell? _ _ (hHeld.2.2.2.2.1))).trans (hHeld.2.2.2.2.1)
             have HS5_ := (hb.cell (World.block_lt_of_cell? _ _ (hHeld.2.2.2.2.2))).trans (hHeld.2.2.2.2.2)
             have n0_ := Aside0.mk (Kd.R_below (Kd.R_elderB (by (with_reducible repeat (first | apply Kd.R_alloc | apply Kd.R_drewN | apply Kd.R_drew)); exact HO_14.out) gb115 (Nat.le_of_eq hg.symm)) hb)
             have n1_ := Aside0.mk (Kd.R_below (Kd.R_elderB (by (with_reducible repeat (first | apply Kd.R_alloc | apply Kd.R_drewN | apply Kd.R_drew)); exact HO_17.out) gb115 (Nat.le_of_eq hg.symm)) hb)
             have n2_ := Aside0.mk (blk_below (g := gb116) (o := .cells #[.int .i64 0, .int .i64 0, .int .i64 0] 34 (0, 0)) (by (with_reducible repeat (first | refine blk_drewN ?_ _ | refine blk_drew ?_ | refine blk_alloc ?_ _)); exact BK116.out) hb)
             have n3_ := Aside0.mk (below_step (by repeat (first | (with_reducible first | exact HB.out | apply below_alloc | apply pw_below_drewN | apply below_drew1 | refine below_set ?_ GE116.out) | exact HB.out)) hb)
             have n4_ := Aside0.mk (hbox)
             have n5_ := Aside0.mk ((by rw [hg]; exact (below_size (by repeat (first | (with_reducible first | exact HB.out | apply below_alloc | apply pw_below_drewN | apply below_drew1 | refine below_set ?_ GE116.out) | exact HB.out))) : w.heap.size ≤ gb115))
             have n6_ := Aside0.mk ((by rw [hg]; exact (below_size (by repeat (first | (with_reducible first | exact HB.out | apply below_alloc | apply pw_below_drewN | apply below_drew1 | refine below_set ?_ GE116.out) | exact HB.out))) : w.heap.size ≤ gb115))
             have n7_ := Aside0.mk ((by rw [hg]; exact Nat.ne_of_lt (blk_lt (g := gb116) (o := .cells #[.int .i64 0, .int .i64 0, .int .i64 0] 34 (0, 0)) (by (with_reducible repeat (first | refine blk_drewN ?_ _ | refine blk_drew ?_ | refine blk_alloc ?_ _)); exact BK116.out)) : gb116 ≠ gb115))
             have n8_ := Aside0.mk ((by rw [hg]; exact Nat.ne_of_gt (blk_lt (g := gb116) (o := .cells #[.int .i64 0, .int .i64 0, .int .i64 0] 34 (0, 0)) (by (with_reducible repeat (first | refine blk_drewN ?_ _ | refine blk_drew ?_ | refine blk_alloc ?_ _)); exact BK116.out)) : gb115 ≠ gb116))
             clear HO_14
             clear HO_17
             clear BK116
             clear HB
             have HO_14 := n0_
             have HO_17 := n1_
             have BK116 := n2_
             have HB := n3_
             have BK115 := n4_
             have GW115 := n5_
             have GE115 := n6_
             have NB116_115 := n7_
             have NB115_116 := n8_
             clear n0_ n1_ n2_ n3_ n4_ n5_ n6_ n7_ n8_
             clear hb hbox hg
             refine hK.out _ _ ⟨HS0_, HS1_, HS2_, HS3_, HS4_, HS5_⟩ (fun hHeld => ?_)
             clear hK K
             refine norm_ (a' := ?_) ?_ ?_
             rotate_left
             ·show Act.put _ (some 22) _ = _
              simp only [Act.put, z1_, z2_, z3_, i64_w, i32_w]
              rfl
             exact norm_ (by simp only [putAll, Act.put, z1_, z2_, z3_]) (hCont (gb115, gb116) _ ⟨hHeld, (by (with_reducible repeat (first | apply Kd.R_alloc | apply Kd.R_drewN | apply Kd.R_drew)); exact Kd.R_mono HO_14.out (fun _ hk => ⟨hk.1.1, ⟨hk.2, hk.1.2⟩⟩)), (by (with_reducible repeat (first | apply Kd.R_alloc | apply Kd.R_drewN | apply Kd.R_drew)); exact Kd.R_mono HO_17.out (fun _ hk => ⟨hk.1.1, ⟨hk.2, hk.1.2⟩⟩)), (by (with_reducible repeat (first | refine blk_drewN ?_ _ | refine blk_drew ?_ | refine blk_alloc ?_ _)); exact BK115.out), (by (with_reducible repeat (first | refine blk_drewN ?_ _ | refine blk_drew ?_ | refine blk_alloc ?_ _)); exact BK116.out), GW115.out, GE115.out, NB116_115.out, NB115_116.out, GW116.out, GE116.out, (by repeat (first | (with_reducible first | exact HB.out | apply below_alloc | apply pw_below_drewN | apply below_drew1 | refine below_set ?_ GE116.out | refine below_set ?_ GE115.out) | exact HB.out))⟩)
           rintro ⟨gb115, gb116⟩ w77 ⟨hS_, h0_, h1_, h2_, h3_, h4_, h5_, h6_, h7_, h8_, h9_, h10_⟩
           have n0_ : Aside0 (Kd.R k34 34 w77 w.heap.size (fun k_ => some k_ ≠ (.slice (some ad114) t107.length co74 : Value).ownBlock ∧ k_ ≠ gb115 ∧ k_ ≠ gb116) (.slice (some ad113) t101.length co73) t101) := ⟨h0_⟩
           have n1_ : Aside0 (Kd.R k34 34 w77 w.heap.size (fun k_ => some k_ ≠ (.slice (some ad113) t101.length co73 : Value).ownBlock ∧ k_ ≠ gb115 ∧ k_ ≠ gb116) (.slice (some ad114) t107.length co74) t107) := ⟨h1_⟩
           have n2_ : Aside0 (w77.heap[gb115]? = some (.cells #[.int .i64 0, .int .i64 0, .int .i64 0] 34 (0, 0))) := ⟨h2_⟩
           have n3_ : Aside0 (w77.heap[gb116]? = some (.cells #[.int .i64 0, .int .i64 0, .int .i64 0] 34 (0, 0))) := ⟨h3_⟩
           have n4_ : Aside0 (w.heap.size ≤ gb115) := ⟨h4_⟩
           have n5_ : Aside0 (w.heap.size ≤ gb115) := ⟨h5_⟩
           have n6_ : Aside0 (gb116 ≠ gb115) := ⟨h6_⟩
           have n7_ : Aside0 (gb115 ≠ gb116) := ⟨h7_⟩
           have n8_ : Aside0 (w.heap.size ≤ gb116) := ⟨h8_⟩
           have n9_ : Aside0 (w.heap.size ≤ gb116) := ⟨h9_⟩
           have n10_ : Aside0 (Below w.heap.size w w77) := ⟨h10_⟩
           clear HO_14
           clear HO_17
           clear HB
           clear h0_ h1_ h2_ h3_ h4_ h5_ h6_ h7_ h8_ h9_ h10_
           have HO_14 := n0_
           have HO_17 := n1_
           have BK115 := n2_
           have BK116 := n3_
           have GW115 := n4_
           have GE115 := n5_
           have NB116_115 := n6_
           have NB115_116 := n7_
           have GW116 := n8_
           have GE116 := n9_
           have HB := n10_
           clear n0_ n1_ n2_ n3_ n4_ n5_ n6_ n7_ n8_ n9_ n10_
           have hHeld : w77.cell? (ad113.add (((ji63)).toNat * 3)) = some (.int .i64 ((rd_T34 t101 (ji63)).f0)) ∧ w77.cell? ⟨(ad113.add (((ji63)).toNat * 3)).block, (ad113.add (((ji63)).toNat * 3)).off + 1, none⟩ = some (.int .i64 ((rd_T34 t101 (ji63)).f1)) ∧ w77.cell? ⟨(ad113.add (((ji63)).toNat * 3)).block, (ad113.add (((ji63)).toNat * 3)).off + 2, none⟩ = some (.int .i64 ((rd_T34 t101 (ji63)).f2)) ∧ w77.cell? (ad114.add (((ji66)).toNat * 3)) = some (.int .i64 ((rd_T34 t107 (ji66)).f0)) ∧ w77.cell? ⟨(ad114.add (((ji66)).toNat * 3)).block, (ad114.add (((ji66)).toNat * 3)).off + 1, none⟩ = some (.int .i64 ((rd_T34 t107 (ji66)).f1)) ∧ w77.cell? ⟨(ad114.add (((ji66)).toNat * 3)).block, (ad114.add (((ji66)).toNat * 3)).off + 2, none⟩ = some (.int .i64 ((rd_T34 t107 (ji66)).f2)) := hS_
           refine norm_ (a' := ?_) ?_ ?_
           rotate_left
           ·simp only [putAll, Act.put, z1_, z2_, z3_]
            rfl
           refine one_ (i := 18) (N := none) #[true, true, true, true, true, true, true, true, true, true, true, true, true, true, true, true, true, true, true, false] rfl rfl (one_of HT_.out (by kernel_rfl)) (by decide) (fun K hK => ?_)
           have hs78 : w77.cell? ⟨gb115, 0, none⟩ = some (.int .i64 0) := (blk_cell BK115.out 0).trans rfl
           have hfs78 := blk_frozen BK115.out 0
           have hns78_1 := NB116_115.out
           have hms78_1 := NB115_116.out
           have hs79 : w77.cell? ⟨gb115, 1, none⟩ = some (.int .i64 0) := (blk_cell BK115.out 1).trans rfl
           have hfs79 := blk_frozen BK115.out 1
           have hns79_1 := NB116_115.out
           have hms79_1 := NB115_116.out
           have hs80 : w77.cell? ⟨gb115, 2, none⟩ = some (.int .i64 0) := (blk_cell BK115.out 2).trans rfl
           have hfs80 := blk_frozen BK115.out 2
           have hns80_1 := NB116_115.out
           have hms80_1 := NB115_116.out
           refine skip_ (w1 := ?_) (by rfl) rfl ?_ ?_
           rotate_left
           ·go_simp
            rfl
           refine hK.out _ _ ⟨(by (iterate 3 (refine (cell_far (p := ⟨gb115, _, none⟩) (by first | exact Kd.own_blk (Kd.R_away HO_14.out (fun _ hk => hk.2.1)) | (rw [add_block]; exact Kd.own_blk (Kd.R_away HO_14.out (fun _ hk => hk.2.1)))) _).trans ?_)); exact hHeld.1), (by (iterate 3 (refine (cell_far (p := ⟨gb115, _, none⟩) (by first | exact Kd.own_blk (Kd.R_away HO_14.out (fun _ hk => hk.2.1)) | (rw [add_block]; exact Kd.own_blk (Kd.R_away HO_14.out (fun _ hk => hk.2.1)))) _).trans ?_)); exact hHeld.2.1), (by (iterate 3 (refine (cell_far (p := ⟨gb115, _, none⟩) (by first | exact Kd.own_blk (Kd.R_away HO_14.out (fun _ hk => hk.2.1)) | (rw [add_block]; exact Kd.own_blk (Kd.R_away HO_14.out (fun _ hk => hk.2.1)))) _).trans ?_)); exact hHeld.2.2.1), (by (iterate 3 (refine (cell_far (p := ⟨gb115, _, none⟩) (by first | exact Kd.own_blk (Kd.R_away HO_17.out (fun _ hk => hk.2.1)) | (rw [add_block]; exact Kd.own_blk (Kd.R_away HO_17.out (fun _ hk => hk.2.1)))) _).trans ?_)); exact hHeld.2.2.2.1), (by (iterate 3 (refine (cell_far (p := ⟨gb115, _, none⟩) (by first | exact Kd.own_blk (Kd.R_away HO_17.out (fun _ hk => hk.2.1)) | (rw [add_block]; exact Kd.own_blk (Kd.R_away HO_17.out (fun _ hk => hk.2.1)))) _).trans ?_)); exact hHeld.2.2.2.2.1), (by (iterate 3 (refine (cell_far (p := ⟨gb115, _, none⟩) (by first | exact Kd.own_blk (Kd.R_away HO_17.out (fun _ hk => hk.2.1)) | (rw [add_block]; exact Kd.own_blk (Kd.R_away HO_17.out (fun _ hk => hk.2.1)))) _).trans ?_)); exact hHeld.2.2.2.2.2)⟩ (fun hHeld => ?_)
           clear hK K
           refine one_ (i := 19) (N := none) #[true, true, true, true, true, true, true, true, true, true, true, true, true, true, true, true, true, true, true, true] rfl rfl (one_of HT_.out (by kernel_rfl)) (by decide) (fun K hK => ?_)
           have hs81 : w77.cell? ⟨gb116, 0, none⟩ = some (.int .i64 0) := (blk_cell BK116.out 0).trans rfl
           have hfs81 := blk_frozen BK116.out 0
           have hns81_0 := NB115_116.out
           have hms81_0 := NB116_115.out
           have hs82 : w77.cell? ⟨gb116, 1, none⟩ = some (.int .i64 0) := (blk_cell BK116.out 1).trans rfl
           have hfs82 := blk_frozen BK116.out 1
           have hns82_0 := NB115_116.out
           have hms82_0 := NB116_115.out
           have hs83 : w77.cell? ⟨gb116, 2, none⟩ = some (.int .i64 0) := (blk_cell BK116.out 2).trans rfl
           have hfs83 := blk_frozen BK116.out 2
           have hns83_0 := NB115_116.out
           have hms83_0 := NB116_115.out
           refine skip_ (w1 := ?_) (by rfl) rfl ?_ ?_
           rotate_left
           ·go_simp
            rfl
           refine hK.out _ _ ⟨(by (iterate 3 (refine (cell_far (p := ⟨gb116, _, none⟩) (by first | exact Kd.own_blk (Kd.R_away HO_14.out (fun _ hk => hk.2.2)) | (rw [add_block]; exact Kd.own_blk (Kd.R_away HO_14.out (fun _ hk => hk.2.2)))) _).trans ?_)); exact hHeld.1), (by (iterate 3 (refine (cell_far (p := ⟨gb116, _, none⟩) (by first | exact Kd.own_blk (Kd.R_away HO_14.out (fun _ hk => hk.2.2)) | (rw [add_block]; exact Kd.own_blk (Kd.R_away HO_14.out (fun _ hk => hk.2.2)))) _).trans ?_)); exact hHeld.2.1), (by (iterate 3 (refine (cell_far (p := ⟨gb116, _, none⟩) (by first | exact Kd.own_blk (Kd.R_away HO_14.out (fun _ hk => hk.2.2)) | (rw [add_block]; exact Kd.own_blk (Kd.R_away HO_14.out (fun _ hk => hk.2.2)))) _).trans ?_)); exact hHeld.2.2.1), (by (iterate 3 (refine (cell_far (p := ⟨gb116, _, none⟩) (by first | exact Kd.own_blk (Kd.R_away HO_17.out (fun _ hk => hk.2.2)) | (rw [add_block]; exact Kd.own_blk (Kd.R_away HO_17.out (fun _ hk => hk.2.2)))) _).trans ?_)); exact hHeld.2.2.2.1), (by (iterate 3 (refine (cell_far (p := ⟨gb116, _, none⟩) (by first | exact Kd.own_blk (Kd.R_away HO_17.out (fun _ hk => hk.2.2)) | (rw [add_block]; exact Kd.own_blk (Kd.R_away HO_17.out (fun _ hk => hk.2.2)))) _).trans ?_)); exact hHeld.2.2.2.2.1), (by (iterate 3 (refine (cell_far (p := ⟨gb116, _, none⟩) (by first | exact Kd.own_blk (Kd.R_away HO_17.out (fun _ hk => hk.2.2)) | (rw [add_block]; exact Kd.own_blk (Kd.R_away HO_17.out (fun _ hk => hk.2.2)))) _).trans ?_)); exact hHeld.2.2.2.2.2)⟩ (fun hHeld => ?_)
           clear hK K
           refine done_ (done_of HT_.out (by kernel_rfl)) ?_
           have hnb84 := NB115_116.out
           have hnc84 := NB116_115.out
           have hcz85_0 : w77.cell? ⟨gb115, 0, none⟩ = some (.int .i64 0) := (blk_cell BK115.out 0).trans rfl
           have hcz85_1 : w77.cell? ⟨gb115, 1, none⟩ = some (.int .i64 0) := (blk_cell BK115.out 1).trans rfl
           have hcz85_2 : w77.cell? ⟨gb115, 2, none⟩ = some (.int .i64 0) := (blk_cell BK115.out 2).trans rfl
           have hfz85_0 := blk_frozen BK115.out 0
           have hfz85_1 := blk_frozen BK115.out 1
           have hfz85_2 := blk_frozen BK115.out 2
           have hcz86_0 : w77.cell? ⟨gb116, 0, none⟩ = some (.int .i64 0) := (blk_cell BK116.out 0).trans rfl
           have hcz86_1 : w77.cell? ⟨gb116, 1, none⟩ = some (.int .i64 0) := (blk_cell BK116.out 1).trans rfl
           have hcz86_2 : w77.cell? ⟨gb116, 2, none⟩ = some (.int .i64 0) := (blk_cell BK116.out 2).trans rfl
           have hfz86_0 := blk_frozen BK116.out 0
           have hfz86_1 := blk_frozen BK116.out 1
           have hfz86_2 := blk_frozen BK116.out 2
           try go_wp2
           go_roundg kj56
           case measure => have := HJ6.out; have := HK2.out; have := HJ38.out; have := HK4.out; have := HJ56.out; omega
           case rel => exact ⟨(wrap64 (x20_4 + 1)), (by first | rfl | (simp; done) | (simp [*]; done)), H', ⟨by have := HJ6.out; have := HK2.out; have := HJ38.out; have := HK4.out; have := HJ56.out; omega⟩, ⟨by (with_reducible repeat (first | apply Kd.R_alloc | apply Kd.R_drewN | apply Kd.R_drew)); exact Kd.R_mono (Kd.R_far (p := ⟨gb116, 2, none⟩) (Kd.R_far (p := ⟨gb116, 1, none⟩) (Kd.R_far (p := ⟨gb116, 0, none⟩) (Kd.R_far (p := ⟨gb115, 2, none⟩) (Kd.R_far (p := ⟨gb115, 1, none⟩) (Kd.R_far (p := ⟨gb115, 0, none⟩) (Kd.R_mono (Kd.R_mono HO_14.out (fun k_ hk => (⟨hk, hk.2.1⟩ : _ ∧ k_ ≠ gb115))) (fun k_ hk => (⟨hk, hk.1.2.2⟩ : _ ∧ k_ ≠ gb116))) (fun _ hk => hk.1.2) (.int .i64 ((rd_T34 t101 (ji63)).f0))) (fun _ hk => hk.1.2) (.int .i64 ((rd_T34 t101 (ji63)).f1))) (fun _ hk => hk.1.2) (.int .i64 ((rd_T34 t101 (ji63)).f2))) (fun _ hk => hk.2) (.int .i64 ((rd_T34 t107 (ji66)).f0))) (fun _ hk => hk.2) (.int .i64 ((rd_T34 t107 (ji66)).f1))) (fun _ hk => hk.2) (.int .i64 ((rd_T34 t107 (ji66)).f2))) (fun _ hk => hk.1.1.1)⟩, ⟨by (with_reducible repeat (first | apply Kd.R_alloc | apply Kd.R_drewN | apply Kd.R_drew)); exact Kd.R_mono (Kd.R_far (p := ⟨gb116, 2, none⟩) (Kd.R_far (p := ⟨gb116, 1, none⟩) (Kd.R_far (p := ⟨gb116, 0, none⟩) (Kd.R_far (p := ⟨gb115, 2, none⟩) (Kd.R_far (p := ⟨gb115, 1, none⟩) (Kd.R_far (p := ⟨gb115, 0, none⟩) (Kd.R_mono (Kd.R_mono HO_17.out (fun k_ hk => (⟨hk, hk.2.1⟩ : _ ∧ k_ ≠ gb115))) (fun k_ hk => (⟨hk, hk.1.2.2⟩ : _ ∧ k_ ≠ gb116))) (fun _ hk => hk.1.2) (.int .i64 ((rd_T34 t101 (ji63)).f0))) (fun _ hk => hk.1.2) (.int .i64 ((rd_T34 t101 (ji63)).f1))) (fun _ hk => hk.1.2) (.int .i64 ((rd_T34 t101 (ji63)).f2))) (fun _ hk => hk.2) (.int .i64 ((rd_T34 t107 (ji66)).f0))) (fun _ hk => hk.2) (.int .i64 ((rd_T34 t107 (ji66)).f1))) (fun _ hk => hk.2) (.int .i64 ((rd_T34 t107 (ji66)).f2))) (fun _ hk => hk.1.1.1)⟩, ⟨by repeat (first | (with_reducible first | exact HB.out | apply below_alloc | apply pw_below_drewN | apply below_drew1 | refine below_set ?_ GE115.out | refine below_set ?_ GE116.out) | exact HB.out)⟩⟩
end Go.Proofs.Ytnhkdpcncjkmlaa.G
