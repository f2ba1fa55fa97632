-- Laid by this session's own program gprint.py (wip/tools), out of the kit's print and of texts of this session. Lean checks it.
import Derived.Test.YtehojohacombkaaGx0
import Derived.Test.YtehojohacombkaaGMinuetlaw0PNum
import Derived.Test.YtehojohacombkaaGParsePParse
import Derived.Test.YtehojohacombkaaGMinuetlaw0PSameInts
import Derived.Test.YtehojohacombkaaGMinuetlaw11qawake
namespace Go.Proofs.Ytehojohacombkaa.G
open Go.RowKit Go.Proofs.YtehojohacombkaaW.PrintWords Go.Proofs.YtehojohacombkaaW.PrintLast Go.Proofs.YtehojohacombkaaW.PrintMore
open List renaming setIfInBounds_toArray → z1_, set_cons_zero → z2_, set_cons_succ → z3_
attribute [local go_sem] max2_int min2_int max_two min_two max_three min_three max_four min_four   -- for this text's walks alone
set_option linter.unusedVariables false
set_option linter.unusedSimpArgs false

/-! ### minuetlaw11_ParseBlanks: function 11 -/
mutual
def minuetlaw11_ParseBlanks.j0 : Nat → ByteArray → Bool → Int → Int → List (S34) → Int → Int → List (S34) → Option (Bool)
 | 0, _, _, _, _, _, _, _, _ => none
 | k + 1, x5, x54, x113000, x113001, x113002, x120000, x120001, x120002 => if x54 = true then (none) else (minuetlaw11_ParseBlanks.l0 k x5 0 x113000 x113001 x113002 x120000 x120001 x120002)
def minuetlaw11_ParseBlanks.l0 : Nat → ByteArray → Int → Int → Int → List (S34) → Int → Int → List (S34) → Option (Bool)
 | 0, _, _, _, _, _, _, _, _ => none
 | k + 1, x5, x10, x113000, x113001, x113002, x120000, x120001, x120002 => if x10 < (x113002.length : Int) then (if 0 ≤ x10 then (if x10 < (x120002.length : Int) then (if ((rd_T34 x113002 x10).f1) = 0 then (if ((rd_T34 x113002 x10).f0) = ((rd_T34 x120002 x10).f0) then (if ((rd_T34 x113002 x10).f1) = ((rd_T34 x120002 x10).f1) then (if ((rd_T34 x113002 x10).f2) = ((rd_T34 x120002 x10).f2) then (if ((rd_T34 x113002 x10).f3) = (wrap64 (((rd_T34 x120002 x10).f3) - (x5.size : Int))) then ((minuetlaw0_SameInts.f k ((rd_T34 x113002 x10).f4) ((rd_T34 x120002 x10).f4)).bind fun t126 => (if t126 = true then (minuetlaw11_ParseBlanks.l0 k x5 (wrap64 (x10 + 1)) x113000 x113001 x113002 x120000 x120001 x120002) else (none))) else (none)) else (none)) else (none)) else (none)) else (if ((rd_T34 x113002 x10).f0) = ((rd_T34 x120002 x10).f0) then (if ((rd_T34 x113002 x10).f1) = ((rd_T34 x120002 x10).f1) then (if ((rd_T34 x113002 x10).f2) = (wrap64 (((rd_T34 x120002 x10).f2) - (x5.size : Int))) then (if ((rd_T34 x113002 x10).f3) = (wrap64 (((rd_T34 x120002 x10).f3) - (x5.size : Int))) then ((minuetlaw0_SameInts.f k ((rd_T34 x113002 x10).f4) ((rd_T34 x120002 x10).f4)).bind fun t127 => (if t127 = true then (minuetlaw11_ParseBlanks.l0 k x5 (wrap64 (x10 + 1)) x113000 x113001 x113002 x120000 x120001 x120002) else (none))) else (none)) else (none)) else (none)) else (none))) else (none)) else (none)) else (some true)
end
def minuetlaw11_ParseBlanks.f (k : Nat) (a0 : ByteArray) (a1 : Int) : Option (Bool) := (minuetlaw11_awake.f k).bind fun t101 => (if t101 = true then ((some (([(⟨#[32]⟩ : ByteArray), (⟨#[10, 9, 32]⟩ : ByteArray), (⟨#[47, 47, 32, 123, 10]⟩ : ByteArray), (⟨#[47, 42, 32, 91, 49, 93, 32, 42, 47]⟩ : ByteArray)] : List ByteArray) : List ByteArray)).bind fun y102 => (if 0 ≤ (Go.bits .and .i64 a1 3) then (if (Go.bits .and .i64 a1 3) < (y102.length : Int) then (if (wrap64 ((a0.size : Int) + ((rdOf ByteArray.empty y102 (Go.bits .and .i64 a1 3)).size : Int))) > 300 then (some true) else ((parse_Parse.f a0).bind fun bt106 => (if (rdOf ByteArray.empty y102 (Go.bits .and .i64 a1 3)).size + a0.size ≤ 9223372036854775807 then ((parse_Parse.f ((rdOf ByteArray.empty y102 (Go.bits .and .i64 a1 3)) ++ a0)).bind fun bt113 => ((minuetlaw0_Num.f bt106.2.2.2).bind fun t120 => (if t120 = 0 then ((minuetlaw0_Num.f bt113.2.2.2).bind fun t121 => (if t121 = 0 then (minuetlaw11_ParseBlanks.j0 k (rdOf ByteArray.empty y102 (Go.bits .and .i64 a1 3)) ((bt106.2.2.1.length : Int) != (bt113.2.2.1.length : Int)) bt106.1 bt106.2.1 bt106.2.2.1 bt113.1 bt113.2.1 bt113.2.2.1) else (minuetlaw11_ParseBlanks.j0 k (rdOf ByteArray.empty y102 (Go.bits .and .i64 a1 3)) true bt106.1 bt106.2.1 bt106.2.2.1 bt113.1 bt113.2.1 bt113.2.2.1))) else (minuetlaw11_ParseBlanks.j0 k (rdOf ByteArray.empty y102 (Go.bits .and .i64 a1 3)) true bt106.1 bt106.2.1 bt106.2.2.1 bt113.1 bt113.2.1 bt113.2.2.1)))) else (none)))) else (none)) else (none))) else (none))
theorem minuetlaw11_ParseBlanks.mono_l : ∀ k, (∀ y0 y1 y2 y3 y4 y5 y6 y7, LeO (minuetlaw11_ParseBlanks.j0 k y0 y1 y2 y3 y4 y5 y6 y7) (minuetlaw11_ParseBlanks.j0 (k + 1) y0 y1 y2 y3 y4 y5 y6 y7)) ∧ (∀ y0 y1 y2 y3 y4 y5 y6 y7, LeO (minuetlaw11_ParseBlanks.l0 k y0 y1 y2 y3 y4 y5 y6 y7) (minuetlaw11_ParseBlanks.l0 (k + 1) y0 y1 y2 y3 y4 y5 y6 y7))
 | 0 => ⟨fun _ _ _ _ _ _ _ _ r h => by simp [minuetlaw11_ParseBlanks.j0] at h, fun _ _ _ _ _ _ _ _ r h => by simp [minuetlaw11_ParseBlanks.l0] at h⟩
 | k + 1 => by
  obtain ⟨ih0, ih1⟩ := minuetlaw11_ParseBlanks.mono_l k
  refine ⟨?_, ?_⟩
  ·intro y0 y1 y2 y3 y4 y5 y6 y7
   unfold minuetlaw11_ParseBlanks.j0
   repeat' first
   | (with_reducible exact ih0 _ _ _ _ _ _ _ _)
   | (with_reducible exact ih1 _ _ _ _ _ _ _ _)
   | (with_reducible exact minuetlaw0_SameInts.mono _ _ _)
   | (with_reducible exact minuetlaw11_awake.mono _)
   | (with_reducible exact LeO.refl _)
   | (with_reducible exact LeO.none _)
   | (with_reducible refine LeO.ite ?_ ?_)
   | (with_reducible refine LeO.bind ?_ (fun _ => ?_))
   | exact ih0 _ _ _ _ _ _ _ _
   | exact ih1 _ _ _ _ _ _ _ _
   | exact minuetlaw0_SameInts.mono _ _ _
   | exact minuetlaw11_awake.mono _
   | exact LeO.none _
   | refine LeO.ite ?_ ?_
   | refine LeO.bind ?_ (fun _ => ?_)
  ·intro y0 y1 y2 y3 y4 y5 y6 y7
   unfold minuetlaw11_ParseBlanks.l0
   repeat' first
   | (with_reducible exact ih0 _ _ _ _ _ _ _ _)
   | (with_reducible exact ih1 _ _ _ _ _ _ _ _)
   | (with_reducible exact minuetlaw0_SameInts.mono _ _ _)
   | (with_reducible exact minuetlaw11_awake.mono _)
   | (with_reducible exact LeO.refl _)
   | (with_reducible exact LeO.none _)
   | (with_reducible refine LeO.ite ?_ ?_)
   | (with_reducible refine LeO.bind ?_ (fun _ => ?_))
   | exact ih0 _ _ _ _ _ _ _ _
   | exact ih1 _ _ _ _ _ _ _ _
   | exact minuetlaw0_SameInts.mono _ _ _
   | exact minuetlaw11_awake.mono _
   | exact LeO.none _
   | refine LeO.ite ?_ ?_
   | refine LeO.bind ?_ (fun _ => ?_)
theorem minuetlaw11_ParseBlanks.mono : ∀ a0 a1 k, LeO (minuetlaw11_ParseBlanks.f k a0 a1) (minuetlaw11_ParseBlanks.f (k + 1) a0 a1) := by
 intro a0 a1 k
 obtain ⟨ih0, ih1⟩ := minuetlaw11_ParseBlanks.mono_l k
 unfold minuetlaw11_ParseBlanks.f
 repeat' first
  | (with_reducible exact ih0 _ _ _ _ _ _ _ _)
  | (with_reducible exact ih1 _ _ _ _ _ _ _ _)
  | (with_reducible exact minuetlaw0_SameInts.mono _ _ _)
  | (with_reducible exact minuetlaw11_awake.mono _)
  | (with_reducible exact LeO.refl _)
  | (with_reducible exact LeO.none _)
  | (with_reducible refine LeO.ite ?_ ?_)
  | (with_reducible refine LeO.bind ?_ (fun _ => ?_))
  | exact ih0 _ _ _ _ _ _ _ _
  | exact ih1 _ _ _ _ _ _ _ _
  | exact minuetlaw0_SameInts.mono _ _ _
  | exact minuetlaw11_awake.mono _
  | exact LeO.none _
  | refine LeO.ite ?_ ?_
  | refine LeO.bind ?_ (fun _ => ?_)
def minuetlaw11_ParseBlanks.T13 : Bool × List (List Nat × List Nat) := (true, [([], []), ([0], [0]), ([], []), ([1, 2], [1, 2]), ([3], [3]), ([], []), ([5], [5]), ([], []), ([6, 7], [6, 7]), ([8], [8]), ([], []), ([], []), ([10, 4, 0, 1, 2, 3, 4, 10, 11], [4, 10]), ([11, 9, 12, 0, 1, 2, 3, 4, 5, 6, 7, 8, 9, 10, 11, 12], [9, 11])])
def minuetlaw11_ParseBlanks.B13 : List Nat := [0, 1, 0, 7, 15, 0, 32, 0, 224, 480, 0, 0, 3103, 8191]
theorem minuetlaw11_ParseBlanks.tab13 : rtab .any (opsOf Try.f11 13) = minuetlaw11_ParseBlanks.T13 := by kernel_rfl
theorem minuetlaw11_ParseBlanks.bits13 : waitsOk minuetlaw11_ParseBlanks.T13.2 minuetlaw11_ParseBlanks.B13 = true := by kernel_rfl
end Go.Proofs.Ytehojohacombkaa.G
