-- Laid by this session's own program gprint.py (wip/tools), out of the kit's print and of texts of this session. Lean checks it.
import Derived.Test.YtjcoahipcgeoiaaGx0
import Derived.Test.YtjcoahipcgeoiaaGLexPTokens
import Derived.Test.YtjcoahipcgeoiaaGMinuetlaw0PSameTokens
import Derived.Test.YtjcoahipcgeoiaaGMinuetlaw0PNum
import Derived.Test.YtjcoahipcgeoiaaGMinuetlaw9qawake
namespace Go.Proofs.Ytjcoahipcgeoiaa.G
open Go.RowKit Go.Proofs.YtjcoahipcgeoiaaW.PrintWords Go.Proofs.YtjcoahipcgeoiaaW.PrintLast Go.Proofs.YtjcoahipcgeoiaaW.PrintMore
attribute [local go_sem] max2_int min2_int max_two min_two max_three min_three max_four min_four   -- for this text's walks alone
set_option linter.unusedVariables false
set_option linter.unusedSimpArgs false

/-! ### minuetlaw9_LexKinds: function 6 -/
def minuetlaw9_LexKinds.f (k : Nat) (a0 : Int) : Option (Bool) := (minuetlaw9_awake.f k).bind fun t101 => (if t101 = true then ((some (([(⟨#[123]⟩ : ByteArray), (⟨#[125]⟩ : ByteArray), (⟨#[91]⟩ : ByteArray), (⟨#[93]⟩ : ByteArray), (⟨#[58]⟩ : ByteArray), (⟨#[44]⟩ : ByteArray), (⟨#[32, 9, 10, 13, 32]⟩ : ByteArray), (⟨#[34, 34]⟩ : ByteArray), (⟨#[34, 97, 32, 98, 34]⟩ : ByteArray), (⟨#[34, 92, 34, 34]⟩ : ByteArray), (⟨#[34, 92, 92, 34]⟩ : ByteArray), (⟨#[48]⟩ : ByteArray), (⟨#[45, 48]⟩ : ByteArray), (⟨#[49, 50]⟩ : ByteArray), (⟨#[45, 49, 50, 46, 53, 48]⟩ : ByteArray), (⟨#[49, 101, 53]⟩ : ByteArray), (⟨#[49, 69, 43, 53]⟩ : ByteArray), (⟨#[48, 46, 53, 101, 45, 49, 48]⟩ : ByteArray), (⟨#[116, 114, 117, 101]⟩ : ByteArray), (⟨#[102, 97, 108, 115, 101]⟩ : ByteArray), (⟨#[110, 117, 108, 108]⟩ : ByteArray), (⟨#[110, 117, 108]⟩ : ByteArray), (⟨#[84, 114, 117, 101]⟩ : ByteArray), (⟨#[95]⟩ : ByteArray), (⟨#[47, 47, 32, 97]⟩ : ByteArray), (⟨#[47, 47]⟩ : ByteArray), (⟨#[47, 42, 32, 42, 47]⟩ : ByteArray), (⟨#[47, 42, 42, 42, 47]⟩ : ByteArray), (⟨#[47, 42, 42, 47]⟩ : ByteArray), (⟨#[47, 42]⟩ : ByteArray), (⟨#[47, 42, 32, 42]⟩ : ByteArray), (⟨#[47]⟩ : ByteArray), (⟨#[45]⟩ : ByteArray), (⟨#[34]⟩ : ByteArray), (⟨#[34, 97]⟩ : ByteArray), (⟨#[34, 92]⟩ : ByteArray), (⟨#[34, 92, 34]⟩ : ByteArray), (⟨#[46]⟩ : ByteArray), (⟨#[43]⟩ : ByteArray), (⟨#[255]⟩ : ByteArray), (⟨#[0]⟩ : ByteArray), (⟨#[42]⟩ : ByteArray)] : List ByteArray) : List ByteArray)).bind fun y102 => ((some (([0, 1, 2, 3, 4, 5, 10, 6, 6, 6, 6, 7, 7, 7, 7, 7, 7, 7, 8, 8, 8, 11, 11, 11, 9, 9, 9, 9, 9, 11, 11, 11, 11, 11, 11, 11, 11, 11, 11, 11, 11, 11] : List Int) : List Int)).bind fun y105 => (if 0 ≤ (wrap64 (Int.tmod (IntKind.u64.wrap (a0)) 42)) then (if (wrap64 (Int.tmod (IntKind.u64.wrap (a0)) 42)) < (y102.length : Int) then ((lex_Tokens.f (rdOf ByteArray.empty y102 (wrap64 (Int.tmod (IntKind.u64.wrap (a0)) 42)))).bind fun bt109 => ((minuetlaw0_Num.f bt109.2).bind fun t113 => (if t113 = 0 then (if (wrap64 (Int.tmod (IntKind.u64.wrap (a0)) 42)) < (y105.length : Int) then ((minuetlaw0_SameTokens.f k bt109.1 (([(⟨rd y105 (wrap64 (Int.tmod (IntKind.u64.wrap (a0)) 42)), 0, ((rdOf ByteArray.empty y102 (wrap64 (Int.tmod (IntKind.u64.wrap (a0)) 42))).size : Int)⟩ : S34)] : List (S34)))).bind fun t119 => (some t119)) else (none)) else (none)))) else (none)) else (none)))) else (none))
theorem minuetlaw9_LexKinds.mono : ∀ a0 k, LeO (minuetlaw9_LexKinds.f k a0) (minuetlaw9_LexKinds.f (k + 1) a0) := by
 intro a0 k
 unfold minuetlaw9_LexKinds.f
 repeat' first
  | (with_reducible exact minuetlaw0_SameTokens.mono _ _ _)
  | (with_reducible exact minuetlaw9_awake.mono _)
  | (with_reducible exact LeO.refl _)
  | (with_reducible exact LeO.none _)
  | (with_reducible refine LeO.ite ?_ ?_)
  | (with_reducible refine LeO.bind ?_ (fun _ => ?_))
  | exact minuetlaw0_SameTokens.mono _ _ _
  | exact minuetlaw9_awake.mono _
  | exact LeO.none _
  | refine LeO.ite ?_ ?_
  | refine LeO.bind ?_ (fun _ => ?_)
def minuetlaw9_LexKinds.T7 : Bool × List (List Nat × List Nat) := (true, [([], []), ([0], [0]), ([1], [1]), ([2, 1], [2]), ([3], [3]), ([3], [3]), ([3], [3]), ([5, 6, 3], [3, 5, 6]), ([7, 3], [3, 7]), ([3], [3]), ([3], [3]), ([9, 10, 3], [3, 9, 10]), ([11, 3], [3, 11]), ([12, 3], [3, 12]), ([8, 13, 3], [3, 8, 13]), ([14, 3], [3, 14]), ([4, 15, 3, 3], [3, 4, 15]), ([3, 16], [3, 16]), ([17, 16, 0, 1, 2, 3, 4, 5, 6, 7, 8, 9, 10, 11, 12, 13, 14, 15, 16, 17], [17])])
def minuetlaw9_LexKinds.B7 : List Nat := [0, 1, 3, 7, 15, 15, 15, 111, 239, 15, 15, 1551, 3599, 7695, 16367, 32751, 65535, 131071, 262143]
theorem minuetlaw9_LexKinds.tab7 : rtab .any (opsOf Try.f6 7) = minuetlaw9_LexKinds.T7 := by kernel_rfl
theorem minuetlaw9_LexKinds.bits7 : waitsOk minuetlaw9_LexKinds.T7.2 minuetlaw9_LexKinds.B7 = true := by kernel_rfl
set_option maxHeartbeats 8000000 in
set_option maxRecDepth 100000 in
theorem minuetlaw9_LexKinds.calls (k : Nat) (a0 : Int) (r : Bool) (w : World) (hm_ : MaxOk w) (h : minuetlaw9_LexKinds.f k a0 = some r) :
 Calls Try.prog 6 #[.int .i64 a0] w fun e w' => e = .returned (.bool r) ∧ Below w.heap.size w w' := by
 have HM_ := Aside0.mk hm_
 clear hm_
 have hu34 := Try.underlying34
 have HB := Aside0.mk (Below.refl w.heap.size w)
 have H : ((minuetlaw9_awake.f k).bind fun t101 => (if t101 = true then ((some (([(⟨#[123]⟩ : ByteArray), (⟨#[125]⟩ : ByteArray), (⟨#[91]⟩ : ByteArray), (⟨#[93]⟩ : ByteArray), (⟨#[58]⟩ : ByteArray), (⟨#[44]⟩ : ByteArray), (⟨#[32, 9, 10, 13, 32]⟩ : ByteArray), (⟨#[34, 34]⟩ : ByteArray), (⟨#[34, 97, 32, 98, 34]⟩ : ByteArray), (⟨#[34, 92, 34, 34]⟩ : ByteArray), (⟨#[34, 92, 92, 34]⟩ : ByteArray), (⟨#[48]⟩ : ByteArray), (⟨#[45, 48]⟩ : ByteArray), (⟨#[49, 50]⟩ : ByteArray), (⟨#[45, 49, 50, 46, 53, 48]⟩ : ByteArray), (⟨#[49, 101, 53]⟩ : ByteArray), (⟨#[49, 69, 43, 53]⟩ : ByteArray), (⟨#[48, 46, 53, 101, 45, 49, 48]⟩ : ByteArray), (⟨#[116, 114, 117, 101]⟩ : ByteArray), (⟨#[102, 97, 108, 115, 101]⟩ : ByteArray), (⟨#[110, 117, 108, 108]⟩ : ByteArray), (⟨#[110, 117, 108]⟩ : ByteArray), (⟨#[84, 114, 117, 101]⟩ : ByteArray), (⟨#[95]⟩ : ByteArray), (⟨#[47, 47, 32, 97]⟩ : ByteArray), (⟨#[47, 47]⟩ : ByteArray), (⟨#[47, 42, 32, 42, 47]⟩ : ByteArray), (⟨#[47, 42, 42, 42, 47]⟩ : ByteArray), (⟨#[47, 42, 42, 47]⟩ : ByteArray), (⟨#[47, 42]⟩ : ByteArray), (⟨#[47, 42, 32, 42]⟩ : ByteArray), (⟨#[47]⟩ : ByteArray), (⟨#[45]⟩ : ByteArray), (⟨#[34]⟩ : ByteArray), (⟨#[34, 97]⟩ : ByteArray), (⟨#[34, 92]⟩ : ByteArray), (⟨#[34, 92, 34]⟩ : ByteArray), (⟨#[46]⟩ : ByteArray), (⟨#[43]⟩ : ByteArray), (⟨#[255]⟩ : ByteArray), (⟨#[0]⟩ : ByteArray), (⟨#[42]⟩ : ByteArray)] : List ByteArray) : List ByteArray)).bind fun y102 => ((some (([0, 1, 2, 3, 4, 5, 10, 6, 6, 6, 6, 7, 7, 7, 7, 7, 7, 7, 8, 8, 8, 11, 11, 11, 9, 9, 9, 9, 9, 11, 11, 11, 11, 11, 11, 11, 11, 11, 11, 11, 11, 11] : List Int) : List Int)).bind fun y105 => (if 0 ≤ (wrap64 (Int.tmod (IntKind.u64.wrap (a0)) 42)) then (if (wrap64 (Int.tmod (IntKind.u64.wrap (a0)) 42)) < (y102.length : Int) then ((lex_Tokens.f (rdOf ByteArray.empty y102 (wrap64 (Int.tmod (IntKind.u64.wrap (a0)) 42)))).bind fun bt109 => ((minuetlaw0_Num.f bt109.2).bind fun t113 => (if t113 = 0 then (if (wrap64 (Int.tmod (IntKind.u64.wrap (a0)) 42)) < (y105.length : Int) then ((minuetlaw0_SameTokens.f k bt109.1 (([(⟨rd y105 (wrap64 (Int.tmod (IntKind.u64.wrap (a0)) 42)), 0, ((rdOf ByteArray.empty y102 (wrap64 (Int.tmod (IntKind.u64.wrap (a0)) 42))).size : Int)⟩ : S34)] : List (S34)))).bind fun t119 => (some t119)) else (none)) else (none)))) else (none)) else (none)))) else (none))) = some r := h
 clear h
 replace H := Option.bind_eq_some_iff.mp H
 obtain ⟨t101, A20, H⟩ := H
 replace H : (if t101 = true then ((some (([(⟨#[123]⟩ : ByteArray), (⟨#[125]⟩ : ByteArray), (⟨#[91]⟩ : ByteArray), (⟨#[93]⟩ : ByteArray), (⟨#[58]⟩ : ByteArray), (⟨#[44]⟩ : ByteArray), (⟨#[32, 9, 10, 13, 32]⟩ : ByteArray), (⟨#[34, 34]⟩ : ByteArray), (⟨#[34, 97, 32, 98, 34]⟩ : ByteArray), (⟨#[34, 92, 34, 34]⟩ : ByteArray), (⟨#[34, 92, 92, 34]⟩ : ByteArray), (⟨#[48]⟩ : ByteArray), (⟨#[45, 48]⟩ : ByteArray), (⟨#[49, 50]⟩ : ByteArray), (⟨#[45, 49, 50, 46, 53, 48]⟩ : ByteArray), (⟨#[49, 101, 53]⟩ : ByteArray), (⟨#[49, 69, 43, 53]⟩ : ByteArray), (⟨#[48, 46, 53, 101, 45, 49, 48]⟩ : ByteArray), (⟨#[116, 114, 117, 101]⟩ : ByteArray), (⟨#[102, 97, 108, 115, 101]⟩ : ByteArray), (⟨#[110, 117, 108, 108]⟩ : ByteArray), (⟨#[110, 117, 108]⟩ : ByteArray), (⟨#[84, 114, 117, 101]⟩ : ByteArray), (⟨#[95]⟩ : ByteArray), (⟨#[47, 47, 32, 97]⟩ : ByteArray), (⟨#[47, 47]⟩ : ByteArray), (⟨#[47, 42, 32, 42, 47]⟩ : ByteArray), (⟨#[47, 42, 42, 42, 47]⟩ : ByteArray), (⟨#[47, 42, 42, 47]⟩ : ByteArray), (⟨#[47, 42]⟩ : ByteArray), (⟨#[47, 42, 32, 42]⟩ : ByteArray), (⟨#[47]⟩ : ByteArray), (⟨#[45]⟩ : ByteArray), (⟨#[34]⟩ : ByteArray), (⟨#[34, 97]⟩ : ByteArray), (⟨#[34, 92]⟩ : ByteArray), (⟨#[34, 92, 34]⟩ : ByteArray), (⟨#[46]⟩ : ByteArray), (⟨#[43]⟩ : ByteArray), (⟨#[255]⟩ : ByteArray), (⟨#[0]⟩ : ByteArray), (⟨#[42]⟩ : ByteArray)] : List ByteArray) : List ByteArray)).bind fun y102 => ((some (([0, 1, 2, 3, 4, 5, 10, 6, 6, 6, 6, 7, 7, 7, 7, 7, 7, 7, 8, 8, 8, 11, 11, 11, 9, 9, 9, 9, 9, 11, 11, 11, 11, 11, 11, 11, 11, 11, 11, 11, 11, 11] : List Int) : List Int)).bind fun y105 => (if 0 ≤ (wrap64 (Int.tmod (IntKind.u64.wrap (a0)) 42)) then (if (wrap64 (Int.tmod (IntKind.u64.wrap (a0)) 42)) < (y102.length : Int) then ((lex_Tokens.f (rdOf ByteArray.empty y102 (wrap64 (Int.tmod (IntKind.u64.wrap (a0)) 42)))).bind fun bt109 => ((minuetlaw0_Num.f bt109.2).bind fun t113 => (if t113 = 0 then (if (wrap64 (Int.tmod (IntKind.u64.wrap (a0)) 42)) < (y105.length : Int) then ((minuetlaw0_SameTokens.f k bt109.1 (([(⟨rd y105 (wrap64 (Int.tmod (IntKind.u64.wrap (a0)) 42)), 0, ((rdOf ByteArray.empty y102 (wrap64 (Int.tmod (IntKind.u64.wrap (a0)) 42))).size : Int)⟩ : S34)] : List (S34)))).bind fun t119 => (some t119)) else (none)) else (none)))) else (none)) else (none)))) else (none)) = some r := H
 have A2 := Aside0.mk A20
 clear A20
 by_cases c3 : t101 = true
 · subst c3
   have H1 : ((some (([(⟨#[123]⟩ : ByteArray), (⟨#[125]⟩ : ByteArray), (⟨#[91]⟩ : ByteArray), (⟨#[93]⟩ : ByteArray), (⟨#[58]⟩ : ByteArray), (⟨#[44]⟩ : ByteArray), (⟨#[32, 9, 10, 13, 32]⟩ : ByteArray), (⟨#[34, 34]⟩ : ByteArray), (⟨#[34, 97, 32, 98, 34]⟩ : ByteArray), (⟨#[34, 92, 34, 34]⟩ : ByteArray), (⟨#[34, 92, 92, 34]⟩ : ByteArray), (⟨#[48]⟩ : ByteArray), (⟨#[45, 48]⟩ : ByteArray), (⟨#[49, 50]⟩ : ByteArray), (⟨#[45, 49, 50, 46, 53, 48]⟩ : ByteArray), (⟨#[49, 101, 53]⟩ : ByteArray), (⟨#[49, 69, 43, 53]⟩ : ByteArray), (⟨#[48, 46, 53, 101, 45, 49, 48]⟩ : ByteArray), (⟨#[116, 114, 117, 101]⟩ : ByteArray), (⟨#[102, 97, 108, 115, 101]⟩ : ByteArray), (⟨#[110, 117, 108, 108]⟩ : ByteArray), (⟨#[110, 117, 108]⟩ : ByteArray), (⟨#[84, 114, 117, 101]⟩ : ByteArray), (⟨#[95]⟩ : ByteArray), (⟨#[47, 47, 32, 97]⟩ : ByteArray), (⟨#[47, 47]⟩ : ByteArray), (⟨#[47, 42, 32, 42, 47]⟩ : ByteArray), (⟨#[47, 42, 42, 42, 47]⟩ : ByteArray), (⟨#[47, 42, 42, 47]⟩ : ByteArray), (⟨#[47, 42]⟩ : ByteArray), (⟨#[47, 42, 32, 42]⟩ : ByteArray), (⟨#[47]⟩ : ByteArray), (⟨#[45]⟩ : ByteArray), (⟨#[34]⟩ : ByteArray), (⟨#[34, 97]⟩ : ByteArray), (⟨#[34, 92]⟩ : ByteArray), (⟨#[34, 92, 34]⟩ : ByteArray), (⟨#[46]⟩ : ByteArray), (⟨#[43]⟩ : ByteArray), (⟨#[255]⟩ : ByteArray), (⟨#[0]⟩ : ByteArray), (⟨#[42]⟩ : ByteArray)] : List ByteArray) : List ByteArray)).bind fun y102 => ((some (([0, 1, 2, 3, 4, 5, 10, 6, 6, 6, 6, 7, 7, 7, 7, 7, 7, 7, 8, 8, 8, 11, 11, 11, 9, 9, 9, 9, 9, 11, 11, 11, 11, 11, 11, 11, 11, 11, 11, 11, 11, 11] : List Int) : List Int)).bind fun y105 => (if 0 ≤ (wrap64 (Int.tmod (IntKind.u64.wrap (a0)) 42)) then (if (wrap64 (Int.tmod (IntKind.u64.wrap (a0)) 42)) < (y102.length : Int) then ((lex_Tokens.f (rdOf ByteArray.empty y102 (wrap64 (Int.tmod (IntKind.u64.wrap (a0)) 42)))).bind fun bt109 => ((minuetlaw0_Num.f bt109.2).bind fun t113 => (if t113 = 0 then (if (wrap64 (Int.tmod (IntKind.u64.wrap (a0)) 42)) < (y105.length : Int) then ((minuetlaw0_SameTokens.f k bt109.1 (([(⟨rd y105 (wrap64 (Int.tmod (IntKind.u64.wrap (a0)) 42)), 0, ((rdOf ByteArray.empty y102 (wrap64 (Int.tmod (IntKind.u64.wrap (a0)) 42))).size : Int)⟩ : S34)] : List (S34)))).bind fun t119 => (some t119)) else (none)) else (none)))) else (none)) else (none)))) = some r := by rw [if_pos rfl] at H; exact H
   clear H
   have H := H1
   clear H1
   obtain ⟨y102, hy102⟩ : ∃ y_ : List ByteArray, y_ = (([(⟨#[123]⟩ : ByteArray), (⟨#[125]⟩ : ByteArray), (⟨#[91]⟩ : ByteArray), (⟨#[93]⟩ : ByteArray), (⟨#[58]⟩ : ByteArray), (⟨#[44]⟩ : ByteArray), (⟨#[32, 9, 10, 13, 32]⟩ : ByteArray), (⟨#[34, 34]⟩ : ByteArray), (⟨#[34, 97, 32, 98, 34]⟩ : ByteArray), (⟨#[34, 92, 34, 34]⟩ : ByteArray), (⟨#[34, 92, 92, 34]⟩ : ByteArray), (⟨#[48]⟩ : ByteArray), (⟨#[45, 48]⟩ : ByteArray), (⟨#[49, 50]⟩ : ByteArray), (⟨#[45, 49, 50, 46, 53, 48]⟩ : ByteArray), (⟨#[49, 101, 53]⟩ : ByteArray), (⟨#[49, 69, 43, 53]⟩ : ByteArray), (⟨#[48, 46, 53, 101, 45, 49, 48]⟩ : ByteArray), (⟨#[116, 114, 117, 101]⟩ : ByteArray), (⟨#[102, 97, 108, 115, 101]⟩ : ByteArray), (⟨#[110, 117, 108, 108]⟩ : ByteArray), (⟨#[110, 117, 108]⟩ : ByteArray), (⟨#[84, 114, 117, 101]⟩ : ByteArray), (⟨#[95]⟩ : ByteArray), (⟨#[47, 47, 32, 97]⟩ : ByteArray), (⟨#[47, 47]⟩ : ByteArray), (⟨#[47, 42, 32, 42, 47]⟩ : ByteArray), (⟨#[47, 42, 42, 42, 47]⟩ : ByteArray), (⟨#[47, 42, 42, 47]⟩ : ByteArray), (⟨#[47, 42]⟩ : ByteArray), (⟨#[47, 42, 32, 42]⟩ : ByteArray), (⟨#[47]⟩ : ByteArray), (⟨#[45]⟩ : ByteArray), (⟨#[34]⟩ : ByteArray), (⟨#[34, 97]⟩ : ByteArray), (⟨#[34, 92]⟩ : ByteArray), (⟨#[34, 92, 34]⟩ : ByteArray), (⟨#[46]⟩ : ByteArray), (⟨#[43]⟩ : ByteArray), (⟨#[255]⟩ : ByteArray), (⟨#[0]⟩ : ByteArray), (⟨#[42]⟩ : ByteArray)] : List ByteArray)) := ⟨_, rfl⟩
   replace H : ((some (([0, 1, 2, 3, 4, 5, 10, 6, 6, 6, 6, 7, 7, 7, 7, 7, 7, 7, 8, 8, 8, 11, 11, 11, 9, 9, 9, 9, 9, 11, 11, 11, 11, 11, 11, 11, 11, 11, 11, 11, 11, 11] : List Int) : List Int)).bind fun y105 => (if 0 ≤ (wrap64 (Int.tmod (IntKind.u64.wrap (a0)) 42)) then (if (wrap64 (Int.tmod (IntKind.u64.wrap (a0)) 42)) < (y102.length : Int) then ((lex_Tokens.f (rdOf ByteArray.empty y102 (wrap64 (Int.tmod (IntKind.u64.wrap (a0)) 42)))).bind fun bt109 => ((minuetlaw0_Num.f bt109.2).bind fun t113 => (if t113 = 0 then (if (wrap64 (Int.tmod (IntKind.u64.wrap (a0)) 42)) < (y105.length : Int) then ((minuetlaw0_SameTokens.f k bt109.1 (([(⟨rd y105 (wrap64 (Int.tmod (IntKind.u64.wrap (a0)) 42)), 0, ((rdOf ByteArray.empty y102 (wrap64 (Int.tmod (IntKind.u64.wrap (a0)) 42))).size : Int)⟩ : S34)] : List (S34)))).bind fun t119 => (some t119)) else (none)) else (none)))) else (none)) else (none))) = some r := by first | (rw [hy102]; with_reducible exact H) | (have H2_ := (Option.bind_some _ _).symm.trans H; rw [hy102]; with_reducible exact H2_) | (have H2_ := (Option.bind_some _ _).symm.trans H; with_reducible exact H2_) | with_reducible exact H | (rw [hy102]; exact H) | exact H
   have Ny102 := Aside0.mk hy102
   clear hy102
   obtain ⟨y105, hy105⟩ : ∃ y_ : List Int, y_ = (([0, 1, 2, 3, 4, 5, 10, 6, 6, 6, 6, 7, 7, 7, 7, 7, 7, 7, 8, 8, 8, 11, 11, 11, 9, 9, 9, 9, 9, 11, 11, 11, 11, 11, 11, 11, 11, 11, 11, 11, 11, 11] : List Int)) := ⟨_, rfl⟩
   replace H : (if 0 ≤ (wrap64 (Int.tmod (IntKind.u64.wrap (a0)) 42)) then (if (wrap64 (Int.tmod (IntKind.u64.wrap (a0)) 42)) < (y102.length : Int) then ((lex_Tokens.f (rdOf ByteArray.empty y102 (wrap64 (Int.tmod (IntKind.u64.wrap (a0)) 42)))).bind fun bt109 => ((minuetlaw0_Num.f bt109.2).bind fun t113 => (if t113 = 0 then (if (wrap64 (Int.tmod (IntKind.u64.wrap (a0)) 42)) < (y105.length : Int) then ((minuetlaw0_SameTokens.f k bt109.1 (([(⟨rd y105 (wrap64 (Int.tmod (IntKind.u64.wrap (a0)) 42)), 0, ((rdOf ByteArray.empty y102 (wrap64 (Int.tmod (IntKind.u64.wrap (a0)) 42))).size : Int)⟩ : S34)] : List (S34)))).bind fun t119 => (some t119)) else (none)) else (none)))) else (none)) else (none)) = some r := by first | (rw [hy105]; with_reducible exact H) | (have H2_ := (Option.bind_some _ _).symm.trans H; rw [hy105]; with_reducible exact H2_) | (have H2_ := (Option.bind_some _ _).symm.trans H; with_reducible exact H2_) | with_reducible exact H | (rw [hy105]; exact H) | exact H
   have Ny105 := Aside0.mk hy105
   clear hy105
   obtain ⟨ji4, hji4⟩ : ∃ j_ : Int, (wrap64 (Int.tmod (IntKind.u64.wrap (a0)) 42)) = j_ := ⟨_, rfl⟩
   replace H : (if 0 ≤ (ji4) then (if (ji4) < (y102.length : Int) then ((lex_Tokens.f (rdOf ByteArray.empty y102 (ji4))).bind fun bt109 => ((minuetlaw0_Num.f bt109.2).bind fun t113 => (if t113 = 0 then (if (ji4) < (y105.length : Int) then ((minuetlaw0_SameTokens.f k bt109.1 (([(⟨rd y105 (ji4), 0, ((rdOf ByteArray.empty y102 (ji4)).size : Int)⟩ : S34)] : List (S34)))).bind fun t119 => (some t119)) else (none)) else (none)))) else (none)) else (none)) = some r := by first | (rw [hji4] at H; exact H) | (simp only [hji4] at H ⊢; exact H)
   (try rw [hji4] at A2)
   have hji4w : (IntKind.i64.wrap (Int.tmod (IntKind.u64.wrap (a0)) 42)) = ji4 := (i64_w _).trans hji4
   by_cases c5 : 0 ≤ (ji4)
   · rw [if_pos c5] at H
     have c5b0 : decide (0 ≤ (ji4)) = true := decide_eq_true c5
     clear c5
     by_cases c6 : (ji4) < (y102.length : Int)
     · rw [if_pos c6] at H
       have c6b0 : decide ((ji4) < (y102.length : Int)) = true := decide_eq_true c6
       clear c6
       replace H := Option.bind_eq_some_iff.mp H
       obtain ⟨⟨t109, t110⟩, A70, H⟩ := H
       replace H : ((minuetlaw0_Num.f t110).bind fun t113 => (if t113 = 0 then (if (ji4) < (y105.length : Int) then ((minuetlaw0_SameTokens.f k t109 (([(⟨rd y105 (ji4), 0, ((rdOf ByteArray.empty y102 (ji4)).size : Int)⟩ : S34)] : List (S34)))).bind fun t119 => (some t119)) else (none)) else (none))) = some r := H
       have A7 := Aside0.mk A70
       clear A70
       replace H := Option.bind_eq_some_iff.mp H
       obtain ⟨t113, A80, H⟩ := H
       replace H : (if t113 = 0 then (if (ji4) < (y105.length : Int) then ((minuetlaw0_SameTokens.f k t109 (([(⟨rd y105 (ji4), 0, ((rdOf ByteArray.empty y102 (ji4)).size : Int)⟩ : S34)] : List (S34)))).bind fun t119 => (some t119)) else (none)) else (none)) = some r := H
       have A8 := Aside0.mk A80
       clear A80
       by_cases c9 : t113 = 0
       · rw [if_pos c9] at H
         have c9b0 : (t113 == 0) = true := beq_iff_eq.mpr c9
         have c9b1 : (t113 != 0) = false := bne_eq_false_iff_eq.mpr c9
         clear c9
         by_cases c10 : (ji4) < (y105.length : Int)
         · rw [if_pos c10] at H
           have c10b0 : decide ((ji4) < (y105.length : Int)) = true := decide_eq_true c10
           clear c10
           obtain ⟨y116, hy116⟩ : ∃ y_ : List (S34), y_ = (([(⟨rd y105 (ji4), 0, ((rdOf ByteArray.empty y102 (ji4)).size : Int)⟩ : S34)] : List (S34))) := ⟨_, rfl⟩
           replace H : ((minuetlaw0_SameTokens.f k t109 y116).bind fun t119 => (some t119)) = some r := by first | (rw [hy116]; with_reducible exact H) | (have H2_ := (Option.bind_some _ _).symm.trans H; rw [hy116]; with_reducible exact H2_) | (have H2_ := (Option.bind_some _ _).symm.trans H; with_reducible exact H2_) | with_reducible exact H | (rw [hy116]; exact H) | exact H
           have Ny116 := Aside0.mk hy116
           clear hy116
           replace H := Option.bind_eq_some_iff.mp H
           obtain ⟨t119, A110, H⟩ := H
           replace H : (some t119) = some r := H
           have A11 := Aside0.mk A110
           clear A110
           obtain rfl := Option.some.inj H
           go_enter Try.func6, Try.ntmps6
           try go_wp2_with (first | ((with_reducible refine gate_callee (f := 17) rfl ?_); refine goesL_ (some 8) rfl rfl Try.func17 (by kernel_rfl) rfl #[] rfl (by (try simp only [List.map_toArray, List.map_cons, List.map_nil]); first | done | rfl | (simp only [List.length_drop, List.length_take]; rfl)) ?_; (with_reducible refine (minuetlaw9_awake.calls k  true _ (MaxOk.of HM_.out (by repeat (first | (with_reducible first | exact HB.out | apply below_alloc | apply pw_below_drewN | apply below_drew1) | exact HB.out))) A2.out).mono ?_); rintro e w12 ⟨rfl, hb⟩; refine ⟨_, rfl, ?_⟩; have n0_ := Aside0.mk (below_step (by repeat (first | (with_reducible first | exact HB.out | apply below_alloc | apply pw_below_drewN | apply below_drew1) | exact HB.out)) hb); clear HB; have HB := n0_; clear n0_; (try clear hb); (try clear hb2); (try clear hk); (try clear hi)) | ((with_reducible refine gate_dst (N := 10) rfl ?_); (try (refine gate_guard (by rfl) ?_; dsimp only)); refine Kd.R_lit Kd.string _ 9 ?hg (N := 10) ?hd (xs := ([(⟨#[123]⟩ : ByteArray), (⟨#[125]⟩ : ByteArray), (⟨#[91]⟩ : ByteArray), (⟨#[93]⟩ : ByteArray), (⟨#[58]⟩ : ByteArray), (⟨#[44]⟩ : ByteArray), (⟨#[32, 9, 10, 13, 32]⟩ : ByteArray), (⟨#[34, 34]⟩ : ByteArray), (⟨#[34, 97, 32, 98, 34]⟩ : ByteArray), (⟨#[34, 92, 34, 34]⟩ : ByteArray), (⟨#[34, 92, 92, 34]⟩ : ByteArray), (⟨#[48]⟩ : ByteArray), (⟨#[45, 48]⟩ : ByteArray), (⟨#[49, 50]⟩ : ByteArray), (⟨#[45, 49, 50, 46, 53, 48]⟩ : ByteArray), (⟨#[49, 101, 53]⟩ : ByteArray), (⟨#[49, 69, 43, 53]⟩ : ByteArray), (⟨#[48, 46, 53, 101, 45, 49, 48]⟩ : ByteArray), (⟨#[116, 114, 117, 101]⟩ : ByteArray), (⟨#[102, 97, 108, 115, 101]⟩ : ByteArray), (⟨#[110, 117, 108, 108]⟩ : ByteArray), (⟨#[110, 117, 108]⟩ : ByteArray), (⟨#[84, 114, 117, 101]⟩ : ByteArray), (⟨#[95]⟩ : ByteArray), (⟨#[47, 47, 32, 97]⟩ : ByteArray), (⟨#[47, 47]⟩ : ByteArray), (⟨#[47, 42, 32, 42, 47]⟩ : ByteArray), (⟨#[47, 42, 42, 42, 47]⟩ : ByteArray), (⟨#[47, 42, 42, 47]⟩ : ByteArray), (⟨#[47, 42]⟩ : ByteArray), (⟨#[47, 42, 32, 42]⟩ : ByteArray), (⟨#[47]⟩ : ByteArray), (⟨#[45]⟩ : ByteArray), (⟨#[34]⟩ : ByteArray), (⟨#[34, 97]⟩ : ByteArray), (⟨#[34, 92]⟩ : ByteArray), (⟨#[34, 92, 34]⟩ : ByteArray), (⟨#[46]⟩ : ByteArray), (⟨#[43]⟩ : ByteArray), (⟨#[255]⟩ : ByteArray), (⟨#[0]⟩ : ByteArray), (⟨#[42]⟩ : ByteArray)] : List ByteArray)) (inner := [.string (⟨#[123]⟩ : ByteArray), .string (⟨#[125]⟩ : ByteArray), .string (⟨#[91]⟩ : ByteArray), .string (⟨#[93]⟩ : ByteArray), .string (⟨#[58]⟩ : ByteArray), .string (⟨#[44]⟩ : ByteArray), .string (⟨#[32, 9, 10, 13, 32]⟩ : ByteArray), .string (⟨#[34, 34]⟩ : ByteArray), .string (⟨#[34, 97, 32, 98, 34]⟩ : ByteArray), .string (⟨#[34, 92, 34, 34]⟩ : ByteArray), .string (⟨#[34, 92, 92, 34]⟩ : ByteArray), .string (⟨#[48]⟩ : ByteArray), .string (⟨#[45, 48]⟩ : ByteArray), .string (⟨#[49, 50]⟩ : ByteArray), .string (⟨#[45, 49, 50, 46, 53, 48]⟩ : ByteArray), .string (⟨#[49, 101, 53]⟩ : ByteArray), .string (⟨#[49, 69, 43, 53]⟩ : ByteArray), .string (⟨#[48, 46, 53, 101, 45, 49, 48]⟩ : ByteArray), .string (⟨#[116, 114, 117, 101]⟩ : ByteArray), .string (⟨#[102, 97, 108, 115, 101]⟩ : ByteArray), .string (⟨#[110, 117, 108, 108]⟩ : ByteArray), .string (⟨#[110, 117, 108]⟩ : ByteArray), .string (⟨#[84, 114, 117, 101]⟩ : ByteArray), .string (⟨#[95]⟩ : ByteArray), .string (⟨#[47, 47, 32, 97]⟩ : ByteArray), .string (⟨#[47, 47]⟩ : ByteArray), .string (⟨#[47, 42, 32, 42, 47]⟩ : ByteArray), .string (⟨#[47, 42, 42, 42, 47]⟩ : ByteArray), .string (⟨#[47, 42, 42, 47]⟩ : ByteArray), .string (⟨#[47, 42]⟩ : ByteArray), .string (⟨#[47, 42, 32, 42]⟩ : ByteArray), .string (⟨#[47]⟩ : ByteArray), .string (⟨#[45]⟩ : ByteArray), .string (⟨#[34]⟩ : ByteArray), .string (⟨#[34, 97]⟩ : ByteArray), .string (⟨#[34, 92]⟩ : ByteArray), .string (⟨#[34, 92, 34]⟩ : ByteArray), .string (⟨#[46]⟩ : ByteArray), .string (⟨#[43]⟩ : ByteArray), .string (⟨#[255]⟩ : ByteArray), .string (⟨#[0]⟩ : ByteArray), .string (⟨#[42]⟩ : ByteArray)]) (ok := fun _ => True) (okp := fun _ => True) ?hr ?hp (fun _ hk => hk) trivial (Below.refl _ _) (Nat.le_refl _) (by simp) ?_; (case hd => rfl); (case hg => rfl); (case hr => first | (go_simp; done) | (go_simp; rfl)); (case hp => exact (Reps.one (show Kd.M Kd.string _ _ _ (⟨#[123]⟩ : ByteArray) [.string (⟨#[123]⟩ : ByteArray)] from rfl) (Reps.one (show Kd.M Kd.string _ _ _ (⟨#[125]⟩ : ByteArray) [.string (⟨#[125]⟩ : ByteArray)] from rfl) (Reps.one (show Kd.M Kd.string _ _ _ (⟨#[91]⟩ : ByteArray) [.string (⟨#[91]⟩ : ByteArray)] from rfl) (Reps.one (show Kd.M Kd.string _ _ _ (⟨#[93]⟩ : ByteArray) [.string (⟨#[93]⟩ : ByteArray)] from rfl) (Reps.one (show Kd.M Kd.string _ _ _ (⟨#[58]⟩ : ByteArray) [.string (⟨#[58]⟩ : ByteArray)] from rfl) (Reps.one (show Kd.M Kd.string _ _ _ (⟨#[44]⟩ : ByteArray) [.string (⟨#[44]⟩ : ByteArray)] from rfl) (Reps.one (show Kd.M Kd.string _ _ _ (⟨#[32, 9, 10, 13, 32]⟩ : ByteArray) [.string (⟨#[32, 9, 10, 13, 32]⟩ : ByteArray)] from rfl) (Reps.one (show Kd.M Kd.string _ _ _ (⟨#[34, 34]⟩ : ByteArray) [.string (⟨#[34, 34]⟩ : ByteArray)] from rfl) (Reps.one (show Kd.M Kd.string _ _ _ (⟨#[34, 97, 32, 98, 34]⟩ : ByteArray) [.string (⟨#[34, 97, 32, 98, 34]⟩ : ByteArray)] from rfl) (Reps.one (show Kd.M Kd.string _ _ _ (⟨#[34, 92, 34, 34]⟩ : ByteArray) [.string (⟨#[34, 92, 34, 34]⟩ : ByteArray)] from rfl) (Reps.one (show Kd.M Kd.string _ _ _ (⟨#[34, 92, 92, 34]⟩ : ByteArray) [.string (⟨#[34, 92, 92, 34]⟩ : ByteArray)] from rfl) (Reps.one (show Kd.M Kd.string _ _ _ (⟨#[48]⟩ : ByteArray) [.string (⟨#[48]⟩ : ByteArray)] from rfl) (Reps.one (show Kd.M Kd.string _ _ _ (⟨#[45, 48]⟩ : ByteArray) [.string (⟨#[45, 48]⟩ : ByteArray)] from rfl) (Reps.one (show Kd.M Kd.string _ _ _ (⟨#[49, 50]⟩ : ByteArray) [.string (⟨#[49, 50]⟩ : ByteArray)] from rfl) (Reps.one (show Kd.M Kd.string _ _ _ (⟨#[45, 49, 50, 46, 53, 48]⟩ : ByteArray) [.string (⟨#[45, 49, 50, 46, 53, 48]⟩ : ByteArray)] from rfl) (Reps.one (show Kd.M Kd.string _ _ _ (⟨#[49, 101, 53]⟩ : ByteArray) [.string (⟨#[49, 101, 53]⟩ : ByteArray)] from rfl) (Reps.one (show Kd.M Kd.string _ _ _ (⟨#[49, 69, 43, 53]⟩ : ByteArray) [.string (⟨#[49, 69, 43, 53]⟩ : ByteArray)] from rfl) (Reps.one (show Kd.M Kd.string _ _ _ (⟨#[48, 46, 53, 101, 45, 49, 48]⟩ : ByteArray) [.string (⟨#[48, 46, 53, 101, 45, 49, 48]⟩ : ByteArray)] from rfl) (Reps.one (show Kd.M Kd.string _ _ _ (⟨#[116, 114, 117, 101]⟩ : ByteArray) [.string (⟨#[116, 114, 117, 101]⟩ : ByteArray)] from rfl) (Reps.one (show Kd.M Kd.string _ _ _ (⟨#[102, 97, 108, 115, 101]⟩ : ByteArray) [.string (⟨#[102, 97, 108, 115, 101]⟩ : ByteArray)] from rfl) (Reps.one (show Kd.M Kd.string _ _ _ (⟨#[110, 117, 108, 108]⟩ : ByteArray) [.string (⟨#[110, 117, 108, 108]⟩ : ByteArray)] from rfl) (Reps.one (show Kd.M Kd.string _ _ _ (⟨#[110, 117, 108]⟩ : ByteArray) [.string (⟨#[110, 117, 108]⟩ : ByteArray)] from rfl) (Reps.one (show Kd.M Kd.string _ _ _ (⟨#[84, 114, 117, 101]⟩ : ByteArray) [.string (⟨#[84, 114, 117, 101]⟩ : ByteArray)] from rfl) (Reps.one (show Kd.M Kd.string _ _ _ (⟨#[95]⟩ : ByteArray) [.string (⟨#[95]⟩ : ByteArray)] from rfl) (Reps.one (show Kd.M Kd.string _ _ _ (⟨#[47, 47, 32, 97]⟩ : ByteArray) [.string (⟨#[47, 47, 32, 97]⟩ : ByteArray)] from rfl) (Reps.one (show Kd.M Kd.string _ _ _ (⟨#[47, 47]⟩ : ByteArray) [.string (⟨#[47, 47]⟩ : ByteArray)] from rfl) (Reps.one (show Kd.M Kd.string _ _ _ (⟨#[47, 42, 32, 42, 47]⟩ : ByteArray) [.string (⟨#[47, 42, 32, 42, 47]⟩ : ByteArray)] from rfl) (Reps.one (show Kd.M Kd.string _ _ _ (⟨#[47, 42, 42, 42, 47]⟩ : ByteArray) [.string (⟨#[47, 42, 42, 42, 47]⟩ : ByteArray)] from rfl) (Reps.one (show Kd.M Kd.string _ _ _ (⟨#[47, 42, 42, 47]⟩ : ByteArray) [.string (⟨#[47, 42, 42, 47]⟩ : ByteArray)] from rfl) (Reps.one (show Kd.M Kd.string _ _ _ (⟨#[47, 42]⟩ : ByteArray) [.string (⟨#[47, 42]⟩ : ByteArray)] from rfl) (Reps.one (show Kd.M Kd.string _ _ _ (⟨#[47, 42, 32, 42]⟩ : ByteArray) [.string (⟨#[47, 42, 32, 42]⟩ : ByteArray)] from rfl) (Reps.one (show Kd.M Kd.string _ _ _ (⟨#[47]⟩ : ByteArray) [.string (⟨#[47]⟩ : ByteArray)] from rfl) (Reps.one (show Kd.M Kd.string _ _ _ (⟨#[45]⟩ : ByteArray) [.string (⟨#[45]⟩ : ByteArray)] from rfl) (Reps.one (show Kd.M Kd.string _ _ _ (⟨#[34]⟩ : ByteArray) [.string (⟨#[34]⟩ : ByteArray)] from rfl) (Reps.one (show Kd.M Kd.string _ _ _ (⟨#[34, 97]⟩ : ByteArray) [.string (⟨#[34, 97]⟩ : ByteArray)] from rfl) (Reps.one (show Kd.M Kd.string _ _ _ (⟨#[34, 92]⟩ : ByteArray) [.string (⟨#[34, 92]⟩ : ByteArray)] from rfl) (Reps.one (show Kd.M Kd.string _ _ _ (⟨#[34, 92, 34]⟩ : ByteArray) [.string (⟨#[34, 92, 34]⟩ : ByteArray)] from rfl) (Reps.one (show Kd.M Kd.string _ _ _ (⟨#[46]⟩ : ByteArray) [.string (⟨#[46]⟩ : ByteArray)] from rfl) (Reps.one (show Kd.M Kd.string _ _ _ (⟨#[43]⟩ : ByteArray) [.string (⟨#[43]⟩ : ByteArray)] from rfl) (Reps.one (show Kd.M Kd.string _ _ _ (⟨#[255]⟩ : ByteArray) [.string (⟨#[255]⟩ : ByteArray)] from rfl) (Reps.one (show Kd.M Kd.string _ _ _ (⟨#[0]⟩ : ByteArray) [.string (⟨#[0]⟩ : ByteArray)] from rfl) (Reps.one (show Kd.M Kd.string _ _ _ (⟨#[42]⟩ : ByteArray) [.string (⟨#[42]⟩ : ByteArray)] from rfl) (Reps.none _ _)))))))))))))))))))))))))))))))))))))))))))); intro v103 w13 ho14 hb hg_ hnew_; clear hg_ hnew_; (first | rw [← Ny102.out] at ho14 | (simp only [Int.reduceToNat] at ho14; rw [← Ny102.out] at ho14)); have n0_ := Aside0.mk (Kd.R_lower ho14 (below_size (by repeat (first | (with_reducible first | exact HB.out | apply below_alloc | apply pw_below_drewN | apply below_drew1) | exact HB.out)))); have n1_ := Aside0.mk (below_step (by repeat (first | (with_reducible first | exact HB.out | apply below_alloc | apply pw_below_drewN | apply below_drew1) | exact HB.out)) hb); clear HB; have HO104 := n0_; have HB := n1_; clear n0_ n1_; clear hb ho14) | ((with_reducible refine gate_dst (N := 11) rfl ?_); (try (refine gate_guard (by rfl) ?_; dsimp only)); refine Kd.R_lit (Kd.int .i64) _ 3 ?hg (N := 11) ?hd (xs := ([0, 1, 2, 3, 4, 5, 10, 6, 6, 6, 6, 7, 7, 7, 7, 7, 7, 7, 8, 8, 8, 11, 11, 11, 9, 9, 9, 9, 9, 11, 11, 11, 11, 11, 11, 11, 11, 11, 11, 11, 11, 11] : List Int)) (inner := [.int .i64 0, .int .i64 1, .int .i64 2, .int .i64 3, .int .i64 4, .int .i64 5, .int .i64 10, .int .i64 6, .int .i64 6, .int .i64 6, .int .i64 6, .int .i64 7, .int .i64 7, .int .i64 7, .int .i64 7, .int .i64 7, .int .i64 7, .int .i64 7, .int .i64 8, .int .i64 8, .int .i64 8, .int .i64 11, .int .i64 11, .int .i64 11, .int .i64 9, .int .i64 9, .int .i64 9, .int .i64 9, .int .i64 9, .int .i64 11, .int .i64 11, .int .i64 11, .int .i64 11, .int .i64 11, .int .i64 11, .int .i64 11, .int .i64 11, .int .i64 11, .int .i64 11, .int .i64 11, .int .i64 11, .int .i64 11]) (ok := fun _ => True) (okp := fun _ => True) ?hr ?hp (fun _ hk => hk) trivial (Below.refl _ _) (Nat.le_refl _) (by simp) ?_; (case hd => rfl); (case hg => rfl); (case hr => first | (go_simp; done) | (go_simp; rfl)); (case hp => exact (Reps.one (show Kd.M (Kd.int .i64) _ _ _ 0 [.int .i64 0] from rfl) (Reps.one (show Kd.M (Kd.int .i64) _ _ _ 1 [.int .i64 1] from rfl) (Reps.one (show Kd.M (Kd.int .i64) _ _ _ 2 [.int .i64 2] from rfl) (Reps.one (show Kd.M (Kd.int .i64) _ _ _ 3 [.int .i64 3] from rfl) (Reps.one (show Kd.M (Kd.int .i64) _ _ _ 4 [.int .i64 4] from rfl) (Reps.one (show Kd.M (Kd.int .i64) _ _ _ 5 [.int .i64 5] from rfl) (Reps.one (show Kd.M (Kd.int .i64) _ _ _ 10 [.int .i64 10] from rfl) (Reps.one (show Kd.M (Kd.int .i64) _ _ _ 6 [.int .i64 6] from rfl) (Reps.one (show Kd.M (Kd.int .i64) _ _ _ 6 [.int .i64 6] from rfl) (Reps.one (show Kd.M (Kd.int .i64) _ _ _ 6 [.int .i64 6] from rfl) (Reps.one (show Kd.M (Kd.int .i64) _ _ _ 6 [.int .i64 6] from rfl) (Reps.one (show Kd.M (Kd.int .i64) _ _ _ 7 [.int .i64 7] from rfl) (Reps.one (show Kd.M (Kd.int .i64) _ _ _ 7 [.int .i64 7] from rfl) (Reps.one (show Kd.M (Kd.int .i64) _ _ _ 7 [.int .i64 7] from rfl) (Reps.one (show Kd.M (Kd.int .i64) _ _ _ 7 [.int .i64 7] from rfl) (Reps.one (show Kd.M (Kd.int .i64) _ _ _ 7 [.int .i64 7] from rfl) (Reps.one (show Kd.M (Kd.int .i64) _ _ _ 7 [.int .i64 7] from rfl) (Reps.one (show Kd.M (Kd.int .i64) _ _ _ 7 [.int .i64 7] from rfl) (Reps.one (show Kd.M (Kd.int .i64) _ _ _ 8 [.int .i64 8] from rfl) (Reps.one (show Kd.M (Kd.int .i64) _ _ _ 8 [.int .i64 8] from rfl) (Reps.one (show Kd.M (Kd.int .i64) _ _ _ 8 [.int .i64 8] from rfl) (Reps.one (show Kd.M (Kd.int .i64) _ _ _ 11 [.int .i64 11] from rfl) (Reps.one (show Kd.M (Kd.int .i64) _ _ _ 11 [.int .i64 11] from rfl) (Reps.one (show Kd.M (Kd.int .i64) _ _ _ 11 [.int .i64 11] from rfl) (Reps.one (show Kd.M (Kd.int .i64) _ _ _ 9 [.int .i64 9] from rfl) (Reps.one (show Kd.M (Kd.int .i64) _ _ _ 9 [.int .i64 9] from rfl) (Reps.one (show Kd.M (Kd.int .i64) _ _ _ 9 [.int .i64 9] from rfl) (Reps.one (show Kd.M (Kd.int .i64) _ _ _ 9 [.int .i64 9] from rfl) (Reps.one (show Kd.M (Kd.int .i64) _ _ _ 9 [.int .i64 9] from rfl) (Reps.one (show Kd.M (Kd.int .i64) _ _ _ 11 [.int .i64 11] from rfl) (Reps.one (show Kd.M (Kd.int .i64) _ _ _ 11 [.int .i64 11] from rfl) (Reps.one (show Kd.M (Kd.int .i64) _ _ _ 11 [.int .i64 11] from rfl) (Reps.one (show Kd.M (Kd.int .i64) _ _ _ 11 [.int .i64 11] from rfl) (Reps.one (show Kd.M (Kd.int .i64) _ _ _ 11 [.int .i64 11] from rfl) (Reps.one (show Kd.M (Kd.int .i64) _ _ _ 11 [.int .i64 11] from rfl) (Reps.one (show Kd.M (Kd.int .i64) _ _ _ 11 [.int .i64 11] from rfl) (Reps.one (show Kd.M (Kd.int .i64) _ _ _ 11 [.int .i64 11] from rfl) (Reps.one (show Kd.M (Kd.int .i64) _ _ _ 11 [.int .i64 11] from rfl) (Reps.one (show Kd.M (Kd.int .i64) _ _ _ 11 [.int .i64 11] from rfl) (Reps.one (show Kd.M (Kd.int .i64) _ _ _ 11 [.int .i64 11] from rfl) (Reps.one (show Kd.M (Kd.int .i64) _ _ _ 11 [.int .i64 11] from rfl) (Reps.one (show Kd.M (Kd.int .i64) _ _ _ 11 [.int .i64 11] from rfl) (Reps.none _ _)))))))))))))))))))))))))))))))))))))))))))); intro v106 w15 ho16 hb hg_ hnew_; clear hg_ hnew_; (first | rw [← Ny105.out] at ho16 | (simp only [Int.reduceToNat] at ho16; rw [← Ny105.out] at ho16)); have n0_ := Aside0.mk (Kd.R_below (by (with_reducible repeat (first | apply Kd.R_alloc | apply Kd.R_drewN | apply Kd.R_drew)); exact HO104.out) hb); have n1_ := Aside0.mk (Kd.R_lower ho16 (below_size (by repeat (first | (with_reducible first | exact HB.out | apply below_alloc | apply pw_below_drewN | apply below_drew1) | exact HB.out)))); have n2_ := Aside0.mk (below_step (by repeat (first | (with_reducible first | exact HB.out | apply below_alloc | apply pw_below_drewN | apply below_drew1) | exact HB.out)) hb); clear HO104; clear HB; have HO104 := n0_; have HO107 := n1_; have HB := n2_; clear n0_ n1_ n2_; clear hb ho16; obtain ⟨Ao17, co17, eo17⟩ := Kd.R_slice HO104.out; subst eo17; have p108 : 0 ≤ ((ji4) : Int) := of_decide_eq_true (by first | (with_reducible assumption) | assumption); have q108 : (ji4) < (y102.length : Int) := of_decide_eq_true (by first | (with_reducible assumption) | assumption); obtain ⟨ad108, e108, hx108_0⟩ := Kd.at_string (Kd.R_reads' HO104.out).2.2 (ji4) p108 q108; cases e108; replace p108 := eq_true p108; replace q108 := eq_true q108) | ((with_reducible refine gate_callee (f := 12) rfl ?_); refine goesL_ (some 21) rfl rfl Try.func12 (by kernel_rfl) rfl #[.string (rdOf ByteArray.empty y102 (ji4))] rfl (by (try simp only [List.map_toArray, List.map_cons, List.map_nil]); first | done | (simp only [hji4]; rfl) | rfl | (simp only [List.length_drop, List.length_take]; rfl)) ?_; (with_reducible refine (lex_Tokens.calls (rdOf ByteArray.empty y102 (ji4)) t109 t110 _ (MaxOk.of HM_.out (by repeat (first | (with_reducible first | exact HB.out | apply below_alloc | apply pw_below_drewN | apply below_drew1) | exact HB.out))) A7.out).mono ?_); rintro e w18 ⟨v111, rfl, ho0, hb⟩; refine ⟨_, rfl, ?_⟩; have n0_ := Aside0.mk (Kd.R_below (by (with_reducible repeat (first | apply Kd.R_alloc | apply Kd.R_drewN | apply Kd.R_drew)); exact HO104.out) hb); have n1_ := Aside0.mk (Kd.R_below (by (with_reducible repeat (first | apply Kd.R_alloc | apply Kd.R_drewN | apply Kd.R_drew)); exact HO107.out) hb); have n2_ := Aside0.mk (Kd.R_lower ho0 (below_size (by repeat (first | (with_reducible first | exact HB.out | apply below_alloc | apply pw_below_drewN | apply below_drew1) | exact HB.out)))); have n3_ := Aside0.mk (below_step (by repeat (first | (with_reducible first | exact HB.out | apply below_alloc | apply pw_below_drewN | apply below_drew1) | exact HB.out)) hb); clear HO104; clear HO107; clear HB; have HO104 := n0_; have HO107 := n1_; have HO112 := n2_; have HB := n3_; clear n0_ n1_ n2_ n3_; (try clear hb); (try clear hb2); (try clear hk); (try clear hi); (try clear ho0)))
           have n0_ := Aside0.mk (Kd.R_drew HO104.out)
           have n1_ := Aside0.mk (Kd.R_drew HO107.out)
           have n2_ := Aside0.mk (Kd.R_drew HO112.out)
           have n3_ := Aside0.mk (below_drew1 HB.out)
           clear HO104
           clear HO107
           clear HO112
           clear HB
           have HO104 := n0_
           have HO107 := n1_
           have HO112 := n2_
           have HB := n3_
           clear n0_ n1_ n2_ n3_
           have p114 : 0 ≤ ((ji4) : Int) := of_decide_eq_true (by first | (with_reducible assumption) | assumption)
           have q114 : (ji4) < (y105.length : Int) := of_decide_eq_true (by first | (with_reducible assumption) | assumption)
           try (obtain ⟨Aox_, cox_, eox_⟩ := Kd.R_slice HO107.out; subst eox_)
           obtain ⟨ad114, e114, hx114_0⟩ := Kd.at_int (Kd.R_reads' HO107.out).2.2 (ji4) p114 q114
           cases e114
           replace p114 := eq_true p114
           replace q114 := eq_true q114
           have p115 : 0 ≤ ((ji4) : Int) := of_decide_eq_true (by first | (with_reducible assumption) | assumption)
           have q115 : (ji4) < (y102.length : Int) := of_decide_eq_true (by first | (with_reducible assumption) | assumption)
           try (obtain ⟨Aox_, cox_, eox_⟩ := Kd.R_slice HO104.out; subst eox_)
           obtain ⟨ad115, e115, hx115_0⟩ := Kd.at_string (Kd.R_reads' HO104.out).2.2 (ji4) p115 q115
           obtain rfl : ad108 = ad115 := (by injection e115)
           replace p115 := eq_true p115
           replace q115 := eq_true q115
           refine start_ (n := 19) (S := fun w' => w'.cell? (ad114.add ((ji4)).toNat) = some (.int .i64 (rd y105 (ji4))) ∧ w'.cell? (ad108.add ((ji4)).toNat) = some (.string (rdOf ByteArray.empty y102 (ji4)))) (ds := []) #[false, false, false, false, false, false, false, false, false, false, false, false, false, false, false, false, false, false, false] (by kernel_rfl) rfl rfl ⟨hx114_0, hx115_0⟩ (fun hHeld => ?_); refine with_tabW minuetlaw9_LexKinds.tab7 minuetlaw9_LexKinds.bits7 (fun HT_ HW_ => ?_)
           generalize w18.drew = w19 at HO104 HO107 HO112 HB hx114_0 hx115_0 hHeld ⊢
           refine pure_ (i := 0) (N := some 24) (v := ?_) (a' := ?_) #[true, false, false, false, false, false, false, false, false, false, false, false, false, false, false, false, false, false, false] rfl rfl (any_of HT_.out (by kernel_rfl)) (fun _ _ _ h => h) (Or.inl ⟨by rfl, ?_⟩) ?_ ?_
           rotate_left
           · intro w'
             go_simp
             with_reducible rfl
           rotate_left
           · simp only [Act.put, List.setIfInBounds_toArray, List.set_cons_zero, List.set_cons_succ, i64_w, i32_w]
             rfl
           refine one_ (i := 1) (N := some 25) #[true, true, false, false, false, false, false, false, false, false, false, false, false, false, false, false, false, false, false] rfl rfl (one_of HT_.out (by kernel_rfl)) (by decide) (fun K hK => ?_)
           refine goes_ Try.func15 (by kernel_rfl) rfl #[.int .i64 t110] (by rfl) rfl rfl (by (try simp only [List.map_toArray, List.map_cons, List.map_nil]); first | done | rfl | (simp only [List.length_drop, List.length_take]; rfl)) ?_
           with_reducible refine (minuetlaw0_Num.calls t110 t113 _ A8.out).mono ?_
           rintro e w' ⟨rfl, ⟨nd, rfl⟩⟩
           refine ⟨_, rfl, ?_⟩
           obtain ⟨Ao20, co20, eo20⟩ := Kd.R_slice HO107.out
           (first | subst eo20 | (injection eo20 with f1_ f2_ f3_; have f4_ := f1_.symm; have f5_ := f3_.symm; clear f1_ f2_ f3_; subst f4_; subst f5_))
           refine hK.out _ _ ⟨hHeld.1, hHeld.2⟩ (fun hHeld => ?_)
           clear hK K
           refine norm_ (a' := ?_) ?_ ?_
           rotate_left
           · show Act.put _ (some 25) _ = _
             simp only [Act.put, List.setIfInBounds_toArray, List.set_cons_zero, List.set_cons_succ, i64_w, i32_w]
             rfl
           refine pure_ (i := 2) (N := some 26) (v := ?_) (a' := ?_) #[true, true, true, false, false, false, false, false, false, false, false, false, false, false, false, false, false, false, false] rfl rfl (any_of HT_.out (by kernel_rfl)) (fun _ _ _ h => h) (Or.inl ⟨by rfl, ?_⟩) ?_ ?_
           rotate_left
           · intro w'
             go_simp
             with_reducible rfl
           rotate_left
           · simp only [Act.put, List.setIfInBounds_toArray, List.set_cons_zero, List.set_cons_succ, i64_w, i32_w]
             rfl
           refine pure_ (i := 3) (N := some 27) (v := ?_) (a' := ?_) #[true, true, true, true, false, false, false, false, false, false, false, false, false, false, false, false, false, false, false] rfl rfl (any_of HT_.out (by kernel_rfl)) (fun _ _ _ h => h) (Or.inl ⟨by rfl, ?_⟩) ?_ ?_
           rotate_left
           · intro w'
             go_simp
             with_reducible rfl
           rotate_left
           · simp only [Act.put, List.setIfInBounds_toArray, List.set_cons_zero, List.set_cons_succ, i64_w, i32_w]
             rfl
           refine pure_ (i := 4) (N := some 28) (v := ?_) (a' := ?_) #[true, true, true, true, true, false, false, false, false, false, false, false, false, false, false, false, false, false, false] rfl rfl (any_of HT_.out (by kernel_rfl)) (fun _ _ _ h => h) (Or.inl ⟨by rfl, ?_⟩) ?_ ?_
           rotate_left
           · intro w'
             go_simp
             with_reducible rfl
           rotate_left
           · simp only [Act.put, List.setIfInBounds_toArray, List.set_cons_zero, List.set_cons_succ, i64_w, i32_w]
             rfl
           refine pure_ (i := 5) (N := some 29) (v := ?_) (a' := ?_) #[true, true, true, true, true, true, false, false, false, false, false, false, false, false, false, false, false, false, false] rfl rfl (any_of HT_.out (by kernel_rfl)) (fun _ _ _ h => h) (Or.inl ⟨by rfl, ?_⟩) ?_ ?_
           rotate_left
           · intro w'
             go_simp
             with_reducible rfl
           rotate_left
           · simp only [Act.put, List.setIfInBounds_toArray, List.set_cons_zero, List.set_cons_succ, i64_w, i32_w]
             rfl
           refine pure_ (i := 6) (N := some 30) (v := ?_) (a' := ?_) #[true, true, true, true, true, true, true, false, false, false, false, false, false, false, false, false, false, false, false] rfl rfl (any_of HT_.out (by kernel_rfl)) (fun _ _ _ h => h) (Or.inl ⟨by rfl, ?_⟩) ?_ ?_
           rotate_left
           · intro w'
             go_simp
             with_reducible rfl
           rotate_left
           · simp only [Act.put, List.setIfInBounds_toArray, List.set_cons_zero, List.set_cons_succ, i64_w, i32_w]
             rfl
           refine pure_ (i := 7) (N := some 31) (v := ?_) (a' := ?_) #[true, true, true, true, true, true, true, true, false, false, false, false, false, false, false, false, false, false, false] rfl rfl (any_of HT_.out (by kernel_rfl)) (fun _ _ _ h => h) (Or.inl ⟨by rfl, ?_⟩) ?_ ?_
           rotate_left
           · intro w'
             go_simp
             with_reducible rfl
           rotate_left
           · simp only [Act.put, List.setIfInBounds_toArray, List.set_cons_zero, List.set_cons_succ, i64_w, i32_w]
             rfl
           refine pure_ (i := 9) (N := some 33) (v := ?_) (a' := ?_) #[true, true, true, true, true, true, true, true, false, true, false, false, false, false, false, false, false, false, false] rfl rfl (any_of HT_.out (by kernel_rfl)) (fun _ _ _ h => h) (Or.inl ⟨by rfl, ?_⟩) ?_ ?_
           rotate_left
           · intro w'
             go_simp
             with_reducible rfl
           rotate_left
           · simp only [Act.put, List.setIfInBounds_toArray, List.set_cons_zero, List.set_cons_succ, i64_w, i32_w]
             rfl
           refine pure_ (i := 10) (N := some 34) (v := ?_) (a' := ?_) #[true, true, true, true, true, true, true, true, false, true, true, false, false, false, false, false, false, false, false] rfl rfl (any_of HT_.out (by kernel_rfl)) (fun _ _ _ h => h) (Or.inl ⟨by rfl, ?_⟩) ?_ ?_
           rotate_left
           · intro w'
             go_simp
             with_reducible rfl
           rotate_left
           · simp only [Act.put, List.setIfInBounds_toArray, List.set_cons_zero, List.set_cons_succ, i64_w, i32_w]
             rfl
           refine pure_ (i := 11) (N := some 35) (v := ?_) (a' := ?_) #[true, true, true, true, true, true, true, true, false, true, true, true, false, false, false, false, false, false, false] rfl rfl (any_of HT_.out (by kernel_rfl)) (fun _ _ _ h => h) (Or.inl ⟨by rfl, ?_⟩) ?_ ?_
           rotate_left
           · intro w'
             go_simp
             with_reducible rfl
           rotate_left
           · simp only [Act.put, List.setIfInBounds_toArray, List.set_cons_zero, List.set_cons_succ, i64_w, i32_w]
             rfl
           refine take_ (i := 8) (N := some 32) (v := ?_) (a' := ?_) #[true, true, true, true, true, true, true, true, true, true, true, true, false, false, false, false, false, false, false] rfl rfl (take_ofW HT_.out HW_.out (by kernel_rfl)) (fun _ _ _ h => h) (Or.inl ⟨by rfl, ?_⟩) hHeld ?_ ?_
           rotate_left
           · rintro w' ⟨s0, s1⟩
             go_simp
             with_reducible rfl
           rotate_left
           · simp only [Act.put, List.setIfInBounds_toArray, List.set_cons_zero, List.set_cons_succ, i64_w, i32_w]
             rfl
           refine take_ (i := 12) (N := some 36) (v := ?_) (a' := ?_) #[true, true, true, true, true, true, true, true, true, true, true, true, true, false, false, false, false, false, false] rfl rfl (take_ofW HT_.out HW_.out (by kernel_rfl)) (fun _ _ _ h => h) (Or.inl ⟨by rfl, ?_⟩) hHeld ?_ ?_
           rotate_left
           · rintro w' ⟨s0, s1⟩
             go_simp
             with_reducible rfl
           rotate_left
           · simp only [Act.put, List.setIfInBounds_toArray, List.set_cons_zero, List.set_cons_succ, i64_w, i32_w]
             rfl
           refine pure_ (i := 13) (N := some 37) (v := ?_) (a' := ?_) #[true, true, true, true, true, true, true, true, true, true, true, true, true, true, false, false, false, false, false] rfl rfl (any_of HT_.out (by kernel_rfl)) (fun _ _ _ h => h) (Or.inl ⟨by rfl, ?_⟩) ?_ ?_
           rotate_left
           · intro w'
             go_simp
             with_reducible rfl
           rotate_left
           · simp only [Act.put, List.setIfInBounds_toArray, List.set_cons_zero, List.set_cons_succ, i64_w, i32_w]
             rfl
           refine pure_ (i := 14) (N := some 38) (v := ?_) (a' := ?_) #[true, true, true, true, true, true, true, true, true, true, true, true, true, true, true, false, false, false, false] rfl rfl (any_of HT_.out (by kernel_rfl)) (fun _ _ _ h => h) (Or.inl ⟨by rfl, ?_⟩) ?_ ?_
           rotate_left
           · intro w'
             go_simp
             with_reducible rfl
           rotate_left
           · simp only [Act.put, List.setIfInBounds_toArray, List.set_cons_zero, List.set_cons_succ, i64_w, i32_w]
             rfl
           refine one_ (i := 15) (N := some 39) #[true, true, true, true, true, true, true, true, true, true, true, true, true, true, true, true, false, false, false] rfl rfl (one_of HT_.out (by kernel_rfl)) (by decide) (fun K hK => ?_)
           refine Kd.R_lit_step k34 _ 34 ?hg (N := 39) ?hd (xs := ([(⟨rd y105 (ji4), 0, ((rdOf ByteArray.empty y102 (ji4)).size : Int)⟩ : S34)] : List (S34))) (inner := [.int .i64 (rd y105 (ji4)), .int .i64 0, .int .i64 ((rdOf ByteArray.empty y102 (ji4)).size : Int)]) (ok := fun _ => True) (okp := fun _ => True) ?hr ?hp (fun _ hk => hk) trivial (Below.refl _ _) (Nat.le_refl _) (by simp) ?_; (case hd => rfl); (case hg => rfl); (case hr => first | (go_simp; done) | (go_simp; rfl)); (case hp => exact (Reps.c3 (show Kd.M k34 _ _ _ (⟨rd y105 (ji4), 0, ((rdOf ByteArray.empty y102 (ji4)).size : Int)⟩ : S34) [.int .i64 (rd y105 (ji4)), .int .i64 0, .int .i64 ((rdOf ByteArray.empty y102 (ji4)).size : Int)] from (k34_mkM _ _ _ (⟨rd y105 (ji4), 0, ((rdOf ByteArray.empty y102 (ji4)).size : Int)⟩ : S34) )) (Reps.none _ _)))
           intro v117 w21 ho22 hb hg_ hnew_
           have HS0_ := (hb.cell (World.block_lt_of_cell? _ _ (hHeld.1))).trans (hHeld.1)
           have HS1_ := (hb.cell (World.block_lt_of_cell? _ _ (hHeld.2))).trans (hHeld.2)
           clear hg_ hnew_
           (first | rw [← Ny116.out] at ho22 | (simp only [Int.reduceToNat] at ho22; rw [← Ny116.out] at ho22))
           have n0_ := Aside0.mk (Kd.R_below (by (with_reducible repeat (first | apply Kd.R_alloc | apply Kd.R_drewN | apply Kd.R_drew)); exact HO104.out) hb)
           have n1_ := Aside0.mk (Kd.R_below (by (with_reducible repeat (first | apply Kd.R_alloc | apply Kd.R_drewN | apply Kd.R_drew)); exact HO107.out) hb)
           have n2_ := Aside0.mk (Kd.R_elder' (by (with_reducible repeat (first | apply Kd.R_alloc | apply Kd.R_drewN | apply Kd.R_drew)); exact HO112.out) (Kd.R_base ho22) hb)
           have n3_ := Aside0.mk (Kd.R_lower (Kd.R_new' ho22 (Kd.R_lt (by (with_reducible repeat (first | apply Kd.R_alloc | apply Kd.R_drewN | apply Kd.R_drew)); exact HO112.out))) (below_size (by repeat (first | (with_reducible first | exact HB.out | apply below_alloc | apply pw_below_drewN | apply below_drew1) | exact HB.out))))
           have n4_ := Aside0.mk (below_step (by repeat (first | (with_reducible first | exact HB.out | apply below_alloc | apply pw_below_drewN | apply below_drew1) | exact HB.out)) hb)
           clear HO104
           clear HO107
           clear HO112
           clear HB
           have HO104 := n0_
           have HO107 := n1_
           have HO112 := n2_
           have HO118 := n3_
           have HB := n4_
           clear n0_ n1_ n2_ n3_ n4_
           clear hb ho22
           obtain ⟨Ao23, co23, eo23⟩ := Kd.R_slice HO112.out
           (first | subst eo23 | (injection eo23 with f1_ f2_ f3_; have f4_ := f1_.symm; have f5_ := f3_.symm; clear f1_ f2_ f3_; subst f4_; subst f5_))
           obtain ⟨Ao24, co24, eo24⟩ := Kd.R_slice HO118.out
           (first | subst eo24 | (injection eo24 with f1_ f2_ f3_; have f4_ := f1_.symm; have f5_ := f3_.symm; clear f1_ f2_ f3_; subst f4_; subst f5_))
           refine hK.out _ _ ⟨HS0_, HS1_⟩ (fun hHeld => ?_)
           clear hK K
           refine norm_ (a' := ?_) ?_ ?_
           rotate_left
           · show Act.put _ (some 39) _ = _
             simp only [Act.put, List.setIfInBounds_toArray, List.set_cons_zero, List.set_cons_succ, i64_w, i32_w]
             rfl
           refine one_ (i := 16) (N := some 40) #[true, true, true, true, true, true, true, true, true, true, true, true, true, true, true, true, true, false, false] rfl rfl (one_of HT_.out (by kernel_rfl)) (by decide) (fun K hK => ?_)
           refine goes_ Try.func14 (by kernel_rfl) rfl #[.slice Ao23 t109.length co23, .slice Ao24 y116.length co24] (by rfl) rfl rfl (by (try simp only [List.map_toArray, List.map_cons, List.map_nil]); first | done | rfl | (simp only [List.length_drop, List.length_take]; rfl)) ?_
           with_reducible refine (minuetlaw0_SameTokens.calls k _ _ t109 _ _ y116 t119 _ ?side1 ?side2 ?side3 ?side4 A11.out).mono ?_
           (case side1 => repeat (first | exact (Kd.R_reads' HO112.out).2.2 | (with_reducible refine Kd.C_alloc ?_ _) | (with_reducible refine Kd.C_drewN ?_ _) | (with_reducible refine Kd.C_drew ?_)))
           (case side2 => exact (Kd.R_reads' HO112.out).2.1)
           (case side3 => repeat (first | exact (Kd.R_reads' HO118.out).2.2 | (with_reducible refine Kd.C_alloc ?_ _) | (with_reducible refine Kd.C_drewN ?_ _) | (with_reducible refine Kd.C_drew ?_)))
           (case side4 => exact (Kd.R_reads' HO118.out).2.1)
           rintro e w' ⟨rfl, ⟨nd, rfl⟩⟩
           refine ⟨_, rfl, ?_⟩
           refine hK.out _ _ ⟨hHeld.1, hHeld.2⟩ (fun hHeld => ?_)
           clear hK K
           refine norm_ (a' := ?_) ?_ ?_
           rotate_left
           · show Act.put _ (some 40) _ = _
             simp only [Act.put, List.setIfInBounds_toArray, List.set_cons_zero, List.set_cons_succ, i64_w, i32_w]
             rfl
           refine pure_ (i := 17) (N := some 41) (v := ?_) (a' := ?_) #[true, true, true, true, true, true, true, true, true, true, true, true, true, true, true, true, true, true, false] rfl rfl (any_of HT_.out (by kernel_rfl)) (fun _ _ _ h => h) (Or.inl ⟨by rfl, ?_⟩) ?_ ?_
           rotate_left
           · intro w'
             go_simp
             with_reducible rfl
           rotate_left
           · simp only [Act.put, List.setIfInBounds_toArray, List.set_cons_zero, List.set_cons_succ, i64_w, i32_w]
             rfl
           refine pure_ (i := 18) (N := some 2) (v := ?_) (a' := ?_) #[true, true, true, true, true, true, true, true, true, true, true, true, true, true, true, true, true, true, true] rfl rfl (any_of HT_.out (by kernel_rfl)) (fun _ _ _ h => h) (Or.inl ⟨by rfl, ?_⟩) ?_ ?_
           rotate_left
           · intro w'
             go_simp
             with_reducible rfl
           rotate_left
           · simp only [Act.put, List.setIfInBounds_toArray, List.set_cons_zero, List.set_cons_succ, i64_w, i32_w]
             rfl
           refine done_ (done_of HT_.out (by kernel_rfl)) ?_
           try go_wp2
           go_ret
           exact ⟨by first | rfl | (simp [errW_none, errW_some] <;> rfl) | (simp only [← hji4]; first | rfl | (simp [errW_none, errW_some] <;> rfl)) | (simp [*, errW_none, errW_some] <;> rfl), by repeat (first | (with_reducible first | exact HB.out | apply below_alloc | apply pw_below_drewN | apply below_drew1) | exact HB.out)⟩
         · rw [if_neg c10] at H
           exact absurd H (by simp)
       · rw [if_neg c9] at H
         have c9b0 : (t113 == 0) = false := beq_eq_false_iff_ne.mpr c9
         have c9b1 : (t113 != 0) = true := bne_iff_ne.mpr c9
         exact absurd H (by simp)
     · rw [if_neg c6] at H
       exact absurd H (by simp)
   · rw [if_neg c5] at H
     exact absurd H (by simp)
 · replace c3 := Bool.eq_false_iff.mpr c3
   subst c3
   have H1 : (none) = some r := by rw [if_neg (show ¬ (false = true) by decide)] at H; exact H
   clear H
   have H := H1
   clear H1
   exact absurd H (by simp)

/-- THE ONE PURE STATEMENT of minuetlaw9_LexKinds: yours. -/
def minuetlaw9_LexKinds.Pure : Prop := ∀ (a0 : Int), (Lit.int .i64 a0).wf = true → ∃ k, minuetlaw9_LexKinds.f k a0 = some true
theorem minuetlaw9_LexKinds.walk (P : minuetlaw9_LexKinds.Pure) (a0 : Int) (w : World) (hm_ : MaxOk w) (w0 : (Lit.int .i64 a0).wf = true) :
 Calls Try.prog 6 #[.int .i64 a0] w fun e w' => e = .returned (.bool true) ∧ Below w.heap.size w w' := by
 obtain ⟨k, h⟩ := P a0 w0
 refine (minuetlaw9_LexKinds.calls k a0 true w hm_ h).mono ?_
 rintro e w' ⟨rfl, hd⟩
 exact ⟨rfl, hd⟩

end Go.Proofs.Ytjcoahipcgeoiaa.G
