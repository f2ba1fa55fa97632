/- The plain law ParseForms: trees that may not be, one thing at a time. -/
import Derived.Test.YtehojohacombkaaPa
import Derived.Test.YtehojohacombkaaGMinuetlaw11PParseForms
namespace Go.Proofs.Ytehojohacombkaa.Pl
open Go.RowKit Go.Proofs.Ytehojohacombkaa.G Go.Proofs.Ytehojohacombkaa.Lx Go.Proofs.YtehojohacombkaaW.PrintWords Go.Proofs.YtehojohacombkaaW.PrintLast Go.Proofs.YtehojohacombkaaW.PrintMore
open Go.Proofs.Ytehojohacombkaa.Ps
set_option linter.unusedVariables false
set_option linter.unusedSimpArgs false
def fmN : List (S34) := [⟨0, 0, 0, 13, [1]⟩, ⟨1, 2, 0, 13, [2, 3]⟩, ⟨2, 5, 1, 2, []⟩, ⟨3, 1, 4, 12, [4]⟩, ⟨4, 3, 5, 11, [5, 6]⟩, ⟨5, 4, 5, 8, []⟩, ⟨6, 5, 10, 11, []⟩]
set_option maxRecDepth 100000 in
theorem fm_parse : parse_Parse.f (⟨#[91, 49, 44, 32, 123, 34, 97, 34, 58, 32, 50, 125, 93]⟩ : ByteArray) = some (0, 7, fmN, 0) := by kernel_rfl
set_option maxRecDepth 100000 in
theorem fm_may : parse_May.f 0 7 fmN 13 = some true := by kernel_rfl
theorem may_false {r n s : Int} {l : List (S34)} (hok : parse_May.ok l = true) (h : mayT r n s l = false) : ((parse_May.f r n l s).bind fun t => some (!t)) = some true := by
  unfold parse_May.f; rw [if_pos hok, h]; rfl
theorem first_false {r n s : Int} {l : List Nd} (h : firstN r n s l 0 (-1) (-1) = none) : mayT r n s l = false := by
  unfold mayT; split
  · rfl
  · rw [h]
theorem wf_small (x : Int) (h0 : -100000 ≤ x) (h1 : x ≤ 100000) : (Lit.int .i64 x).wf = true := by
  unfold Lit.wf
  simp [IntKind.min, IntKind.max, IntKind.signed, IntKind.bits]
  omega
section
variable {d : Int} (h0 : 1 ≤ d) (h1 : d ≤ 1024)
include h0 h1
theorem fmc0 : mayT 0 7 (13 + d) fmN = false := by
  refine first_false ?_
  have e : ¬ (13 : Int) = 13 + d := by omega
  simp [fmN, firstN, aloneB, rootB, e]
theorem fmc1 : mayT 0 7 (-d) fmN = false := by
  unfold mayT; rw [if_pos (by omega)]
theorem fmc4 : mayT 0 (16777216 + d) 13 fmN = false := by
  unfold mayT; rw [if_pos (by omega)]
theorem fmc6 : mayT 0 7 13 (fmN.set 6 ⟨6 + d, 5, 10, 11, []⟩) = false := by
  refine first_false ?_
  have e : ¬ (6 + d < 7) := by omega
  simp [fmN, firstN, aloneB, rootB, leafB, e]
theorem fmc7 : mayT 0 7 13 (fmN.set 2 ⟨2, 7 + d, 1, 2, []⟩) = false := by
  refine first_false ?_
  have e : ¬ (7 + d ≤ 7) := by omega
  simp [fmN, firstN, aloneB, rootB, leafB, e]
theorem fmc9 : mayT 0 7 13 (fmN.set 2 ⟨2, 5, -d, 2, []⟩) = false := by
  refine first_false ?_
  have e : ¬ (0 ≤ -d) := by omega
  have e2 : ¬ (d ≤ 0) := by omega
  simp [fmN, firstN, aloneB, rootB, leafB, e, e2]
theorem fmc11 : mayT 0 7 13 (fmN.set 6 ⟨6, 5, 10, 13 + d, []⟩) = false := by
  refine first_false ?_
  have e : ¬ (13 + d ≤ 13) := by omega
  simp [fmN, firstN, aloneB, rootB, leafB, e]
end
def fmS (z : Int) : List Nd := fmN.set 1 ⟨1, 2, 0, 13, [2, 3, z]⟩
set_option maxRecDepth 100000 in
theorem fmc16 (z : Int) (h : idxN (fmS z) z = none) : mayT 0 7 13 (fmS z) = false := by
  have e1 : firstN 0 7 13 (fmS z) 0 (-1) (-1) = some 0 := by kernel_rfl
  have e2 : bfsN (fmS z) 8 [0] [true, false, false, false, false, false, false] = none := by
    rw [show bfsN (fmS z) 8 [0] [true, false, false, false, false, false, false] = bfsN (fmS z) 7 [1] [true, true, false, false, false, false, false] from by kernel_rfl, bfsN]
    rw [show kidsN (fmS z) (rdn (fmS z) 1) (rdn (fmS z) 1).f4 (rdn (fmS z) 1).f2 [true, true, false, false, false, false, false] [1] = kidsN (fmS z) (rdn (fmS z) 1) [z] 12 [true, true, true, true, false, false, false] [1, 2, 3] from by kernel_rfl, kidsN, h]
  unfold mayT
  split
  · rfl
  · rw [e1]
    show (if (0 : Int) < 0 then false else match bfsN (fmS z) 8 [0] [true, false, false, false, false, false, false] with | none => false | some seen => seen.all id) = false
    rw [e2]; rfl
theorem fm_idx {d : Int} (h0 : 1 ≤ d) : idxN (fmS (6 + d)) (6 + d) = none := by
  have a0 : ¬ (0 : Int) = 6 + d := by omega
  have a1 : ¬ (1 : Int) = 6 + d := by omega
  have a2 : ¬ (2 : Int) = 6 + d := by omega
  have a3 : ¬ (3 : Int) = 6 + d := by omega
  have a4 : ¬ (4 : Int) = 6 + d := by omega
  have a5 : ¬ (5 : Int) = 6 + d := by omega
  have a6 : ¬ (6 : Int) = 6 + d := by omega
  show idxM (fmS (6 + d)) 7 (6 + d) = none
  have r : ∀ j : Nat, j < 7 → (rdn (fmS (6 + d)) (j : Int)).f0 = (j : Int) := by
    intro j hj
    match j, hj with
    | 0, _ => rfl
    | 1, _ => rfl
    | 2, _ => rfl
    | 3, _ => rfl
    | 4, _ => rfl
    | 5, _ => rfl
    | 6, _ => rfl
  have go : ∀ m : Nat, m ≤ 7 → idxM (fmS (6 + d)) m (6 + d) = none := by
    intro m
    induction m with
    | zero => intro _; rfl
    | succ m ih => intro hm; rw [idxM, r m (by omega), if_neg (by omega)]; exact ih (by omega)
  exact go 7 (Nat.le_refl _)
theorem ok6 {d : Int} (h0 : 1 ≤ d) (h1 : d ≤ 1024) : parse_May.ok (fmN.set 6 ⟨6 + d, 5, 10, 11, []⟩) = true := by
  unfold parse_May.ok fmN
  simp only [List.set_cons_succ, List.set_cons_zero, List.all_cons, List.all_nil, wf_small (6 + d) (by omega) (by omega), wf_small 0 (by omega) (by omega), wf_small 1 (by omega) (by omega), wf_small 2 (by omega) (by omega), wf_small 3 (by omega) (by omega), wf_small 4 (by omega) (by omega), wf_small 5 (by omega) (by omega), wf_small 6 (by omega) (by omega), List.length_cons, List.length_nil, Bool.and_true, Bool.true_and]
  rfl
theorem ok16 {d : Int} (h0 : 1 ≤ d) (h1 : d ≤ 1024) : parse_May.ok (fmS (6 + d)) = true := by
  unfold parse_May.ok fmS fmN
  simp only [List.set_cons_succ, List.set_cons_zero, List.all_cons, List.all_nil, wf_small (6 + d) (by omega) (by omega), wf_small 0 (by omega) (by omega), wf_small 1 (by omega) (by omega), wf_small 2 (by omega) (by omega), wf_small 3 (by omega) (by omega), wf_small 4 (by omega) (by omega), wf_small 5 (by omega) (by omega), wf_small 6 (by omega) (by omega), List.length_cons, List.length_nil, Bool.and_true, Bool.true_and]
  rfl
set_option maxRecDepth 100000 in
theorem ParseForms_pure (a0 a1 : Int) (_h : (Lit.int .i64 a0).wf = true) (_h1 : (Lit.int .i64 a1).wf = true) : ∃ k, minuetlaw11_ParseForms.f k a0 a1 = some true := by
  refine ⟨100, ?_⟩
  unfold minuetlaw11_ParseForms.f
  rw [awake11_k 100 (by decide), fm_parse]
  simp only [opt_some, if_true, show minuetlaw0_Num.f 0 = some 0 from rfl, show (fmN.length : Int) = 7 from rfl, fm_may, Bool.not_true]
  rw [minuetlaw11_ParseForms.j0]
  simp only [Bool.false_eq_true, if_false]
  obtain ⟨h0, h1, h2⟩ := umod11 a0 18 (by decide) (by decide)
  obtain ⟨g0, g1⟩ := and_mask a1 1023 (by decide)
  rw [show ((1023 : Nat) : Int) = 1023 from rfl] at g0 g1
  generalize Int.tmod (IntKind.u64.wrap a0) 18 = j at h0 h1
  generalize Go.bits .and .i64 a1 1023 = e at g0 g1
  clear h2 _h _h1
  rw [w64 (x := 1 + e) (by omega) (by omega)]
  obtain ⟨d, hd⟩ : ∃ d, d = 1 + e := ⟨_, rfl⟩
  rw [← hd]
  have d0 : 1 ≤ d := by omega
  have d1 : d ≤ 1024 := by omega
  clear hd g0 g1
  rw [w64 (x := 13 + d) (by omega) (by omega), w64 (x := -d) (by omega) (by omega), w64 (x := 16777216 + d) (by omega) (by omega), w64 (x := 6 + d) (by omega) (by omega), w64 (x := 7 + d) (by omega) (by omega)]
  obtain ⟨n, rfl⟩ := Int.eq_ofNat_of_zero_le h0
  have hn : n < 18 := by omega
  clear h0 h1
  match n, hn with
  | 0, _ => exact may_false (by decide) (fmc0 d0 d1)
  | 1, _ => exact may_false (by decide) (fmc1 d0 d1)
  | 2, _ => exact may_false (r := 1) (n := 7) (s := 13) (l := fmN) (by decide) (by decide +kernel)
  | 3, _ => exact may_false (r := 0) (n := 6) (s := 13) (l := fmN) (by decide) (by decide +kernel)
  | 4, _ => exact may_false (by decide) (fmc4 d0 d1)
  | 5, _ => exact may_false (r := 0) (n := 7) (s := 13) (l := fmN.set 2 ⟨1, 5, 1, 2, []⟩) (by decide) (by decide +kernel)
  | 6, _ => exact may_false (ok6 d0 d1) (fmc6 d0 d1)
  | 7, _ => exact may_false rfl (fmc7 d0 d1)
  | 8, _ => exact may_false (r := 0) (n := 7) (s := 13) (l := fmN.set 2 ⟨2, 0, 1, 2, []⟩) (by decide) (by decide +kernel)
  | 9, _ => exact may_false rfl (fmc9 d0 d1)
  | 10, _ => exact may_false (r := 0) (n := 7) (s := 13) (l := fmN.set 2 ⟨2, 5, 1, 0, []⟩) (by decide) (by decide +kernel)
  | 11, _ => exact may_false rfl (fmc11 d0 d1)
  | 12, _ => exact may_false (r := 0) (n := 7) (s := 13) (l := fmN.set 1 ⟨1, 2, 0, 13, [2, 2, 3]⟩) (by decide) (by decide +kernel)
  | 13, _ => exact may_false (r := 0) (n := 7) (s := 13) (l := fmN.set 1 ⟨1, 2, 0, 13, [3, 2]⟩) (by decide) (by decide +kernel)
  | 14, _ => exact may_false (r := 0) (n := 7) (s := 13) (l := fmN.set 1 ⟨1, 2, 0, 13, [2]⟩) (by decide) (by decide +kernel)
  | 15, _ => exact may_false (r := 0) (n := 7) (s := 13) (l := fmN.set 2 ⟨2, 5, 1, 2, [4]⟩) (by decide) (by decide +kernel)
  | 16, _ => exact may_false (ok16 d0 d1) (fmc16 (6 + d) (fm_idx d0))
  | 17, _ => exact may_false (r := 0) (n := 7) (s := 13) (l := []) (by decide) (by decide +kernel)
  | n + 18, h => exact absurd h (by omega)
end Go.Proofs.Ytehojohacombkaa.Pl
