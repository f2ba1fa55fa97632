-- Laid by this session's own program gprint.py (wip/tools), out of the kit's print and of texts of this session. Lean checks it.
import Derived.Test.YtnhkdpcncjkmlaaGx0
import Derived.Test.YtnhkdpcncjkmlaaGx1
import Derived.Test.YtnhkdpcncjkmlaaGMinuetlaw0PSameTokens
namespace Go.Proofs.Ytnhkdpcncjkmlaa.G
open Go.RowKit Go.Proofs.YtnhkdpcncjkmlaaW.PrintWords Go.Proofs.YtnhkdpcncjkmlaaW.PrintLast Go.Proofs.YtnhkdpcncjkmlaaW.PrintMore
attribute [local go_sem] max2_int min2_int max_two min_two max_three min_three max_four min_four   -- for this text's walks alone
set_option linter.unusedVariables false
set_option linter.unusedSimpArgs false

/-! ### minuetlaw0_KeptTokens: function 21 -/
attribute [local go_sem high] eqA34
/-- What LendTokens lays behind the pieces. -/
abbrev minuetlaw0_KeptTokens.mark : S34 := ⟨0, 0, 77777⟩
theorem minuetlaw0_KeptTokens.cut_full {P : Program} (t e : TypeId) (kh : IntKind) {i : TypeInfo} (ht : P.underlying t = some (.slice e)) (hi : P.info? e = some i) (A : Option Addr) (n c : Nat) (j : Int) (h0 : 0 ≤ j) (hc : j ≤ c) :
 ∀ W : World, (Instr.slice t (.slice A n c) none (some (.int kh j)) none).run P W = .ok (.slice A j.toNat c) W := by
 intro W
 have hel : P.elem t = e := by simp [Program.elem, ht]
 have hu : P.underlying t = some (.slice (P.elem t)) := by rw [hel]; exact ht
 have ha : (A.map fun x => x.add 0) = A := by cases A <;> simp [Addr.add]
 rw [run_slice_h W t A n c hu kh j h0 (by omega), hel]
 simp [sizeOf, typeInfo, hi, sliced, Result.andThen, ha]
/-- A slice with two marks behind it, that nobody else holds. -/
def minuetlaw0_KeptTokens.LentO (w : World) (base : Nat) (ok : Nat → Prop) (v : Value) (xs : List (S34)) : Prop :=
 ∃ A c, v = .slice A xs.length c ∧ Kd.R k34 34 w base ok (.slice A (xs.length + 2) c) (xs ++ [minuetlaw0_KeptTokens.mark, minuetlaw0_KeptTokens.mark])
abbrev minuetlaw0_KeptTokens.Lent (w : World) (base : Nat) (v : Value) (xs : List (S34)) : Prop := minuetlaw0_KeptTokens.LentO w base (fun _ => True) v xs
theorem minuetlaw0_KeptTokens.Lent_map {w w' : World} {base base' : Nat} {ok ok' : Nat → Prop} {v : Value} {xs : List (S34)} (h : minuetlaw0_KeptTokens.LentO w base ok v xs)
 (f : ∀ A c, Kd.R k34 34 w base ok (.slice A (xs.length + 2) c) (xs ++ [minuetlaw0_KeptTokens.mark, minuetlaw0_KeptTokens.mark]) → Kd.R k34 34 w' base' ok' (.slice A (xs.length + 2) c) (xs ++ [minuetlaw0_KeptTokens.mark, minuetlaw0_KeptTokens.mark])) : minuetlaw0_KeptTokens.LentO w' base' ok' v xs := by
 obtain ⟨A, c, e, h⟩ := h
 exact ⟨A, c, e, f A c h⟩
theorem minuetlaw0_KeptTokens.Lent_R {w : World} {base : Nat} {ok : Nat → Prop} {A : Option Addr} {n c : Nat} {xs : List (S34)} (h : minuetlaw0_KeptTokens.LentO w base ok (.slice A n c) xs) :
 Kd.R k34 34 w base ok (.slice A (xs.length + 2) c) (xs ++ [minuetlaw0_KeptTokens.mark, minuetlaw0_KeptTokens.mark]) := by
 obtain ⟨A', c', e, h⟩ := h
 injection e with e1 e2 e3
 subst e1 e2 e3
 exact h
theorem minuetlaw0_KeptTokens.Lent_of {w : World} {base : Nat} {A : Option Addr} {c : Nat} {xs ys : List (S34)} {ok : Nat → Prop} (e : ys = xs ++ [minuetlaw0_KeptTokens.mark, minuetlaw0_KeptTokens.mark]) (h : Kd.R k34 34 w base ok (.slice A ys.length c) ys) :
 minuetlaw0_KeptTokens.Lent w base (.slice A xs.length c) xs := by
 subst e
 refine ⟨A, c, rfl, ?_⟩
 have := Kd.R_mono (ok' := fun _ => True) h (fun _ _ => trivial)
 rwa [show (xs ++ [minuetlaw0_KeptTokens.mark, minuetlaw0_KeptTokens.mark]).length = xs.length + 2 by simp] at this
def minuetlaw0_KeptTokens.f (k : Nat) (l0 : List (S34)) (l1 : List (S34)) : Option Bool := if l0.length = l1.length then minuetlaw0_SameTokens.f k l0 l1 else none
theorem minuetlaw0_KeptTokens.mono : ∀ a0 a1 k, LeO (minuetlaw0_KeptTokens.f k a0 a1) (minuetlaw0_KeptTokens.f (k + 1) a0 a1) := by
 intro a0 a1 k; unfold minuetlaw0_KeptTokens.f; exact LeO.ite (minuetlaw0_SameTokens.mono _ _ _) (LeO.none _)
theorem minuetlaw0_KeptTokens.rd0 (l : List (S34)) (x y : S34) (n : Nat) (h : n = l.length) : rd_T34 (l ++ [x, y]) (n : Int) = x := by
 subst h; simp [rd_T34]
theorem minuetlaw0_KeptTokens.rd1 (l : List (S34)) (x y : S34) (n : Nat) (h : n = l.length) : rd_T34 (l ++ [x, y]) ((n : Int) + 1) = y := by
 subst h
 rw [show ((l.length : Int) + 1) = ((l.length + 1 : Nat) : Int) by omega]
 simp [rd_T34]
set_option maxHeartbeats 8000000 in
set_option maxRecDepth 100000 in
theorem minuetlaw0_KeptTokens.calls (k : Nat) (A0 : Option Addr) (c0 : Nat) (l0 : List (S34)) (A1 : Option Addr) (c1 : Nat) (l1 : List (S34)) (r : Bool) (w : World) (hr0 : Kd.C k34 w A0 l0.length l0) (hc0 : l0.length ≤ c0) (hr1 : Kd.C k34 w A1 l1.length l1) (hc1 : l1.length ≤ c1) (h : minuetlaw0_KeptTokens.f k l0 l1 = some r)
 (hm : l0.length + 2 ≤ c0 ∧ Kd.C k34 w A0 (l0 ++ [minuetlaw0_KeptTokens.mark, minuetlaw0_KeptTokens.mark]).length (l0 ++ [minuetlaw0_KeptTokens.mark, minuetlaw0_KeptTokens.mark])) :
 Calls Try.prog 21 #[.slice A0 l0.length c0, .slice A1 l1.length c1] w fun e w' => e = .returned (.bool r) ∧ Drawn0 w w' := by
 have HR0 := Aside0.mk hr0
 have HC0 := Aside0.mk hc0
 clear hr0 hc0
 have HR1 := Aside0.mk hr1
 have HC1 := Aside0.mk hc1
 clear hr1 hc1
 obtain ⟨hm1, hm2⟩ := hm
 have HL : l0.length = l1.length ∧ minuetlaw0_SameTokens.f k l0 l1 = some r := by
  unfold minuetlaw0_KeptTokens.f at h
  by_cases e : l0.length = l1.length
  · rw [if_pos e] at h; exact ⟨e, h⟩
  · rw [if_neg e] at h; cases h
 clear h
 have A6 := Aside0.mk HL.2
 have hl := HL.1
 clear HL
 have hb2 : (l0 ++ [minuetlaw0_KeptTokens.mark, minuetlaw0_KeptTokens.mark]).length = l0.length + 2 := by simp
 have hmax : l0.length + 2 ≤ 9223372036854775807 := by have := hm2.2.1; omega
 have hw2 : wrap64 ((l0.length : Int) + 2) = ((l0.length + 2 : Nat) : Int) := by unfold wrap64; omega
 have hw2w : IntKind.i64.wrap ((l0.length : Int) + 2) = ((l0.length + 2 : Nat) : Int) := (i64_w _).trans hw2
 have hw1 : wrap64 ((l1.length : Int) + 1) = (l1.length : Int) + 1 := by unfold wrap64; omega
 have hw1w : IntKind.i64.wrap ((l1.length : Int) + 1) = (l1.length : Int) + 1 := (i64_w _).trans hw1
 obtain ⟨i15, hi15, _, hsz15, _⟩ := info_parts info34
 have hcut := minuetlaw0_KeptTokens.cut_full (P := Try.prog) 22 34 .i64 Try.underlying22 hi15 A0 l0.length c0 ((l0.length + 2 : Nat) : Int) (by omega) (by omega)
 rw [Int.toNat_natCast] at hcut
 clear hi15 hsz15
 rw [hb2] at hm2
 obtain ⟨ad, e1, x0, x1, x2⟩ := at_T34 hm2 (l1.length : Int) (by omega) (by omega)
 obtain ⟨ad', e2, y0, y1, y2⟩ := at_T34 hm2 ((l1.length : Int) + 1) (by omega) (by omega)
 cases e1
 cases e2
 rw [minuetlaw0_KeptTokens.rd0 l0 _ _ l1.length hl.symm] at x0 x1 x2
 rw [minuetlaw0_KeptTokens.rd1 l0 _ _ l1.length hl.symm] at y0 y1 y2
 (try simp only [Go.IntWalk.toNatUp] at x0 x1 x2)
 rw [show ((l1.length : Int) + 1).toNat = l1.length + 1 by omega] at y0 y1 y2
 have p1 : decide (0 ≤ (l1.length : Int)) = true := decide_eq_true (by omega)
 have p2 := eq_true (show (l1.length : Int) < ((l0.length + 2 : Nat) : Int) by omega)
 have p3 : decide ((l1.length : Int) < ((l0.length + 2 : Nat) : Int)) = true := decide_eq_true (by omega)
 have p4 := eq_true (show 0 ≤ (l1.length : Int) + 1 by omega)
 have p5 := eq_true (show (l1.length : Int) + 1 < ((l0.length + 2 : Nat) : Int) by omega)
 have p6 := eq_true (show l1.length < l0.length + 2 by omega)
 have p7 := eq_true (show (l1.length : Int) < (l0.length : Int) + 2 by omega)
 have p8 := eq_true (show (l1.length : Int) + 1 < (l0.length : Int) + 2 by omega)
 have HM2 := Aside0.mk hm2
 clear hm2
 have HL := Aside0.mk hl
 clear hl
 cases r with
 | true =>
  go_enter Try.func21, Try.ntmps21
  go_wp2_with (first | ((with_reducible refine gate_callee (f := 14) rfl ?_); refine goesL_ (some 13) rfl rfl Try.func14 (by kernel_rfl) rfl #[.slice (some ad) l0.length c0, .slice A1 l1.length c1] rfl (by (try simp only [List.map_toArray, List.map_cons, List.map_nil]); first | done | rfl) ?_; (with_reducible refine (minuetlaw0_SameTokens.calls k _ _ l0 _ _ l1 true _ ?side1 ?side2 ?side3 ?side4 A6.out).mono ?_); (case side1 => repeat (first | exact HR0.out | (with_reducible refine Kd.C_alloc ?_ _) | (with_reducible refine Kd.C_drewN ?_ _) | (with_reducible refine Kd.C_drew ?_))); (case side2 => exact HC0.out); (case side3 => repeat (first | exact HR1.out | (with_reducible refine Kd.C_alloc ?_ _) | (with_reducible refine Kd.C_drewN ?_ _) | (with_reducible refine Kd.C_drew ?_))); (case side4 => exact HC1.out); rintro e w' ⟨rfl, ⟨nd, rfl⟩⟩; refine ⟨_, rfl, ?_⟩))
  all_goals first | (exfalso; have hl := HL.out; omega) | (go_ret; exact ⟨by first | rfl | (simp; done) | (simp [*]; done), by repeat (first | exact Drawn0.refl _ | apply Drawn0.step)⟩)
 | false =>
  go_enter Try.func21, Try.ntmps21
  go_wp2_with (first | ((with_reducible refine gate_callee (f := 14) rfl ?_); refine goesL_ (some 13) rfl rfl Try.func14 (by kernel_rfl) rfl #[.slice (some ad) l0.length c0, .slice A1 l1.length c1] rfl (by (try simp only [List.map_toArray, List.map_cons, List.map_nil]); first | done | rfl) ?_; (with_reducible refine (minuetlaw0_SameTokens.calls k _ _ l0 _ _ l1 false _ ?side1 ?side2 ?side3 ?side4 A6.out).mono ?_); (case side1 => repeat (first | exact HR0.out | (with_reducible refine Kd.C_alloc ?_ _) | (with_reducible refine Kd.C_drewN ?_ _) | (with_reducible refine Kd.C_drew ?_))); (case side2 => exact HC0.out); (case side3 => repeat (first | exact HR1.out | (with_reducible refine Kd.C_alloc ?_ _) | (with_reducible refine Kd.C_drewN ?_ _) | (with_reducible refine Kd.C_drew ?_))); (case side4 => exact HC1.out); rintro e w' ⟨rfl, ⟨nd, rfl⟩⟩; refine ⟨_, rfl, ?_⟩))
  go_ret
  exact ⟨by first | rfl | (simp; done) | (simp [*]; done), by repeat (first | exact Drawn0.refl _ | apply Drawn0.step)⟩


end Go.Proofs.Ytnhkdpcncjkmlaa.G
