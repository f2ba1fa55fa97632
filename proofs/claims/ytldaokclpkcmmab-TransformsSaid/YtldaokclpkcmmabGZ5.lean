-- Laid by this session's own program gprint.py (wip/tools), out of the kit's print and of texts of this session. Lean checks it.
import Derived.Test.YtldaokclpkcmmabGx0
import Derived.Test.YtldaokclpkcmmabGZ3
import Derived.Test.YtldaokclpkcmmabGx1
namespace Go.Proofs.Ytldaokclpkcmmab.G
open Go.RowKit Go.Proofs.YtldaokclpkcmmabW.PrintWords Go.Proofs.YtldaokclpkcmmabW.PrintLast Go.Proofs.YtldaokclpkcmmabW.PrintMore
attribute [local go_sem] max2_int min2_int max_two min_two max_three min_three max_four min_four   -- for this text's walks alone
set_option linter.unusedVariables false
set_option linter.unusedSimpArgs false

/-! ### minuetlaw0_LendComps: function 13 -/
def minuetlaw0_LendComps.f (l0 : List (S37)) : Option ((List (S37))) := (minuetlaw0_CopyComps.f l0).bind fun t101 => ((some (([(⟨0, 77777, (⟨#[]⟩ : ByteArray)⟩ : S37), (⟨0, 77777, (⟨#[]⟩ : ByteArray)⟩ : S37)] : List (S37)) : List (S37))).bind fun y104 => (if t101.length + y104.length < 4398046511104 then ((some (t101 ++ y104 : List (S37))).bind fun y107 => (if 0 ≤ (l0.length : Int) then (if (l0.length : Int) ≤ (y107.length : Int) then (some (y107.take ((l0.length : Int) : Int).toNat)) else (none)) else (none))) else (none)))
set_option maxHeartbeats 8000000 in
set_option maxRecDepth 100000 in
theorem minuetlaw0_LendComps.calls (A0 : Option Addr) (c0 : Nat) (l0 : List (S37)) (r : List (S37)) (w : World) (hr0 : Kd.C k37 w A0 l0.length l0) (hc0 : l0.length ≤ c0) (h : minuetlaw0_LendComps.f l0 = some r) :
 Calls Try.prog 13 #[.slice A0 l0.length c0] w fun e w' => ∃ v0_ : Value, e = .returned (v0_) ∧ Kd.R k37 37 w' w.heap.size (fun _ => True) v0_ r ∧ Below w.heap.size w w' := by
 have hu37 := Try.underlying37
 have HR0 := Aside0.mk hr0
 have HC0 := Aside0.mk hc0
 clear hr0 hc0
 have HB := Aside0.mk (Below.refl w.heap.size w)
 have H : ((minuetlaw0_CopyComps.f l0).bind fun t101 => ((some (([(⟨0, 77777, (⟨#[]⟩ : ByteArray)⟩ : S37), (⟨0, 77777, (⟨#[]⟩ : ByteArray)⟩ : S37)] : List (S37)) : List (S37))).bind fun y104 => (if t101.length + y104.length < 4398046511104 then ((some (t101 ++ y104 : List (S37))).bind fun y107 => (if 0 ≤ (l0.length : Int) then (if (l0.length : Int) ≤ (y107.length : Int) then (some (y107.take ((l0.length : Int) : Int).toNat)) else (none)) else (none))) else (none)))) = some r := h
 clear h
 replace H := Option.bind_eq_some_iff.mp H
 obtain ⟨t101, A20, H⟩ := H
 replace H : ((some (([(⟨0, 77777, (⟨#[]⟩ : ByteArray)⟩ : S37), (⟨0, 77777, (⟨#[]⟩ : ByteArray)⟩ : S37)] : List (S37)) : List (S37))).bind fun y104 => (if t101.length + y104.length < 4398046511104 then ((some (t101 ++ y104 : List (S37))).bind fun y107 => (if 0 ≤ (l0.length : Int) then (if (l0.length : Int) ≤ (y107.length : Int) then (some (y107.take ((l0.length : Int) : Int).toNat)) else (none)) else (none))) else (none))) = some r := H
 have A2 := Aside0.mk A20
 clear A20
 obtain ⟨y104, hy104⟩ : ∃ y_ : List (S37), y_ = (([(⟨0, 77777, (⟨#[]⟩ : ByteArray)⟩ : S37), (⟨0, 77777, (⟨#[]⟩ : ByteArray)⟩ : S37)] : List (S37))) := ⟨_, rfl⟩
 replace H : (if t101.length + y104.length < 4398046511104 then ((some (t101 ++ y104 : List (S37))).bind fun y107 => (if 0 ≤ (l0.length : Int) then (if (l0.length : Int) ≤ (y107.length : Int) then (some (y107.take ((l0.length : Int) : Int).toNat)) else (none)) else (none))) else (none)) = some r := by first | (rw [hy104]; with_reducible exact H) | (have H2_ := (Option.bind_some _ _).symm.trans H; rw [hy104]; with_reducible exact H2_) | (have H2_ := (Option.bind_some _ _).symm.trans H; with_reducible exact H2_) | with_reducible exact H | (rw [hy104]; exact H) | exact H
 have Ny104 := Aside0.mk hy104
 clear hy104
 by_cases c3 : t101.length + y104.length < 4398046511104
 · rw [if_pos c3] at H
   have LMc3 := Aside0.mk c3
   clear c3
   obtain ⟨y107, hy107⟩ : ∃ y_ : List (S37), y_ = (t101 ++ y104) := ⟨_, rfl⟩
   replace H : (if 0 ≤ (l0.length : Int) then (if (l0.length : Int) ≤ (y107.length : Int) then (some (y107.take ((l0.length : Int) : Int).toNat)) else (none)) else (none)) = some r := by first | (rw [hy107]; with_reducible exact H) | (have H2_ := (Option.bind_some _ _).symm.trans H; rw [hy107]; with_reducible exact H2_) | (have H2_ := (Option.bind_some _ _).symm.trans H; with_reducible exact H2_) | with_reducible exact H | (rw [hy107]; exact H) | exact H
   have Ny107 := Aside0.mk hy107
   clear hy107
   by_cases c4 : 0 ≤ (l0.length : Int)
   · rw [if_pos c4] at H
     have c4b0 := eq_true c4
     have c4b1 : decide (0 ≤ (l0.length : Int)) = true := decide_eq_true c4
     clear c4
     by_cases c5 : (l0.length : Int) ≤ (y107.length : Int)
     · rw [if_pos c5] at H
       have c5b0 := eq_true c5
       have c5b1 : decide ((l0.length : Int) ≤ (y107.length : Int)) = true := decide_eq_true c5
       clear c5
       obtain ⟨y110, hy110⟩ : ∃ y_ : List (S37), y_ = (y107.take ((l0.length : Int) : Int).toNat) := ⟨_, rfl⟩
       replace H : (some y110) = some r := by first | (rw [hy110]; with_reducible exact H) | (have H2_ := (Option.bind_some _ _).symm.trans H; rw [hy110]; with_reducible exact H2_) | (have H2_ := (Option.bind_some _ _).symm.trans H; with_reducible exact H2_) | with_reducible exact H | (rw [hy110]; exact H) | exact H
       have Ny110 := Aside0.mk hy110
       clear hy110
       obtain rfl := Option.some.inj H
       go_enter Try.func13, Try.ntmps13
       go_wp2_with (first | ((with_reducible refine gate_callee (f := 40) rfl ?_); refine goesL_ (some 5) rfl rfl Try.func40 (by kernel_rfl) rfl #[.slice A0 l0.length c0] rfl (by (try simp only [List.map_toArray, List.map_cons, List.map_nil]); first | done | rfl | (simp only [List.length_drop, List.length_take]; rfl)) ?_; (with_reducible refine (minuetlaw0_CopyComps.calls _ _ l0 t101 _ ?side1 ?side2 A2.out).mono ?_); (case side1 => repeat (first | exact HR0.out | (with_reducible refine Kd.C_alloc ?_ _) | (with_reducible refine Kd.C_drewN ?_ _) | (with_reducible refine Kd.C_drew ?_))); (case side2 => exact HC0.out); rintro e w6 ⟨v102, rfl, ho0, hb⟩; refine ⟨_, rfl, ?_⟩; have n0_ := Aside0.mk (Kd.R_lower ho0 (below_size (by repeat (first | (with_reducible first | exact HB.out | apply below_alloc | apply pw_below_drewN | apply below_drew1) | exact HB.out)))); have n1_ := Aside0.mk (below_step (by repeat (first | (with_reducible first | exact HB.out | apply below_alloc | apply pw_below_drewN | apply below_drew1) | exact HB.out)) hb); clear HB; have HO103 := n0_; have HB := n1_; clear n0_ n1_; (try clear hb); (try clear hb2); (try clear hk); (try clear hi); (try clear ho0)) | ((with_reducible refine gate_dst (N := 8) rfl ?_); refine Kd.R_lit k37 _ 37 ?hg (N := 8) ?hd (xs := ([(⟨0, 77777, (⟨#[]⟩ : ByteArray)⟩ : S37), (⟨0, 77777, (⟨#[]⟩ : ByteArray)⟩ : S37)] : List (S37))) (inner := [.int .i64 0, .int .i64 77777, .string (⟨#[]⟩ : ByteArray), .int .i64 0, .int .i64 77777, .string (⟨#[]⟩ : ByteArray)]) (ok := fun _ => True) (okp := fun _ => True) ?hr ?hp (fun _ hk => hk) trivial (Below.refl _ _) (Nat.le_refl _) (by simp) ?_; (case hd => rfl); (case hg => rfl); (case hr => first | (go_simp; done) | (go_simp; rfl)); (case hp => exact (Reps.c3 (show Kd.M k37 _ _ _ (⟨0, 77777, (⟨#[]⟩ : ByteArray)⟩ : S37) [.int .i64 0, .int .i64 77777, .string (⟨#[]⟩ : ByteArray)] from (k37_mkM _ _ _ (⟨0, 77777, (⟨#[]⟩ : ByteArray)⟩ : S37) )) (Reps.c3 (show Kd.M k37 _ _ _ (⟨0, 77777, (⟨#[]⟩ : ByteArray)⟩ : S37) [.int .i64 0, .int .i64 77777, .string (⟨#[]⟩ : ByteArray)] from (k37_mkM _ _ _ (⟨0, 77777, (⟨#[]⟩ : ByteArray)⟩ : S37) )) (Reps.none _ _)))); intro v105 w7 ho8 hb hg_ hnew_; clear hg_ hnew_; (first | rw [← Ny104.out] at ho8 | (simp only [Int.reduceToNat] at ho8; rw [← Ny104.out] at ho8)); have n0_ := Aside0.mk (Kd.R_elder' (by (with_reducible repeat (first | apply Kd.R_alloc | apply Kd.R_drewN | apply Kd.R_drew)); exact HO103.out) (Kd.R_base ho8) hb); have n1_ := Aside0.mk (Kd.R_lower (Kd.R_new' ho8 (Kd.R_lt (by (with_reducible repeat (first | apply Kd.R_alloc | apply Kd.R_drewN | apply Kd.R_drew)); exact HO103.out))) (below_size (by repeat (first | (with_reducible first | exact HB.out | apply below_alloc | apply pw_below_drewN | apply below_drew1) | exact HB.out)))); have n2_ := Aside0.mk (below_step (by repeat (first | (with_reducible first | exact HB.out | apply below_alloc | apply pw_below_drewN | apply below_drew1) | exact HB.out)) hb); clear HO103; clear HB; have HO103 := n0_; have HO106 := n1_; have HB := n2_; clear n0_ n1_ n2_; clear hb ho8; obtain ⟨Ao10, co10, eo10⟩ := Kd.R_slice HO106.out; subst eo10) | ((with_reducible refine gate_builtin (b := .append) (xs := #[.tmp 5, .tmp 8]) rfl ?_); at_builtin; refine Kd.R_append_rows k37 (w0 := w) w.heap.size rfl (.tmp 5) (.tmp 8) 22 37 (.agg #[(.int .i64 0), (.int .i64 0), (.string ⟨#[]⟩)]) 32 rfl Try.underlying22 info37 rfl (by decide) (by omega) v102 t101 y104 _ _ _ (fun k_ => some k_ ≠ (.slice Ao10 y104.length co10 : Value).ownBlock) (fun _ => False) rfl rfl ?aO ?aR (fun _ _ h => h) (fun _ h => h.elim) ?aF ?aB ?aS ?aL ?_; (case aR => repeat (first | exact (Kd.R_reads' HO106.out).2.2 | (with_reducible refine Kd.C_alloc ?_ _) | (with_reducible refine Kd.C_drewN ?_ _) | (with_reducible refine Kd.C_drew ?_))); (case aB => exact (by repeat (first | (with_reducible first | exact HB.out | apply below_alloc | apply pw_below_drewN | apply below_drew1) | exact HB.out))); (case aF => exact (fun k_ hk => Kd.fresh' (Kd.R_lt (by (with_reducible repeat (first | apply Kd.R_alloc | apply Kd.R_drewN | apply Kd.R_drew)); exact HO106.out)) k_ hk)); (case aO => exact (by (with_reducible repeat (first | apply Kd.R_alloc | apply Kd.R_drewN | apply Kd.R_drew)); exact Kd.R_mono HO103.out (fun _ hk => hk.2))); (case aS => exact (below_size (by repeat (first | (with_reducible first | exact HB.out | apply below_alloc | apply pw_below_drewN | apply below_drew1) | exact HB.out)))); (case aL => have := LMc3.out; omega); intro v108 w9 ho hb hg hat; rw [← Ny107.out] at ho; have n0_ := Aside0.mk (Kd.R_after (ok := (fun _ => True)) (by (with_reducible repeat (first | apply Kd.R_alloc | apply Kd.R_drewN | apply Kd.R_drew)); exact HO106.out) hg hat); have n1_ := Aside0.mk (hb); have n2_ := Aside0.mk (ho); clear HO106; clear HB; clear HO103; have HO106 := n0_; have HB := n1_; have HO109 := n2_; clear n0_ n1_ n2_; clear ho hb hg hat; obtain ⟨Ao11, co11, eo11⟩ := Kd.R_slice HO109.out; subst eo11; have q12 : ((l0.length : Int) : Int) ≤ ((y107.length : Int) : Int) := of_decide_eq_true (by first | (with_reducible assumption) | assumption); obtain ⟨i012, hi012, _, hsz12, _⟩ := info_parts info37; have hcut12 := cut_to (P := Try.prog) 22 37 .i64 Try.underlying22 hi012 Ao11 y107.length co11 (l0.length : Int) (of_decide_eq_true (by first | (with_reducible assumption) | assumption)) q12 (Kd.R_reads' HO109.out).2.1; have hr12 := Kd.R_take (m := ((l0.length : Int) : Int).toNat) HO109.out (by omega); have hy12 : y110.length = ((l0.length : Int) : Int).toNat := (by rw [Ny110.out, List.length_take]; omega); rw [← Ny110.out] at hr12; rw [← hy12] at hr12 hcut12; clear hy12 hi012 hsz12 HO109; have HO112 := Aside0.mk hr12; clear hr12; replace q12 := eq_true q12))
       go_ret
       exact ⟨_, by first | rfl | (simp [errW_none, errW_some] <;> rfl) | (simp [*, errW_none, errW_some] <;> rfl), by (with_reducible repeat (first | apply Kd.R_alloc | apply Kd.R_drewN | apply Kd.R_drew)); exact Kd.R_mono HO112.out (fun _ hk => trivial), by repeat (first | (with_reducible first | exact HB.out | apply below_alloc | apply pw_below_drewN | apply below_drew1) | exact HB.out)⟩
     · rw [if_neg c5] at H
       exact absurd H (by simp)
   · rw [if_neg c4] at H
     exact absurd H (by simp)
 · rw [if_neg c3] at H
   exact absurd H (by simp)

end Go.Proofs.Ytldaokclpkcmmab.G

namespace Go.Proofs.Ytldaokclpkcmmab.G
open Go.RowKit Go.Proofs.YtldaokclpkcmmabW.PrintWords Go.Proofs.YtldaokclpkcmmabW.PrintLast Go.Proofs.YtldaokclpkcmmabW.PrintMore
attribute [local go_sem] max2_int min2_int max_two min_two max_three min_three max_four min_four   -- for this text's walks alone
set_option linter.unusedVariables false
set_option linter.unusedSimpArgs false

/-! ### minuetlaw0_KeptComps: function 19 -/
attribute [local go_sem high] eqA37
/-- What LendComps lays behind the pieces. -/
abbrev minuetlaw0_KeptComps.mark : S37 := ⟨0, 77777, (⟨#[]⟩ : ByteArray)⟩
theorem minuetlaw0_KeptComps.cut_full {P : Program} (t e : TypeId) (kh : IntKind) {i : TypeInfo} (ht : P.underlying t = some (.slice e)) (hi : P.info? e = some i) (A : Option Addr) (n c : Nat) (j : Int) (h0 : 0 ≤ j) (hc : j ≤ c) :
 ∀ W : World, (Instr.slice t (.slice A n c) none (some (.int kh j)) none).run P W = .ok (.slice A j.toNat c) W := by
 intro W
 have hel : P.elem t = e := by simp [Program.elem, ht]
 have hu : P.underlying t = some (.slice (P.elem t)) := by rw [hel]; exact ht
 have ha : (A.map fun x => x.add 0) = A := by cases A <;> simp [Addr.add]
 rw [run_slice_h W t A n c hu kh j h0 (by omega), hel]
 simp [sizeOf, typeInfo, hi, sliced, Result.andThen, ha]
/-- A slice with two marks behind it, that nobody else holds. -/
def minuetlaw0_KeptComps.LentO (w : World) (base : Nat) (ok : Nat → Prop) (v : Value) (xs : List (S37)) : Prop :=
 ∃ A c, v = .slice A xs.length c ∧ Kd.R k37 37 w base ok (.slice A (xs.length + 2) c) (xs ++ [minuetlaw0_KeptComps.mark, minuetlaw0_KeptComps.mark])
abbrev minuetlaw0_KeptComps.Lent (w : World) (base : Nat) (v : Value) (xs : List (S37)) : Prop := minuetlaw0_KeptComps.LentO w base (fun _ => True) v xs
theorem minuetlaw0_KeptComps.Lent_map {w w' : World} {base base' : Nat} {ok ok' : Nat → Prop} {v : Value} {xs : List (S37)} (h : minuetlaw0_KeptComps.LentO w base ok v xs)
 (f : ∀ A c, Kd.R k37 37 w base ok (.slice A (xs.length + 2) c) (xs ++ [minuetlaw0_KeptComps.mark, minuetlaw0_KeptComps.mark]) → Kd.R k37 37 w' base' ok' (.slice A (xs.length + 2) c) (xs ++ [minuetlaw0_KeptComps.mark, minuetlaw0_KeptComps.mark])) : minuetlaw0_KeptComps.LentO w' base' ok' v xs := by
 obtain ⟨A, c, e, h⟩ := h
 exact ⟨A, c, e, f A c h⟩
theorem minuetlaw0_KeptComps.Lent_R {w : World} {base : Nat} {ok : Nat → Prop} {A : Option Addr} {n c : Nat} {xs : List (S37)} (h : minuetlaw0_KeptComps.LentO w base ok (.slice A n c) xs) :
 Kd.R k37 37 w base ok (.slice A (xs.length + 2) c) (xs ++ [minuetlaw0_KeptComps.mark, minuetlaw0_KeptComps.mark]) := by
 obtain ⟨A', c', e, h⟩ := h
 injection e with e1 e2 e3
 subst e1 e2 e3
 exact h
theorem minuetlaw0_KeptComps.Lent_of {w : World} {base : Nat} {A : Option Addr} {c : Nat} {xs ys : List (S37)} {ok : Nat → Prop} (e : ys = xs ++ [minuetlaw0_KeptComps.mark, minuetlaw0_KeptComps.mark]) (h : Kd.R k37 37 w base ok (.slice A ys.length c) ys) :
 minuetlaw0_KeptComps.Lent w base (.slice A xs.length c) xs := by
 subst e
 refine ⟨A, c, rfl, ?_⟩
 have := Kd.R_mono (ok' := fun _ => True) h (fun _ _ => trivial)
 rwa [show (xs ++ [minuetlaw0_KeptComps.mark, minuetlaw0_KeptComps.mark]).length = xs.length + 2 by simp] at this
def minuetlaw0_KeptComps.f (k : Nat) (l0 : List (S37)) (l1 : List (S37)) : Option Bool := if l0.length = l1.length then minuetlaw0_SameComps.f k l0 l1 else none
theorem minuetlaw0_KeptComps.mono : ∀ a0 a1 k, LeO (minuetlaw0_KeptComps.f k a0 a1) (minuetlaw0_KeptComps.f (k + 1) a0 a1) := by
 intro a0 a1 k; unfold minuetlaw0_KeptComps.f; exact LeO.ite (minuetlaw0_SameComps.mono _ _ _) (LeO.none _)
theorem minuetlaw0_KeptComps.rd0 (l : List (S37)) (x y : S37) (n : Nat) (h : n = l.length) : rd_T37 (l ++ [x, y]) (n : Int) = x := by
 subst h; simp [rd_T37]
theorem minuetlaw0_KeptComps.rd1 (l : List (S37)) (x y : S37) (n : Nat) (h : n = l.length) : rd_T37 (l ++ [x, y]) ((n : Int) + 1) = y := by
 subst h
 rw [show ((l.length : Int) + 1) = ((l.length + 1 : Nat) : Int) by omega]
 simp [rd_T37]
set_option maxHeartbeats 8000000 in
set_option maxRecDepth 100000 in
theorem minuetlaw0_KeptComps.calls (k : Nat) (A0 : Option Addr) (c0 : Nat) (l0 : List (S37)) (A1 : Option Addr) (c1 : Nat) (l1 : List (S37)) (r : Bool) (w : World) (hr0 : Kd.C k37 w A0 l0.length l0) (hc0 : l0.length ≤ c0) (hr1 : Kd.C k37 w A1 l1.length l1) (hc1 : l1.length ≤ c1) (h : minuetlaw0_KeptComps.f k l0 l1 = some r)
 (hm : l0.length + 2 ≤ c0 ∧ Kd.C k37 w A0 (l0 ++ [minuetlaw0_KeptComps.mark, minuetlaw0_KeptComps.mark]).length (l0 ++ [minuetlaw0_KeptComps.mark, minuetlaw0_KeptComps.mark])) :
 Calls Try.prog 19 #[.slice A0 l0.length c0, .slice A1 l1.length c1] w fun e w' => e = .returned (.bool r) ∧ Drawn0 w w' := by
 have HR0 := Aside0.mk hr0
 have HC0 := Aside0.mk hc0
 clear hr0 hc0
 have HR1 := Aside0.mk hr1
 have HC1 := Aside0.mk hc1
 clear hr1 hc1
 obtain ⟨hm1, hm2⟩ := hm
 have HL : l0.length = l1.length ∧ minuetlaw0_SameComps.f k l0 l1 = some r := by
  unfold minuetlaw0_KeptComps.f at h
  by_cases e : l0.length = l1.length
  · rw [if_pos e] at h; exact ⟨e, h⟩
  · rw [if_neg e] at h; cases h
 clear h
 have A6 := Aside0.mk HL.2
 have hl := HL.1
 clear HL
 have hb2 : (l0 ++ [minuetlaw0_KeptComps.mark, minuetlaw0_KeptComps.mark]).length = l0.length + 2 := by simp
 have hmax : l0.length + 2 ≤ 9223372036854775807 := by have := hm2.2.1; omega
 have hw2 : wrap64 ((l0.length : Int) + 2) = ((l0.length + 2 : Nat) : Int) := by unfold wrap64; omega
 have hw2w : IntKind.i64.wrap ((l0.length : Int) + 2) = ((l0.length + 2 : Nat) : Int) := (i64_w _).trans hw2
 have hw1 : wrap64 ((l1.length : Int) + 1) = (l1.length : Int) + 1 := by unfold wrap64; omega
 have hw1w : IntKind.i64.wrap ((l1.length : Int) + 1) = (l1.length : Int) + 1 := (i64_w _).trans hw1
 obtain ⟨i15, hi15, _, hsz15, _⟩ := info_parts info37
 have hcut := minuetlaw0_KeptComps.cut_full (P := Try.prog) 22 37 .i64 Try.underlying22 hi15 A0 l0.length c0 ((l0.length + 2 : Nat) : Int) (by omega) (by omega)
 rw [Int.toNat_natCast] at hcut
 clear hi15 hsz15
 rw [hb2] at hm2
 obtain ⟨ad, e1, x0, x1, x2⟩ := at_T37 hm2 (l1.length : Int) (by omega) (by omega)
 obtain ⟨ad', e2, y0, y1, y2⟩ := at_T37 hm2 ((l1.length : Int) + 1) (by omega) (by omega)
 cases e1
 cases e2
 rw [minuetlaw0_KeptComps.rd0 l0 _ _ l1.length hl.symm] at x0 x1 x2
 rw [minuetlaw0_KeptComps.rd1 l0 _ _ l1.length hl.symm] at y0 y1 y2
 (try simp only [Go.IntWalk.toNatUp] at x0 x1 x2)
 rw [show ((l1.length : Int) + 1).toNat = l1.length + 1 by omega] at y0 y1 y2
 have p1 : decide (0 ≤ (l1.length : Int)) = true := decide_eq_true (by omega)
 have p2 := eq_true (show (l1.length : Int) < ((l0.length + 2 : Nat) : Int) by omega)
 have p3 : decide ((l1.length : Int) < ((l0.length + 2 : Nat) : Int)) = true := decide_eq_true (by omega)
 have p4 := eq_true (show 0 ≤ (l1.length : Int) + 1 by omega)
 have p5 := eq_true (show (l1.length : Int) + 1 < ((l0.length + 2 : Nat) : Int) by omega)
 have p6 := eq_true (show l1.length < l0.length + 2 by omega)
 have p7 := eq_true (show (l1.length : Int) < (l0.length : Int) + 2 by omega)
 have p8 := eq_true (show (l1.length : Int) + 1 < (l0.length : Int) + 2 by omega)
 have HM2 := Aside0.mk hm2
 clear hm2
 have HL := Aside0.mk hl
 clear hl
 cases r with
 | true =>
  go_enter Try.func19, Try.ntmps19
  go_wp2_with (first | ((with_reducible refine gate_callee (f := 16) rfl ?_); refine goesL_ (some 13) rfl rfl Try.func16 (by kernel_rfl) rfl #[.slice (some ad) l0.length c0, .slice A1 l1.length c1] rfl (by (try simp only [List.map_toArray, List.map_cons, List.map_nil]); first | done | rfl) ?_; (with_reducible refine (minuetlaw0_SameComps.calls k _ _ l0 _ _ l1 true _ ?side1 ?side2 ?side3 ?side4 A6.out).mono ?_); (case side1 => repeat (first | exact HR0.out | (with_reducible refine Kd.C_alloc ?_ _) | (with_reducible refine Kd.C_drewN ?_ _) | (with_reducible refine Kd.C_drew ?_))); (case side2 => exact HC0.out); (case side3 => repeat (first | exact HR1.out | (with_reducible refine Kd.C_alloc ?_ _) | (with_reducible refine Kd.C_drewN ?_ _) | (with_reducible refine Kd.C_drew ?_))); (case side4 => exact HC1.out); rintro e w' ⟨rfl, ⟨nd, rfl⟩⟩; refine ⟨_, rfl, ?_⟩))
  all_goals first | (exfalso; have hl := HL.out; omega) | (go_ret; exact ⟨by first | rfl | (simp; done) | (simp [*]; done), by repeat (first | exact Drawn0.refl _ | apply Drawn0.step)⟩)
 | false =>
  go_enter Try.func19, Try.ntmps19
  go_wp2_with (first | ((with_reducible refine gate_callee (f := 16) rfl ?_); refine goesL_ (some 13) rfl rfl Try.func16 (by kernel_rfl) rfl #[.slice (some ad) l0.length c0, .slice A1 l1.length c1] rfl (by (try simp only [List.map_toArray, List.map_cons, List.map_nil]); first | done | rfl) ?_; (with_reducible refine (minuetlaw0_SameComps.calls k _ _ l0 _ _ l1 false _ ?side1 ?side2 ?side3 ?side4 A6.out).mono ?_); (case side1 => repeat (first | exact HR0.out | (with_reducible refine Kd.C_alloc ?_ _) | (with_reducible refine Kd.C_drewN ?_ _) | (with_reducible refine Kd.C_drew ?_))); (case side2 => exact HC0.out); (case side3 => repeat (first | exact HR1.out | (with_reducible refine Kd.C_alloc ?_ _) | (with_reducible refine Kd.C_drewN ?_ _) | (with_reducible refine Kd.C_drew ?_))); (case side4 => exact HC1.out); rintro e w' ⟨rfl, ⟨nd, rfl⟩⟩; refine ⟨_, rfl, ?_⟩))
  go_ret
  exact ⟨by first | rfl | (simp; done) | (simp [*]; done), by repeat (first | exact Drawn0.refl _ | apply Drawn0.step)⟩


end Go.Proofs.Ytldaokclpkcmmab.G

namespace Go.Proofs.Ytldaokclpkcmmab.G
open Go.RowKit Go.Proofs.YtldaokclpkcmmabW.PrintWords Go.Proofs.YtldaokclpkcmmabW.PrintLast Go.Proofs.YtldaokclpkcmmabW.PrintMore
attribute [local go_sem] max2_int min2_int max_two min_two max_three min_three max_four min_four   -- for this text's walks alone
set_option linter.unusedVariables false
set_option linter.unusedSimpArgs false

theorem minuetlaw0_LendComps.cut_ {l0 t y104 y107 y110 : List (S37)} (h : minuetlaw0_CopyComps.f l0 = some t) (a : y104 = [minuetlaw0_KeptComps.mark, minuetlaw0_KeptComps.mark]) (b : y107 = t ++ y104) (c : y110 = y107.take ((l0.length : Int) : Int).toNat) : y107 = y110 ++ [minuetlaw0_KeptComps.mark, minuetlaw0_KeptComps.mark] := by
  have e : t = l0 := by
    unfold minuetlaw0_CopyComps.f at h
    simp only [Option.bind_some, List.nil_append] at h
    split at h
    · exact (Option.some.inj h).symm
    · cases h
  subst a b c e
  simp
set_option maxHeartbeats 8000000 in
set_option maxRecDepth 100000 in
theorem minuetlaw0_LendComps.calls2 (A0 : Option Addr) (c0 : Nat) (l0 : List (S37)) (r : List (S37)) (w : World) (hr0 : Kd.C k37 w A0 l0.length l0) (hc0 : l0.length ≤ c0) (h : minuetlaw0_LendComps.f l0 = some r) :
 Calls Try.prog 13 #[.slice A0 l0.length c0] w fun e w' => ∃ v0_ : Value, e = .returned (v0_) ∧ Kd.R k37 37 w' w.heap.size (fun _ => True) v0_ r ∧ minuetlaw0_KeptComps.Lent w' w.heap.size v0_ r ∧ Below w.heap.size w w' := by
 have hu37 := Try.underlying37
 have HR0 := Aside0.mk hr0
 have HC0 := Aside0.mk hc0
 clear hr0 hc0
 have HB := Aside0.mk (Below.refl w.heap.size w)
 have H : ((minuetlaw0_CopyComps.f l0).bind fun t101 => ((some (([(⟨0, 77777, (⟨#[]⟩ : ByteArray)⟩ : S37), (⟨0, 77777, (⟨#[]⟩ : ByteArray)⟩ : S37)] : List (S37)) : List (S37))).bind fun y104 => (if t101.length + y104.length < 4398046511104 then ((some (t101 ++ y104 : List (S37))).bind fun y107 => (if 0 ≤ (l0.length : Int) then (if (l0.length : Int) ≤ (y107.length : Int) then (some (y107.take ((l0.length : Int) : Int).toNat)) else (none)) else (none))) else (none)))) = some r := h
 clear h
 replace H := Option.bind_eq_some_iff.mp H
 obtain ⟨t101, A20, H⟩ := H
 replace H : ((some (([(⟨0, 77777, (⟨#[]⟩ : ByteArray)⟩ : S37), (⟨0, 77777, (⟨#[]⟩ : ByteArray)⟩ : S37)] : List (S37)) : List (S37))).bind fun y104 => (if t101.length + y104.length < 4398046511104 then ((some (t101 ++ y104 : List (S37))).bind fun y107 => (if 0 ≤ (l0.length : Int) then (if (l0.length : Int) ≤ (y107.length : Int) then (some (y107.take ((l0.length : Int) : Int).toNat)) else (none)) else (none))) else (none))) = some r := H
 have A2 := Aside0.mk A20
 clear A20
 obtain ⟨y104, hy104⟩ : ∃ y_ : List (S37), y_ = (([(⟨0, 77777, (⟨#[]⟩ : ByteArray)⟩ : S37), (⟨0, 77777, (⟨#[]⟩ : ByteArray)⟩ : S37)] : List (S37))) := ⟨_, rfl⟩
 replace H : (if t101.length + y104.length < 4398046511104 then ((some (t101 ++ y104 : List (S37))).bind fun y107 => (if 0 ≤ (l0.length : Int) then (if (l0.length : Int) ≤ (y107.length : Int) then (some (y107.take ((l0.length : Int) : Int).toNat)) else (none)) else (none))) else (none)) = some r := by first | (rw [hy104]; with_reducible exact H) | (have H2_ := (Option.bind_some _ _).symm.trans H; rw [hy104]; with_reducible exact H2_) | (have H2_ := (Option.bind_some _ _).symm.trans H; with_reducible exact H2_) | with_reducible exact H | (rw [hy104]; exact H) | exact H
 have Ny104 := Aside0.mk hy104
 clear hy104
 by_cases c3 : t101.length + y104.length < 4398046511104
 · rw [if_pos c3] at H
   have LMc3 := Aside0.mk c3
   clear c3
   obtain ⟨y107, hy107⟩ : ∃ y_ : List (S37), y_ = (t101 ++ y104) := ⟨_, rfl⟩
   replace H : (if 0 ≤ (l0.length : Int) then (if (l0.length : Int) ≤ (y107.length : Int) then (some (y107.take ((l0.length : Int) : Int).toNat)) else (none)) else (none)) = some r := by first | (rw [hy107]; with_reducible exact H) | (have H2_ := (Option.bind_some _ _).symm.trans H; rw [hy107]; with_reducible exact H2_) | (have H2_ := (Option.bind_some _ _).symm.trans H; with_reducible exact H2_) | with_reducible exact H | (rw [hy107]; exact H) | exact H
   have Ny107 := Aside0.mk hy107
   clear hy107
   by_cases c4 : 0 ≤ (l0.length : Int)
   · rw [if_pos c4] at H
     have c4b0 := eq_true c4
     have c4b1 : decide (0 ≤ (l0.length : Int)) = true := decide_eq_true c4
     clear c4
     by_cases c5 : (l0.length : Int) ≤ (y107.length : Int)
     · rw [if_pos c5] at H
       have c5b0 := eq_true c5
       have c5b1 : decide ((l0.length : Int) ≤ (y107.length : Int)) = true := decide_eq_true c5
       clear c5
       obtain ⟨y110, hy110⟩ : ∃ y_ : List (S37), y_ = (y107.take ((l0.length : Int) : Int).toNat) := ⟨_, rfl⟩
       replace H : (some y110) = some r := by first | (rw [hy110]; with_reducible exact H) | (have H2_ := (Option.bind_some _ _).symm.trans H; rw [hy110]; with_reducible exact H2_) | (have H2_ := (Option.bind_some _ _).symm.trans H; with_reducible exact H2_) | with_reducible exact H | (rw [hy110]; exact H) | exact H
       have Ny110 := Aside0.mk hy110
       clear hy110
       obtain rfl := Option.some.inj H
       go_enter Try.func13, Try.ntmps13
       go_wp2_with (first | ((with_reducible refine gate_callee (f := 40) rfl ?_); refine goesL_ (some 5) rfl rfl Try.func40 (by kernel_rfl) rfl #[.slice A0 l0.length c0] rfl (by (try simp only [List.map_toArray, List.map_cons, List.map_nil]); first | done | rfl | (simp only [List.length_drop, List.length_take]; rfl)) ?_; (with_reducible refine (minuetlaw0_CopyComps.calls _ _ l0 t101 _ ?side1 ?side2 A2.out).mono ?_); (case side1 => repeat (first | exact HR0.out | (with_reducible refine Kd.C_alloc ?_ _) | (with_reducible refine Kd.C_drewN ?_ _) | (with_reducible refine Kd.C_drew ?_))); (case side2 => exact HC0.out); rintro e w6 ⟨v102, rfl, ho0, hb⟩; refine ⟨_, rfl, ?_⟩; have n0_ := Aside0.mk (Kd.R_lower ho0 (below_size (by repeat (first | (with_reducible first | exact HB.out | apply below_alloc | apply pw_below_drewN | apply below_drew1) | exact HB.out)))); have n1_ := Aside0.mk (below_step (by repeat (first | (with_reducible first | exact HB.out | apply below_alloc | apply pw_below_drewN | apply below_drew1) | exact HB.out)) hb); clear HB; have HO103 := n0_; have HB := n1_; clear n0_ n1_; (try clear hb); (try clear hb2); (try clear hk); (try clear hi); (try clear ho0)) | ((with_reducible refine gate_dst (N := 8) rfl ?_); refine Kd.R_lit k37 _ 37 ?hg (N := 8) ?hd (xs := ([(⟨0, 77777, (⟨#[]⟩ : ByteArray)⟩ : S37), (⟨0, 77777, (⟨#[]⟩ : ByteArray)⟩ : S37)] : List (S37))) (inner := [.int .i64 0, .int .i64 77777, .string (⟨#[]⟩ : ByteArray), .int .i64 0, .int .i64 77777, .string (⟨#[]⟩ : ByteArray)]) (ok := fun _ => True) (okp := fun _ => True) ?hr ?hp (fun _ hk => hk) trivial (Below.refl _ _) (Nat.le_refl _) (by simp) ?_; (case hd => rfl); (case hg => rfl); (case hr => first | (go_simp; done) | (go_simp; rfl)); (case hp => exact (Reps.c3 (show Kd.M k37 _ _ _ (⟨0, 77777, (⟨#[]⟩ : ByteArray)⟩ : S37) [.int .i64 0, .int .i64 77777, .string (⟨#[]⟩ : ByteArray)] from (k37_mkM _ _ _ (⟨0, 77777, (⟨#[]⟩ : ByteArray)⟩ : S37) )) (Reps.c3 (show Kd.M k37 _ _ _ (⟨0, 77777, (⟨#[]⟩ : ByteArray)⟩ : S37) [.int .i64 0, .int .i64 77777, .string (⟨#[]⟩ : ByteArray)] from (k37_mkM _ _ _ (⟨0, 77777, (⟨#[]⟩ : ByteArray)⟩ : S37) )) (Reps.none _ _)))); intro v105 w7 ho8 hb hg_ hnew_; clear hg_ hnew_; (first | rw [← Ny104.out] at ho8 | (simp only [Int.reduceToNat] at ho8; rw [← Ny104.out] at ho8)); have n0_ := Aside0.mk (Kd.R_elder' (by (with_reducible repeat (first | apply Kd.R_alloc | apply Kd.R_drewN | apply Kd.R_drew)); exact HO103.out) (Kd.R_base ho8) hb); have n1_ := Aside0.mk (Kd.R_lower (Kd.R_new' ho8 (Kd.R_lt (by (with_reducible repeat (first | apply Kd.R_alloc | apply Kd.R_drewN | apply Kd.R_drew)); exact HO103.out))) (below_size (by repeat (first | (with_reducible first | exact HB.out | apply below_alloc | apply pw_below_drewN | apply below_drew1) | exact HB.out)))); have n2_ := Aside0.mk (below_step (by repeat (first | (with_reducible first | exact HB.out | apply below_alloc | apply pw_below_drewN | apply below_drew1) | exact HB.out)) hb); clear HO103; clear HB; have HO103 := n0_; have HO106 := n1_; have HB := n2_; clear n0_ n1_ n2_; clear hb ho8; obtain ⟨Ao10, co10, eo10⟩ := Kd.R_slice HO106.out; subst eo10) | ((with_reducible refine gate_builtin (b := .append) (xs := #[.tmp 5, .tmp 8]) rfl ?_); at_builtin; refine Kd.R_append_rows k37 (w0 := w) w.heap.size rfl (.tmp 5) (.tmp 8) 22 37 (.agg #[(.int .i64 0), (.int .i64 0), (.string ⟨#[]⟩)]) 32 rfl Try.underlying22 info37 rfl (by decide) (by omega) v102 t101 y104 _ _ _ (fun k_ => some k_ ≠ (.slice Ao10 y104.length co10 : Value).ownBlock) (fun _ => False) rfl rfl ?aO ?aR (fun _ _ h => h) (fun _ h => h.elim) ?aF ?aB ?aS ?aL ?_; (case aR => repeat (first | exact (Kd.R_reads' HO106.out).2.2 | (with_reducible refine Kd.C_alloc ?_ _) | (with_reducible refine Kd.C_drewN ?_ _) | (with_reducible refine Kd.C_drew ?_))); (case aB => exact (by repeat (first | (with_reducible first | exact HB.out | apply below_alloc | apply pw_below_drewN | apply below_drew1) | exact HB.out))); (case aF => exact (fun k_ hk => Kd.fresh' (Kd.R_lt (by (with_reducible repeat (first | apply Kd.R_alloc | apply Kd.R_drewN | apply Kd.R_drew)); exact HO106.out)) k_ hk)); (case aO => exact (by (with_reducible repeat (first | apply Kd.R_alloc | apply Kd.R_drewN | apply Kd.R_drew)); exact Kd.R_mono HO103.out (fun _ hk => hk.2))); (case aS => exact (below_size (by repeat (first | (with_reducible first | exact HB.out | apply below_alloc | apply pw_below_drewN | apply below_drew1) | exact HB.out)))); (case aL => have := LMc3.out; omega); intro v108 w9 ho hb hg hat; rw [← Ny107.out] at ho; have n0_ := Aside0.mk (Kd.R_after (ok := (fun _ => True)) (by (with_reducible repeat (first | apply Kd.R_alloc | apply Kd.R_drewN | apply Kd.R_drew)); exact HO106.out) hg hat); have n1_ := Aside0.mk (hb); have n2_ := Aside0.mk (ho); clear HO106; clear HB; clear HO103; have HO106 := n0_; have HB := n1_; have HO109 := n2_; clear n0_ n1_ n2_; clear ho hb hg hat; obtain ⟨Ao11, co11, eo11⟩ := Kd.R_slice HO109.out; subst eo11; have q12 : ((l0.length : Int) : Int) ≤ ((y107.length : Int) : Int) := of_decide_eq_true (by first | (with_reducible assumption) | assumption); obtain ⟨i012, hi012, _, hsz12, _⟩ := info_parts info37; have hcut12 := cut_to (P := Try.prog) 22 37 .i64 Try.underlying22 hi012 Ao11 y107.length co11 (l0.length : Int) (of_decide_eq_true (by first | (with_reducible assumption) | assumption)) q12 (Kd.R_reads' HO109.out).2.1; have hr12 := Kd.R_take (m := ((l0.length : Int) : Int).toNat) HO109.out (by omega); have hy12 : y110.length = ((l0.length : Int) : Int).toNat := (by rw [Ny110.out, List.length_take]; omega); rw [← Ny110.out] at hr12; rw [← hy12] at hr12 hcut12; have HM_ := Aside0.mk HO109.out; clear hy12 hi012 hsz12 HO109; have HO112 := Aside0.mk hr12; clear hr12; replace q12 := eq_true q12))
       go_ret
       exact ⟨_, by first | rfl | (simp [errW_none, errW_some] <;> rfl) | (simp [*, errW_none, errW_some] <;> rfl), by (with_reducible repeat (first | apply Kd.R_alloc | apply Kd.R_drewN | apply Kd.R_drew)); exact Kd.R_mono HO112.out (fun _ hk => trivial), by (refine minuetlaw0_KeptComps.Lent_of (ok := fun _ => True) (minuetlaw0_LendComps.cut_ A2.out Ny104.out Ny107.out Ny110.out) ?_; (with_reducible repeat (first | apply Kd.R_alloc | apply Kd.R_drewN | apply Kd.R_drew)); exact Kd.R_mono HM_.out (fun _ _ => trivial)), by repeat (first | (with_reducible first | exact HB.out | apply below_alloc | apply pw_below_drewN | apply below_drew1) | exact HB.out)⟩
     · rw [if_neg c5] at H
       exact absurd H (by simp)
   · rw [if_neg c4] at H
     exact absurd H (by simp)
 · rw [if_neg c3] at H
   exact absurd H (by simp)

end Go.Proofs.Ytldaokclpkcmmab.G
