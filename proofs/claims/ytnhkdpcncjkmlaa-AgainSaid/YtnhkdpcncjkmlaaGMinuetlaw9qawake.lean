-- Laid by this session's own program gprint.py (wip/tools), out of the kit's print and of texts of this session. Lean checks it.
import Derived.Test.YtnhkdpcncjkmlaaGx0
import Derived.Test.YtnhkdpcncjkmlaaGLexPTokens
import Derived.Test.YtnhkdpcncjkmlaaGMinuetlaw0PSameTokens
import Derived.Test.YtnhkdpcncjkmlaaGMinuetlaw0PNum
namespace Go.Proofs.Ytnhkdpcncjkmlaa.G
open Go.RowKit Go.Proofs.YtnhkdpcncjkmlaaW.PrintWords Go.Proofs.YtnhkdpcncjkmlaaW.PrintLast Go.Proofs.YtnhkdpcncjkmlaaW.PrintMore
attribute [local go_sem] max2_int min2_int max_two min_two max_three min_three max_four min_four   -- for this text's walks alone
set_option linter.unusedVariables false
set_option linter.unusedSimpArgs false

/-! ### minuetlaw9_awake: function 17 -/
def minuetlaw9_awake.f (k : Nat)  : Option (Bool) := (lex_Tokens.f (⟨#[123, 34, 97, 92, 34, 34, 58, 32, 45, 49, 46, 53, 101, 51, 44, 32, 47, 47, 32, 120, 10, 32, 116, 114, 117, 32, 110, 117, 108, 108, 125]⟩ : ByteArray)).bind fun bt101 => ((minuetlaw0_SameTokens.f k bt101.1 (([(⟨0, 0, 1⟩ : S34), (⟨6, 1, 6⟩ : S34), (⟨4, 6, 7⟩ : S34), (⟨10, 7, 8⟩ : S34), (⟨7, 8, 14⟩ : S34), (⟨5, 14, 15⟩ : S34), (⟨10, 15, 16⟩ : S34), (⟨9, 16, 20⟩ : S34), (⟨10, 20, 22⟩ : S34), (⟨11, 22, 25⟩ : S34), (⟨10, 25, 26⟩ : S34), (⟨8, 26, 30⟩ : S34), (⟨1, 30, 31⟩ : S34)] : List (S34)))).bind fun t108 => (if t108 = true then ((minuetlaw0_Num.f bt101.2).bind fun t109 => (some (t109 == 0))) else (none)))
theorem minuetlaw9_awake.mono : ∀ k, LeO (minuetlaw9_awake.f k ) (minuetlaw9_awake.f (k + 1) ) := by
 intro  k
 unfold minuetlaw9_awake.f
 repeat' first
  | (with_reducible exact minuetlaw0_SameTokens.mono _ _ _)
  | (with_reducible exact LeO.refl _)
  | (with_reducible exact LeO.none _)
  | (with_reducible refine LeO.ite ?_ ?_)
  | (with_reducible refine LeO.bind ?_ (fun _ => ?_))
  | exact minuetlaw0_SameTokens.mono _ _ _
  | exact LeO.none _
  | refine LeO.ite ?_ ?_
  | refine LeO.bind ?_ (fun _ => ?_)
set_option maxHeartbeats 8000000 in
set_option maxRecDepth 100000 in
theorem minuetlaw9_awake.calls (k : Nat)  (r : Bool) (w : World) (hm_ : MaxOk w) (h : minuetlaw9_awake.f k  = some r) :
 Calls Try.prog 17 #[] w fun e w' => e = .returned (.bool r) ∧ Below w.heap.size w w' := by
 have HM_ := Aside0.mk hm_
 clear hm_
 have hu34 := Try.underlying34
 have HB := Aside0.mk (Below.refl w.heap.size w)
 have H : ((lex_Tokens.f (⟨#[123, 34, 97, 92, 34, 34, 58, 32, 45, 49, 46, 53, 101, 51, 44, 32, 47, 47, 32, 120, 10, 32, 116, 114, 117, 32, 110, 117, 108, 108, 125]⟩ : ByteArray)).bind fun bt101 => ((minuetlaw0_SameTokens.f k bt101.1 (([(⟨0, 0, 1⟩ : S34), (⟨6, 1, 6⟩ : S34), (⟨4, 6, 7⟩ : S34), (⟨10, 7, 8⟩ : S34), (⟨7, 8, 14⟩ : S34), (⟨5, 14, 15⟩ : S34), (⟨10, 15, 16⟩ : S34), (⟨9, 16, 20⟩ : S34), (⟨10, 20, 22⟩ : S34), (⟨11, 22, 25⟩ : S34), (⟨10, 25, 26⟩ : S34), (⟨8, 26, 30⟩ : S34), (⟨1, 30, 31⟩ : S34)] : List (S34)))).bind fun t108 => (if t108 = true then ((minuetlaw0_Num.f bt101.2).bind fun t109 => (some (t109 == 0))) else (none)))) = some r := h
 clear h
 replace H := Option.bind_eq_some_iff.mp H
 obtain ⟨⟨t101, t102⟩, A10, H⟩ := H
 replace H : ((minuetlaw0_SameTokens.f k t101 (([(⟨0, 0, 1⟩ : S34), (⟨6, 1, 6⟩ : S34), (⟨4, 6, 7⟩ : S34), (⟨10, 7, 8⟩ : S34), (⟨7, 8, 14⟩ : S34), (⟨5, 14, 15⟩ : S34), (⟨10, 15, 16⟩ : S34), (⟨9, 16, 20⟩ : S34), (⟨10, 20, 22⟩ : S34), (⟨11, 22, 25⟩ : S34), (⟨10, 25, 26⟩ : S34), (⟨8, 26, 30⟩ : S34), (⟨1, 30, 31⟩ : S34)] : List (S34)))).bind fun t108 => (if t108 = true then ((minuetlaw0_Num.f t102).bind fun t109 => (some (t109 == 0))) else (none))) = some r := H
 have A1 := Aside0.mk A10
 clear A10
 obtain ⟨y105, hy105⟩ : ∃ y_ : List (S34), y_ = (([(⟨0, 0, 1⟩ : S34), (⟨6, 1, 6⟩ : S34), (⟨4, 6, 7⟩ : S34), (⟨10, 7, 8⟩ : S34), (⟨7, 8, 14⟩ : S34), (⟨5, 14, 15⟩ : S34), (⟨10, 15, 16⟩ : S34), (⟨9, 16, 20⟩ : S34), (⟨10, 20, 22⟩ : S34), (⟨11, 22, 25⟩ : S34), (⟨10, 25, 26⟩ : S34), (⟨8, 26, 30⟩ : S34), (⟨1, 30, 31⟩ : S34)] : List (S34))) := ⟨_, rfl⟩
 replace H : ((minuetlaw0_SameTokens.f k t101 y105).bind fun t108 => (if t108 = true then ((minuetlaw0_Num.f t102).bind fun t109 => (some (t109 == 0))) else (none))) = some r := by first | (rw [hy105]; with_reducible exact H) | (have H2_ := (Option.bind_some _ _).symm.trans H; rw [hy105]; with_reducible exact H2_) | (have H2_ := (Option.bind_some _ _).symm.trans H; with_reducible exact H2_) | with_reducible exact H | (rw [hy105]; exact H) | exact H
 have Ny105 := Aside0.mk hy105
 clear hy105
 replace H := Option.bind_eq_some_iff.mp H
 obtain ⟨t108, A20, H⟩ := H
 replace H : (if t108 = true then ((minuetlaw0_Num.f t102).bind fun t109 => (some (t109 == 0))) else (none)) = some r := H
 have A2 := Aside0.mk A20
 clear A20
 by_cases c3 : t108 = true
 · subst c3
   have H1 : ((minuetlaw0_Num.f t102).bind fun t109 => (some (t109 == 0))) = some r := by rw [if_pos rfl] at H; exact H
   clear H
   have H := H1
   clear H1
   replace H := Option.bind_eq_some_iff.mp H
   obtain ⟨t109, A40, H⟩ := H
   replace H : (some (t109 == 0)) = some r := H
   have A4 := Aside0.mk A40
   clear A40
   obtain rfl := Option.some.inj H
   go_enter Try.func17, Try.ntmps17
   go_wp2_with (first | ((with_reducible refine gate_callee (f := 12) rfl ?_); refine goesL_ (some 4) rfl rfl Try.func12 (by kernel_rfl) rfl #[.string (⟨#[123, 34, 97, 92, 34, 34, 58, 32, 45, 49, 46, 53, 101, 51, 44, 32, 47, 47, 32, 120, 10, 32, 116, 114, 117, 32, 110, 117, 108, 108, 125]⟩ : ByteArray)] rfl (by (try simp only [List.map_toArray, List.map_cons, List.map_nil]); first | done | rfl | (simp only [List.length_drop, List.length_take]; rfl)) ?_; (with_reducible refine (lex_Tokens.calls (⟨#[123, 34, 97, 92, 34, 34, 58, 32, 45, 49, 46, 53, 101, 51, 44, 32, 47, 47, 32, 120, 10, 32, 116, 114, 117, 32, 110, 117, 108, 108, 125]⟩ : ByteArray) t101 t102 _ (MaxOk.of HM_.out (by repeat (first | (with_reducible first | exact HB.out | apply below_alloc | apply pw_below_drewN | apply below_drew1) | exact HB.out))) A1.out).mono ?_); rintro e w5 ⟨v103, rfl, ho0, hb⟩; refine ⟨_, rfl, ?_⟩; have n0_ := Aside0.mk (Kd.R_lower ho0 (below_size (by repeat (first | (with_reducible first | exact HB.out | apply below_alloc | apply pw_below_drewN | apply below_drew1) | exact HB.out)))); have n1_ := Aside0.mk (below_step (by repeat (first | (with_reducible first | exact HB.out | apply below_alloc | apply pw_below_drewN | apply below_drew1) | exact HB.out)) hb); clear HB; have HO104 := n0_; have HB := n1_; clear n0_ n1_; (try clear hb); (try clear hb2); (try clear hk); (try clear hi); (try clear ho0)) | ((with_reducible refine gate_dst (N := 21) rfl ?_); refine Kd.R_lit k34 _ 34 ?hg (N := 21) ?hd (xs := ([(⟨0, 0, 1⟩ : S34), (⟨6, 1, 6⟩ : S34), (⟨4, 6, 7⟩ : S34), (⟨10, 7, 8⟩ : S34), (⟨7, 8, 14⟩ : S34), (⟨5, 14, 15⟩ : S34), (⟨10, 15, 16⟩ : S34), (⟨9, 16, 20⟩ : S34), (⟨10, 20, 22⟩ : S34), (⟨11, 22, 25⟩ : S34), (⟨10, 25, 26⟩ : S34), (⟨8, 26, 30⟩ : S34), (⟨1, 30, 31⟩ : S34)] : List (S34))) (inner := [.int .i64 0, .int .i64 0, .int .i64 1, .int .i64 6, .int .i64 1, .int .i64 6, .int .i64 4, .int .i64 6, .int .i64 7, .int .i64 10, .int .i64 7, .int .i64 8, .int .i64 7, .int .i64 8, .int .i64 14, .int .i64 5, .int .i64 14, .int .i64 15, .int .i64 10, .int .i64 15, .int .i64 16, .int .i64 9, .int .i64 16, .int .i64 20, .int .i64 10, .int .i64 20, .int .i64 22, .int .i64 11, .int .i64 22, .int .i64 25, .int .i64 10, .int .i64 25, .int .i64 26, .int .i64 8, .int .i64 26, .int .i64 30, .int .i64 1, .int .i64 30, .int .i64 31]) (ok := fun _ => True) (okp := fun _ => True) ?hr ?hp (fun _ hk => hk) trivial (Below.refl _ _) (Nat.le_refl _) (by simp) ?_; (case hd => rfl); (case hg => rfl); (case hr => first | (go_simp; done) | (go_simp; rfl)); (case hp => exact (Reps.c3 (show Kd.M k34 _ _ _ (⟨0, 0, 1⟩ : S34) [.int .i64 0, .int .i64 0, .int .i64 1] from (k34_mkM _ _ _ (⟨0, 0, 1⟩ : S34) )) (Reps.c3 (show Kd.M k34 _ _ _ (⟨6, 1, 6⟩ : S34) [.int .i64 6, .int .i64 1, .int .i64 6] from (k34_mkM _ _ _ (⟨6, 1, 6⟩ : S34) )) (Reps.c3 (show Kd.M k34 _ _ _ (⟨4, 6, 7⟩ : S34) [.int .i64 4, .int .i64 6, .int .i64 7] from (k34_mkM _ _ _ (⟨4, 6, 7⟩ : S34) )) (Reps.c3 (show Kd.M k34 _ _ _ (⟨10, 7, 8⟩ : S34) [.int .i64 10, .int .i64 7, .int .i64 8] from (k34_mkM _ _ _ (⟨10, 7, 8⟩ : S34) )) (Reps.c3 (show Kd.M k34 _ _ _ (⟨7, 8, 14⟩ : S34) [.int .i64 7, .int .i64 8, .int .i64 14] from (k34_mkM _ _ _ (⟨7, 8, 14⟩ : S34) )) (Reps.c3 (show Kd.M k34 _ _ _ (⟨5, 14, 15⟩ : S34) [.int .i64 5, .int .i64 14, .int .i64 15] from (k34_mkM _ _ _ (⟨5, 14, 15⟩ : S34) )) (Reps.c3 (show Kd.M k34 _ _ _ (⟨10, 15, 16⟩ : S34) [.int .i64 10, .int .i64 15, .int .i64 16] from (k34_mkM _ _ _ (⟨10, 15, 16⟩ : S34) )) (Reps.c3 (show Kd.M k34 _ _ _ (⟨9, 16, 20⟩ : S34) [.int .i64 9, .int .i64 16, .int .i64 20] from (k34_mkM _ _ _ (⟨9, 16, 20⟩ : S34) )) (Reps.c3 (show Kd.M k34 _ _ _ (⟨10, 20, 22⟩ : S34) [.int .i64 10, .int .i64 20, .int .i64 22] from (k34_mkM _ _ _ (⟨10, 20, 22⟩ : S34) )) (Reps.c3 (show Kd.M k34 _ _ _ (⟨11, 22, 25⟩ : S34) [.int .i64 11, .int .i64 22, .int .i64 25] from (k34_mkM _ _ _ (⟨11, 22, 25⟩ : S34) )) (Reps.c3 (show Kd.M k34 _ _ _ (⟨10, 25, 26⟩ : S34) [.int .i64 10, .int .i64 25, .int .i64 26] from (k34_mkM _ _ _ (⟨10, 25, 26⟩ : S34) )) (Reps.c3 (show Kd.M k34 _ _ _ (⟨8, 26, 30⟩ : S34) [.int .i64 8, .int .i64 26, .int .i64 30] from (k34_mkM _ _ _ (⟨8, 26, 30⟩ : S34) )) (Reps.c3 (show Kd.M k34 _ _ _ (⟨1, 30, 31⟩ : S34) [.int .i64 1, .int .i64 30, .int .i64 31] from (k34_mkM _ _ _ (⟨1, 30, 31⟩ : S34) )) (Reps.none _ _))))))))))))))); intro v106 w6 ho7 hb hg_ hnew_; clear hg_ hnew_; (first | rw [← Ny105.out] at ho7 | (simp only [Int.reduceToNat] at ho7; rw [← Ny105.out] at ho7)); have n0_ := Aside0.mk (Kd.R_elder' (by (with_reducible repeat (first | apply Kd.R_alloc | apply Kd.R_drewN | apply Kd.R_drew)); exact HO104.out) (Kd.R_base ho7) hb); have n1_ := Aside0.mk (Kd.R_lower (Kd.R_new' ho7 (Kd.R_lt (by (with_reducible repeat (first | apply Kd.R_alloc | apply Kd.R_drewN | apply Kd.R_drew)); exact HO104.out))) (below_size (by repeat (first | (with_reducible first | exact HB.out | apply below_alloc | apply pw_below_drewN | apply below_drew1) | exact HB.out)))); have n2_ := Aside0.mk (below_step (by repeat (first | (with_reducible first | exact HB.out | apply below_alloc | apply pw_below_drewN | apply below_drew1) | exact HB.out)) hb); clear HO104; clear HB; have HO104 := n0_; have HO107 := n1_; have HB := n2_; clear n0_ n1_ n2_; clear hb ho7; obtain ⟨Ao8, co8, eo8⟩ := Kd.R_slice HO104.out; subst eo8; obtain ⟨Ao9, co9, eo9⟩ := Kd.R_slice HO107.out; subst eo9) | ((with_reducible refine gate_callee (f := 14) rfl ?_); refine goesL_ (some 22) rfl rfl Try.func14 (by kernel_rfl) rfl #[.slice Ao8 t101.length co8, .slice Ao9 y105.length co9] rfl (by (try simp only [List.map_toArray, List.map_cons, List.map_nil]); first | done | rfl | (simp only [List.length_drop, List.length_take]; rfl)) ?_; (with_reducible refine (minuetlaw0_SameTokens.calls k _ _ t101 _ _ y105 true _ ?side1 ?side2 ?side3 ?side4 A2.out).mono ?_); (case side1 => repeat (first | exact (Kd.R_reads' HO104.out).2.2 | (with_reducible refine Kd.C_alloc ?_ _) | (with_reducible refine Kd.C_drewN ?_ _) | (with_reducible refine Kd.C_drew ?_))); (case side2 => exact (Kd.R_reads' HO104.out).2.1); (case side3 => repeat (first | exact (Kd.R_reads' HO107.out).2.2 | (with_reducible refine Kd.C_alloc ?_ _) | (with_reducible refine Kd.C_drewN ?_ _) | (with_reducible refine Kd.C_drew ?_))); (case side4 => exact (Kd.R_reads' HO107.out).2.1); rintro e w' ⟨rfl, ⟨nd, rfl⟩⟩; refine ⟨_, rfl, ?_⟩) | (go_at_call 15; (with_reducible refine (minuetlaw0_Num.calls t102 t109 _ A4.out).mono ?_); rintro e w' ⟨rfl, ⟨nd, rfl⟩⟩))
   go_ret
   exact ⟨by first | rfl | (simp [errW_none, errW_some] <;> rfl) | (simp [*, errW_none, errW_some] <;> rfl), by repeat (first | (with_reducible first | exact HB.out | apply below_alloc | apply pw_below_drewN | apply below_drew1) | exact HB.out)⟩
 · replace c3 := Bool.eq_false_iff.mpr c3
   subst c3
   have H1 : (none) = some r := by rw [if_neg (show ¬ (false = true) by decide)] at H; exact H
   clear H
   have H := H1
   clear H1
   exact absurd H (by simp)

end Go.Proofs.Ytnhkdpcncjkmlaa.G
