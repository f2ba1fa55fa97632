-- Laid by this session's own program gprint.py (wip/tools), out of the kit's print and of texts of this session. Lean checks it.
import Derived.Test.YtldaokclpkcmmaaGx0
import Derived.Test.YtldaokclpkcmmaaGZ3
import Derived.Test.YtldaokclpkcmmaaGCursorPMove
namespace Go.Proofs.Ytldaokclpkcmmaa.G
open Go.RowKit Go.Proofs.YtldaokclpkcmmaaW.PrintWords Go.Proofs.YtldaokclpkcmmaaW.PrintLast Go.Proofs.YtldaokclpkcmmaaW.PrintMore
attribute [local go_sem] max2_int min2_int max_two min_two max_three min_three max_four min_four   -- for this text's walks alone
set_option linter.unusedVariables false
set_option linter.unusedSimpArgs false

/-! ### minuetlaw6_awake: function 18 -/
def minuetlaw6_awake.f (k : Nat)  : Option (Bool) := (some (([(⟨0, 2, (⟨#[]⟩ : ByteArray)⟩ : S31), (⟨1, 0, (⟨#[120, 121]⟩ : ByteArray)⟩ : S31), (⟨2, 2, (⟨#[]⟩ : ByteArray)⟩ : S31), (⟨0, 1, (⟨#[]⟩ : ByteArray)⟩ : S31)] : List (S31)) : List (S31))).bind fun y101 => ((cursor_Move.f k y101 2 false).bind fun bt104 => ((cursor_Move.f k y101 2 true).bind fun bt106 => ((cursor_Move.f k y101 3 false).bind fun bt108 => ((cursor_Move.f k y101 5 false).bind fun bt110 => ((cursor_Move.f k y101 6 false).bind fun bt112 => (if bt104.1 = 2 then ((minuetlaw0_Num.f bt104.2).bind fun t114 => (if t114 = 0 then (if bt106.1 = 4 then ((minuetlaw0_Num.f bt106.2).bind fun t115 => (if t115 = 0 then (if bt108.1 = 4 then ((minuetlaw0_Num.f bt108.2).bind fun t116 => (if t116 = 0 then (if bt110.1 = 5 then ((minuetlaw0_Num.f bt110.2).bind fun t117 => (if t117 = 0 then ((minuetlaw0_Num.f bt112.2).bind fun t118 => (some (t118 == 600))) else (none))) else (none)) else (none))) else (none)) else (none))) else (none)) else (none))) else (none)))))))
theorem minuetlaw6_awake.mono : ∀ k, LeO (minuetlaw6_awake.f k ) (minuetlaw6_awake.f (k + 1) ) := by
 intro  k
 unfold minuetlaw6_awake.f
 repeat' first
  | (with_reducible exact cursor_Move.mono _ _ _ _)
  | (with_reducible exact LeO.refl _)
  | (with_reducible exact LeO.none _)
  | (with_reducible refine LeO.ite ?_ ?_)
  | (with_reducible refine LeO.bind ?_ (fun _ => ?_))
  | exact cursor_Move.mono _ _ _ _
  | exact LeO.none _
  | refine LeO.ite ?_ ?_
  | refine LeO.bind ?_ (fun _ => ?_)
set_option maxHeartbeats 8000000 in
set_option maxRecDepth 100000 in
theorem minuetlaw6_awake.calls (k : Nat)  (r : Bool) (w : World) (h : minuetlaw6_awake.f k  = some r) :
 Calls Try.prog 18 #[] w fun e w' => e = .returned (.bool r) ∧ Below w.heap.size w w' := by
 have hu31 := Try.underlying31
 have HB := Aside0.mk (Below.refl w.heap.size w)
 have H : ((some (([(⟨0, 2, (⟨#[]⟩ : ByteArray)⟩ : S31), (⟨1, 0, (⟨#[120, 121]⟩ : ByteArray)⟩ : S31), (⟨2, 2, (⟨#[]⟩ : ByteArray)⟩ : S31), (⟨0, 1, (⟨#[]⟩ : ByteArray)⟩ : S31)] : List (S31)) : List (S31))).bind fun y101 => ((cursor_Move.f k y101 2 false).bind fun bt104 => ((cursor_Move.f k y101 2 true).bind fun bt106 => ((cursor_Move.f k y101 3 false).bind fun bt108 => ((cursor_Move.f k y101 5 false).bind fun bt110 => ((cursor_Move.f k y101 6 false).bind fun bt112 => (if bt104.1 = 2 then ((minuetlaw0_Num.f bt104.2).bind fun t114 => (if t114 = 0 then (if bt106.1 = 4 then ((minuetlaw0_Num.f bt106.2).bind fun t115 => (if t115 = 0 then (if bt108.1 = 4 then ((minuetlaw0_Num.f bt108.2).bind fun t116 => (if t116 = 0 then (if bt110.1 = 5 then ((minuetlaw0_Num.f bt110.2).bind fun t117 => (if t117 = 0 then ((minuetlaw0_Num.f bt112.2).bind fun t118 => (some (t118 == 600))) else (none))) else (none)) else (none))) else (none)) else (none))) else (none)) else (none))) else (none)))))))) = some r := h
 clear h
 obtain ⟨y101, hy101⟩ : ∃ y_ : List (S31), y_ = (([(⟨0, 2, (⟨#[]⟩ : ByteArray)⟩ : S31), (⟨1, 0, (⟨#[120, 121]⟩ : ByteArray)⟩ : S31), (⟨2, 2, (⟨#[]⟩ : ByteArray)⟩ : S31), (⟨0, 1, (⟨#[]⟩ : ByteArray)⟩ : S31)] : List (S31))) := ⟨_, rfl⟩
 replace H : ((cursor_Move.f k y101 2 false).bind fun bt104 => ((cursor_Move.f k y101 2 true).bind fun bt106 => ((cursor_Move.f k y101 3 false).bind fun bt108 => ((cursor_Move.f k y101 5 false).bind fun bt110 => ((cursor_Move.f k y101 6 false).bind fun bt112 => (if bt104.1 = 2 then ((minuetlaw0_Num.f bt104.2).bind fun t114 => (if t114 = 0 then (if bt106.1 = 4 then ((minuetlaw0_Num.f bt106.2).bind fun t115 => (if t115 = 0 then (if bt108.1 = 4 then ((minuetlaw0_Num.f bt108.2).bind fun t116 => (if t116 = 0 then (if bt110.1 = 5 then ((minuetlaw0_Num.f bt110.2).bind fun t117 => (if t117 = 0 then ((minuetlaw0_Num.f bt112.2).bind fun t118 => (some (t118 == 600))) else (none))) else (none)) else (none))) else (none)) else (none))) else (none)) else (none))) else (none))))))) = some r := by first | (rw [hy101]; with_reducible exact H) | (have H2_ := (Option.bind_some _ _).symm.trans H; rw [hy101]; with_reducible exact H2_) | (have H2_ := (Option.bind_some _ _).symm.trans H; with_reducible exact H2_) | with_reducible exact H | (rw [hy101]; exact H) | exact H
 have Ny101 := Aside0.mk hy101
 clear hy101
 replace H := Option.bind_eq_some_iff.mp H
 obtain ⟨⟨t104, t105⟩, A10, H⟩ := H
 replace H : ((cursor_Move.f k y101 2 true).bind fun bt106 => ((cursor_Move.f k y101 3 false).bind fun bt108 => ((cursor_Move.f k y101 5 false).bind fun bt110 => ((cursor_Move.f k y101 6 false).bind fun bt112 => (if t104 = 2 then ((minuetlaw0_Num.f t105).bind fun t114 => (if t114 = 0 then (if bt106.1 = 4 then ((minuetlaw0_Num.f bt106.2).bind fun t115 => (if t115 = 0 then (if bt108.1 = 4 then ((minuetlaw0_Num.f bt108.2).bind fun t116 => (if t116 = 0 then (if bt110.1 = 5 then ((minuetlaw0_Num.f bt110.2).bind fun t117 => (if t117 = 0 then ((minuetlaw0_Num.f bt112.2).bind fun t118 => (some (t118 == 600))) else (none))) else (none)) else (none))) else (none)) else (none))) else (none)) else (none))) else (none)))))) = some r := H
 have A1 := Aside0.mk A10
 clear A10
 replace H := Option.bind_eq_some_iff.mp H
 obtain ⟨⟨t106, t107⟩, A20, H⟩ := H
 replace H : ((cursor_Move.f k y101 3 false).bind fun bt108 => ((cursor_Move.f k y101 5 false).bind fun bt110 => ((cursor_Move.f k y101 6 false).bind fun bt112 => (if t104 = 2 then ((minuetlaw0_Num.f t105).bind fun t114 => (if t114 = 0 then (if t106 = 4 then ((minuetlaw0_Num.f t107).bind fun t115 => (if t115 = 0 then (if bt108.1 = 4 then ((minuetlaw0_Num.f bt108.2).bind fun t116 => (if t116 = 0 then (if bt110.1 = 5 then ((minuetlaw0_Num.f bt110.2).bind fun t117 => (if t117 = 0 then ((minuetlaw0_Num.f bt112.2).bind fun t118 => (some (t118 == 600))) else (none))) else (none)) else (none))) else (none)) else (none))) else (none)) else (none))) else (none))))) = some r := H
 have A2 := Aside0.mk A20
 clear A20
 replace H := Option.bind_eq_some_iff.mp H
 obtain ⟨⟨t108, t109⟩, A30, H⟩ := H
 replace H : ((cursor_Move.f k y101 5 false).bind fun bt110 => ((cursor_Move.f k y101 6 false).bind fun bt112 => (if t104 = 2 then ((minuetlaw0_Num.f t105).bind fun t114 => (if t114 = 0 then (if t106 = 4 then ((minuetlaw0_Num.f t107).bind fun t115 => (if t115 = 0 then (if t108 = 4 then ((minuetlaw0_Num.f t109).bind fun t116 => (if t116 = 0 then (if bt110.1 = 5 then ((minuetlaw0_Num.f bt110.2).bind fun t117 => (if t117 = 0 then ((minuetlaw0_Num.f bt112.2).bind fun t118 => (some (t118 == 600))) else (none))) else (none)) else (none))) else (none)) else (none))) else (none)) else (none))) else (none)))) = some r := H
 have A3 := Aside0.mk A30
 clear A30
 replace H := Option.bind_eq_some_iff.mp H
 obtain ⟨⟨t110, t111⟩, A40, H⟩ := H
 replace H : ((cursor_Move.f k y101 6 false).bind fun bt112 => (if t104 = 2 then ((minuetlaw0_Num.f t105).bind fun t114 => (if t114 = 0 then (if t106 = 4 then ((minuetlaw0_Num.f t107).bind fun t115 => (if t115 = 0 then (if t108 = 4 then ((minuetlaw0_Num.f t109).bind fun t116 => (if t116 = 0 then (if t110 = 5 then ((minuetlaw0_Num.f t111).bind fun t117 => (if t117 = 0 then ((minuetlaw0_Num.f bt112.2).bind fun t118 => (some (t118 == 600))) else (none))) else (none)) else (none))) else (none)) else (none))) else (none)) else (none))) else (none))) = some r := H
 have A4 := Aside0.mk A40
 clear A40
 replace H := Option.bind_eq_some_iff.mp H
 obtain ⟨⟨t112, t113⟩, A50, H⟩ := H
 replace H : (if t104 = 2 then ((minuetlaw0_Num.f t105).bind fun t114 => (if t114 = 0 then (if t106 = 4 then ((minuetlaw0_Num.f t107).bind fun t115 => (if t115 = 0 then (if t108 = 4 then ((minuetlaw0_Num.f t109).bind fun t116 => (if t116 = 0 then (if t110 = 5 then ((minuetlaw0_Num.f t111).bind fun t117 => (if t117 = 0 then ((minuetlaw0_Num.f t113).bind fun t118 => (some (t118 == 600))) else (none))) else (none)) else (none))) else (none)) else (none))) else (none)) else (none))) else (none)) = some r := H
 have A5 := Aside0.mk A50
 clear A50
 by_cases c6 : t104 = 2
 · rw [if_pos c6] at H
   have c6b0 : (t104 == 2) = true := beq_iff_eq.mpr c6
   have c6b1 : (t104 != 2) = false := bne_eq_false_iff_eq.mpr c6
   clear c6
   replace H := Option.bind_eq_some_iff.mp H
   obtain ⟨t114, A70, H⟩ := H
   replace H : (if t114 = 0 then (if t106 = 4 then ((minuetlaw0_Num.f t107).bind fun t115 => (if t115 = 0 then (if t108 = 4 then ((minuetlaw0_Num.f t109).bind fun t116 => (if t116 = 0 then (if t110 = 5 then ((minuetlaw0_Num.f t111).bind fun t117 => (if t117 = 0 then ((minuetlaw0_Num.f t113).bind fun t118 => (some (t118 == 600))) else (none))) else (none)) else (none))) else (none)) else (none))) else (none)) else (none)) = some r := H
   have A7 := Aside0.mk A70
   clear A70
   by_cases c8 : t114 = 0
   · rw [if_pos c8] at H
     have c8b0 : (t114 == 0) = true := beq_iff_eq.mpr c8
     have c8b1 : (t114 != 0) = false := bne_eq_false_iff_eq.mpr c8
     clear c8
     by_cases c9 : t106 = 4
     · rw [if_pos c9] at H
       have c9b0 : (t106 == 4) = true := beq_iff_eq.mpr c9
       have c9b1 : (t106 != 4) = false := bne_eq_false_iff_eq.mpr c9
       clear c9
       replace H := Option.bind_eq_some_iff.mp H
       obtain ⟨t115, A100, H⟩ := H
       replace H : (if t115 = 0 then (if t108 = 4 then ((minuetlaw0_Num.f t109).bind fun t116 => (if t116 = 0 then (if t110 = 5 then ((minuetlaw0_Num.f t111).bind fun t117 => (if t117 = 0 then ((minuetlaw0_Num.f t113).bind fun t118 => (some (t118 == 600))) else (none))) else (none)) else (none))) else (none)) else (none)) = some r := H
       have A10 := Aside0.mk A100
       clear A100
       by_cases c11 : t115 = 0
       · rw [if_pos c11] at H
         have c11b0 : (t115 == 0) = true := beq_iff_eq.mpr c11
         have c11b1 : (t115 != 0) = false := bne_eq_false_iff_eq.mpr c11
         clear c11
         by_cases c12 : t108 = 4
         · rw [if_pos c12] at H
           have c12b0 : (t108 == 4) = true := beq_iff_eq.mpr c12
           have c12b1 : (t108 != 4) = false := bne_eq_false_iff_eq.mpr c12
           clear c12
           replace H := Option.bind_eq_some_iff.mp H
           obtain ⟨t116, A130, H⟩ := H
           replace H : (if t116 = 0 then (if t110 = 5 then ((minuetlaw0_Num.f t111).bind fun t117 => (if t117 = 0 then ((minuetlaw0_Num.f t113).bind fun t118 => (some (t118 == 600))) else (none))) else (none)) else (none)) = some r := H
           have A13 := Aside0.mk A130
           clear A130
           by_cases c14 : t116 = 0
           · rw [if_pos c14] at H
             have c14b0 : (t116 == 0) = true := beq_iff_eq.mpr c14
             have c14b1 : (t116 != 0) = false := bne_eq_false_iff_eq.mpr c14
             clear c14
             by_cases c15 : t110 = 5
             · rw [if_pos c15] at H
               have c15b0 : (t110 == 5) = true := beq_iff_eq.mpr c15
               have c15b1 : (t110 != 5) = false := bne_eq_false_iff_eq.mpr c15
               clear c15
               replace H := Option.bind_eq_some_iff.mp H
               obtain ⟨t117, A160, H⟩ := H
               replace H : (if t117 = 0 then ((minuetlaw0_Num.f t113).bind fun t118 => (some (t118 == 600))) else (none)) = some r := H
               have A16 := Aside0.mk A160
               clear A160
               by_cases c17 : t117 = 0
               · rw [if_pos c17] at H
                 have c17b0 : (t117 == 0) = true := beq_iff_eq.mpr c17
                 have c17b1 : (t117 != 0) = false := bne_eq_false_iff_eq.mpr c17
                 clear c17
                 replace H := Option.bind_eq_some_iff.mp H
                 obtain ⟨t118, A180, H⟩ := H
                 replace H : (some (t118 == 600)) = some r := H
                 have A18 := Aside0.mk A180
                 clear A180
                 obtain rfl := Option.some.inj H
                 go_enter Try.func18, Try.ntmps18
                 go_wp2_with (first | ((with_reducible refine gate_dst (N := 16) rfl ?_); refine Kd.R_lit k31 _ 31 ?hg (N := 16) ?hd (xs := ([(⟨0, 2, (⟨#[]⟩ : ByteArray)⟩ : S31), (⟨1, 0, (⟨#[120, 121]⟩ : ByteArray)⟩ : S31), (⟨2, 2, (⟨#[]⟩ : ByteArray)⟩ : S31), (⟨0, 1, (⟨#[]⟩ : ByteArray)⟩ : S31)] : List (S31))) (inner := [.int .i64 0, .int .i64 2, .string (⟨#[]⟩ : ByteArray), .int .i64 1, .int .i64 0, .string (⟨#[120, 121]⟩ : ByteArray), .int .i64 2, .int .i64 2, .string (⟨#[]⟩ : ByteArray), .int .i64 0, .int .i64 1, .string (⟨#[]⟩ : ByteArray)]) (ok := fun _ => True) (okp := fun _ => True) ?hr ?hp (fun _ hk => hk) trivial (Below.refl _ _) (Nat.le_refl _) (by simp) ?_; (case hd => rfl); (case hg => rfl); (case hr => first | (go_simp; done) | (go_simp; rfl)); (case hp => exact (Reps.c3 (show Kd.M k31 _ _ _ (⟨0, 2, (⟨#[]⟩ : ByteArray)⟩ : S31) [.int .i64 0, .int .i64 2, .string (⟨#[]⟩ : ByteArray)] from (k31_mkM _ _ _ (⟨0, 2, (⟨#[]⟩ : ByteArray)⟩ : S31) )) (Reps.c3 (show Kd.M k31 _ _ _ (⟨1, 0, (⟨#[120, 121]⟩ : ByteArray)⟩ : S31) [.int .i64 1, .int .i64 0, .string (⟨#[120, 121]⟩ : ByteArray)] from (k31_mkM _ _ _ (⟨1, 0, (⟨#[120, 121]⟩ : ByteArray)⟩ : S31) )) (Reps.c3 (show Kd.M k31 _ _ _ (⟨2, 2, (⟨#[]⟩ : ByteArray)⟩ : S31) [.int .i64 2, .int .i64 2, .string (⟨#[]⟩ : ByteArray)] from (k31_mkM _ _ _ (⟨2, 2, (⟨#[]⟩ : ByteArray)⟩ : S31) )) (Reps.c3 (show Kd.M k31 _ _ _ (⟨0, 1, (⟨#[]⟩ : ByteArray)⟩ : S31) [.int .i64 0, .int .i64 1, .string (⟨#[]⟩ : ByteArray)] from (k31_mkM _ _ _ (⟨0, 1, (⟨#[]⟩ : ByteArray)⟩ : S31) )) (Reps.none _ _)))))); intro v102 w19 ho20 hb hg_ hnew_; clear hg_ hnew_; (first | rw [← Ny101.out] at ho20 | (simp only [Int.reduceToNat] at ho20; rw [← Ny101.out] at ho20)); have n0_ := Aside0.mk (Kd.R_lower ho20 (below_size (by repeat (first | (with_reducible first | exact HB.out | apply below_alloc | apply pw_below_drewN | apply below_drew1) | exact HB.out)))); have n1_ := Aside0.mk (below_step (by repeat (first | (with_reducible first | exact HB.out | apply below_alloc | apply pw_below_drewN | apply below_drew1) | exact HB.out)) hb); clear HB; have HO103 := n0_; have HB := n1_; clear n0_ n1_; clear hb ho20; obtain ⟨Ao21, co21, eo21⟩ := Kd.R_slice HO103.out; subst eo21) | ((with_reducible refine gate_callee (f := 20) rfl ?_); refine goesL_ (some 19) rfl rfl Try.func20 (by kernel_rfl) rfl #[.slice Ao21 y101.length co21, .int .i64 2, .bool false] rfl (by (try simp only [List.map_toArray, List.map_cons, List.map_nil]); first | done | rfl | (simp only [List.length_drop, List.length_take]; rfl)) ?_; (with_reducible refine (cursor_Move.calls k _ _ y101 2 false t104 t105 _ ?side1 ?side2 A1.out).mono ?_); (case side1 => repeat (first | exact (Kd.R_reads' HO103.out).2.2 | (with_reducible refine Kd.C_alloc ?_ _) | (with_reducible refine Kd.C_drewN ?_ _) | (with_reducible refine Kd.C_drew ?_))); (case side2 => exact (Kd.R_reads' HO103.out).2.1); rintro e w22 ⟨rfl, hb⟩; refine ⟨_, rfl, ?_⟩; have n0_ := Aside0.mk (Kd.R_below (by (with_reducible repeat (first | apply Kd.R_alloc | apply Kd.R_drewN | apply Kd.R_drew)); exact HO103.out) hb); have n1_ := Aside0.mk (below_step (by repeat (first | (with_reducible first | exact HB.out | apply below_alloc | apply pw_below_drewN | apply below_drew1) | exact HB.out)) hb); clear HO103; clear HB; have HO103 := n0_; have HB := n1_; clear n0_ n1_; (try clear hb); (try clear hb2); (try clear hk); (try clear hi)) | ((with_reducible refine gate_callee (f := 20) rfl ?_); refine goesL_ (some 24) rfl rfl Try.func20 (by kernel_rfl) rfl #[.slice Ao21 y101.length co21, .int .i64 2, .bool true] rfl (by (try simp only [List.map_toArray, List.map_cons, List.map_nil]); first | done | rfl | (simp only [List.length_drop, List.length_take]; rfl)) ?_; (with_reducible refine (cursor_Move.calls k _ _ y101 2 true t106 t107 _ ?side1 ?side2 A2.out).mono ?_); (case side1 => repeat (first | exact (Kd.R_reads' HO103.out).2.2 | (with_reducible refine Kd.C_alloc ?_ _) | (with_reducible refine Kd.C_drewN ?_ _) | (with_reducible refine Kd.C_drew ?_))); (case side2 => exact (Kd.R_reads' HO103.out).2.1); rintro e w23 ⟨rfl, hb⟩; refine ⟨_, rfl, ?_⟩; have n0_ := Aside0.mk (Kd.R_below (by (with_reducible repeat (first | apply Kd.R_alloc | apply Kd.R_drewN | apply Kd.R_drew)); exact HO103.out) hb); have n1_ := Aside0.mk (below_step (by repeat (first | (with_reducible first | exact HB.out | apply below_alloc | apply pw_below_drewN | apply below_drew1) | exact HB.out)) hb); clear HO103; clear HB; have HO103 := n0_; have HB := n1_; clear n0_ n1_; (try clear hb); (try clear hb2); (try clear hk); (try clear hi)) | ((with_reducible refine gate_callee (f := 20) rfl ?_); refine goesL_ (some 29) rfl rfl Try.func20 (by kernel_rfl) rfl #[.slice Ao21 y101.length co21, .int .i64 3, .bool false] rfl (by (try simp only [List.map_toArray, List.map_cons, List.map_nil]); first | done | rfl | (simp only [List.length_drop, List.length_take]; rfl)) ?_; (with_reducible refine (cursor_Move.calls k _ _ y101 3 false t108 t109 _ ?side1 ?side2 A3.out).mono ?_); (case side1 => repeat (first | exact (Kd.R_reads' HO103.out).2.2 | (with_reducible refine Kd.C_alloc ?_ _) | (with_reducible refine Kd.C_drewN ?_ _) | (with_reducible refine Kd.C_drew ?_))); (case side2 => exact (Kd.R_reads' HO103.out).2.1); rintro e w24 ⟨rfl, hb⟩; refine ⟨_, rfl, ?_⟩; have n0_ := Aside0.mk (Kd.R_below (by (with_reducible repeat (first | apply Kd.R_alloc | apply Kd.R_drewN | apply Kd.R_drew)); exact HO103.out) hb); have n1_ := Aside0.mk (below_step (by repeat (first | (with_reducible first | exact HB.out | apply below_alloc | apply pw_below_drewN | apply below_drew1) | exact HB.out)) hb); clear HO103; clear HB; have HO103 := n0_; have HB := n1_; clear n0_ n1_; (try clear hb); (try clear hb2); (try clear hk); (try clear hi)) | ((with_reducible refine gate_callee (f := 20) rfl ?_); refine goesL_ (some 34) rfl rfl Try.func20 (by kernel_rfl) rfl #[.slice Ao21 y101.length co21, .int .i64 5, .bool false] rfl (by (try simp only [List.map_toArray, List.map_cons, List.map_nil]); first | done | rfl | (simp only [List.length_drop, List.length_take]; rfl)) ?_; (with_reducible refine (cursor_Move.calls k _ _ y101 5 false t110 t111 _ ?side1 ?side2 A4.out).mono ?_); (case side1 => repeat (first | exact (Kd.R_reads' HO103.out).2.2 | (with_reducible refine Kd.C_alloc ?_ _) | (with_reducible refine Kd.C_drewN ?_ _) | (with_reducible refine Kd.C_drew ?_))); (case side2 => exact (Kd.R_reads' HO103.out).2.1); rintro e w25 ⟨rfl, hb⟩; refine ⟨_, rfl, ?_⟩; have n0_ := Aside0.mk (Kd.R_below (by (with_reducible repeat (first | apply Kd.R_alloc | apply Kd.R_drewN | apply Kd.R_drew)); exact HO103.out) hb); have n1_ := Aside0.mk (below_step (by repeat (first | (with_reducible first | exact HB.out | apply below_alloc | apply pw_below_drewN | apply below_drew1) | exact HB.out)) hb); clear HO103; clear HB; have HO103 := n0_; have HB := n1_; clear n0_ n1_; (try clear hb); (try clear hb2); (try clear hk); (try clear hi)) | ((with_reducible refine gate_callee (f := 20) rfl ?_); refine goesL_ (some 39) rfl rfl Try.func20 (by kernel_rfl) rfl #[.slice Ao21 y101.length co21, .int .i64 6, .bool false] rfl (by (try simp only [List.map_toArray, List.map_cons, List.map_nil]); first | done | rfl | (simp only [List.length_drop, List.length_take]; rfl)) ?_; (with_reducible refine (cursor_Move.calls k _ _ y101 6 false t112 t113 _ ?side1 ?side2 A5.out).mono ?_); (case side1 => repeat (first | exact (Kd.R_reads' HO103.out).2.2 | (with_reducible refine Kd.C_alloc ?_ _) | (with_reducible refine Kd.C_drewN ?_ _) | (with_reducible refine Kd.C_drew ?_))); (case side2 => exact (Kd.R_reads' HO103.out).2.1); rintro e w26 ⟨rfl, hb⟩; refine ⟨_, rfl, ?_⟩; have n0_ := Aside0.mk (Kd.R_below (by (with_reducible repeat (first | apply Kd.R_alloc | apply Kd.R_drewN | apply Kd.R_drew)); exact HO103.out) hb); have n1_ := Aside0.mk (below_step (by repeat (first | (with_reducible first | exact HB.out | apply below_alloc | apply pw_below_drewN | apply below_drew1) | exact HB.out)) hb); clear HO103; clear HB; have HO103 := n0_; have HB := n1_; clear n0_ n1_; (try clear hb); (try clear hb2); (try clear hk); (try clear hi)) | (go_at_call 15; (with_reducible refine (minuetlaw0_Num.calls t105 t114 _ A7.out).mono ?_); rintro e w' ⟨rfl, ⟨nd, rfl⟩⟩) | (go_at_call 15; (with_reducible refine (minuetlaw0_Num.calls t107 t115 _ A10.out).mono ?_); rintro e w' ⟨rfl, ⟨nd, rfl⟩⟩) | (go_at_call 15; (with_reducible refine (minuetlaw0_Num.calls t109 t116 _ A13.out).mono ?_); rintro e w' ⟨rfl, ⟨nd, rfl⟩⟩) | (go_at_call 15; (with_reducible refine (minuetlaw0_Num.calls t111 t117 _ A16.out).mono ?_); rintro e w' ⟨rfl, ⟨nd, rfl⟩⟩) | (go_at_call 15; (with_reducible refine (minuetlaw0_Num.calls t113 t118 _ A18.out).mono ?_); rintro e w' ⟨rfl, ⟨nd, rfl⟩⟩))
                 go_ret
                 exact ⟨by first | rfl | (simp [errW_none, errW_some] <;> rfl) | (simp [*, errW_none, errW_some] <;> rfl), by repeat (first | (with_reducible first | exact HB.out | apply below_alloc | apply pw_below_drewN | apply below_drew1) | exact HB.out)⟩
               · rw [if_neg c17] at H
                 exact absurd H (by simp)
             · rw [if_neg c15] at H
               exact absurd H (by simp)
           · rw [if_neg c14] at H
             exact absurd H (by simp)
         · rw [if_neg c12] at H
           exact absurd H (by simp)
       · rw [if_neg c11] at H
         exact absurd H (by simp)
     · rw [if_neg c9] at H
       exact absurd H (by simp)
   · rw [if_neg c8] at H
     exact absurd H (by simp)
 · rw [if_neg c6] at H
   exact absurd H (by simp)

end Go.Proofs.Ytldaokclpkcmmaa.G
