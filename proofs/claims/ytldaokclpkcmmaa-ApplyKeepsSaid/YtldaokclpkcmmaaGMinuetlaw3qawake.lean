-- Laid by this session's own program gprint.py (wip/tools), out of the kit's print and of texts of this session. Lean checks it.
import Derived.Test.YtldaokclpkcmmaaGx0
import Derived.Test.YtldaokclpkcmmaaGZ3
import Derived.Test.YtldaokclpkcmmaaGApplyPApply
namespace Go.Proofs.Ytldaokclpkcmmaa.G
open Go.RowKit Go.Proofs.YtldaokclpkcmmaaW.PrintWords Go.Proofs.YtldaokclpkcmmaaW.PrintLast Go.Proofs.YtldaokclpkcmmaaW.PrintMore
attribute [local go_sem] max2_int min2_int max_two min_two max_three min_three max_four min_four   -- for this text's walks alone
set_option linter.unusedVariables false
set_option linter.unusedSimpArgs false

/-! ### minuetlaw3_awake: function 21 -/
def minuetlaw3_awake.f (k : Nat)  : Option (Bool) := (apply_Apply.f k (⟨#[97, 98, 99, 100, 101, 102]⟩ : ByteArray) (([(⟨0, 2, (⟨#[]⟩ : ByteArray)⟩ : S31), (⟨1, 0, (⟨#[120, 121]⟩ : ByteArray)⟩ : S31), (⟨2, 3, (⟨#[]⟩ : ByteArray)⟩ : S31), (⟨0, 1, (⟨#[]⟩ : ByteArray)⟩ : S31)] : List (S31)))).bind fun bt104 => ((apply_Apply.f k (⟨#[97, 98, 99]⟩ : ByteArray) (([(⟨0, 2, (⟨#[]⟩ : ByteArray)⟩ : S31)] : List (S31)))).bind fun bt109 => ((apply_Apply.f k (⟨#[]⟩ : ByteArray) ([] : List (S31))).bind fun bt111 => (if bt104.1.toList = ([97, 98, 120, 121, 102] : List UInt8) then ((minuetlaw0_Num.f bt104.2).bind fun t113 => (if t113 = 0 then ((minuetlaw0_Num.f bt109.2).bind fun t114 => (if t114 = 300 then (if bt111.1.toList = ([] : List UInt8) then ((minuetlaw0_Num.f bt111.2).bind fun t115 => (some (t115 == 0))) else (none)) else (none))) else (none))) else (none))))
theorem minuetlaw3_awake.mono : ∀ k, LeO (minuetlaw3_awake.f k ) (minuetlaw3_awake.f (k + 1) ) := by
 intro  k
 unfold minuetlaw3_awake.f
 repeat' first
  | (with_reducible exact apply_Apply.mono _ _ _)
  | (with_reducible exact LeO.refl _)
  | (with_reducible exact LeO.none _)
  | (with_reducible refine LeO.ite ?_ ?_)
  | (with_reducible refine LeO.bind ?_ (fun _ => ?_))
  | exact apply_Apply.mono _ _ _
  | exact LeO.none _
  | refine LeO.ite ?_ ?_
  | refine LeO.bind ?_ (fun _ => ?_)
set_option maxHeartbeats 8000000 in
set_option maxRecDepth 100000 in
theorem minuetlaw3_awake.calls (k : Nat)  (r : Bool) (w : World) (h : minuetlaw3_awake.f k  = some r) :
 Calls Try.prog 21 #[] w fun e w' => e = .returned (.bool r) ∧ Below w.heap.size w w' := by
 have hu31 := Try.underlying31
 have HB := Aside0.mk (Below.refl w.heap.size w)
 have H : ((apply_Apply.f k (⟨#[97, 98, 99, 100, 101, 102]⟩ : ByteArray) (([(⟨0, 2, (⟨#[]⟩ : ByteArray)⟩ : S31), (⟨1, 0, (⟨#[120, 121]⟩ : ByteArray)⟩ : S31), (⟨2, 3, (⟨#[]⟩ : ByteArray)⟩ : S31), (⟨0, 1, (⟨#[]⟩ : ByteArray)⟩ : S31)] : List (S31)))).bind fun bt104 => ((apply_Apply.f k (⟨#[97, 98, 99]⟩ : ByteArray) (([(⟨0, 2, (⟨#[]⟩ : ByteArray)⟩ : S31)] : List (S31)))).bind fun bt109 => ((apply_Apply.f k (⟨#[]⟩ : ByteArray) ([] : List (S31))).bind fun bt111 => (if bt104.1.toList = ([97, 98, 120, 121, 102] : List UInt8) then ((minuetlaw0_Num.f bt104.2).bind fun t113 => (if t113 = 0 then ((minuetlaw0_Num.f bt109.2).bind fun t114 => (if t114 = 300 then (if bt111.1.toList = ([] : List UInt8) then ((minuetlaw0_Num.f bt111.2).bind fun t115 => (some (t115 == 0))) else (none)) else (none))) else (none))) else (none))))) = some r := h
 clear h
 obtain ⟨y101, hy101⟩ : ∃ y_ : List (S31), y_ = (([(⟨0, 2, (⟨#[]⟩ : ByteArray)⟩ : S31), (⟨1, 0, (⟨#[120, 121]⟩ : ByteArray)⟩ : S31), (⟨2, 3, (⟨#[]⟩ : ByteArray)⟩ : S31), (⟨0, 1, (⟨#[]⟩ : ByteArray)⟩ : S31)] : List (S31))) := ⟨_, rfl⟩
 replace H : ((apply_Apply.f k (⟨#[97, 98, 99, 100, 101, 102]⟩ : ByteArray) y101).bind fun bt104 => ((apply_Apply.f k (⟨#[97, 98, 99]⟩ : ByteArray) (([(⟨0, 2, (⟨#[]⟩ : ByteArray)⟩ : S31)] : List (S31)))).bind fun bt109 => ((apply_Apply.f k (⟨#[]⟩ : ByteArray) ([] : List (S31))).bind fun bt111 => (if bt104.1.toList = ([97, 98, 120, 121, 102] : List UInt8) then ((minuetlaw0_Num.f bt104.2).bind fun t113 => (if t113 = 0 then ((minuetlaw0_Num.f bt109.2).bind fun t114 => (if t114 = 300 then (if bt111.1.toList = ([] : List UInt8) then ((minuetlaw0_Num.f bt111.2).bind fun t115 => (some (t115 == 0))) else (none)) else (none))) else (none))) else (none))))) = some r := by first | (rw [hy101]; with_reducible exact H) | (have H2_ := (Option.bind_some _ _).symm.trans H; rw [hy101]; with_reducible exact H2_) | (have H2_ := (Option.bind_some _ _).symm.trans H; with_reducible exact H2_) | with_reducible exact H | (rw [hy101]; exact H) | exact H
 have Ny101 := Aside0.mk hy101
 clear hy101
 replace H := Option.bind_eq_some_iff.mp H
 obtain ⟨⟨t104, t105⟩, A10, H⟩ := H
 replace H : ((apply_Apply.f k (⟨#[97, 98, 99]⟩ : ByteArray) (([(⟨0, 2, (⟨#[]⟩ : ByteArray)⟩ : S31)] : List (S31)))).bind fun bt109 => ((apply_Apply.f k (⟨#[]⟩ : ByteArray) ([] : List (S31))).bind fun bt111 => (if t104.toList = ([97, 98, 120, 121, 102] : List UInt8) then ((minuetlaw0_Num.f t105).bind fun t113 => (if t113 = 0 then ((minuetlaw0_Num.f bt109.2).bind fun t114 => (if t114 = 300 then (if bt111.1.toList = ([] : List UInt8) then ((minuetlaw0_Num.f bt111.2).bind fun t115 => (some (t115 == 0))) else (none)) else (none))) else (none))) else (none)))) = some r := H
 have A1 := Aside0.mk A10
 clear A10
 obtain ⟨y106, hy106⟩ : ∃ y_ : List (S31), y_ = (([(⟨0, 2, (⟨#[]⟩ : ByteArray)⟩ : S31)] : List (S31))) := ⟨_, rfl⟩
 replace H : ((apply_Apply.f k (⟨#[97, 98, 99]⟩ : ByteArray) y106).bind fun bt109 => ((apply_Apply.f k (⟨#[]⟩ : ByteArray) ([] : List (S31))).bind fun bt111 => (if t104.toList = ([97, 98, 120, 121, 102] : List UInt8) then ((minuetlaw0_Num.f t105).bind fun t113 => (if t113 = 0 then ((minuetlaw0_Num.f bt109.2).bind fun t114 => (if t114 = 300 then (if bt111.1.toList = ([] : List UInt8) then ((minuetlaw0_Num.f bt111.2).bind fun t115 => (some (t115 == 0))) else (none)) else (none))) else (none))) else (none)))) = some r := by first | (rw [hy106]; with_reducible exact H) | (have H2_ := (Option.bind_some _ _).symm.trans H; rw [hy106]; with_reducible exact H2_) | (have H2_ := (Option.bind_some _ _).symm.trans H; with_reducible exact H2_) | with_reducible exact H | (rw [hy106]; exact H) | exact H
 have Ny106 := Aside0.mk hy106
 clear hy106
 replace H := Option.bind_eq_some_iff.mp H
 obtain ⟨⟨t109, t110⟩, A20, H⟩ := H
 replace H : ((apply_Apply.f k (⟨#[]⟩ : ByteArray) ([] : List (S31))).bind fun bt111 => (if t104.toList = ([97, 98, 120, 121, 102] : List UInt8) then ((minuetlaw0_Num.f t105).bind fun t113 => (if t113 = 0 then ((minuetlaw0_Num.f t110).bind fun t114 => (if t114 = 300 then (if bt111.1.toList = ([] : List UInt8) then ((minuetlaw0_Num.f bt111.2).bind fun t115 => (some (t115 == 0))) else (none)) else (none))) else (none))) else (none))) = some r := H
 have A2 := Aside0.mk A20
 clear A20
 replace H := Option.bind_eq_some_iff.mp H
 obtain ⟨⟨t111, t112⟩, A30, H⟩ := H
 replace H : (if t104.toList = ([97, 98, 120, 121, 102] : List UInt8) then ((minuetlaw0_Num.f t105).bind fun t113 => (if t113 = 0 then ((minuetlaw0_Num.f t110).bind fun t114 => (if t114 = 300 then (if t111.toList = ([] : List UInt8) then ((minuetlaw0_Num.f t112).bind fun t115 => (some (t115 == 0))) else (none)) else (none))) else (none))) else (none)) = some r := H
 have A3 := Aside0.mk A30
 clear A30
 by_cases c4 : t104.toList = ([97, 98, 120, 121, 102] : List UInt8)
 · rw [if_pos c4] at H
   have c4b0 : (t104.toList == ([97, 98, 120, 121, 102] : List UInt8)) = true := beq_iff_eq.mpr c4
   have c4b1 : (t104.toList != ([97, 98, 120, 121, 102] : List UInt8)) = false := bne_eq_false_iff_eq.mpr c4
   clear c4
   replace H := Option.bind_eq_some_iff.mp H
   obtain ⟨t113, A50, H⟩ := H
   replace H : (if t113 = 0 then ((minuetlaw0_Num.f t110).bind fun t114 => (if t114 = 300 then (if t111.toList = ([] : List UInt8) then ((minuetlaw0_Num.f t112).bind fun t115 => (some (t115 == 0))) else (none)) else (none))) else (none)) = some r := H
   have A5 := Aside0.mk A50
   clear A50
   by_cases c6 : t113 = 0
   · rw [if_pos c6] at H
     have c6b0 : (t113 == 0) = true := beq_iff_eq.mpr c6
     have c6b1 : (t113 != 0) = false := bne_eq_false_iff_eq.mpr c6
     clear c6
     replace H := Option.bind_eq_some_iff.mp H
     obtain ⟨t114, A70, H⟩ := H
     replace H : (if t114 = 300 then (if t111.toList = ([] : List UInt8) then ((minuetlaw0_Num.f t112).bind fun t115 => (some (t115 == 0))) else (none)) else (none)) = some r := H
     have A7 := Aside0.mk A70
     clear A70
     by_cases c8 : t114 = 300
     · rw [if_pos c8] at H
       have c8b0 : (t114 == 300) = true := beq_iff_eq.mpr c8
       have c8b1 : (t114 != 300) = false := bne_eq_false_iff_eq.mpr c8
       clear c8
       by_cases c9 : t111.toList = ([] : List UInt8)
       · rw [if_pos c9] at H
         have c9b0 : (t111.toList == ([] : List UInt8)) = true := beq_iff_eq.mpr c9
         have c9b1 : (t111.toList != ([] : List UInt8)) = false := bne_eq_false_iff_eq.mpr c9
         clear c9
         replace H := Option.bind_eq_some_iff.mp H
         obtain ⟨t115, A100, H⟩ := H
         replace H : (some (t115 == 0)) = some r := H
         have A10 := Aside0.mk A100
         clear A100
         obtain rfl := Option.some.inj H
         go_enter Try.func21, Try.ntmps21
         go_wp2_with (first | ((with_reducible refine gate_dst (N := 12) rfl ?_); refine Kd.R_lit k31 _ 31 ?hg (N := 12) ?hd (xs := ([(⟨0, 2, (⟨#[]⟩ : ByteArray)⟩ : S31), (⟨1, 0, (⟨#[120, 121]⟩ : ByteArray)⟩ : S31), (⟨2, 3, (⟨#[]⟩ : ByteArray)⟩ : S31), (⟨0, 1, (⟨#[]⟩ : ByteArray)⟩ : S31)] : List (S31))) (inner := [.int .i64 0, .int .i64 2, .string (⟨#[]⟩ : ByteArray), .int .i64 1, .int .i64 0, .string (⟨#[120, 121]⟩ : ByteArray), .int .i64 2, .int .i64 3, .string (⟨#[]⟩ : ByteArray), .int .i64 0, .int .i64 1, .string (⟨#[]⟩ : ByteArray)]) (ok := fun _ => True) (okp := fun _ => True) ?hr ?hp (fun _ hk => hk) trivial (Below.refl _ _) (Nat.le_refl _) (by simp) ?_; (case hd => rfl); (case hg => rfl); (case hr => first | (go_simp; done) | (go_simp; rfl)); (case hp => exact (Reps.c3 (show Kd.M k31 _ _ _ (⟨0, 2, (⟨#[]⟩ : ByteArray)⟩ : S31) [.int .i64 0, .int .i64 2, .string (⟨#[]⟩ : ByteArray)] from (k31_mkM _ _ _ (⟨0, 2, (⟨#[]⟩ : ByteArray)⟩ : S31) )) (Reps.c3 (show Kd.M k31 _ _ _ (⟨1, 0, (⟨#[120, 121]⟩ : ByteArray)⟩ : S31) [.int .i64 1, .int .i64 0, .string (⟨#[120, 121]⟩ : ByteArray)] from (k31_mkM _ _ _ (⟨1, 0, (⟨#[120, 121]⟩ : ByteArray)⟩ : S31) )) (Reps.c3 (show Kd.M k31 _ _ _ (⟨2, 3, (⟨#[]⟩ : ByteArray)⟩ : S31) [.int .i64 2, .int .i64 3, .string (⟨#[]⟩ : ByteArray)] from (k31_mkM _ _ _ (⟨2, 3, (⟨#[]⟩ : ByteArray)⟩ : S31) )) (Reps.c3 (show Kd.M k31 _ _ _ (⟨0, 1, (⟨#[]⟩ : ByteArray)⟩ : S31) [.int .i64 0, .int .i64 1, .string (⟨#[]⟩ : ByteArray)] from (k31_mkM _ _ _ (⟨0, 1, (⟨#[]⟩ : ByteArray)⟩ : S31) )) (Reps.none _ _)))))); intro v102 w11 ho12 hb hg_ hnew_; clear hg_ hnew_; (first | rw [← Ny101.out] at ho12 | (simp only [Int.reduceToNat] at ho12; rw [← Ny101.out] at ho12)); have n0_ := Aside0.mk (Kd.R_lower ho12 (below_size (by repeat (first | (with_reducible first | exact HB.out | apply below_alloc | apply pw_below_drewN | apply below_drew1) | exact HB.out)))); have n1_ := Aside0.mk (below_step (by repeat (first | (with_reducible first | exact HB.out | apply below_alloc | apply pw_below_drewN | apply below_drew1) | exact HB.out)) hb); clear HB; have HO103 := n0_; have HB := n1_; clear n0_ n1_; clear hb ho12; obtain ⟨Ao13, co13, eo13⟩ := Kd.R_slice HO103.out; subst eo13) | ((with_reducible refine gate_callee (f := 22) rfl ?_); refine goesL_ (some 13) rfl rfl Try.func22 (by kernel_rfl) rfl #[.string (⟨#[97, 98, 99, 100, 101, 102]⟩ : ByteArray), .slice Ao13 y101.length co13] rfl (by (try simp only [List.map_toArray, List.map_cons, List.map_nil]); first | done | rfl | (simp only [List.length_drop, List.length_take]; rfl)) ?_; (with_reducible refine (apply_Apply.calls k (⟨#[97, 98, 99, 100, 101, 102]⟩ : ByteArray) _ _ y101 t104 t105 _ ?side1 ?side2 A1.out).mono ?_); (case side1 => repeat (first | exact (Kd.R_reads' HO103.out).2.2 | (with_reducible refine Kd.C_alloc ?_ _) | (with_reducible refine Kd.C_drewN ?_ _) | (with_reducible refine Kd.C_drew ?_))); (case side2 => exact (Kd.R_reads' HO103.out).2.1); rintro e w14 ⟨rfl, hb⟩; refine ⟨_, rfl, ?_⟩; have n0_ := Aside0.mk (Kd.R_below (by (with_reducible repeat (first | apply Kd.R_alloc | apply Kd.R_drewN | apply Kd.R_drew)); exact HO103.out) hb); have n1_ := Aside0.mk (below_step (by repeat (first | (with_reducible first | exact HB.out | apply below_alloc | apply pw_below_drewN | apply below_drew1) | exact HB.out)) hb); clear HO103; clear HB; have HO103 := n0_; have HB := n1_; clear n0_ n1_; (try clear hb); (try clear hb2); (try clear hk); (try clear hi)) | ((with_reducible refine gate_dst (N := 18) rfl ?_); refine Kd.R_lit k31 _ 31 ?hg (N := 18) ?hd (xs := ([(⟨0, 2, (⟨#[]⟩ : ByteArray)⟩ : S31)] : List (S31))) (inner := [.int .i64 0, .int .i64 2, .string (⟨#[]⟩ : ByteArray)]) (ok := fun _ => True) (okp := fun _ => True) ?hr ?hp (fun _ hk => hk) trivial (Below.refl _ _) (Nat.le_refl _) (by simp) ?_; (case hd => rfl); (case hg => rfl); (case hr => first | (go_simp; done) | (go_simp; rfl)); (case hp => exact (Reps.c3 (show Kd.M k31 _ _ _ (⟨0, 2, (⟨#[]⟩ : ByteArray)⟩ : S31) [.int .i64 0, .int .i64 2, .string (⟨#[]⟩ : ByteArray)] from (k31_mkM _ _ _ (⟨0, 2, (⟨#[]⟩ : ByteArray)⟩ : S31) )) (Reps.none _ _))); intro v107 w15 ho16 hb hg_ hnew_; clear hg_ hnew_; (first | rw [← Ny106.out] at ho16 | (simp only [Int.reduceToNat] at ho16; rw [← Ny106.out] at ho16)); have n0_ := Aside0.mk (Kd.R_elder' (by (with_reducible repeat (first | apply Kd.R_alloc | apply Kd.R_drewN | apply Kd.R_drew)); exact HO103.out) (Kd.R_base ho16) hb); have n1_ := Aside0.mk (Kd.R_lower (Kd.R_new' ho16 (Kd.R_lt (by (with_reducible repeat (first | apply Kd.R_alloc | apply Kd.R_drewN | apply Kd.R_drew)); exact HO103.out))) (below_size (by repeat (first | (with_reducible first | exact HB.out | apply below_alloc | apply pw_below_drewN | apply below_drew1) | exact HB.out)))); have n2_ := Aside0.mk (below_step (by repeat (first | (with_reducible first | exact HB.out | apply below_alloc | apply pw_below_drewN | apply below_drew1) | exact HB.out)) hb); clear HO103; clear HB; have HO103 := n0_; have HO108 := n1_; have HB := n2_; clear n0_ n1_ n2_; clear hb ho16; obtain ⟨Ao17, co17, eo17⟩ := Kd.R_slice HO108.out; subst eo17) | ((with_reducible refine gate_callee (f := 22) rfl ?_); refine goesL_ (some 19) rfl rfl Try.func22 (by kernel_rfl) rfl #[.string (⟨#[97, 98, 99]⟩ : ByteArray), .slice Ao17 y106.length co17] rfl (by (try simp only [List.map_toArray, List.map_cons, List.map_nil]); first | done | rfl | (simp only [List.length_drop, List.length_take]; rfl)) ?_; (with_reducible refine (apply_Apply.calls k (⟨#[97, 98, 99]⟩ : ByteArray) _ _ y106 t109 t110 _ ?side1 ?side2 A2.out).mono ?_); (case side1 => repeat (first | exact (Kd.R_reads' HO108.out).2.2 | (with_reducible refine Kd.C_alloc ?_ _) | (with_reducible refine Kd.C_drewN ?_ _) | (with_reducible refine Kd.C_drew ?_))); (case side2 => exact (Kd.R_reads' HO108.out).2.1); rintro e w18 ⟨rfl, hb⟩; refine ⟨_, rfl, ?_⟩; have n0_ := Aside0.mk (Kd.R_below (by (with_reducible repeat (first | apply Kd.R_alloc | apply Kd.R_drewN | apply Kd.R_drew)); exact HO103.out) hb); have n1_ := Aside0.mk (Kd.R_below (by (with_reducible repeat (first | apply Kd.R_alloc | apply Kd.R_drewN | apply Kd.R_drew)); exact HO108.out) hb); have n2_ := Aside0.mk (below_step (by repeat (first | (with_reducible first | exact HB.out | apply below_alloc | apply pw_below_drewN | apply below_drew1) | exact HB.out)) hb); clear HO103; clear HO108; clear HB; have HO103 := n0_; have HO108 := n1_; have HB := n2_; clear n0_ n1_ n2_; (try clear hb); (try clear hb2); (try clear hk); (try clear hi)) | ((with_reducible refine gate_callee (f := 22) rfl ?_); refine goesL_ (some 23) rfl rfl Try.func22 (by kernel_rfl) rfl #[.string (⟨#[]⟩ : ByteArray), .slice none 0 0] rfl (by (try simp only [List.map_toArray, List.map_cons, List.map_nil]); first | done | rfl | (simp only [List.length_drop, List.length_take]; rfl)) ?_; (refine (apply_Apply.calls k (⟨#[]⟩ : ByteArray) _ _ ([] : List (S31)) t111 t112 _ ?side1 ?side2 A3.out).mono ?_); (case side1 => exact Kd.C_nil _ _); (case side2 => exact Nat.le_refl _); rintro e w19 ⟨rfl, hb⟩; refine ⟨_, rfl, ?_⟩; have n0_ := Aside0.mk (Kd.R_below (by (with_reducible repeat (first | apply Kd.R_alloc | apply Kd.R_drewN | apply Kd.R_drew)); exact HO103.out) hb); have n1_ := Aside0.mk (Kd.R_below (by (with_reducible repeat (first | apply Kd.R_alloc | apply Kd.R_drewN | apply Kd.R_drew)); exact HO108.out) hb); have n2_ := Aside0.mk (below_step (by repeat (first | (with_reducible first | exact HB.out | apply below_alloc | apply pw_below_drewN | apply below_drew1) | exact HB.out)) hb); clear HO103; clear HO108; clear HB; have HO103 := n0_; have HO108 := n1_; have HB := n2_; clear n0_ n1_ n2_; (try clear hb); (try clear hb2); (try clear hk); (try clear hi)) | (go_at_call 15; (with_reducible refine (minuetlaw0_Num.calls t105 t113 _ A5.out).mono ?_); rintro e w' ⟨rfl, ⟨nd, rfl⟩⟩) | (go_at_call 15; (with_reducible refine (minuetlaw0_Num.calls t110 t114 _ A7.out).mono ?_); rintro e w' ⟨rfl, ⟨nd, rfl⟩⟩) | (go_at_call 15; (with_reducible refine (minuetlaw0_Num.calls t112 t115 _ A10.out).mono ?_); rintro e w' ⟨rfl, ⟨nd, rfl⟩⟩))
         go_ret
         exact ⟨by first | rfl | (simp [errW_none, errW_some] <;> rfl) | (simp [*, errW_none, errW_some] <;> rfl), by repeat (first | (with_reducible first | exact HB.out | apply below_alloc | apply pw_below_drewN | apply below_drew1) | exact HB.out)⟩
       · rw [if_neg c9] at H
         exact absurd H (by simp)
     · rw [if_neg c8] at H
       exact absurd H (by simp)
   · rw [if_neg c6] at H
     exact absurd H (by simp)
 · rw [if_neg c4] at H
   exact absurd H (by simp)

end Go.Proofs.Ytldaokclpkcmmaa.G
