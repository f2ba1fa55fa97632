-- Laid by this session's own program gprint.py (wip/tools), out of the kit's print and of texts of this session. Lean checks it.
import Derived.Test.YtjcoahipcgeoiaaGx0
import Derived.Test.YtjcoahipcgeoiaaGLexPTokens
import Derived.Test.YtjcoahipcgeoiaaGMinuetlaw0PNum
import Derived.Test.YtjcoahipcgeoiaaGMinuetlaw9qawake
namespace Go.Proofs.Ytjcoahipcgeoiaa.G
open Go.RowKit Go.Proofs.YtjcoahipcgeoiaaW.PrintWords Go.Proofs.YtjcoahipcgeoiaaW.PrintLast Go.Proofs.YtjcoahipcgeoiaaW.PrintMore
attribute [local go_sem] max2_int min2_int max_two min_two max_three min_three max_four min_four   -- for this text's walks alone
set_option linter.unusedVariables false
set_option linter.unusedSimpArgs false

/-! ### minuetlaw9_LexCovers: function 4 -/
def minuetlaw9_LexCovers.l0 : Nat → ByteArray → List (S34) → Int → Int → Int → Option (Bool)
 | 0, _, _, _, _, _ => none
 | k + 1, x0, x3, x4, x5, x6 => if x6 < (x3.length : Int) then (if 0 ≤ x6 then (if ((rd_T34 x3 x6).f1) = x5 then (if ((rd_T34 x3 x6).f2) ≤ x5 then (none) else (if ((rd_T34 x3 x6).f2) > (x0.size : Int) then (none) else (if ((rd_T34 x3 x6).f0) < 0 then (none) else (if ((rd_T34 x3 x6).f0) > 11 then (none) else (if x6 > 0 then (if ((rd_T34 x3 x6).f0) = 10 then (if 0 ≤ (wrap64 (x6 - 1)) then (if (wrap64 (x6 - 1)) < (x3.length : Int) then (if ((rd_T34 x3 (wrap64 (x6 - 1))).f0) = 10 then (none) else (minuetlaw9_LexCovers.l0 k x0 x3 x4 ((rd_T34 x3 x6).f2) (wrap64 (x6 + 1)))) else (none)) else (none)) else (minuetlaw9_LexCovers.l0 k x0 x3 x4 ((rd_T34 x3 x6).f2) (wrap64 (x6 + 1)))) else (minuetlaw9_LexCovers.l0 k x0 x3 x4 ((rd_T34 x3 x6).f2) (wrap64 (x6 + 1)))))))) else (none)) else (none)) else ((minuetlaw0_Num.f x4).bind fun t117 => (if t117 = 0 then (some (x5 == (x0.size : Int))) else (none)))
def minuetlaw9_LexCovers.f (k : Nat) (a0 : ByteArray) : Option (Bool) := (minuetlaw9_awake.f k).bind fun t101 => (if t101 = true then ((lex_Tokens.f a0).bind fun bt102 => (if (a0.size : Int) > 300 then (if (bt102.1.length : Int) = 0 then ((minuetlaw0_Num.f bt102.2).bind fun t106 => (some (t106 == 900))) else (none)) else (minuetlaw9_LexCovers.l0 k a0 bt102.1 bt102.2 0 0))) else (none))
theorem minuetlaw9_LexCovers.mono_l : ∀ k, (∀ y0 y1 y2 y3 y4, LeO (minuetlaw9_LexCovers.l0 k y0 y1 y2 y3 y4) (minuetlaw9_LexCovers.l0 (k + 1) y0 y1 y2 y3 y4))
 | 0 => fun _ _ _ _ _ r h => by simp [minuetlaw9_LexCovers.l0] at h
 | k + 1 => by
  have ih0 := minuetlaw9_LexCovers.mono_l k
  · intro y0 y1 y2 y3 y4
    unfold minuetlaw9_LexCovers.l0
    repeat' first
    | (with_reducible exact ih0 _ _ _ _ _)
    | (with_reducible exact minuetlaw9_awake.mono _)
    | (with_reducible exact LeO.refl _)
    | (with_reducible exact LeO.none _)
    | (with_reducible refine LeO.ite ?_ ?_)
    | (with_reducible refine LeO.bind ?_ (fun _ => ?_))
    | exact ih0 _ _ _ _ _
    | exact minuetlaw9_awake.mono _
    | exact LeO.none _
    | refine LeO.ite ?_ ?_
    | refine LeO.bind ?_ (fun _ => ?_)
theorem minuetlaw9_LexCovers.mono : ∀ a0 k, LeO (minuetlaw9_LexCovers.f k a0) (minuetlaw9_LexCovers.f (k + 1) a0) := by
 intro a0 k
 have ih0 := minuetlaw9_LexCovers.mono_l k
 unfold minuetlaw9_LexCovers.f
 repeat' first
  | (with_reducible exact ih0 _ _ _ _ _)
  | (with_reducible exact minuetlaw9_awake.mono _)
  | (with_reducible exact LeO.refl _)
  | (with_reducible exact LeO.none _)
  | (with_reducible refine LeO.ite ?_ ?_)
  | (with_reducible refine LeO.bind ?_ (fun _ => ?_))
  | exact ih0 _ _ _ _ _
  | exact minuetlaw9_awake.mono _
  | exact LeO.none _
  | refine LeO.ite ?_ ?_
  | refine LeO.bind ?_ (fun _ => ?_)
set_option maxHeartbeats 8000000 in
set_option maxRecDepth 100000 in
theorem minuetlaw9_LexCovers.calls (k : Nat) (a0 : ByteArray) (r : Bool) (w : World) (hm_ : MaxOk w) (h : minuetlaw9_LexCovers.f k a0 = some r) :
 Calls Try.prog 4 #[.string a0] w fun e w' => e = .returned (.bool r) ∧ Below w.heap.size w w' := by
 have HM_ := Aside0.mk hm_
 clear hm_
 have HB := Aside0.mk (Below.refl w.heap.size w)
 have H : ((minuetlaw9_awake.f k).bind fun t101 => (if t101 = true then ((lex_Tokens.f a0).bind fun bt102 => (if (a0.size : Int) > 300 then (if (bt102.1.length : Int) = 0 then ((minuetlaw0_Num.f bt102.2).bind fun t106 => (some (t106 == 900))) else (none)) else (minuetlaw9_LexCovers.l0 k a0 bt102.1 bt102.2 0 0))) else (none))) = some r := h
 clear h
 replace H := Option.bind_eq_some_iff.mp H
 obtain ⟨t101, A20, H⟩ := H
 replace H : (if t101 = true then ((lex_Tokens.f a0).bind fun bt102 => (if (a0.size : Int) > 300 then (if (bt102.1.length : Int) = 0 then ((minuetlaw0_Num.f bt102.2).bind fun t106 => (some (t106 == 900))) else (none)) else (minuetlaw9_LexCovers.l0 k a0 bt102.1 bt102.2 0 0))) else (none)) = some r := H
 have A2 := Aside0.mk A20
 clear A20
 by_cases c3 : t101 = true
 · subst c3
   have H1 : ((lex_Tokens.f a0).bind fun bt102 => (if (a0.size : Int) > 300 then (if (bt102.1.length : Int) = 0 then ((minuetlaw0_Num.f bt102.2).bind fun t106 => (some (t106 == 900))) else (none)) else (minuetlaw9_LexCovers.l0 k a0 bt102.1 bt102.2 0 0))) = some r := by rw [if_pos rfl] at H; exact H
   clear H
   have H := H1
   clear H1
   replace H := Option.bind_eq_some_iff.mp H
   obtain ⟨⟨t102, t103⟩, A40, H⟩ := H
   replace H : (if (a0.size : Int) > 300 then (if (t102.length : Int) = 0 then ((minuetlaw0_Num.f t103).bind fun t106 => (some (t106 == 900))) else (none)) else (minuetlaw9_LexCovers.l0 k a0 t102 t103 0 0)) = some r := H
   have A4 := Aside0.mk A40
   clear A40
   by_cases c5 : (a0.size : Int) > 300
   · rw [if_pos c5] at H
     have c5b0 : decide (300 < (a0.size : Int)) = true := decide_eq_true c5
     have c5b1 : decide (300 < a0.size) = true := decide_eq_true (by omega)
     clear c5
     by_cases c6 : (t102.length : Int) = 0
     · rw [if_pos c6] at H
       have c6b0 : ((t102.length : Int) == 0) = true := beq_iff_eq.mpr c6
       have c6b1 : ((t102.length : Int) != 0) = false := bne_eq_false_iff_eq.mpr c6
       clear c6
       replace H := Option.bind_eq_some_iff.mp H
       obtain ⟨t106, A70, H⟩ := H
       replace H : (some (t106 == 900)) = some r := H
       have A7 := Aside0.mk A70
       clear A70
       obtain rfl := Option.some.inj H
       go_enter Try.func4, Try.ntmps4
       go_wp2_with (first | ((with_reducible refine gate_callee (f := 17) rfl ?_); refine goesL_ (some 7) rfl rfl Try.func17 (by kernel_rfl) rfl #[] rfl (by (try simp only [List.map_toArray, List.map_cons, List.map_nil]); first | done | rfl | (simp only [List.length_drop, List.length_take]; rfl)) ?_; (with_reducible refine (minuetlaw9_awake.calls k  true _ (MaxOk.of HM_.out (by repeat (first | (with_reducible first | exact HB.out | apply below_alloc | apply pw_below_drewN | apply below_drew1) | exact HB.out))) A2.out).mono ?_); rintro e w8 ⟨rfl, hb⟩; refine ⟨_, rfl, ?_⟩; have n0_ := Aside0.mk (below_step (by repeat (first | (with_reducible first | exact HB.out | apply below_alloc | apply pw_below_drewN | apply below_drew1) | exact HB.out)) hb); clear HB; have HB := n0_; clear n0_; (try clear hb); (try clear hb2); (try clear hk); (try clear hi)) | ((with_reducible refine gate_callee (f := 12) rfl ?_); refine goesL_ (some 11) rfl rfl Try.func12 (by kernel_rfl) rfl #[.string a0] rfl (by (try simp only [List.map_toArray, List.map_cons, List.map_nil]); first | done | rfl | (simp only [List.length_drop, List.length_take]; rfl)) ?_; (with_reducible refine (lex_Tokens.calls a0 t102 t103 _ (MaxOk.of HM_.out (by repeat (first | (with_reducible first | exact HB.out | apply below_alloc | apply pw_below_drewN | apply below_drew1) | exact HB.out))) A4.out).mono ?_); rintro e w9 ⟨v104, rfl, ho0, hb⟩; refine ⟨_, rfl, ?_⟩; have n0_ := Aside0.mk (Kd.R_lower ho0 (below_size (by repeat (first | (with_reducible first | exact HB.out | apply below_alloc | apply pw_below_drewN | apply below_drew1) | exact HB.out)))); have n1_ := Aside0.mk (below_step (by repeat (first | (with_reducible first | exact HB.out | apply below_alloc | apply pw_below_drewN | apply below_drew1) | exact HB.out)) hb); clear HB; have HO105 := n0_; have HB := n1_; clear n0_ n1_; (try clear hb); (try clear hb2); (try clear hk); (try clear hi); (try clear ho0); obtain ⟨Ao10, co10, eo10⟩ := Kd.R_slice HO105.out; subst eo10) | (go_at_call 15; (with_reducible refine (minuetlaw0_Num.calls t103 t106 _ A7.out).mono ?_); rintro e w' ⟨rfl, ⟨nd, rfl⟩⟩))
       go_ret
       exact ⟨by first | rfl | (simp [errW_none, errW_some] <;> rfl) | (simp [*, errW_none, errW_some] <;> rfl), by repeat (first | (with_reducible first | exact HB.out | apply below_alloc | apply pw_below_drewN | apply below_drew1) | exact HB.out)⟩
     · rw [if_neg c6] at H
       exact absurd H (by simp)
   · rw [if_neg c5] at H
     have c5b0 : decide (300 < (a0.size : Int)) = false := decide_eq_false c5
     have c5b1 : decide (300 < a0.size) = false := decide_eq_false (by omega)
     clear c5
     have H' := Aside0.mk H
     clear H
     go_enter Try.func4, Try.ntmps4
     go_wp2_with (first | ((with_reducible refine gate_callee (f := 17) rfl ?_); refine goesL_ (some 7) rfl rfl Try.func17 (by kernel_rfl) rfl #[] rfl (by (try simp only [List.map_toArray, List.map_cons, List.map_nil]); first | done | rfl | (simp only [List.length_drop, List.length_take]; rfl)) ?_; (with_reducible refine (minuetlaw9_awake.calls k  true _ (MaxOk.of HM_.out (by repeat (first | (with_reducible first | exact HB.out | apply below_alloc | apply pw_below_drewN | apply below_drew1) | exact HB.out))) A2.out).mono ?_); rintro e w11 ⟨rfl, hb⟩; refine ⟨_, rfl, ?_⟩; have n0_ := Aside0.mk (below_step (by repeat (first | (with_reducible first | exact HB.out | apply below_alloc | apply pw_below_drewN | apply below_drew1) | exact HB.out)) hb); clear HB; have HB := n0_; clear n0_; (try clear hb); (try clear hb2); (try clear hk); (try clear hi)) | ((with_reducible refine gate_callee (f := 12) rfl ?_); refine goesL_ (some 11) rfl rfl Try.func12 (by kernel_rfl) rfl #[.string a0] rfl (by (try simp only [List.map_toArray, List.map_cons, List.map_nil]); first | done | rfl | (simp only [List.length_drop, List.length_take]; rfl)) ?_; (with_reducible refine (lex_Tokens.calls a0 t102 t103 _ (MaxOk.of HM_.out (by repeat (first | (with_reducible first | exact HB.out | apply below_alloc | apply pw_below_drewN | apply below_drew1) | exact HB.out))) A4.out).mono ?_); rintro e w12 ⟨v104, rfl, ho0, hb⟩; refine ⟨_, rfl, ?_⟩; have n0_ := Aside0.mk (Kd.R_lower ho0 (below_size (by repeat (first | (with_reducible first | exact HB.out | apply below_alloc | apply pw_below_drewN | apply below_drew1) | exact HB.out)))); have n1_ := Aside0.mk (below_step (by repeat (first | (with_reducible first | exact HB.out | apply below_alloc | apply pw_below_drewN | apply below_drew1) | exact HB.out)) hb); clear HB; have HO105 := n0_; have HB := n1_; clear n0_ n1_; (try clear hb); (try clear hb2); (try clear hk); (try clear hi); (try clear ho0)))
     go_loopg [5, 6] k (fun kq v5 v6 w' => ∃ (x5_1 : Int) (x6_1 : Int), v5 = .int .i64 x5_1 ∧ v6 = .int .i64 x6_1 ∧ Aside0 (minuetlaw9_LexCovers.l0 kq a0 t102 t103 x5_1 x6_1 = some r) ∧ Aside0 (kq ≤ k) ∧ Aside0 (Kd.R k34 34 w' w.heap.size (fun _ => True) v104 t102) ∧ Aside0 (Below w.heap.size w w'))
     case atStart => exact ⟨(0), (0), (by first | rfl | (simp; done) | (simp [*]; done)), (by first | rfl | (simp; done) | (simp [*]; done)), H', ⟨Nat.le_refl _⟩, ⟨by (with_reducible repeat (first | apply Kd.R_alloc | apply Kd.R_drewN | apply Kd.R_drew)); exact HO105.out⟩, ⟨by repeat (first | (with_reducible first | exact HB.out | apply below_alloc | apply pw_below_drewN | apply below_drew1) | exact HB.out)⟩⟩
     case round =>
      clear H'
      try clear c1
      try clear p2
      try clear c3
      try clear c4
      try clear c5
      try clear c5b0
      try clear c5b1
      try clear c6
      try clear c6b0
      try clear c6b1
      try clear c12
      obtain ⟨x5_1, x6_1, rfl, rfl, HA, HK1, HO_3, HB⟩ := hrel
      cases gk with
      | zero => exact absurd HA.out (by simp [minuetlaw9_LexCovers.l0])
      | succ k1 =>
       have H := HA.out
       clear HA
       simp only [minuetlaw9_LexCovers.l0] at H
       by_cases c13 : x6_1 < (t102.length : Int)
       · rw [if_pos c13] at H
         have c13b0 : decide (x6_1 < (t102.length : Int)) = true := decide_eq_true c13
         clear c13
         by_cases c14 : 0 ≤ x6_1
         · rw [if_pos c14] at H
           have c14b0 : decide (0 ≤ x6_1) = true := decide_eq_true c14
           clear c14
           by_cases c15 : ((rd_T34 t102 x6_1).f1) = x5_1
           · rw [if_pos c15] at H
             have c15b0 : (((rd_T34 t102 x6_1).f1) == x5_1) = true := beq_iff_eq.mpr c15
             have c15b1 : (((rd_T34 t102 x6_1).f1) != x5_1) = false := bne_eq_false_iff_eq.mpr c15
             clear c15
             by_cases c16 : ((rd_T34 t102 x6_1).f2) ≤ x5_1
             · rw [if_pos c16] at H
               exact absurd H (by simp)
             · rw [if_neg c16] at H
               have c16b0 : decide (((rd_T34 t102 x6_1).f2) ≤ x5_1) = false := decide_eq_false c16
               clear c16
               by_cases c17 : ((rd_T34 t102 x6_1).f2) > (a0.size : Int)
               · rw [if_pos c17] at H
                 exact absurd H (by simp)
               · rw [if_neg c17] at H
                 have c17b0 : decide ((a0.size : Int) < ((rd_T34 t102 x6_1).f2)) = false := decide_eq_false c17
                 clear c17
                 by_cases c18 : ((rd_T34 t102 x6_1).f0) < 0
                 · rw [if_pos c18] at H
                   exact absurd H (by simp)
                 · rw [if_neg c18] at H
                   have c18b0 : decide (((rd_T34 t102 x6_1).f0) < 0) = false := decide_eq_false c18
                   clear c18
                   by_cases c19 : ((rd_T34 t102 x6_1).f0) > 11
                   · rw [if_pos c19] at H
                     exact absurd H (by simp)
                   · rw [if_neg c19] at H
                     have c19b0 : decide (11 < ((rd_T34 t102 x6_1).f0)) = false := decide_eq_false c19
                     clear c19
                     by_cases c20 : x6_1 > 0
                     · rw [if_pos c20] at H
                       have c20b0 : decide (0 < x6_1) = true := decide_eq_true c20
                       clear c20
                       by_cases c21 : ((rd_T34 t102 x6_1).f0) = 10
                       · rw [if_pos c21] at H
                         have c21b0 : (((rd_T34 t102 x6_1).f0) == 10) = true := beq_iff_eq.mpr c21
                         have c21b1 : (((rd_T34 t102 x6_1).f0) != 10) = false := bne_eq_false_iff_eq.mpr c21
                         clear c21
                         obtain ⟨ji22, hji22⟩ : ∃ j_ : Int, (wrap64 (x6_1 - 1)) = j_ := ⟨_, rfl⟩
                         replace H : (if 0 ≤ (ji22) then (if (ji22) < (t102.length : Int) then (if ((rd_T34 t102 (ji22)).f0) = 10 then (none) else (minuetlaw9_LexCovers.l0 k1 a0 t102 t103 ((rd_T34 t102 x6_1).f2) (wrap64 (x6_1 + 1)))) else (none)) else (none)) = some r := by first | (rw [hji22] at H; exact H) | (simp only [hji22] at H ⊢; exact H)
                         have hji22w : (IntKind.i64.wrap (x6_1 - 1)) = ji22 := (i64_w _).trans hji22
                         by_cases c23 : 0 ≤ (ji22)
                         · rw [if_pos c23] at H
                           have c23b0 : decide (0 ≤ (ji22)) = true := decide_eq_true c23
                           clear c23
                           by_cases c24 : (ji22) < (t102.length : Int)
                           · rw [if_pos c24] at H
                             have c24b0 : decide ((ji22) < (t102.length : Int)) = true := decide_eq_true c24
                             clear c24
                             by_cases c25 : ((rd_T34 t102 (ji22)).f0) = 10
                             · rw [if_pos c25] at H
                               exact absurd H (by simp)
                             · rw [if_neg c25] at H
                               have c25b0 : (((rd_T34 t102 (ji22)).f0) == 10) = false := beq_eq_false_iff_ne.mpr c25
                               have c25b1 : (((rd_T34 t102 (ji22)).f0) != 10) = true := bne_iff_ne.mpr c25
                               have H' := Aside0.mk H
                               clear H
                               obtain ⟨Ao26, co26, eo26⟩ := Kd.R_slice HO_3.out
                               subst eo26
                               have p107 : 0 ≤ (x6_1 : Int) := of_decide_eq_true (by first | (with_reducible assumption) | assumption)
                               have q107 : x6_1 < (t102.length : Int) := of_decide_eq_true (by first | (with_reducible assumption) | assumption)
                               obtain ⟨ad107, e107, hx107_0, hx107_1, hx107_2⟩ := at_T34 (Kd.R_reads' HO_3.out).2.2 x6_1 p107 q107
                               cases e107
                               replace p107 := eq_true p107
                               replace q107 := eq_true q107
                               have p108 : 0 ≤ (x6_1 : Int) := of_decide_eq_true (by first | (with_reducible assumption) | assumption)
                               have q108 : x6_1 < (t102.length : Int) := of_decide_eq_true (by first | (with_reducible assumption) | assumption)
                               obtain ⟨ad108, e108, hx108_0, hx108_1, hx108_2⟩ := at_T34 (Kd.R_reads' HO_3.out).2.2 x6_1 p108 q108
                               obtain rfl : ad107 = ad108 := (by injection e108)
                               replace p108 := eq_true p108
                               replace q108 := eq_true q108
                               have p109 : 0 ≤ (x6_1 : Int) := of_decide_eq_true (by first | (with_reducible assumption) | assumption)
                               have q109 : x6_1 < (t102.length : Int) := of_decide_eq_true (by first | (with_reducible assumption) | assumption)
                               obtain ⟨ad109, e109, hx109_0, hx109_1, hx109_2⟩ := at_T34 (Kd.R_reads' HO_3.out).2.2 x6_1 p109 q109
                               obtain rfl : ad107 = ad109 := (by injection e109)
                               replace p109 := eq_true p109
                               replace q109 := eq_true q109
                               have p110 : 0 ≤ (x6_1 : Int) := of_decide_eq_true (by first | (with_reducible assumption) | assumption)
                               have q110 : x6_1 < (t102.length : Int) := of_decide_eq_true (by first | (with_reducible assumption) | assumption)
                               obtain ⟨ad110, e110, hx110_0, hx110_1, hx110_2⟩ := at_T34 (Kd.R_reads' HO_3.out).2.2 x6_1 p110 q110
                               obtain rfl : ad107 = ad110 := (by injection e110)
                               replace p110 := eq_true p110
                               replace q110 := eq_true q110
                               have p111 : 0 ≤ (x6_1 : Int) := of_decide_eq_true (by first | (with_reducible assumption) | assumption)
                               have q111 : x6_1 < (t102.length : Int) := of_decide_eq_true (by first | (with_reducible assumption) | assumption)
                               obtain ⟨ad111, e111, hx111_0, hx111_1, hx111_2⟩ := at_T34 (Kd.R_reads' HO_3.out).2.2 x6_1 p111 q111
                               obtain rfl : ad107 = ad111 := (by injection e111)
                               replace p111 := eq_true p111
                               replace q111 := eq_true q111
                               have p112 : 0 ≤ (x6_1 : Int) := of_decide_eq_true (by first | (with_reducible assumption) | assumption)
                               have q112 : x6_1 < (t102.length : Int) := of_decide_eq_true (by first | (with_reducible assumption) | assumption)
                               obtain ⟨ad112, e112, hx112_0, hx112_1, hx112_2⟩ := at_T34 (Kd.R_reads' HO_3.out).2.2 x6_1 p112 q112
                               obtain rfl : ad107 = ad112 := (by injection e112)
                               replace p112 := eq_true p112
                               replace q112 := eq_true q112
                               have p113 : 0 ≤ ((ji22) : Int) := of_decide_eq_true (by first | (with_reducible assumption) | assumption)
                               have q113 : (ji22) < (t102.length : Int) := of_decide_eq_true (by first | (with_reducible assumption) | assumption)
                               obtain ⟨ad113, e113, hx113_0, hx113_1, hx113_2⟩ := at_T34 (Kd.R_reads' HO_3.out).2.2 (ji22) p113 q113
                               obtain rfl : ad107 = ad113 := (by injection e113)
                               replace p113 := eq_true p113
                               replace q113 := eq_true q113
                               have p114 : 0 ≤ (x6_1 : Int) := of_decide_eq_true (by first | (with_reducible assumption) | assumption)
                               have q114 : x6_1 < (t102.length : Int) := of_decide_eq_true (by first | (with_reducible assumption) | assumption)
                               obtain ⟨ad114, e114, hx114_0, hx114_1, hx114_2⟩ := at_T34 (Kd.R_reads' HO_3.out).2.2 x6_1 p114 q114
                               obtain rfl : ad107 = ad114 := (by injection e114)
                               replace p114 := eq_true p114
                               replace q114 := eq_true q114
                               go_wp2
                               go_roundg k1
                               case measure => have := HK1.out; omega
                               case rel => exact ⟨((rd_T34 t102 x6_1).f2), (wrap64 (x6_1 + 1)), (by first | rfl | (simp; done) | (simp [*]; done)), (by first | rfl | (simp; done) | (simp [*]; done)), H', ⟨by have := HK1.out; omega⟩, ⟨by (with_reducible repeat (first | apply Kd.R_alloc | apply Kd.R_drewN | apply Kd.R_drew)); exact HO_3.out⟩, ⟨by repeat (first | (with_reducible first | exact HB.out | apply below_alloc | apply pw_below_drewN | apply below_drew1) | exact HB.out)⟩⟩
                           · rw [if_neg c24] at H
                             exact absurd H (by simp)
                         · rw [if_neg c23] at H
                           exact absurd H (by simp)
                       · rw [if_neg c21] at H
                         have c21b0 : (((rd_T34 t102 x6_1).f0) == 10) = false := beq_eq_false_iff_ne.mpr c21
                         have c21b1 : (((rd_T34 t102 x6_1).f0) != 10) = true := bne_iff_ne.mpr c21
                         have H' := Aside0.mk H
                         clear H
                         obtain ⟨Ao27, co27, eo27⟩ := Kd.R_slice HO_3.out
                         subst eo27
                         have p107 : 0 ≤ (x6_1 : Int) := of_decide_eq_true (by first | (with_reducible assumption) | assumption)
                         have q107 : x6_1 < (t102.length : Int) := of_decide_eq_true (by first | (with_reducible assumption) | assumption)
                         obtain ⟨ad107, e107, hx107_0, hx107_1, hx107_2⟩ := at_T34 (Kd.R_reads' HO_3.out).2.2 x6_1 p107 q107
                         cases e107
                         replace p107 := eq_true p107
                         replace q107 := eq_true q107
                         have p108 : 0 ≤ (x6_1 : Int) := of_decide_eq_true (by first | (with_reducible assumption) | assumption)
                         have q108 : x6_1 < (t102.length : Int) := of_decide_eq_true (by first | (with_reducible assumption) | assumption)
                         obtain ⟨ad108, e108, hx108_0, hx108_1, hx108_2⟩ := at_T34 (Kd.R_reads' HO_3.out).2.2 x6_1 p108 q108
                         obtain rfl : ad107 = ad108 := (by injection e108)
                         replace p108 := eq_true p108
                         replace q108 := eq_true q108
                         have p109 : 0 ≤ (x6_1 : Int) := of_decide_eq_true (by first | (with_reducible assumption) | assumption)
                         have q109 : x6_1 < (t102.length : Int) := of_decide_eq_true (by first | (with_reducible assumption) | assumption)
                         obtain ⟨ad109, e109, hx109_0, hx109_1, hx109_2⟩ := at_T34 (Kd.R_reads' HO_3.out).2.2 x6_1 p109 q109
                         obtain rfl : ad107 = ad109 := (by injection e109)
                         replace p109 := eq_true p109
                         replace q109 := eq_true q109
                         have p110 : 0 ≤ (x6_1 : Int) := of_decide_eq_true (by first | (with_reducible assumption) | assumption)
                         have q110 : x6_1 < (t102.length : Int) := of_decide_eq_true (by first | (with_reducible assumption) | assumption)
                         obtain ⟨ad110, e110, hx110_0, hx110_1, hx110_2⟩ := at_T34 (Kd.R_reads' HO_3.out).2.2 x6_1 p110 q110
                         obtain rfl : ad107 = ad110 := (by injection e110)
                         replace p110 := eq_true p110
                         replace q110 := eq_true q110
                         have p111 : 0 ≤ (x6_1 : Int) := of_decide_eq_true (by first | (with_reducible assumption) | assumption)
                         have q111 : x6_1 < (t102.length : Int) := of_decide_eq_true (by first | (with_reducible assumption) | assumption)
                         obtain ⟨ad111, e111, hx111_0, hx111_1, hx111_2⟩ := at_T34 (Kd.R_reads' HO_3.out).2.2 x6_1 p111 q111
                         obtain rfl : ad107 = ad111 := (by injection e111)
                         replace p111 := eq_true p111
                         replace q111 := eq_true q111
                         have p112 : 0 ≤ (x6_1 : Int) := of_decide_eq_true (by first | (with_reducible assumption) | assumption)
                         have q112 : x6_1 < (t102.length : Int) := of_decide_eq_true (by first | (with_reducible assumption) | assumption)
                         obtain ⟨ad112, e112, hx112_0, hx112_1, hx112_2⟩ := at_T34 (Kd.R_reads' HO_3.out).2.2 x6_1 p112 q112
                         obtain rfl : ad107 = ad112 := (by injection e112)
                         replace p112 := eq_true p112
                         replace q112 := eq_true q112
                         have p115 : 0 ≤ (x6_1 : Int) := of_decide_eq_true (by first | (with_reducible assumption) | assumption)
                         have q115 : x6_1 < (t102.length : Int) := of_decide_eq_true (by first | (with_reducible assumption) | assumption)
                         obtain ⟨ad115, e115, hx115_0, hx115_1, hx115_2⟩ := at_T34 (Kd.R_reads' HO_3.out).2.2 x6_1 p115 q115
                         obtain rfl : ad107 = ad115 := (by injection e115)
                         replace p115 := eq_true p115
                         replace q115 := eq_true q115
                         go_wp2
                         go_roundg k1
                         case measure => have := HK1.out; omega
                         case rel => exact ⟨((rd_T34 t102 x6_1).f2), (wrap64 (x6_1 + 1)), (by first | rfl | (simp; done) | (simp [*]; done)), (by first | rfl | (simp; done) | (simp [*]; done)), H', ⟨by have := HK1.out; omega⟩, ⟨by (with_reducible repeat (first | apply Kd.R_alloc | apply Kd.R_drewN | apply Kd.R_drew)); exact HO_3.out⟩, ⟨by repeat (first | (with_reducible first | exact HB.out | apply below_alloc | apply pw_below_drewN | apply below_drew1) | exact HB.out)⟩⟩
                     · rw [if_neg c20] at H
                       have c20b0 : decide (0 < x6_1) = false := decide_eq_false c20
                       clear c20
                       have H' := Aside0.mk H
                       clear H
                       obtain ⟨Ao28, co28, eo28⟩ := Kd.R_slice HO_3.out
                       subst eo28
                       have p107 : 0 ≤ (x6_1 : Int) := of_decide_eq_true (by first | (with_reducible assumption) | assumption)
                       have q107 : x6_1 < (t102.length : Int) := of_decide_eq_true (by first | (with_reducible assumption) | assumption)
                       obtain ⟨ad107, e107, hx107_0, hx107_1, hx107_2⟩ := at_T34 (Kd.R_reads' HO_3.out).2.2 x6_1 p107 q107
                       cases e107
                       replace p107 := eq_true p107
                       replace q107 := eq_true q107
                       have p108 : 0 ≤ (x6_1 : Int) := of_decide_eq_true (by first | (with_reducible assumption) | assumption)
                       have q108 : x6_1 < (t102.length : Int) := of_decide_eq_true (by first | (with_reducible assumption) | assumption)
                       obtain ⟨ad108, e108, hx108_0, hx108_1, hx108_2⟩ := at_T34 (Kd.R_reads' HO_3.out).2.2 x6_1 p108 q108
                       obtain rfl : ad107 = ad108 := (by injection e108)
                       replace p108 := eq_true p108
                       replace q108 := eq_true q108
                       have p109 : 0 ≤ (x6_1 : Int) := of_decide_eq_true (by first | (with_reducible assumption) | assumption)
                       have q109 : x6_1 < (t102.length : Int) := of_decide_eq_true (by first | (with_reducible assumption) | assumption)
                       obtain ⟨ad109, e109, hx109_0, hx109_1, hx109_2⟩ := at_T34 (Kd.R_reads' HO_3.out).2.2 x6_1 p109 q109
                       obtain rfl : ad107 = ad109 := (by injection e109)
                       replace p109 := eq_true p109
                       replace q109 := eq_true q109
                       have p110 : 0 ≤ (x6_1 : Int) := of_decide_eq_true (by first | (with_reducible assumption) | assumption)
                       have q110 : x6_1 < (t102.length : Int) := of_decide_eq_true (by first | (with_reducible assumption) | assumption)
                       obtain ⟨ad110, e110, hx110_0, hx110_1, hx110_2⟩ := at_T34 (Kd.R_reads' HO_3.out).2.2 x6_1 p110 q110
                       obtain rfl : ad107 = ad110 := (by injection e110)
                       replace p110 := eq_true p110
                       replace q110 := eq_true q110
                       have p111 : 0 ≤ (x6_1 : Int) := of_decide_eq_true (by first | (with_reducible assumption) | assumption)
                       have q111 : x6_1 < (t102.length : Int) := of_decide_eq_true (by first | (with_reducible assumption) | assumption)
                       obtain ⟨ad111, e111, hx111_0, hx111_1, hx111_2⟩ := at_T34 (Kd.R_reads' HO_3.out).2.2 x6_1 p111 q111
                       obtain rfl : ad107 = ad111 := (by injection e111)
                       replace p111 := eq_true p111
                       replace q111 := eq_true q111
                       have p116 : 0 ≤ (x6_1 : Int) := of_decide_eq_true (by first | (with_reducible assumption) | assumption)
                       have q116 : x6_1 < (t102.length : Int) := of_decide_eq_true (by first | (with_reducible assumption) | assumption)
                       obtain ⟨ad116, e116, hx116_0, hx116_1, hx116_2⟩ := at_T34 (Kd.R_reads' HO_3.out).2.2 x6_1 p116 q116
                       obtain rfl : ad107 = ad116 := (by injection e116)
                       replace p116 := eq_true p116
                       replace q116 := eq_true q116
                       go_wp2
                       go_roundg k1
                       case measure => have := HK1.out; omega
                       case rel => exact ⟨((rd_T34 t102 x6_1).f2), (wrap64 (x6_1 + 1)), (by first | rfl | (simp; done) | (simp [*]; done)), (by first | rfl | (simp; done) | (simp [*]; done)), H', ⟨by have := HK1.out; omega⟩, ⟨by (with_reducible repeat (first | apply Kd.R_alloc | apply Kd.R_drewN | apply Kd.R_drew)); exact HO_3.out⟩, ⟨by repeat (first | (with_reducible first | exact HB.out | apply below_alloc | apply pw_below_drewN | apply below_drew1) | exact HB.out)⟩⟩
           · rw [if_neg c15] at H
             exact absurd H (by simp)
         · rw [if_neg c14] at H
           exact absurd H (by simp)
       · rw [if_neg c13] at H
         have c13b0 : decide (x6_1 < (t102.length : Int)) = false := decide_eq_false c13
         clear c13
         replace H := Option.bind_eq_some_iff.mp H
         obtain ⟨t117, A290, H⟩ := H
         replace H : (if t117 = 0 then (some (x5_1 == (a0.size : Int))) else (none)) = some r := H
         have A29 := Aside0.mk A290
         clear A290
         by_cases c30 : t117 = 0
         · rw [if_pos c30] at H
           have c30b0 : (t117 == 0) = true := beq_iff_eq.mpr c30
           have c30b1 : (t117 != 0) = false := bne_eq_false_iff_eq.mpr c30
           clear c30
           obtain rfl := Option.some.inj H
           obtain ⟨Ao31, co31, eo31⟩ := Kd.R_slice HO_3.out
           subst eo31
           go_wp2_with (first | ((with_reducible refine gate_callee (f := 15) rfl ?_); refine goesL_ (some 100) rfl rfl Try.func15 (by kernel_rfl) rfl #[.int .i64 t103] rfl (by (try simp only [List.map_toArray, List.map_cons, List.map_nil]); first | done | rfl | (simp only [List.length_drop, List.length_take]; rfl)) ?_; (with_reducible refine (minuetlaw0_Num.calls t103 t117 _ A29.out).mono ?_); rintro e w' ⟨rfl, ⟨nd, rfl⟩⟩; refine ⟨_, rfl, ?_⟩))
           go_ret
           exact ⟨by first | rfl | (simp [errW_none, errW_some] <;> rfl) | (simp [*, errW_none, errW_some] <;> rfl), by repeat (first | (with_reducible first | exact HB.out | apply below_alloc | apply pw_below_drewN | apply below_drew1) | exact HB.out)⟩
         · rw [if_neg c30] at H
           exact absurd H (by simp)
 · replace c3 := Bool.eq_false_iff.mpr c3
   subst c3
   have H1 : (none) = some r := by rw [if_neg (show ¬ (false = true) by decide)] at H; exact H
   clear H
   have H := H1
   clear H1
   exact absurd H (by simp)

/-- THE ONE PURE STATEMENT of minuetlaw9_LexCovers: yours. -/
def minuetlaw9_LexCovers.Pure : Prop := ∀ (a0 : ByteArray), a0.size ≤ 140737488351232 → ∃ k, minuetlaw9_LexCovers.f k a0 = some true
theorem minuetlaw9_LexCovers.walk (P : minuetlaw9_LexCovers.Pure) (a0 : ByteArray) (w : World) (hm_ : MaxOk w) (w0 : a0.size ≤ 140737488351232) :
 Calls Try.prog 4 #[.string a0] w fun e w' => e = .returned (.bool true) ∧ Below w.heap.size w w' := by
 obtain ⟨k, h⟩ := P a0 w0
 refine (minuetlaw9_LexCovers.calls k a0 true w hm_ h).mono ?_
 rintro e w' ⟨rfl, hd⟩
 exact ⟨rfl, hd⟩

end Go.Proofs.Ytjcoahipcgeoiaa.G
