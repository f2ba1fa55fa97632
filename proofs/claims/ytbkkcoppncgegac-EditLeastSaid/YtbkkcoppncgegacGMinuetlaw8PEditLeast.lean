-- Laid by this session's own program gprint.py (wip/tools), out of the kit's print and of texts of this session. Lean checks it.
import Derived.Test.YtbkkcoppncgegacGx0
import Derived.Test.YtbkkcoppncgegacGEditPBetween
import Derived.Test.YtbkkcoppncgegacGZ3
import Derived.Test.YtbkkcoppncgegacGMinuetlaw8qawake
namespace Go.Proofs.Ytbkkcoppncgegac.G
open Go.RowKit Go.Proofs.YtbkkcoppncgegacW.PrintWords Go.Proofs.YtbkkcoppncgegacW.PrintLast Go.Proofs.YtbkkcoppncgegacW.PrintMore
attribute [local go_sem] max2_int min2_int max_two min_two max_three min_three max_four min_four   -- for this text's walks alone
set_option linter.unusedVariables false
set_option linter.unusedSimpArgs false

/-! ### minuetlaw8_EditLeast: function 3 -/
def minuetlaw8_EditLeast.l0 : Nat → ByteArray → List (S29) → Int → Int → ByteArray → Int → Option (Bool)
 | 0, _, _, _, _, _, _ => none
 | k + 1, x0, x5, x7, x8, x9, x10 => if x10 < (x5.length : Int) then (if 0 ≤ x10 then (if ((rd_T29 x5 x10).f0) = 2 then (minuetlaw8_EditLeast.l0 k x0 x5 x7 ((rd_T29 x5 x10).f1) x9 (wrap64 (x10 + 1))) else (if ((rd_T29 x5 x10).f0) = 1 then (minuetlaw8_EditLeast.l0 k x0 x5 x7 x8 ((rd_T29 x5 x10).f2) (wrap64 (x10 + 1))) else (if x10 = 0 then (minuetlaw8_EditLeast.l0 k x0 x5 ((rd_T29 x5 x10).f1) x8 x9 (wrap64 (x10 + 1))) else (minuetlaw8_EditLeast.l0 k x0 x5 x7 x8 x9 (wrap64 (x10 + 1)))))) else (none)) else (if x7 > (wrap64 ((x0.size : Int) - x8)) then (none) else (if 0 ≤ x7 then (if x7 ≤ (wrap64 (x7 + x8)) then (if (wrap64 (x7 + x8)) ≤ (x0.size : Int) then (if (x0.extract (x7 : Int).toNat ((wrap64 (x7 + x8)) : Int).toNat).toList = ([] : List UInt8) then (some true) else (if x9.toList = ([] : List UInt8) then (some true) else (if 0 < ((x0.extract (x7 : Int).toNat ((wrap64 (x7 + x8)) : Int).toNat).size : Int) then (if 0 < (x9.size : Int) then (if (bt (x0.extract (x7 : Int).toNat ((wrap64 (x7 + x8)) : Int).toNat) 0) = (bt x9 0) then (none) else (if 0 ≤ (wrap64 (((x0.extract (x7 : Int).toNat ((wrap64 (x7 + x8)) : Int).toNat).size : Int) - 1)) then (if (wrap64 (((x0.extract (x7 : Int).toNat ((wrap64 (x7 + x8)) : Int).toNat).size : Int) - 1)) < ((x0.extract (x7 : Int).toNat ((wrap64 (x7 + x8)) : Int).toNat).size : Int) then (if 0 ≤ (wrap64 ((x9.size : Int) - 1)) then (if (wrap64 ((x9.size : Int) - 1)) < (x9.size : Int) then (some ((bt (x0.extract (x7 : Int).toNat ((wrap64 (x7 + x8)) : Int).toNat) (wrap64 (((x0.extract (x7 : Int).toNat ((wrap64 (x7 + x8)) : Int).toNat).size : Int) - 1))) != (bt x9 (wrap64 ((x9.size : Int) - 1))))) else (none)) else (none)) else (none)) else (none))) else (none)) else (none)))) else (none)) else (none)) else (none)))
def minuetlaw8_EditLeast.f (k : Nat) (a0 : ByteArray) (a1 : ByteArray) : Option (Bool) := (minuetlaw8_awake.f k).bind fun t101 => (if t101 = true then ((edit_Between.f k a0 a1).bind fun bt102 => ((minuetlaw0_Num.f bt102.2).bind fun t106 => (if t106 = 0 then (minuetlaw8_EditLeast.l0 k a0 bt102.1 0 0 (⟨#[]⟩ : ByteArray) 0) else (if (a0.size : Int) > 4096 then (some true) else (some (decide ((a1.size : Int) > 4096))))))) else (none))
theorem minuetlaw8_EditLeast.mono_l : ∀ k, (∀ y0 y1 y2 y3 y4 y5, LeO (minuetlaw8_EditLeast.l0 k y0 y1 y2 y3 y4 y5) (minuetlaw8_EditLeast.l0 (k + 1) y0 y1 y2 y3 y4 y5))
 | 0 => fun _ _ _ _ _ _ r h => by simp [minuetlaw8_EditLeast.l0] at h
 | k + 1 => by
  have ih0 := minuetlaw8_EditLeast.mono_l k
  · intro y0 y1 y2 y3 y4 y5
    unfold minuetlaw8_EditLeast.l0
    repeat' first
    | (with_reducible exact ih0 _ _ _ _ _ _)
    | (with_reducible exact edit_Between.mono _ _ _)
    | (with_reducible exact minuetlaw8_awake.mono _)
    | (with_reducible exact LeO.refl _)
    | (with_reducible exact LeO.none _)
    | (with_reducible refine LeO.ite ?_ ?_)
    | (with_reducible refine LeO.bind ?_ (fun _ => ?_))
    | exact ih0 _ _ _ _ _ _
    | exact edit_Between.mono _ _ _
    | exact minuetlaw8_awake.mono _
    | exact LeO.none _
    | refine LeO.ite ?_ ?_
    | refine LeO.bind ?_ (fun _ => ?_)
theorem minuetlaw8_EditLeast.mono : ∀ a0 a1 k, LeO (minuetlaw8_EditLeast.f k a0 a1) (minuetlaw8_EditLeast.f (k + 1) a0 a1) := by
 intro a0 a1 k
 have ih0 := minuetlaw8_EditLeast.mono_l k
 unfold minuetlaw8_EditLeast.f
 repeat' first
  | (with_reducible exact ih0 _ _ _ _ _ _)
  | (with_reducible exact edit_Between.mono _ _ _)
  | (with_reducible exact minuetlaw8_awake.mono _)
  | (with_reducible exact LeO.refl _)
  | (with_reducible exact LeO.none _)
  | (with_reducible refine LeO.ite ?_ ?_)
  | (with_reducible refine LeO.bind ?_ (fun _ => ?_))
  | exact ih0 _ _ _ _ _ _
  | exact edit_Between.mono _ _ _
  | exact minuetlaw8_awake.mono _
  | exact LeO.none _
  | refine LeO.ite ?_ ?_
  | refine LeO.bind ?_ (fun _ => ?_)
set_option maxHeartbeats 8000000 in
set_option maxRecDepth 100000 in
theorem minuetlaw8_EditLeast.calls (k : Nat) (a0 : ByteArray) (a1 : ByteArray) (r : Bool) (w : World) (h : minuetlaw8_EditLeast.f k a0 a1 = some r) :
 Calls Try.prog 3 #[.string a0, .string a1] w fun e w' => e = .returned (.bool r) ∧ Below w.heap.size w w' := by
 have HB := Aside0.mk (Below.refl w.heap.size w)
 have H : ((minuetlaw8_awake.f k).bind fun t101 => (if t101 = true then ((edit_Between.f k a0 a1).bind fun bt102 => ((minuetlaw0_Num.f bt102.2).bind fun t106 => (if t106 = 0 then (minuetlaw8_EditLeast.l0 k a0 bt102.1 0 0 (⟨#[]⟩ : ByteArray) 0) else (if (a0.size : Int) > 4096 then (some true) else (some (decide ((a1.size : Int) > 4096))))))) else (none))) = some r := h
 clear h
 replace H := Option.bind_eq_some_iff.mp H
 obtain ⟨t101, A30, H⟩ := H
 replace H : (if t101 = true then ((edit_Between.f k a0 a1).bind fun bt102 => ((minuetlaw0_Num.f bt102.2).bind fun t106 => (if t106 = 0 then (minuetlaw8_EditLeast.l0 k a0 bt102.1 0 0 (⟨#[]⟩ : ByteArray) 0) else (if (a0.size : Int) > 4096 then (some true) else (some (decide ((a1.size : Int) > 4096))))))) else (none)) = some r := H
 have A3 := Aside0.mk A30
 clear A30
 by_cases c4 : t101 = true
 · subst c4
   have H1 : ((edit_Between.f k a0 a1).bind fun bt102 => ((minuetlaw0_Num.f bt102.2).bind fun t106 => (if t106 = 0 then (minuetlaw8_EditLeast.l0 k a0 bt102.1 0 0 (⟨#[]⟩ : ByteArray) 0) else (if (a0.size : Int) > 4096 then (some true) else (some (decide ((a1.size : Int) > 4096))))))) = some r := by rw [if_pos rfl] at H; exact H
   clear H
   have H := H1
   clear H1
   replace H := Option.bind_eq_some_iff.mp H
   obtain ⟨⟨t102, t103⟩, A50, H⟩ := H
   replace H : ((minuetlaw0_Num.f t103).bind fun t106 => (if t106 = 0 then (minuetlaw8_EditLeast.l0 k a0 t102 0 0 (⟨#[]⟩ : ByteArray) 0) else (if (a0.size : Int) > 4096 then (some true) else (some (decide ((a1.size : Int) > 4096)))))) = some r := H
   have A5 := Aside0.mk A50
   clear A50
   replace H := Option.bind_eq_some_iff.mp H
   obtain ⟨t106, A60, H⟩ := H
   replace H : (if t106 = 0 then (minuetlaw8_EditLeast.l0 k a0 t102 0 0 (⟨#[]⟩ : ByteArray) 0) else (if (a0.size : Int) > 4096 then (some true) else (some (decide ((a1.size : Int) > 4096))))) = some r := H
   have A6 := Aside0.mk A60
   clear A60
   by_cases c7 : t106 = 0
   · rw [if_pos c7] at H
     have c7b0 : (t106 == 0) = true := beq_iff_eq.mpr c7
     have c7b1 : (t106 != 0) = false := bne_eq_false_iff_eq.mpr c7
     clear c7
     have H' := Aside0.mk H
     clear H
     go_enter Try.func3, Try.ntmps3
     go_wp2_with (first | (go_at_call 13; (with_reducible refine (minuetlaw8_awake.calls k  true _ A3.out).mono ?_); rintro e w8 ⟨rfl, hb⟩; have n0_ := Aside0.mk (below_step (by repeat (first | (with_reducible first | exact HB.out | apply below_alloc | apply pw_below_drewN | apply below_drew1) | exact HB.out)) hb); clear HB; have HB := n0_; clear n0_; (try clear hb); (try clear hb2); (try clear hk); (try clear hi)) | (go_at_call 14; (with_reducible refine (edit_Between.calls k a0 a1 t102 t103 _ A5.out).mono ?_); rintro e w9 ⟨v104, rfl, ho0, hb⟩; have n0_ := Aside0.mk (Kd.R_lower ho0 (below_size (by repeat (first | (with_reducible first | exact HB.out | apply below_alloc | apply pw_below_drewN | apply below_drew1) | exact HB.out)))); have n1_ := Aside0.mk (below_step (by repeat (first | (with_reducible first | exact HB.out | apply below_alloc | apply pw_below_drewN | apply below_drew1) | exact HB.out)) hb); clear HB; have HO105 := n0_; have HB := n1_; clear n0_ n1_; (try clear hb); (try clear hb2); (try clear hk); (try clear hi); (try clear ho0)) | (go_at_call 15; (with_reducible refine (minuetlaw0_Num.calls t103 t106 _ A6.out).mono ?_); rintro e w' ⟨rfl, ⟨nd, rfl⟩⟩; (try first | exact ⟨rfl, _, World.drewN_drewN _ _ _⟩ | exact ⟨rfl, _, Eq.trans (World.drewN_drewN _ _ _) (congrArg (World.drewN _) (Nat.add_assoc _ _ _))⟩)))
     repeat (go_quiet (first | (go_at_call 13; (with_reducible refine (minuetlaw8_awake.calls k  true _ A3.out).mono ?_); rintro e w8 ⟨rfl, hb⟩; have n0_ := Aside0.mk (below_step (by repeat (first | (with_reducible first | exact HB.out | apply below_alloc | apply pw_below_drewN | apply below_drew1) | exact HB.out)) hb); clear HB; have HB := n0_; clear n0_; (try clear hb); (try clear hb2); (try clear hk); (try clear hi)) | (go_at_call 14; (with_reducible refine (edit_Between.calls k a0 a1 t102 t103 _ A5.out).mono ?_); rintro e w9 ⟨v104, rfl, ho0, hb⟩; have n0_ := Aside0.mk (Kd.R_lower ho0 (below_size (by repeat (first | (with_reducible first | exact HB.out | apply below_alloc | apply pw_below_drewN | apply below_drew1) | exact HB.out)))); have n1_ := Aside0.mk (below_step (by repeat (first | (with_reducible first | exact HB.out | apply below_alloc | apply pw_below_drewN | apply below_drew1) | exact HB.out)) hb); clear HB; have HO105 := n0_; have HB := n1_; clear n0_ n1_; (try clear hb); (try clear hb2); (try clear hk); (try clear hi); (try clear ho0)) | (go_at_call 15; (with_reducible refine (minuetlaw0_Num.calls t103 t106 _ A6.out).mono ?_); rintro e w' ⟨rfl, ⟨nd, rfl⟩⟩; (try first | exact ⟨rfl, _, World.drewN_drewN _ _ _⟩ | exact ⟨rfl, _, Eq.trans (World.drewN_drewN _ _ _) (congrArg (World.drewN _) (Nat.add_assoc _ _ _))⟩))); try go_wp2_with (first | (go_at_call 13; (with_reducible refine (minuetlaw8_awake.calls k  true _ A3.out).mono ?_); rintro e w8 ⟨rfl, hb⟩; have n0_ := Aside0.mk (below_step (by repeat (first | (with_reducible first | exact HB.out | apply below_alloc | apply pw_below_drewN | apply below_drew1) | exact HB.out)) hb); clear HB; have HB := n0_; clear n0_; (try clear hb); (try clear hb2); (try clear hk); (try clear hi)) | (go_at_call 14; (with_reducible refine (edit_Between.calls k a0 a1 t102 t103 _ A5.out).mono ?_); rintro e w9 ⟨v104, rfl, ho0, hb⟩; have n0_ := Aside0.mk (Kd.R_lower ho0 (below_size (by repeat (first | (with_reducible first | exact HB.out | apply below_alloc | apply pw_below_drewN | apply below_drew1) | exact HB.out)))); have n1_ := Aside0.mk (below_step (by repeat (first | (with_reducible first | exact HB.out | apply below_alloc | apply pw_below_drewN | apply below_drew1) | exact HB.out)) hb); clear HB; have HO105 := n0_; have HB := n1_; clear n0_ n1_; (try clear hb); (try clear hb2); (try clear hk); (try clear hi); (try clear ho0)) | (go_at_call 15; (with_reducible refine (minuetlaw0_Num.calls t103 t106 _ A6.out).mono ?_); rintro e w' ⟨rfl, ⟨nd, rfl⟩⟩; (try first | exact ⟨rfl, _, World.drewN_drewN _ _ _⟩ | exact ⟨rfl, _, Eq.trans (World.drewN_drewN _ _ _) (congrArg (World.drewN _) (Nat.add_assoc _ _ _))⟩))))
     go_loopg [7, 8, 9, 10] k (fun kq v7 v8 v9 v10 w' => ∃ (x7_1 : Int) (x8_1 : Int) (x9_1 : ByteArray) (x10_1 : Int), v7 = .int .i64 x7_1 ∧ v8 = .int .i64 x8_1 ∧ v9 = .string x9_1 ∧ v10 = .int .i64 x10_1 ∧ Aside0 (minuetlaw8_EditLeast.l0 kq a0 t102 x7_1 x8_1 x9_1 x10_1 = some r) ∧ Aside0 (kq ≤ k) ∧ Aside0 (Kd.R k29 29 w' w.heap.size (fun _ => True) v104 t102) ∧ Aside0 (Below w.heap.size w w'))
     case atStart => exact ⟨(0), (0), ((⟨#[]⟩ : ByteArray)), (0), (by first | rfl | (simp; done) | (simp [*]; done)), (by first | rfl | (simp; done) | (simp [*]; done)), (by first | rfl | (simp; done) | (simp [*]; done)), (by first | rfl | (simp; done) | (simp [*]; done)), H', ⟨Nat.le_refl _⟩, ⟨by (with_reducible repeat (first | apply Kd.R_alloc | apply Kd.R_drewN | apply Kd.R_drew)); exact HO105.out⟩, ⟨by repeat (first | (with_reducible first | exact HB.out | apply below_alloc | apply pw_below_drewN | apply below_drew1) | exact HB.out)⟩⟩
     case round =>
      clear H'
      try clear p2
      try clear c3
      try clear c4
      try clear c7
      try clear c7b0
      try clear c7b1
      obtain ⟨x7_1, x8_1, x9_1, x10_1, rfl, rfl, rfl, rfl, HA, HK1, HO_5, HB⟩ := hrel
      cases gk with
      | zero => exact absurd HA.out (by simp [minuetlaw8_EditLeast.l0])
      | succ k1 =>
       have H := HA.out
       clear HA
       simp only [minuetlaw8_EditLeast.l0] at H
       by_cases c10 : x10_1 < (t102.length : Int)
       · rw [if_pos c10] at H
         have c10b0 : decide (x10_1 < (t102.length : Int)) = true := decide_eq_true c10
         clear c10
         by_cases c11 : 0 ≤ x10_1
         · rw [if_pos c11] at H
           have c11b0 : decide (0 ≤ x10_1) = true := decide_eq_true c11
           clear c11
           by_cases c12 : ((rd_T29 t102 x10_1).f0) = 2
           · rw [if_pos c12] at H
             have c12b0 : (((rd_T29 t102 x10_1).f0) == 2) = true := beq_iff_eq.mpr c12
             have c12b1 : (((rd_T29 t102 x10_1).f0) != 2) = false := bne_eq_false_iff_eq.mpr c12
             clear c12
             have H' := Aside0.mk H
             clear H
             obtain ⟨Ao13, co13, eo13⟩ := Kd.R_slice HO_5.out
             subst eo13
             have p107 : 0 ≤ (x10_1 : Int) := of_decide_eq_true (by first | (with_reducible assumption) | assumption)
             have q107 : x10_1 < (t102.length : Int) := of_decide_eq_true (by first | (with_reducible assumption) | assumption)
             obtain ⟨ad107, e107, hx107_0, hx107_1, hx107_2⟩ := at_T29 (Kd.R_reads' HO_5.out).2.2 x10_1 p107 q107
             cases e107
             replace p107 := eq_true p107
             replace q107 := eq_true q107
             have p108 : 0 ≤ (x10_1 : Int) := of_decide_eq_true (by first | (with_reducible assumption) | assumption)
             have q108 : x10_1 < (t102.length : Int) := of_decide_eq_true (by first | (with_reducible assumption) | assumption)
             obtain ⟨ad108, e108, hx108_0, hx108_1, hx108_2⟩ := at_T29 (Kd.R_reads' HO_5.out).2.2 x10_1 p108 q108
             obtain rfl : ad107 = ad108 := (by injection e108)
             replace p108 := eq_true p108
             replace q108 := eq_true q108
             go_wp2
             repeat (go_quiet (fail); try go_wp2)
             go_roundg k1
             case measure => have := HK1.out; omega
             case rel => exact ⟨(x7_1), ((rd_T29 t102 x10_1).f1), (x9_1), (wrap64 (x10_1 + 1)), (by first | rfl | (simp; done) | (simp [*]; done)), (by first | rfl | (simp; done) | (simp [*]; done)), (by first | rfl | (simp; done) | (simp [*]; done)), (by first | rfl | (simp; done) | (simp [*]; done)), H', ⟨by have := HK1.out; omega⟩, ⟨by (with_reducible repeat (first | apply Kd.R_alloc | apply Kd.R_drewN | apply Kd.R_drew)); exact HO_5.out⟩, ⟨by repeat (first | (with_reducible first | exact HB.out | apply below_alloc | apply pw_below_drewN | apply below_drew1) | exact HB.out)⟩⟩
           · rw [if_neg c12] at H
             have c12b0 : (((rd_T29 t102 x10_1).f0) == 2) = false := beq_eq_false_iff_ne.mpr c12
             have c12b1 : (((rd_T29 t102 x10_1).f0) != 2) = true := bne_iff_ne.mpr c12
             by_cases c14 : ((rd_T29 t102 x10_1).f0) = 1
             · rw [if_pos c14] at H
               have c14b0 : (((rd_T29 t102 x10_1).f0) == 1) = true := beq_iff_eq.mpr c14
               have c14b1 : (((rd_T29 t102 x10_1).f0) != 1) = false := bne_eq_false_iff_eq.mpr c14
               clear c14
               have H' := Aside0.mk H
               clear H
               obtain ⟨Ao15, co15, eo15⟩ := Kd.R_slice HO_5.out
               subst eo15
               have p107 : 0 ≤ (x10_1 : Int) := of_decide_eq_true (by first | (with_reducible assumption) | assumption)
               have q107 : x10_1 < (t102.length : Int) := of_decide_eq_true (by first | (with_reducible assumption) | assumption)
               obtain ⟨ad107, e107, hx107_0, hx107_1, hx107_2⟩ := at_T29 (Kd.R_reads' HO_5.out).2.2 x10_1 p107 q107
               cases e107
               replace p107 := eq_true p107
               replace q107 := eq_true q107
               have p109 : 0 ≤ (x10_1 : Int) := of_decide_eq_true (by first | (with_reducible assumption) | assumption)
               have q109 : x10_1 < (t102.length : Int) := of_decide_eq_true (by first | (with_reducible assumption) | assumption)
               obtain ⟨ad109, e109, hx109_0, hx109_1, hx109_2⟩ := at_T29 (Kd.R_reads' HO_5.out).2.2 x10_1 p109 q109
               obtain rfl : ad107 = ad109 := (by injection e109)
               replace p109 := eq_true p109
               replace q109 := eq_true q109
               go_wp2
               repeat (go_quiet (fail); try go_wp2)
               go_roundg k1
               case measure => have := HK1.out; omega
               case rel => exact ⟨(x7_1), (x8_1), ((rd_T29 t102 x10_1).f2), (wrap64 (x10_1 + 1)), (by first | rfl | (simp; done) | (simp [*]; done)), (by first | rfl | (simp; done) | (simp [*]; done)), (by first | rfl | (simp; done) | (simp [*]; done)), (by first | rfl | (simp; done) | (simp [*]; done)), H', ⟨by have := HK1.out; omega⟩, ⟨by (with_reducible repeat (first | apply Kd.R_alloc | apply Kd.R_drewN | apply Kd.R_drew)); exact HO_5.out⟩, ⟨by repeat (first | (with_reducible first | exact HB.out | apply below_alloc | apply pw_below_drewN | apply below_drew1) | exact HB.out)⟩⟩
             · rw [if_neg c14] at H
               have c14b0 : (((rd_T29 t102 x10_1).f0) == 1) = false := beq_eq_false_iff_ne.mpr c14
               have c14b1 : (((rd_T29 t102 x10_1).f0) != 1) = true := bne_iff_ne.mpr c14
               by_cases c16 : x10_1 = 0
               · rw [if_pos c16] at H
                 have c16b0 : (x10_1 == 0) = true := beq_iff_eq.mpr c16
                 have c16b1 : (x10_1 != 0) = false := bne_eq_false_iff_eq.mpr c16
                 clear c16
                 have H' := Aside0.mk H
                 clear H
                 obtain ⟨Ao17, co17, eo17⟩ := Kd.R_slice HO_5.out
                 subst eo17
                 have p107 : 0 ≤ (x10_1 : Int) := of_decide_eq_true (by first | (with_reducible assumption) | assumption)
                 have q107 : x10_1 < (t102.length : Int) := of_decide_eq_true (by first | (with_reducible assumption) | assumption)
                 obtain ⟨ad107, e107, hx107_0, hx107_1, hx107_2⟩ := at_T29 (Kd.R_reads' HO_5.out).2.2 x10_1 p107 q107
                 cases e107
                 replace p107 := eq_true p107
                 replace q107 := eq_true q107
                 have p110 : 0 ≤ (x10_1 : Int) := of_decide_eq_true (by first | (with_reducible assumption) | assumption)
                 have q110 : x10_1 < (t102.length : Int) := of_decide_eq_true (by first | (with_reducible assumption) | assumption)
                 obtain ⟨ad110, e110, hx110_0, hx110_1, hx110_2⟩ := at_T29 (Kd.R_reads' HO_5.out).2.2 x10_1 p110 q110
                 obtain rfl : ad107 = ad110 := (by injection e110)
                 replace p110 := eq_true p110
                 replace q110 := eq_true q110
                 go_wp2
                 repeat (go_quiet (fail); try go_wp2)
                 go_roundg k1
                 case measure => have := HK1.out; omega
                 case rel => exact ⟨((rd_T29 t102 x10_1).f1), (x8_1), (x9_1), (wrap64 (x10_1 + 1)), (by first | rfl | (simp; done) | (simp [*]; done)), (by first | rfl | (simp; done) | (simp [*]; done)), (by first | rfl | (simp; done) | (simp [*]; done)), (by first | rfl | (simp; done) | (simp [*]; done)), H', ⟨by have := HK1.out; omega⟩, ⟨by (with_reducible repeat (first | apply Kd.R_alloc | apply Kd.R_drewN | apply Kd.R_drew)); exact HO_5.out⟩, ⟨by repeat (first | (with_reducible first | exact HB.out | apply below_alloc | apply pw_below_drewN | apply below_drew1) | exact HB.out)⟩⟩
               · rw [if_neg c16] at H
                 have c16b0 : (x10_1 == 0) = false := beq_eq_false_iff_ne.mpr c16
                 have c16b1 : (x10_1 != 0) = true := bne_iff_ne.mpr c16
                 have H' := Aside0.mk H
                 clear H
                 obtain ⟨Ao18, co18, eo18⟩ := Kd.R_slice HO_5.out
                 subst eo18
                 have p107 : 0 ≤ (x10_1 : Int) := of_decide_eq_true (by first | (with_reducible assumption) | assumption)
                 have q107 : x10_1 < (t102.length : Int) := of_decide_eq_true (by first | (with_reducible assumption) | assumption)
                 obtain ⟨ad107, e107, hx107_0, hx107_1, hx107_2⟩ := at_T29 (Kd.R_reads' HO_5.out).2.2 x10_1 p107 q107
                 cases e107
                 replace p107 := eq_true p107
                 replace q107 := eq_true q107
                 go_wp2
                 repeat (go_quiet (fail); try go_wp2)
                 go_roundg k1
                 case measure => have := HK1.out; omega
                 case rel => exact ⟨(x7_1), (x8_1), (x9_1), (wrap64 (x10_1 + 1)), (by first | rfl | (simp; done) | (simp [*]; done)), (by first | rfl | (simp; done) | (simp [*]; done)), (by first | rfl | (simp; done) | (simp [*]; done)), (by first | rfl | (simp; done) | (simp [*]; done)), H', ⟨by have := HK1.out; omega⟩, ⟨by (with_reducible repeat (first | apply Kd.R_alloc | apply Kd.R_drewN | apply Kd.R_drew)); exact HO_5.out⟩, ⟨by repeat (first | (with_reducible first | exact HB.out | apply below_alloc | apply pw_below_drewN | apply below_drew1) | exact HB.out)⟩⟩
         · rw [if_neg c11] at H
           exact absurd H (by simp)
       · rw [if_neg c10] at H
         have c10b0 : decide (x10_1 < (t102.length : Int)) = false := decide_eq_false c10
         clear c10
         by_cases c19 : x7_1 > (wrap64 ((a0.size : Int) - x8_1))
         · rw [if_pos c19] at H
           exact absurd H (by simp)
         · rw [if_neg c19] at H
           have c19b0 : decide ((wrap64 ((a0.size : Int) - x8_1)) < x7_1) = false := decide_eq_false c19
           clear c19
           by_cases c20 : 0 ≤ x7_1
           · rw [if_pos c20] at H
             have c20b0 := eq_true c20
             have c20b1 : decide (0 ≤ x7_1) = true := decide_eq_true c20
             clear c20
             by_cases c21 : x7_1 ≤ (wrap64 (x7_1 + x8_1))
             · rw [if_pos c21] at H
               have c21b0 := eq_true c21
               have c21b1 : decide (x7_1 ≤ (wrap64 (x7_1 + x8_1))) = true := decide_eq_true c21
               by_cases c22 : (wrap64 (x7_1 + x8_1)) ≤ (a0.size : Int)
               · rw [if_pos c22] at H
                 have c22b0 := eq_true c22
                 have c22b1 : decide ((wrap64 (x7_1 + x8_1)) ≤ (a0.size : Int)) = true := decide_eq_true c22
                 by_cases c23 : (a0.extract (x7_1 : Int).toNat ((wrap64 (x7_1 + x8_1)) : Int).toNat).toList = ([] : List UInt8)
                 · rw [if_pos c23] at H
                   have c23b0 : ((a0.extract (x7_1 : Int).toNat ((wrap64 (x7_1 + x8_1)) : Int).toNat).toList == ([] : List UInt8)) = true := beq_iff_eq.mpr c23
                   have c23b1 : ((a0.extract (x7_1 : Int).toNat ((wrap64 (x7_1 + x8_1)) : Int).toNat).toList != ([] : List UInt8)) = false := bne_eq_false_iff_eq.mpr c23
                   clear c23
                   obtain rfl := Option.some.inj H
                   obtain ⟨Ao24, co24, eo24⟩ := Kd.R_slice HO_5.out
                   subst eo24
                   go_wp2
                   repeat (go_quiet (fail); try go_wp2)
                   go_ret
                   exact ⟨by first | rfl | (simp [errW_none, errW_some] <;> rfl) | (simp [*, errW_none, errW_some] <;> rfl), by repeat (first | (with_reducible first | exact HB.out | apply below_alloc | apply pw_below_drewN | apply below_drew1) | exact HB.out)⟩
                 · rw [if_neg c23] at H
                   have c23b0 : ((a0.extract (x7_1 : Int).toNat ((wrap64 (x7_1 + x8_1)) : Int).toNat).toList == ([] : List UInt8)) = false := beq_eq_false_iff_ne.mpr c23
                   have c23b1 : ((a0.extract (x7_1 : Int).toNat ((wrap64 (x7_1 + x8_1)) : Int).toNat).toList != ([] : List UInt8)) = true := bne_iff_ne.mpr c23
                   by_cases c25 : x9_1.toList = ([] : List UInt8)
                   · rw [if_pos c25] at H
                     have c25b0 : (x9_1.toList == ([] : List UInt8)) = true := beq_iff_eq.mpr c25
                     have c25b1 : (x9_1.toList != ([] : List UInt8)) = false := bne_eq_false_iff_eq.mpr c25
                     clear c25
                     obtain rfl := Option.some.inj H
                     obtain ⟨Ao26, co26, eo26⟩ := Kd.R_slice HO_5.out
                     subst eo26
                     go_wp2
                     repeat (go_quiet (fail); try go_wp2)
                     go_ret
                     exact ⟨by first | rfl | (simp [errW_none, errW_some] <;> rfl) | (simp [*, errW_none, errW_some] <;> rfl), by repeat (first | (with_reducible first | exact HB.out | apply below_alloc | apply pw_below_drewN | apply below_drew1) | exact HB.out)⟩
                   · rw [if_neg c25] at H
                     have c25b0 : (x9_1.toList == ([] : List UInt8)) = false := beq_eq_false_iff_ne.mpr c25
                     have c25b1 : (x9_1.toList != ([] : List UInt8)) = true := bne_iff_ne.mpr c25
                     by_cases c27 : 0 < ((a0.extract (x7_1 : Int).toNat ((wrap64 (x7_1 + x8_1)) : Int).toNat).size : Int)
                     · rw [if_pos c27] at H
                       have c27b0 : decide (0 < ((a0.extract (x7_1 : Int).toNat ((wrap64 (x7_1 + x8_1)) : Int).toNat).size : Int)) = true := decide_eq_true c27
                       have c27b1 : decide (0 < (a0.extract (x7_1 : Int).toNat ((wrap64 (x7_1 + x8_1)) : Int).toNat).size) = true := decide_eq_true (by omega)
                       clear c27
                       by_cases c29 : 0 < (x9_1.size : Int)
                       · rw [if_pos c29] at H
                         have c29b0 : decide (0 < (x9_1.size : Int)) = true := decide_eq_true c29
                         have c29b1 : decide (0 < x9_1.size) = true := decide_eq_true (by omega)
                         clear c29
                         by_cases c31 : (bt (a0.extract (x7_1 : Int).toNat ((wrap64 (x7_1 + x8_1)) : Int).toNat) 0) = (bt x9_1 0)
                         · rw [if_pos c31] at H
                           exact absurd H (by simp)
                         · rw [if_neg c31] at H
                           have c31b0 : ((bt (a0.extract (x7_1 : Int).toNat ((wrap64 (x7_1 + x8_1)) : Int).toNat) 0) == (bt x9_1 0)) = false := beq_eq_false_iff_ne.mpr c31
                           have c31b1 : ((bt (a0.extract (x7_1 : Int).toNat ((wrap64 (x7_1 + x8_1)) : Int).toNat) 0) != (bt x9_1 0)) = true := bne_iff_ne.mpr c31
                           obtain ⟨ji32, hji32⟩ : ∃ j_ : Int, (wrap64 (((a0.extract (x7_1 : Int).toNat ((wrap64 (x7_1 + x8_1)) : Int).toNat).size : Int) - 1)) = j_ := ⟨_, rfl⟩
                           replace H : (if 0 ≤ (ji32) then (if (ji32) < ((a0.extract (x7_1 : Int).toNat ((wrap64 (x7_1 + x8_1)) : Int).toNat).size : Int) then (if 0 ≤ (wrap64 ((x9_1.size : Int) - 1)) then (if (wrap64 ((x9_1.size : Int) - 1)) < (x9_1.size : Int) then (some ((bt (a0.extract (x7_1 : Int).toNat ((wrap64 (x7_1 + x8_1)) : Int).toNat) (ji32)) != (bt x9_1 (wrap64 ((x9_1.size : Int) - 1))))) else (none)) else (none)) else (none)) else (none)) = some r := by first | (rw [hji32] at H; exact H) | (simp only [hji32] at H ⊢; exact H)
                           have hji32w : (IntKind.i64.wrap (((a0.extract (x7_1 : Int).toNat ((wrap64 (x7_1 + x8_1)) : Int).toNat).size : Int) - 1)) = ji32 := (i64_w _).trans hji32
                           by_cases c33 : 0 ≤ (ji32)
                           · rw [if_pos c33] at H
                             have c33b0 : decide (0 ≤ (ji32)) = true := decide_eq_true c33
                             clear c33
                             by_cases c34 : (ji32) < ((a0.extract (x7_1 : Int).toNat ((wrap64 (x7_1 + x8_1)) : Int).toNat).size : Int)
                             · rw [if_pos c34] at H
                               have c34b0 : decide ((ji32) < ((a0.extract (x7_1 : Int).toNat ((wrap64 (x7_1 + x8_1)) : Int).toNat).size : Int)) = true := decide_eq_true c34
                               clear c34
                               obtain ⟨ji36, hji36⟩ : ∃ j_ : Int, (wrap64 ((x9_1.size : Int) - 1)) = j_ := ⟨_, rfl⟩
                               replace H : (if 0 ≤ (ji36) then (if (ji36) < (x9_1.size : Int) then (some ((bt (a0.extract (x7_1 : Int).toNat ((wrap64 (x7_1 + x8_1)) : Int).toNat) (ji32)) != (bt x9_1 (ji36)))) else (none)) else (none)) = some r := by first | (rw [hji36] at H; exact H) | (simp only [hji36] at H ⊢; exact H)
                               have hji36w : (IntKind.i64.wrap ((x9_1.size : Int) - 1)) = ji36 := (i64_w _).trans hji36
                               by_cases c37 : 0 ≤ (ji36)
                               · rw [if_pos c37] at H
                                 have c37b0 : decide (0 ≤ (ji36)) = true := decide_eq_true c37
                                 clear c37
                                 by_cases c38 : (ji36) < (x9_1.size : Int)
                                 · rw [if_pos c38] at H
                                   have c38b0 : decide ((ji36) < (x9_1.size : Int)) = true := decide_eq_true c38
                                   clear c38
                                   obtain rfl := Option.some.inj H
                                   obtain ⟨Ao40, co40, eo40⟩ := Kd.R_slice HO_5.out
                                   subst eo40
                                   have p28 : 0 ≤ (0 : Int) := (by omega)
                                   have q28 : 0 < (a0.extract (x7_1 : Int).toNat ((wrap64 (x7_1 + x8_1)) : Int).toNat).size := (by have : (0 : Int) < ((a0.extract (x7_1 : Int).toNat ((wrap64 (x7_1 + x8_1)) : Int).toNat).size : Int) := of_decide_eq_true (by first | (with_reducible assumption) | assumption); omega)
                                   have hx28 : ∀ h : 0 < (a0.extract (x7_1 : Int).toNat ((wrap64 (x7_1 + x8_1)) : Int).toNat).size, (((a0.extract (x7_1 : Int).toNat ((wrap64 (x7_1 + x8_1)) : Int).toNat)[0]'h).toNat : Int) = bt (a0.extract (x7_1 : Int).toNat ((wrap64 (x7_1 + x8_1)) : Int).toNat) 0 := bt_at (a0.extract (x7_1 : Int).toNat ((wrap64 (x7_1 + x8_1)) : Int).toNat) 0
                                   clear p28
                                   have qi28 : (0 < ((a0.extract (x7_1 : Int).toNat ((wrap64 (x7_1 + x8_1)) : Int).toNat).size : Int)) = True := eq_true (of_decide_eq_true (by first | (with_reducible assumption) | assumption))
                                   replace q28 := eq_true q28
                                   have p30 : 0 ≤ (0 : Int) := (by omega)
                                   have q30 : 0 < x9_1.size := (by have : (0 : Int) < (x9_1.size : Int) := of_decide_eq_true (by first | (with_reducible assumption) | assumption); omega)
                                   have hx30 : ∀ h : 0 < x9_1.size, ((x9_1[0]'h).toNat : Int) = bt x9_1 0 := bt_at x9_1 0
                                   clear p30
                                   have qi30 : (0 < (x9_1.size : Int)) = True := eq_true (of_decide_eq_true (by first | (with_reducible assumption) | assumption))
                                   replace q30 := eq_true q30
                                   have p35 : 0 ≤ ((ji32) : Int) := of_decide_eq_true (by first | (with_reducible assumption) | assumption)
                                   have q35 : (ji32) < ((a0.extract (x7_1 : Int).toNat ((wrap64 (x7_1 + x8_1)) : Int).toNat).size : Int) := of_decide_eq_true (by first | (with_reducible assumption) | assumption)
                                   have hx35 := bt_at (a0.extract (x7_1 : Int).toNat ((wrap64 (x7_1 + x8_1)) : Int).toNat) (ji32)
                                   replace p35 := eq_true p35
                                   replace q35 := eq_true q35
                                   have p39 : 0 ≤ ((ji36) : Int) := of_decide_eq_true (by first | (with_reducible assumption) | assumption)
                                   have q39 : (ji36) < (x9_1.size : Int) := of_decide_eq_true (by first | (with_reducible assumption) | assumption)
                                   have hx39 := bt_at x9_1 (ji36)
                                   replace p39 := eq_true p39
                                   replace q39 := eq_true q39
                                   generalize hG_ : a0.extract (x7_1 : Int).toNat ((wrap64 (x7_1 + x8_1)) : Int).toNat = G_ at *
                                   go_wp2
                                   repeat (go_quiet (fail); try go_wp2)
                                   go_ret
                                   exact ⟨by first | rfl | (simp [errW_none, errW_some] <;> rfl) | (simp only [← hji32, ← hji36]; first | rfl | (simp [errW_none, errW_some] <;> rfl)) | (simp [*, errW_none, errW_some] <;> rfl), by repeat (first | (with_reducible first | exact HB.out | apply below_alloc | apply pw_below_drewN | apply below_drew1) | exact HB.out)⟩
                                 · rw [if_neg c38] at H
                                   exact absurd H (by simp)
                               · rw [if_neg c37] at H
                                 exact absurd H (by simp)
                             · rw [if_neg c34] at H
                               exact absurd H (by simp)
                           · rw [if_neg c33] at H
                             exact absurd H (by simp)
                       · rw [if_neg c29] at H
                         exact absurd H (by simp)
                     · rw [if_neg c27] at H
                       exact absurd H (by simp)
               · rw [if_neg c22] at H
                 exact absurd H (by simp)
             · rw [if_neg c21] at H
               exact absurd H (by simp)
           · rw [if_neg c20] at H
             exact absurd H (by simp)
   · rw [if_neg c7] at H
     have c7b0 : (t106 == 0) = false := beq_eq_false_iff_ne.mpr c7
     have c7b1 : (t106 != 0) = true := bne_iff_ne.mpr c7
     by_cases c41 : (a0.size : Int) > 4096
     · rw [if_pos c41] at H
       have c41b0 : decide (4096 < (a0.size : Int)) = true := decide_eq_true c41
       have c41b1 : decide (4096 < a0.size) = true := decide_eq_true (by omega)
       clear c41
       obtain rfl := Option.some.inj H
       go_enter Try.func3, Try.ntmps3
       go_wp2_with (first | (go_at_call 13; (with_reducible refine (minuetlaw8_awake.calls k  true _ A3.out).mono ?_); rintro e w42 ⟨rfl, hb⟩; have n0_ := Aside0.mk (below_step (by repeat (first | (with_reducible first | exact HB.out | apply below_alloc | apply pw_below_drewN | apply below_drew1) | exact HB.out)) hb); clear HB; have HB := n0_; clear n0_; (try clear hb); (try clear hb2); (try clear hk); (try clear hi)) | (go_at_call 14; (with_reducible refine (edit_Between.calls k a0 a1 t102 t103 _ A5.out).mono ?_); rintro e w43 ⟨v104, rfl, ho0, hb⟩; have n0_ := Aside0.mk (Kd.R_lower ho0 (below_size (by repeat (first | (with_reducible first | exact HB.out | apply below_alloc | apply pw_below_drewN | apply below_drew1) | exact HB.out)))); have n1_ := Aside0.mk (below_step (by repeat (first | (with_reducible first | exact HB.out | apply below_alloc | apply pw_below_drewN | apply below_drew1) | exact HB.out)) hb); clear HB; have HO105 := n0_; have HB := n1_; clear n0_ n1_; (try clear hb); (try clear hb2); (try clear hk); (try clear hi); (try clear ho0)) | (go_at_call 15; (with_reducible refine (minuetlaw0_Num.calls t103 t106 _ A6.out).mono ?_); rintro e w' ⟨rfl, ⟨nd, rfl⟩⟩; (try first | exact ⟨rfl, _, World.drewN_drewN _ _ _⟩ | exact ⟨rfl, _, Eq.trans (World.drewN_drewN _ _ _) (congrArg (World.drewN _) (Nat.add_assoc _ _ _))⟩)))
       repeat (go_quiet (first | (go_at_call 13; (with_reducible refine (minuetlaw8_awake.calls k  true _ A3.out).mono ?_); rintro e w42 ⟨rfl, hb⟩; have n0_ := Aside0.mk (below_step (by repeat (first | (with_reducible first | exact HB.out | apply below_alloc | apply pw_below_drewN | apply below_drew1) | exact HB.out)) hb); clear HB; have HB := n0_; clear n0_; (try clear hb); (try clear hb2); (try clear hk); (try clear hi)) | (go_at_call 14; (with_reducible refine (edit_Between.calls k a0 a1 t102 t103 _ A5.out).mono ?_); rintro e w43 ⟨v104, rfl, ho0, hb⟩; have n0_ := Aside0.mk (Kd.R_lower ho0 (below_size (by repeat (first | (with_reducible first | exact HB.out | apply below_alloc | apply pw_below_drewN | apply below_drew1) | exact HB.out)))); have n1_ := Aside0.mk (below_step (by repeat (first | (with_reducible first | exact HB.out | apply below_alloc | apply pw_below_drewN | apply below_drew1) | exact HB.out)) hb); clear HB; have HO105 := n0_; have HB := n1_; clear n0_ n1_; (try clear hb); (try clear hb2); (try clear hk); (try clear hi); (try clear ho0)) | (go_at_call 15; (with_reducible refine (minuetlaw0_Num.calls t103 t106 _ A6.out).mono ?_); rintro e w' ⟨rfl, ⟨nd, rfl⟩⟩; (try first | exact ⟨rfl, _, World.drewN_drewN _ _ _⟩ | exact ⟨rfl, _, Eq.trans (World.drewN_drewN _ _ _) (congrArg (World.drewN _) (Nat.add_assoc _ _ _))⟩))); try go_wp2_with (first | (go_at_call 13; (with_reducible refine (minuetlaw8_awake.calls k  true _ A3.out).mono ?_); rintro e w42 ⟨rfl, hb⟩; have n0_ := Aside0.mk (below_step (by repeat (first | (with_reducible first | exact HB.out | apply below_alloc | apply pw_below_drewN | apply below_drew1) | exact HB.out)) hb); clear HB; have HB := n0_; clear n0_; (try clear hb); (try clear hb2); (try clear hk); (try clear hi)) | (go_at_call 14; (with_reducible refine (edit_Between.calls k a0 a1 t102 t103 _ A5.out).mono ?_); rintro e w43 ⟨v104, rfl, ho0, hb⟩; have n0_ := Aside0.mk (Kd.R_lower ho0 (below_size (by repeat (first | (with_reducible first | exact HB.out | apply below_alloc | apply pw_below_drewN | apply below_drew1) | exact HB.out)))); have n1_ := Aside0.mk (below_step (by repeat (first | (with_reducible first | exact HB.out | apply below_alloc | apply pw_below_drewN | apply below_drew1) | exact HB.out)) hb); clear HB; have HO105 := n0_; have HB := n1_; clear n0_ n1_; (try clear hb); (try clear hb2); (try clear hk); (try clear hi); (try clear ho0)) | (go_at_call 15; (with_reducible refine (minuetlaw0_Num.calls t103 t106 _ A6.out).mono ?_); rintro e w' ⟨rfl, ⟨nd, rfl⟩⟩; (try first | exact ⟨rfl, _, World.drewN_drewN _ _ _⟩ | exact ⟨rfl, _, Eq.trans (World.drewN_drewN _ _ _) (congrArg (World.drewN _) (Nat.add_assoc _ _ _))⟩))))
       go_ret
       exact ⟨by first | rfl | (simp [errW_none, errW_some] <;> rfl) | (simp [*, errW_none, errW_some] <;> rfl), by repeat (first | (with_reducible first | exact HB.out | apply below_alloc | apply pw_below_drewN | apply below_drew1) | exact HB.out)⟩
     · rw [if_neg c41] at H
       have c41b0 : decide (4096 < (a0.size : Int)) = false := decide_eq_false c41
       have c41b1 : decide (4096 < a0.size) = false := decide_eq_false (by omega)
       clear c41
       obtain rfl := Option.some.inj H
       go_enter Try.func3, Try.ntmps3
       go_wp2_with (first | (go_at_call 13; (with_reducible refine (minuetlaw8_awake.calls k  true _ A3.out).mono ?_); rintro e w44 ⟨rfl, hb⟩; have n0_ := Aside0.mk (below_step (by repeat (first | (with_reducible first | exact HB.out | apply below_alloc | apply pw_below_drewN | apply below_drew1) | exact HB.out)) hb); clear HB; have HB := n0_; clear n0_; (try clear hb); (try clear hb2); (try clear hk); (try clear hi)) | (go_at_call 14; (with_reducible refine (edit_Between.calls k a0 a1 t102 t103 _ A5.out).mono ?_); rintro e w45 ⟨v104, rfl, ho0, hb⟩; have n0_ := Aside0.mk (Kd.R_lower ho0 (below_size (by repeat (first | (with_reducible first | exact HB.out | apply below_alloc | apply pw_below_drewN | apply below_drew1) | exact HB.out)))); have n1_ := Aside0.mk (below_step (by repeat (first | (with_reducible first | exact HB.out | apply below_alloc | apply pw_below_drewN | apply below_drew1) | exact HB.out)) hb); clear HB; have HO105 := n0_; have HB := n1_; clear n0_ n1_; (try clear hb); (try clear hb2); (try clear hk); (try clear hi); (try clear ho0)) | (go_at_call 15; (with_reducible refine (minuetlaw0_Num.calls t103 t106 _ A6.out).mono ?_); rintro e w' ⟨rfl, ⟨nd, rfl⟩⟩; (try first | exact ⟨rfl, _, World.drewN_drewN _ _ _⟩ | exact ⟨rfl, _, Eq.trans (World.drewN_drewN _ _ _) (congrArg (World.drewN _) (Nat.add_assoc _ _ _))⟩)))
       repeat (go_quiet (first | (go_at_call 13; (with_reducible refine (minuetlaw8_awake.calls k  true _ A3.out).mono ?_); rintro e w44 ⟨rfl, hb⟩; have n0_ := Aside0.mk (below_step (by repeat (first | (with_reducible first | exact HB.out | apply below_alloc | apply pw_below_drewN | apply below_drew1) | exact HB.out)) hb); clear HB; have HB := n0_; clear n0_; (try clear hb); (try clear hb2); (try clear hk); (try clear hi)) | (go_at_call 14; (with_reducible refine (edit_Between.calls k a0 a1 t102 t103 _ A5.out).mono ?_); rintro e w45 ⟨v104, rfl, ho0, hb⟩; have n0_ := Aside0.mk (Kd.R_lower ho0 (below_size (by repeat (first | (with_reducible first | exact HB.out | apply below_alloc | apply pw_below_drewN | apply below_drew1) | exact HB.out)))); have n1_ := Aside0.mk (below_step (by repeat (first | (with_reducible first | exact HB.out | apply below_alloc | apply pw_below_drewN | apply below_drew1) | exact HB.out)) hb); clear HB; have HO105 := n0_; have HB := n1_; clear n0_ n1_; (try clear hb); (try clear hb2); (try clear hk); (try clear hi); (try clear ho0)) | (go_at_call 15; (with_reducible refine (minuetlaw0_Num.calls t103 t106 _ A6.out).mono ?_); rintro e w' ⟨rfl, ⟨nd, rfl⟩⟩; (try first | exact ⟨rfl, _, World.drewN_drewN _ _ _⟩ | exact ⟨rfl, _, Eq.trans (World.drewN_drewN _ _ _) (congrArg (World.drewN _) (Nat.add_assoc _ _ _))⟩))); try go_wp2_with (first | (go_at_call 13; (with_reducible refine (minuetlaw8_awake.calls k  true _ A3.out).mono ?_); rintro e w44 ⟨rfl, hb⟩; have n0_ := Aside0.mk (below_step (by repeat (first | (with_reducible first | exact HB.out | apply below_alloc | apply pw_below_drewN | apply below_drew1) | exact HB.out)) hb); clear HB; have HB := n0_; clear n0_; (try clear hb); (try clear hb2); (try clear hk); (try clear hi)) | (go_at_call 14; (with_reducible refine (edit_Between.calls k a0 a1 t102 t103 _ A5.out).mono ?_); rintro e w45 ⟨v104, rfl, ho0, hb⟩; have n0_ := Aside0.mk (Kd.R_lower ho0 (below_size (by repeat (first | (with_reducible first | exact HB.out | apply below_alloc | apply pw_below_drewN | apply below_drew1) | exact HB.out)))); have n1_ := Aside0.mk (below_step (by repeat (first | (with_reducible first | exact HB.out | apply below_alloc | apply pw_below_drewN | apply below_drew1) | exact HB.out)) hb); clear HB; have HO105 := n0_; have HB := n1_; clear n0_ n1_; (try clear hb); (try clear hb2); (try clear hk); (try clear hi); (try clear ho0)) | (go_at_call 15; (with_reducible refine (minuetlaw0_Num.calls t103 t106 _ A6.out).mono ?_); rintro e w' ⟨rfl, ⟨nd, rfl⟩⟩; (try first | exact ⟨rfl, _, World.drewN_drewN _ _ _⟩ | exact ⟨rfl, _, Eq.trans (World.drewN_drewN _ _ _) (congrArg (World.drewN _) (Nat.add_assoc _ _ _))⟩))))
       go_ret
       exact ⟨by first | rfl | (simp [errW_none, errW_some] <;> rfl) | (simp [*, errW_none, errW_some] <;> rfl), by repeat (first | (with_reducible first | exact HB.out | apply below_alloc | apply pw_below_drewN | apply below_drew1) | exact HB.out)⟩
 · replace c4 := Bool.eq_false_iff.mpr c4
   subst c4
   have H1 : (none) = some r := by rw [if_neg (show ¬ (false = true) by decide)] at H; exact H
   clear H
   have H := H1
   clear H1
   exact absurd H (by simp)

/-- THE ONE PURE STATEMENT of minuetlaw8_EditLeast: yours. -/
def minuetlaw8_EditLeast.Pure : Prop := ∀ (a0 : ByteArray) (a1 : ByteArray), a0.size ≤ 140737488351232 → a1.size ≤ 140737488351232 → ∃ k, minuetlaw8_EditLeast.f k a0 a1 = some true
theorem minuetlaw8_EditLeast.walk (P : minuetlaw8_EditLeast.Pure) (a0 : ByteArray) (a1 : ByteArray) (w : World) (w0 : a0.size ≤ 140737488351232) (w1 : a1.size ≤ 140737488351232) :
 Calls Try.prog 3 #[.string a0, .string a1] w fun e w' => e = .returned (.bool true) ∧ Below w.heap.size w w' := by
 obtain ⟨k, h⟩ := P a0 a1 w0 w1
 refine (minuetlaw8_EditLeast.calls k a0 a1 true w h).mono ?_
 rintro e w' ⟨rfl, hd⟩
 exact ⟨rfl, hd⟩

end Go.Proofs.Ytbkkcoppncgegac.G
