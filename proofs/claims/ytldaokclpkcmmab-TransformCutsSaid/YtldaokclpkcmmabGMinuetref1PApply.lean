-- Laid by this session's own program gprint.py (wip/tools), out of the kit's print and of texts of this session. Lean checks it.
import Derived.Test.YtldaokclpkcmmabGx0
import Derived.Test.YtldaokclpkcmmabGZ2
namespace Go.Proofs.Ytldaokclpkcmmab.G
open Go.RowKit Go.Proofs.YtldaokclpkcmmabW.PrintWords Go.Proofs.YtldaokclpkcmmabW.PrintLast Go.Proofs.YtldaokclpkcmmabW.PrintMore
attribute [local go_sem] max2_int min2_int max_two min_two max_three min_three max_four min_four   -- for this text's walks alone
set_option linter.unusedVariables false
set_option linter.unusedSimpArgs false

/-! ### minuetref1_Apply: function 23 -/
mutual
def minuetref1_Apply.j0 : Nat → ByteArray → List (S37) → Bool → Option (ByteArray × Int)
 | 0, _, _, _ => none
 | k + 1, x0, x1, x25 => if x25 = true then (some ((⟨#[]⟩ : ByteArray), 300)) else (minuetref1_Apply.l0 k x0 x1 (⟨#[]⟩ : ByteArray) 0 0)
def minuetref1_Apply.l0 : Nat → ByteArray → List (S37) → ByteArray → Int → Int → Option (ByteArray × Int)
 | 0, _, _, _, _, _ => none
 | k + 1, x0, x1, x9, x10, x11 => if x11 < (x1.length : Int) then (if 0 ≤ x11 then (if ((rd_T37 x1 x11).f0) = 0 then (if 0 ≤ x10 then (if x10 ≤ (wrap64 (x10 + ((rd_T37 x1 x11).f1))) then (if (wrap64 (x10 + ((rd_T37 x1 x11).f1))) ≤ (x0.size : Int) then (if x9.size + (x0.extract (x10 : Int).toNat ((wrap64 (x10 + ((rd_T37 x1 x11).f1))) : Int).toNat).size ≤ 9223372036854775807 then (minuetref1_Apply.l0 k x0 x1 (x9 ++ (x0.extract (x10 : Int).toNat ((wrap64 (x10 + ((rd_T37 x1 x11).f1))) : Int).toNat)) (wrap64 (x10 + ((rd_T37 x1 x11).f1))) (wrap64 (x11 + 1))) else (none)) else (none)) else (none)) else (none)) else (if ((rd_T37 x1 x11).f0) = 2 then (minuetref1_Apply.l0 k x0 x1 x9 (wrap64 (x10 + ((rd_T37 x1 x11).f1))) (wrap64 (x11 + 1))) else (if x9.size + ((rd_T37 x1 x11).f2).size ≤ 9223372036854775807 then (minuetref1_Apply.l0 k x0 x1 (x9 ++ ((rd_T37 x1 x11).f2)) x10 (wrap64 (x11 + 1))) else (none)))) else (none)) else (some (x9, 0))
end
def minuetref1_Apply.f (k : Nat) (a0 : ByteArray) (l1 : List (S37)) : Option (ByteArray × Int) := (minuetref1_Lengths.f k l1).bind fun bt101 => (if bt101.2.2 = 0 then (minuetref1_Apply.j0 k a0 l1 (bt101.1 != (a0.size : Int))) else (minuetref1_Apply.j0 k a0 l1 true))
theorem minuetref1_Apply.mono_l : ∀ k, (∀ y0 y1 y2, LeO (minuetref1_Apply.j0 k y0 y1 y2) (minuetref1_Apply.j0 (k + 1) y0 y1 y2)) ∧ (∀ y0 y1 y2 y3 y4, LeO (minuetref1_Apply.l0 k y0 y1 y2 y3 y4) (minuetref1_Apply.l0 (k + 1) y0 y1 y2 y3 y4))
 | 0 => ⟨fun _ _ _ r h => by simp [minuetref1_Apply.j0] at h, fun _ _ _ _ _ r h => by simp [minuetref1_Apply.l0] at h⟩
 | k + 1 => by
  obtain ⟨ih0, ih1⟩ := minuetref1_Apply.mono_l k
  refine ⟨?_, ?_⟩
  · intro y0 y1 y2
    unfold minuetref1_Apply.j0
    repeat' first
    | (with_reducible exact ih0 _ _ _)
    | (with_reducible exact ih1 _ _ _ _ _)
    | (with_reducible exact minuetref1_Lengths.mono _ _)
    | (with_reducible exact LeO.refl _)
    | (with_reducible exact LeO.none _)
    | (with_reducible refine LeO.ite ?_ ?_)
    | (with_reducible refine LeO.bind ?_ (fun _ => ?_))
    | exact ih0 _ _ _
    | exact ih1 _ _ _ _ _
    | exact minuetref1_Lengths.mono _ _
    | exact LeO.none _
    | refine LeO.ite ?_ ?_
    | refine LeO.bind ?_ (fun _ => ?_)
  · intro y0 y1 y2 y3 y4
    unfold minuetref1_Apply.l0
    repeat' first
    | (with_reducible exact ih0 _ _ _)
    | (with_reducible exact ih1 _ _ _ _ _)
    | (with_reducible exact minuetref1_Lengths.mono _ _)
    | (with_reducible exact LeO.refl _)
    | (with_reducible exact LeO.none _)
    | (with_reducible refine LeO.ite ?_ ?_)
    | (with_reducible refine LeO.bind ?_ (fun _ => ?_))
    | exact ih0 _ _ _
    | exact ih1 _ _ _ _ _
    | exact minuetref1_Lengths.mono _ _
    | exact LeO.none _
    | refine LeO.ite ?_ ?_
    | refine LeO.bind ?_ (fun _ => ?_)
theorem minuetref1_Apply.mono : ∀ a0 a1 k, LeO (minuetref1_Apply.f k a0 a1) (minuetref1_Apply.f (k + 1) a0 a1) := by
 intro a0 a1 k
 obtain ⟨ih0, ih1⟩ := minuetref1_Apply.mono_l k
 unfold minuetref1_Apply.f
 repeat' first
  | (with_reducible exact ih0 _ _ _)
  | (with_reducible exact ih1 _ _ _ _ _)
  | (with_reducible exact minuetref1_Lengths.mono _ _)
  | (with_reducible exact LeO.refl _)
  | (with_reducible exact LeO.none _)
  | (with_reducible refine LeO.ite ?_ ?_)
  | (with_reducible refine LeO.bind ?_ (fun _ => ?_))
  | exact ih0 _ _ _
  | exact ih1 _ _ _ _ _
  | exact minuetref1_Lengths.mono _ _
  | exact LeO.none _
  | refine LeO.ite ?_ ?_
  | refine LeO.bind ?_ (fun _ => ?_)
set_option maxHeartbeats 8000000 in
set_option maxRecDepth 100000 in
theorem minuetref1_Apply.calls (k : Nat) (a0 : ByteArray) (A1 : Option Addr) (c1 : Nat) (l1 : List (S37)) (r1 : ByteArray) (r2 : Int) (w : World) (hr1 : Kd.C k37 w A1 l1.length l1) (hc1 : l1.length ≤ c1) (h : minuetref1_Apply.f k a0 l1 = some (r1, r2)) :
 Calls Try.prog 23 #[.string a0, .slice A1 l1.length c1] w fun e w' => e = .returned (.tuple #[.string r1, .int .i64 r2]) ∧ Below w.heap.size w w' := by
 have HR1 := Aside0.mk hr1
 have HC1 := Aside0.mk hc1
 clear hr1 hc1
 have HB := Aside0.mk (Below.refl w.heap.size w)
 have H : ((minuetref1_Lengths.f k l1).bind fun bt101 => (if bt101.2.2 = 0 then (minuetref1_Apply.j0 k a0 l1 (bt101.1 != (a0.size : Int))) else (minuetref1_Apply.j0 k a0 l1 true))) = some (r1, r2) := h
 clear h
 replace H := Option.bind_eq_some_iff.mp H
 obtain ⟨⟨t101, t102, t103⟩, A30, H⟩ := H
 replace H : (if t103 = 0 then (minuetref1_Apply.j0 k a0 l1 (t101 != (a0.size : Int))) else (minuetref1_Apply.j0 k a0 l1 true)) = some (r1, r2) := H
 have A3 := Aside0.mk A30
 clear A30
 have HC4 := Aside0.mk H
 clear H
 go_enter Try.func23, Try.ntmps23
 go_upto_region 2 with (first | ((with_reducible refine gate_callee (f := 21) rfl ?_); refine goesL_ (some 14) rfl rfl Try.func21 (by kernel_rfl) rfl #[.slice A1 l1.length c1] rfl (by (try simp only [List.map_toArray, List.map_cons, List.map_nil]); first | done | rfl | (simp only [List.length_drop, List.length_take]; rfl)) ?_; (with_reducible refine (minuetref1_Lengths.calls k _ _ l1 t101 t102 t103 _ ?side1 ?side2 A3.out).mono ?_); (case side1 => repeat (first | exact HR1.out | (with_reducible refine Kd.C_alloc ?_ _) | (with_reducible refine Kd.C_drewN ?_ _) | (with_reducible refine Kd.C_drew ?_))); (case side2 => exact HC1.out); rintro e w5 ⟨rfl, hb⟩; refine ⟨_, rfl, ?_⟩; have n0_ := Aside0.mk (below_step (by repeat (first | (with_reducible first | exact HB.out | apply below_alloc | apply pw_below_drewN | apply below_drew1) | exact HB.out)) hb); clear HB; have HB := n0_; clear n0_; (try clear hb); (try clear hb2); (try clear hk); (try clear hi)))
 (try simp only [Act.put, List.setIfInBounds_toArray, List.set_cons_zero, List.set_cons_succ])
 go_cut [25] (fun v25 wc => ∃ (kq : Nat) (x25_3 : Bool), v25 = .bool x25_3 ∧ Aside0 (minuetref1_Apply.j0 kq a0 l1 x25_3 = some (r1, r2)) ∧ Aside0 (kq ≤ k) ∧ Aside0 (Below w.heap.size w wc))
 case first =>
  have H := HC4.out
  clear HC4
  by_cases c6 : t103 = 0
  · rw [if_pos c6] at H
    have c6b0 : (t103 == 0) = true := beq_iff_eq.mpr c6
    have c6b1 : (t103 != 0) = false := bne_eq_false_iff_eq.mpr c6
    clear c6
    (first | rw [c6b0] | (simp only [i64_w, i32_w]; rw [c6b0]) | skip)
    have H' := Aside0.mk H
    clear H
    go_wp2
    go_meet
    case rel => exact ⟨_, ((t101 != (a0.size : Int))), (by first | rfl | (simp; done) | (simp [*]; done)), H', ⟨by first | omega | exact Nat.le_refl _⟩, ⟨by repeat (first | (with_reducible first | exact HB.out | apply below_alloc | apply pw_below_drewN | apply below_drew1) | exact HB.out)⟩⟩
  · rw [if_neg c6] at H
    have c6b0 : (t103 == 0) = false := beq_eq_false_iff_ne.mpr c6
    have c6b1 : (t103 != 0) = true := bne_iff_ne.mpr c6
    (first | rw [c6b0] | (simp only [i64_w, i32_w]; rw [c6b0]) | skip)
    have H' := Aside0.mk H
    clear H
    go_wp2
    go_meet
    case rel => exact ⟨_, (true), (by first | rfl | (simp; done) | (simp [*]; done)), H', ⟨by first | omega | exact Nat.le_refl _⟩, ⟨by repeat (first | (with_reducible first | exact HB.out | apply below_alloc | apply pw_below_drewN | apply below_drew1) | exact HB.out)⟩⟩
 case rest =>
  clear HC4
  try clear c1
  try clear c2
  try clear p2
  try clear c6
  try clear c6b0
  try clear c6b1
  obtain ⟨kq, x25_3, rfl, HA, HJ3, HB⟩ := hcut
  cases kq with
  | zero => exact absurd HA.out (by simp [minuetref1_Apply.j0])
  | succ kj3 =>
   have H := HA.out
   clear HA
   simp only [minuetref1_Apply.j0] at H
   by_cases c7 : x25_3 = true
   · subst c7
     have H1 : (some ((⟨#[]⟩ : ByteArray), 300)) = some (r1, r2) := by rw [if_pos rfl] at H; exact H
     clear H
     have H := H1
     clear H1
     simp only [Option.some.injEq, Prod.mk.injEq] at H
     obtain ⟨rfl, rfl⟩ := H
     go_wp2
     go_ret2
     exact ⟨by first | rfl | (simp [errW_none, errW_some] <;> rfl) | (simp [*, errW_none, errW_some] <;> rfl), by repeat (first | (with_reducible first | exact HB.out | apply below_alloc | apply pw_below_drewN | apply below_drew1) | exact HB.out)⟩
   · replace c7 := Bool.eq_false_iff.mpr c7
     subst c7
     have H1 : (minuetref1_Apply.l0 kj3 a0 l1 (⟨#[]⟩ : ByteArray) 0 0) = some (r1, r2) := by rw [if_neg (show ¬ (false = true) by decide)] at H; exact H
     clear H
     have H := H1
     clear H1
     have H' := Aside0.mk H
     clear H
     go_wp2
     go_loopg [9, 10, 11] kj3 (fun kq v9 v10 v11 w' => ∃ (x9_2 : ByteArray) (x10_2 : Int) (x11_2 : Int), v9 = .string x9_2 ∧ v10 = .int .i64 x10_2 ∧ v11 = .int .i64 x11_2 ∧ Aside0 (minuetref1_Apply.l0 kq a0 l1 x9_2 x10_2 x11_2 = some (r1, r2)) ∧ Aside0 (kq ≤ kj3) ∧ Aside0 (Below w.heap.size w w'))
     case atStart => exact ⟨((⟨#[]⟩ : ByteArray)), (0), (0), (by first | rfl | (simp; done) | (simp [*]; done)), (by first | rfl | (simp; done) | (simp [*]; done)), (by first | rfl | (simp; done) | (simp [*]; done)), H', ⟨Nat.le_refl _⟩, ⟨by repeat (first | (with_reducible first | exact HB.out | apply below_alloc | apply pw_below_drewN | apply below_drew1) | exact HB.out)⟩⟩
     case round =>
      clear H'
      try clear c1
      try clear c2
      try clear p2
      try clear c6
      try clear c6b0
      try clear c6b1
      try clear c7
      try clear p2
      obtain ⟨x9_2, x10_2, x11_2, rfl, rfl, rfl, HA, HK2, HB⟩ := hrel
      cases gk with
      | zero => exact absurd HA.out (by simp [minuetref1_Apply.l0])
      | succ k2 =>
       have H := HA.out
       clear HA
       simp only [minuetref1_Apply.l0] at H
       by_cases c8 : x11_2 < (l1.length : Int)
       · rw [if_pos c8] at H
         have c8b0 : decide (x11_2 < (l1.length : Int)) = true := decide_eq_true c8
         clear c8
         by_cases c9 : 0 ≤ x11_2
         · rw [if_pos c9] at H
           have c9b0 : decide (0 ≤ x11_2) = true := decide_eq_true c9
           clear c9
           by_cases c10 : ((rd_T37 l1 x11_2).f0) = 0
           · rw [if_pos c10] at H
             have c10b0 : (((rd_T37 l1 x11_2).f0) == 0) = true := beq_iff_eq.mpr c10
             have c10b1 : (((rd_T37 l1 x11_2).f0) != 0) = false := bne_eq_false_iff_eq.mpr c10
             clear c10
             by_cases c11 : 0 ≤ x10_2
             · rw [if_pos c11] at H
               have c11b0 := eq_true c11
               have c11b1 : decide (0 ≤ x10_2) = true := decide_eq_true c11
               clear c11
               by_cases c12 : x10_2 ≤ (wrap64 (x10_2 + ((rd_T37 l1 x11_2).f1)))
               · rw [if_pos c12] at H
                 have c12b0 := eq_true c12
                 have c12b1 : decide (x10_2 ≤ (wrap64 (x10_2 + ((rd_T37 l1 x11_2).f1)))) = true := decide_eq_true c12
                 by_cases c13 : (wrap64 (x10_2 + ((rd_T37 l1 x11_2).f1))) ≤ (a0.size : Int)
                 · rw [if_pos c13] at H
                   have c13b0 := eq_true c13
                   have c13b1 : decide ((wrap64 (x10_2 + ((rd_T37 l1 x11_2).f1))) ≤ (a0.size : Int)) = true := decide_eq_true c13
                   by_cases c14 : x9_2.size + (a0.extract (x10_2 : Int).toNat ((wrap64 (x10_2 + ((rd_T37 l1 x11_2).f1))) : Int).toNat).size ≤ 9223372036854775807
                   · rw [if_pos c14] at H
                     have c14b0 := eq_true c14
                     have c14b1 : decide (x9_2.size + (a0.extract (x10_2 : Int).toNat ((wrap64 (x10_2 + ((rd_T37 l1 x11_2).f1))) : Int).toNat).size ≤ 9223372036854775807) = true := decide_eq_true c14
                     try have c14b2 : (9223372036854775807 < x9_2.size + (a0.extract (x10_2 : Int).toNat ((wrap64 (x10_2 + ((rd_T37 l1 x11_2).f1))) : Int).toNat).size) = False := eq_false (Nat.not_lt.2 c14)
                     try have c14b3 : (9223372036854775807 < x9_2.size + ((wrap64 (x10_2 + ((rd_T37 l1 x11_2).f1))).toNat - x10_2.toNat)) = False := eq_false (Nat.not_lt.2 (by have h_ := c14; simp only [ByteArray.size_append, ByteArray.size_extract] at h_; have := of_decide_eq_true (p := (wrap64 (x10_2 + ((rd_T37 l1 x11_2).f1))) ≤ (a0.size : Int)) (by assumption); omega))
                     have H' := Aside0.mk H
                     clear H
                     have p104 : 0 ≤ (x11_2 : Int) := of_decide_eq_true (by first | (with_reducible assumption) | assumption)
                     have q104 : x11_2 < (l1.length : Int) := of_decide_eq_true (by first | (with_reducible assumption) | assumption)
                     obtain ⟨ad104, e104, hx104_0, hx104_1, hx104_2⟩ := at_T37 HR1.out x11_2 p104 q104
                     cases e104
                     replace hx104_0 := (HB.out.cell (World.block_lt_of_cell? w _ hx104_0)).trans hx104_0
                     replace hx104_1 := (HB.out.cell (World.block_lt_of_cell? w _ hx104_1)).trans hx104_1
                     replace hx104_2 := (HB.out.cell (World.block_lt_of_cell? w _ hx104_2)).trans hx104_2
                     replace p104 := eq_true p104
                     replace q104 := eq_true q104
                     have p105 : 0 ≤ (x11_2 : Int) := of_decide_eq_true (by first | (with_reducible assumption) | assumption)
                     have q105 : x11_2 < (l1.length : Int) := of_decide_eq_true (by first | (with_reducible assumption) | assumption)
                     obtain ⟨ad105, e105, hx105_0, hx105_1, hx105_2⟩ := at_T37 HR1.out x11_2 p105 q105
                     obtain rfl : ad104 = ad105 := (by injection e105)
                     replace hx105_0 := (HB.out.cell (World.block_lt_of_cell? w _ hx105_0)).trans hx105_0
                     replace hx105_1 := (HB.out.cell (World.block_lt_of_cell? w _ hx105_1)).trans hx105_1
                     replace hx105_2 := (HB.out.cell (World.block_lt_of_cell? w _ hx105_2)).trans hx105_2
                     replace p105 := eq_true p105
                     replace q105 := eq_true q105
                     have p106 : 0 ≤ (x11_2 : Int) := of_decide_eq_true (by first | (with_reducible assumption) | assumption)
                     have q106 : x11_2 < (l1.length : Int) := of_decide_eq_true (by first | (with_reducible assumption) | assumption)
                     obtain ⟨ad106, e106, hx106_0, hx106_1, hx106_2⟩ := at_T37 HR1.out x11_2 p106 q106
                     obtain rfl : ad104 = ad106 := (by injection e106)
                     replace hx106_0 := (HB.out.cell (World.block_lt_of_cell? w _ hx106_0)).trans hx106_0
                     replace hx106_1 := (HB.out.cell (World.block_lt_of_cell? w _ hx106_1)).trans hx106_1
                     replace hx106_2 := (HB.out.cell (World.block_lt_of_cell? w _ hx106_2)).trans hx106_2
                     replace p106 := eq_true p106
                     replace q106 := eq_true q106
                     go_wp2
                     go_roundg k2
                     case measure => have := HJ3.out; have := HK2.out; omega
                     case rel => exact ⟨(x9_2 ++ (a0.extract (x10_2 : Int).toNat ((wrap64 (x10_2 + ((rd_T37 l1 x11_2).f1))) : Int).toNat)), (wrap64 (x10_2 + ((rd_T37 l1 x11_2).f1))), (wrap64 (x11_2 + 1)), (by first | rfl | (simp; done) | (simp [*]; done)), (by first | rfl | (simp; done) | (simp [*]; done)), (by first | rfl | (simp; done) | (simp [*]; done)), H', ⟨by have := HJ3.out; have := HK2.out; omega⟩, ⟨by repeat (first | (with_reducible first | exact HB.out | apply below_alloc | apply pw_below_drewN | apply below_drew1) | exact HB.out)⟩⟩
                   · rw [if_neg c14] at H
                     exact absurd H (by simp)
                 · rw [if_neg c13] at H
                   exact absurd H (by simp)
               · rw [if_neg c12] at H
                 exact absurd H (by simp)
             · rw [if_neg c11] at H
               exact absurd H (by simp)
           · rw [if_neg c10] at H
             have c10b0 : (((rd_T37 l1 x11_2).f0) == 0) = false := beq_eq_false_iff_ne.mpr c10
             have c10b1 : (((rd_T37 l1 x11_2).f0) != 0) = true := bne_iff_ne.mpr c10
             by_cases c15 : ((rd_T37 l1 x11_2).f0) = 2
             · rw [if_pos c15] at H
               have c15b0 : (((rd_T37 l1 x11_2).f0) == 2) = true := beq_iff_eq.mpr c15
               have c15b1 : (((rd_T37 l1 x11_2).f0) != 2) = false := bne_eq_false_iff_eq.mpr c15
               clear c15
               have H' := Aside0.mk H
               clear H
               have p104 : 0 ≤ (x11_2 : Int) := of_decide_eq_true (by first | (with_reducible assumption) | assumption)
               have q104 : x11_2 < (l1.length : Int) := of_decide_eq_true (by first | (with_reducible assumption) | assumption)
               obtain ⟨ad104, e104, hx104_0, hx104_1, hx104_2⟩ := at_T37 HR1.out x11_2 p104 q104
               cases e104
               replace hx104_0 := (HB.out.cell (World.block_lt_of_cell? w _ hx104_0)).trans hx104_0
               replace hx104_1 := (HB.out.cell (World.block_lt_of_cell? w _ hx104_1)).trans hx104_1
               replace hx104_2 := (HB.out.cell (World.block_lt_of_cell? w _ hx104_2)).trans hx104_2
               replace p104 := eq_true p104
               replace q104 := eq_true q104
               have p107 : 0 ≤ (x11_2 : Int) := of_decide_eq_true (by first | (with_reducible assumption) | assumption)
               have q107 : x11_2 < (l1.length : Int) := of_decide_eq_true (by first | (with_reducible assumption) | assumption)
               obtain ⟨ad107, e107, hx107_0, hx107_1, hx107_2⟩ := at_T37 HR1.out x11_2 p107 q107
               obtain rfl : ad104 = ad107 := (by injection e107)
               replace hx107_0 := (HB.out.cell (World.block_lt_of_cell? w _ hx107_0)).trans hx107_0
               replace hx107_1 := (HB.out.cell (World.block_lt_of_cell? w _ hx107_1)).trans hx107_1
               replace hx107_2 := (HB.out.cell (World.block_lt_of_cell? w _ hx107_2)).trans hx107_2
               replace p107 := eq_true p107
               replace q107 := eq_true q107
               go_wp2
               go_roundg k2
               case measure => have := HJ3.out; have := HK2.out; omega
               case rel => exact ⟨(x9_2), (wrap64 (x10_2 + ((rd_T37 l1 x11_2).f1))), (wrap64 (x11_2 + 1)), (by first | rfl | (simp; done) | (simp [*]; done)), (by first | rfl | (simp; done) | (simp [*]; done)), (by first | rfl | (simp; done) | (simp [*]; done)), H', ⟨by have := HJ3.out; have := HK2.out; omega⟩, ⟨by repeat (first | (with_reducible first | exact HB.out | apply below_alloc | apply pw_below_drewN | apply below_drew1) | exact HB.out)⟩⟩
             · rw [if_neg c15] at H
               have c15b0 : (((rd_T37 l1 x11_2).f0) == 2) = false := beq_eq_false_iff_ne.mpr c15
               have c15b1 : (((rd_T37 l1 x11_2).f0) != 2) = true := bne_iff_ne.mpr c15
               by_cases c16 : x9_2.size + ((rd_T37 l1 x11_2).f2).size ≤ 9223372036854775807
               · rw [if_pos c16] at H
                 have c16b0 := eq_true c16
                 have c16b1 : decide (x9_2.size + ((rd_T37 l1 x11_2).f2).size ≤ 9223372036854775807) = true := decide_eq_true c16
                 try have c16b2 : (9223372036854775807 < x9_2.size + ((rd_T37 l1 x11_2).f2).size) = False := eq_false (Nat.not_lt.2 c16)
                 have H' := Aside0.mk H
                 clear H
                 have p104 : 0 ≤ (x11_2 : Int) := of_decide_eq_true (by first | (with_reducible assumption) | assumption)
                 have q104 : x11_2 < (l1.length : Int) := of_decide_eq_true (by first | (with_reducible assumption) | assumption)
                 obtain ⟨ad104, e104, hx104_0, hx104_1, hx104_2⟩ := at_T37 HR1.out x11_2 p104 q104
                 cases e104
                 replace hx104_0 := (HB.out.cell (World.block_lt_of_cell? w _ hx104_0)).trans hx104_0
                 replace hx104_1 := (HB.out.cell (World.block_lt_of_cell? w _ hx104_1)).trans hx104_1
                 replace hx104_2 := (HB.out.cell (World.block_lt_of_cell? w _ hx104_2)).trans hx104_2
                 replace p104 := eq_true p104
                 replace q104 := eq_true q104
                 have p108 : 0 ≤ (x11_2 : Int) := of_decide_eq_true (by first | (with_reducible assumption) | assumption)
                 have q108 : x11_2 < (l1.length : Int) := of_decide_eq_true (by first | (with_reducible assumption) | assumption)
                 obtain ⟨ad108, e108, hx108_0, hx108_1, hx108_2⟩ := at_T37 HR1.out x11_2 p108 q108
                 obtain rfl : ad104 = ad108 := (by injection e108)
                 replace hx108_0 := (HB.out.cell (World.block_lt_of_cell? w _ hx108_0)).trans hx108_0
                 replace hx108_1 := (HB.out.cell (World.block_lt_of_cell? w _ hx108_1)).trans hx108_1
                 replace hx108_2 := (HB.out.cell (World.block_lt_of_cell? w _ hx108_2)).trans hx108_2
                 replace p108 := eq_true p108
                 replace q108 := eq_true q108
                 go_wp2
                 go_roundg k2
                 case measure => have := HJ3.out; have := HK2.out; omega
                 case rel => exact ⟨(x9_2 ++ ((rd_T37 l1 x11_2).f2)), (x10_2), (wrap64 (x11_2 + 1)), (by first | rfl | (simp; done) | (simp [*]; done)), (by first | rfl | (simp; done) | (simp [*]; done)), (by first | rfl | (simp; done) | (simp [*]; done)), H', ⟨by have := HJ3.out; have := HK2.out; omega⟩, ⟨by repeat (first | (with_reducible first | exact HB.out | apply below_alloc | apply pw_below_drewN | apply below_drew1) | exact HB.out)⟩⟩
               · rw [if_neg c16] at H
                 exact absurd H (by simp)
         · rw [if_neg c9] at H
           exact absurd H (by simp)
       · rw [if_neg c8] at H
         have c8b0 : decide (x11_2 < (l1.length : Int)) = false := decide_eq_false c8
         clear c8
         simp only [Option.some.injEq, Prod.mk.injEq] at H
         obtain ⟨rfl, rfl⟩ := H
         go_wp2
         go_ret2
         exact ⟨by first | rfl | (simp [errW_none, errW_some] <;> rfl) | (simp [*, errW_none, errW_some] <;> rfl), by repeat (first | (with_reducible first | exact HB.out | apply below_alloc | apply pw_below_drewN | apply below_drew1) | exact HB.out)⟩

end Go.Proofs.Ytldaokclpkcmmab.G
