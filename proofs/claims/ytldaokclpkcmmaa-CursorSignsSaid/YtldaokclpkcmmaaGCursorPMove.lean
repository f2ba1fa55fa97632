-- Laid by this session's own program gprint.py (wip/tools), out of the kit's print and of texts of this session. Lean checks it.
import Derived.Test.YtldaokclpkcmmaaGx0
import Derived.Test.YtldaokclpkcmmaaGZ0
namespace Go.Proofs.Ytldaokclpkcmmaa.G
open Go.RowKit Go.Proofs.YtldaokclpkcmmaaW.PrintWords Go.Proofs.YtldaokclpkcmmaaW.PrintLast Go.Proofs.YtldaokclpkcmmaaW.PrintMore
attribute [local go_sem] max2_int min2_int max_two min_two max_three min_three max_four min_four   -- for this text's walks alone
set_option linter.unusedVariables false
set_option linter.unusedSimpArgs false

/-! ### cursor_Move: function 20 -/
mutual
def cursor_Move.j0 : Nat → List (S31) → Int → Bool → Bool → Option (Int × Int)
 | 0, _, _, _, _ => none
 | k + 1, x0, x1, x2, x30 => if x30 = true then (some (0, 600)) else (cursor_Move.l0 k x1 x2 0 x0 (x0.length : Int) 0)
def cursor_Move.l0 : Nat → Int → Bool → Int → List (S31) → Int → Int → Option (Int × Int)
 | 0, _, _, _, _, _, _ => none
 | k + 1, x1, x2, x11, x31, x32, x33 => if x33 < x32 then (if 0 ≤ x33 then (if x33 < (x31.length : Int) then (if x1 = 0 then (if ((rd_T31 x31 x33).f0) = 1 then (cursor_Move.j2 k x1 x2 x11 x31 x32 x33 (!x2) ((rd_T31 x31 x33).f0) ((rd_T31 x31 x33).f1) ((rd_T31 x31 x33).f2)) else (cursor_Move.j2 k x1 x2 x11 x31 x32 x33 true ((rd_T31 x31 x33).f0) ((rd_T31 x31 x33).f1) ((rd_T31 x31 x33).f2))) else (cursor_Move.j2 k x1 x2 x11 x31 x32 x33 false ((rd_T31 x31 x33).f0) ((rd_T31 x31 x33).f1) ((rd_T31 x31 x33).f2))) else (none)) else (none)) else (some (x11, 0))
def cursor_Move.j2 : Nat → Int → Bool → Int → List (S31) → Int → Int → Bool → Int → Int → ByteArray → Option (Int × Int)
 | 0, _, _, _, _, _, _, _, _, _, _ => none
 | k + 1, x1, x2, x11, x31, x32, x33, x47, x106000, x106001, x106002 => if x47 = true then (some (x11, 0)) else (if x106000 = 1 then (cursor_Move.l0 k x1 x2 (wrap64 (x11 + (x106002.size : Int))) x31 x32 (wrap64 (x33 + 1))) else (if x106000 = 0 then (if x1 < x106001 then (some (wrap64 (x11 + x1), 0)) else (cursor_Move.l0 k (wrap64 (x1 - x106001)) x2 (wrap64 (x11 + x106001)) x31 x32 (wrap64 (x33 + 1)))) else (if x106000 = 2 then (if x1 < x106001 then (some (x11, 0)) else (cursor_Move.l0 k (wrap64 (x1 - x106001)) x2 x11 x31 x32 (wrap64 (x33 + 1)))) else (cursor_Move.l0 k x1 x2 x11 x31 x32 (wrap64 (x33 + 1))))))
end
def cursor_Move.f (k : Nat) (l0 : List (S31)) (a1 : Int) (a2 : Bool) : Option (Int × Int) := (comp_Lengths.f k l0).bind fun bt101 => (if bt101.2.2 = 0 then (if a1 < 0 then (cursor_Move.j0 k l0 a1 a2 true) else (cursor_Move.j0 k l0 a1 a2 (decide (a1 > bt101.1)))) else (cursor_Move.j0 k l0 a1 a2 true))
theorem cursor_Move.mono_l : ∀ k, (∀ y0 y1 y2 y3, LeO (cursor_Move.j0 k y0 y1 y2 y3) (cursor_Move.j0 (k + 1) y0 y1 y2 y3)) ∧ (∀ y0 y1 y2 y3 y4 y5, LeO (cursor_Move.l0 k y0 y1 y2 y3 y4 y5) (cursor_Move.l0 (k + 1) y0 y1 y2 y3 y4 y5)) ∧ (∀ y0 y1 y2 y3 y4 y5 y6 y7 y8 y9, LeO (cursor_Move.j2 k y0 y1 y2 y3 y4 y5 y6 y7 y8 y9) (cursor_Move.j2 (k + 1) y0 y1 y2 y3 y4 y5 y6 y7 y8 y9))
 | 0 => ⟨fun _ _ _ _ r h => by simp [cursor_Move.j0] at h, fun _ _ _ _ _ _ r h => by simp [cursor_Move.l0] at h, fun _ _ _ _ _ _ _ _ _ _ r h => by simp [cursor_Move.j2] at h⟩
 | k + 1 => by
  obtain ⟨ih0, ih1, ih2⟩ := cursor_Move.mono_l k
  refine ⟨?_, ?_, ?_⟩
  · intro y0 y1 y2 y3
    unfold cursor_Move.j0
    repeat' first
    | (with_reducible exact ih0 _ _ _ _)
    | (with_reducible exact ih1 _ _ _ _ _ _)
    | (with_reducible exact ih2 _ _ _ _ _ _ _ _ _ _)
    | (with_reducible exact comp_Lengths.mono _ _)
    | (with_reducible exact LeO.refl _)
    | (with_reducible exact LeO.none _)
    | (with_reducible refine LeO.ite ?_ ?_)
    | (with_reducible refine LeO.bind ?_ (fun _ => ?_))
    | exact ih0 _ _ _ _
    | exact ih1 _ _ _ _ _ _
    | exact ih2 _ _ _ _ _ _ _ _ _ _
    | exact comp_Lengths.mono _ _
    | exact LeO.none _
    | refine LeO.ite ?_ ?_
    | refine LeO.bind ?_ (fun _ => ?_)
  · intro y0 y1 y2 y3 y4 y5
    unfold cursor_Move.l0
    repeat' first
    | (with_reducible exact ih0 _ _ _ _)
    | (with_reducible exact ih1 _ _ _ _ _ _)
    | (with_reducible exact ih2 _ _ _ _ _ _ _ _ _ _)
    | (with_reducible exact comp_Lengths.mono _ _)
    | (with_reducible exact LeO.refl _)
    | (with_reducible exact LeO.none _)
    | (with_reducible refine LeO.ite ?_ ?_)
    | (with_reducible refine LeO.bind ?_ (fun _ => ?_))
    | exact ih0 _ _ _ _
    | exact ih1 _ _ _ _ _ _
    | exact ih2 _ _ _ _ _ _ _ _ _ _
    | exact comp_Lengths.mono _ _
    | exact LeO.none _
    | refine LeO.ite ?_ ?_
    | refine LeO.bind ?_ (fun _ => ?_)
  · intro y0 y1 y2 y3 y4 y5 y6 y7 y8 y9
    unfold cursor_Move.j2
    repeat' first
    | (with_reducible exact ih0 _ _ _ _)
    | (with_reducible exact ih1 _ _ _ _ _ _)
    | (with_reducible exact ih2 _ _ _ _ _ _ _ _ _ _)
    | (with_reducible exact comp_Lengths.mono _ _)
    | (with_reducible exact LeO.refl _)
    | (with_reducible exact LeO.none _)
    | (with_reducible refine LeO.ite ?_ ?_)
    | (with_reducible refine LeO.bind ?_ (fun _ => ?_))
    | exact ih0 _ _ _ _
    | exact ih1 _ _ _ _ _ _
    | exact ih2 _ _ _ _ _ _ _ _ _ _
    | exact comp_Lengths.mono _ _
    | exact LeO.none _
    | refine LeO.ite ?_ ?_
    | refine LeO.bind ?_ (fun _ => ?_)
theorem cursor_Move.mono : ∀ a0 a1 a2 k, LeO (cursor_Move.f k a0 a1 a2) (cursor_Move.f (k + 1) a0 a1 a2) := by
 intro a0 a1 a2 k
 obtain ⟨ih0, ih1, ih2⟩ := cursor_Move.mono_l k
 unfold cursor_Move.f
 repeat' first
  | (with_reducible exact ih0 _ _ _ _)
  | (with_reducible exact ih1 _ _ _ _ _ _)
  | (with_reducible exact ih2 _ _ _ _ _ _ _ _ _ _)
  | (with_reducible exact comp_Lengths.mono _ _)
  | (with_reducible exact LeO.refl _)
  | (with_reducible exact LeO.none _)
  | (with_reducible refine LeO.ite ?_ ?_)
  | (with_reducible refine LeO.bind ?_ (fun _ => ?_))
  | exact ih0 _ _ _ _
  | exact ih1 _ _ _ _ _ _
  | exact ih2 _ _ _ _ _ _ _ _ _ _
  | exact comp_Lengths.mono _ _
  | exact LeO.none _
  | refine LeO.ite ?_ ?_
  | refine LeO.bind ?_ (fun _ => ?_)
set_option maxHeartbeats 8000000 in
set_option maxRecDepth 100000 in
theorem cursor_Move.calls (k : Nat) (A0 : Option Addr) (c0 : Nat) (l0 : List (S31)) (a1 : Int) (a2 : Bool) (r1 : Int) (r2 : Int) (w : World) (hr0 : Kd.C k31 w A0 l0.length l0) (hc0 : l0.length ≤ c0) (h : cursor_Move.f k l0 a1 a2 = some (r1, r2)) :
 Calls Try.prog 20 #[.slice A0 l0.length c0, .int .i64 a1, .bool a2] w fun e w' => e = .returned (.tuple #[.int .i64 r1, .int .i64 r2]) ∧ Below w.heap.size w w' := by
 have hu31 := Try.underlying31
 have HR0 := Aside0.mk hr0
 have HC0 := Aside0.mk hc0
 clear hr0 hc0
 have HB := Aside0.mk (Below.refl w.heap.size w)
 have H : ((comp_Lengths.f k l0).bind fun bt101 => (if bt101.2.2 = 0 then (if a1 < 0 then (cursor_Move.j0 k l0 a1 a2 true) else (cursor_Move.j0 k l0 a1 a2 (decide (a1 > bt101.1)))) else (cursor_Move.j0 k l0 a1 a2 true))) = some (r1, r2) := h
 clear h
 replace H := Option.bind_eq_some_iff.mp H
 obtain ⟨⟨t101, t102, t103⟩, A40, H⟩ := H
 replace H : (if t103 = 0 then (if a1 < 0 then (cursor_Move.j0 k l0 a1 a2 true) else (cursor_Move.j0 k l0 a1 a2 (decide (a1 > t101)))) else (cursor_Move.j0 k l0 a1 a2 true)) = some (r1, r2) := H
 have A4 := Aside0.mk A40
 clear A40
 have HC5 := Aside0.mk H
 clear H
 go_enter Try.func20, Try.ntmps20
 go_upto_region 2 with (first | ((with_reducible refine gate_callee (f := 39) rfl ?_); refine goesL_ (some 16) rfl rfl Try.func39 (by kernel_rfl) rfl #[.slice A0 l0.length c0] rfl (by (try simp only [List.map_toArray, List.map_cons, List.map_nil]); first | done | rfl | (simp only [List.length_drop, List.length_take]; rfl)) ?_; (with_reducible refine (comp_Lengths.calls k _ _ l0 t101 t102 t103 _ ?side1 ?side2 A4.out).mono ?_); (case side1 => repeat (first | exact HR0.out | (with_reducible refine Kd.C_alloc ?_ _) | (with_reducible refine Kd.C_drewN ?_ _) | (with_reducible refine Kd.C_drew ?_))); (case side2 => exact HC0.out); rintro e w6 ⟨rfl, hb⟩; refine ⟨_, rfl, ?_⟩; have n0_ := Aside0.mk (below_step (by repeat (first | (with_reducible first | exact HB.out | apply below_alloc | apply pw_below_drewN | apply below_drew1) | exact HB.out)) hb); clear HB; have HB := n0_; clear n0_; (try clear hb); (try clear hb2); (try clear hk); (try clear hi)))
 (try simp only [Act.put, List.setIfInBounds_toArray, List.set_cons_zero, List.set_cons_succ])
 go_cut [30] (fun v30 wc => ∃ (kq : Nat) (x30_4 : Bool), v30 = .bool x30_4 ∧ Aside0 (cursor_Move.j0 kq l0 a1 a2 x30_4 = some (r1, r2)) ∧ Aside0 (kq ≤ k) ∧ Aside0 (Below w.heap.size w wc))
 case first =>
  have H := HC5.out
  clear HC5
  by_cases c7 : t103 = 0
  · rw [if_pos c7] at H
    have c7b0 : (t103 == 0) = true := beq_iff_eq.mpr c7
    have c7b1 : (t103 != 0) = false := bne_eq_false_iff_eq.mpr c7
    clear c7
    (first | rw [c7b0] | (simp only [i64_w, i32_w]; rw [c7b0]) | skip)
    by_cases c8 : a1 < 0
    · rw [if_pos c8] at H
      have c8b0 : decide (a1 < 0) = true := decide_eq_true c8
      clear c8
      have H' := Aside0.mk H
      clear H
      go_wp2
      go_meet
      case rel => exact ⟨_, (true), (by first | rfl | (simp; done) | (simp [*]; done)), H', ⟨by first | omega | exact Nat.le_refl _⟩, ⟨by repeat (first | (with_reducible first | exact HB.out | apply below_alloc | apply pw_below_drewN | apply below_drew1) | exact HB.out)⟩⟩
    · rw [if_neg c8] at H
      have c8b0 : decide (a1 < 0) = false := decide_eq_false c8
      clear c8
      have H' := Aside0.mk H
      clear H
      go_wp2
      go_meet
      case rel => exact ⟨_, (decide (a1 > t101)), (by first | rfl | (simp; done) | (simp [*]; done)), H', ⟨by first | omega | exact Nat.le_refl _⟩, ⟨by repeat (first | (with_reducible first | exact HB.out | apply below_alloc | apply pw_below_drewN | apply below_drew1) | exact HB.out)⟩⟩
  · rw [if_neg c7] at H
    have c7b0 : (t103 == 0) = false := beq_eq_false_iff_ne.mpr c7
    have c7b1 : (t103 != 0) = true := bne_iff_ne.mpr c7
    (first | rw [c7b0] | (simp only [i64_w, i32_w]; rw [c7b0]) | skip)
    have H' := Aside0.mk H
    clear H
    go_wp2
    go_meet
    case rel => exact ⟨_, (true), (by first | rfl | (simp; done) | (simp [*]; done)), H', ⟨by first | omega | exact Nat.le_refl _⟩, ⟨by repeat (first | (with_reducible first | exact HB.out | apply below_alloc | apply pw_below_drewN | apply below_drew1) | exact HB.out)⟩⟩
 case rest =>
  clear HC5
  try clear c2
  try clear p2
  try clear c3
  try clear c7
  try clear c7b0
  try clear c7b1
  try clear c8
  try clear c8b0
  obtain ⟨kq, x30_4, rfl, HA, HJ4, HB⟩ := hcut
  cases kq with
  | zero => exact absurd HA.out (by simp [cursor_Move.j0])
  | succ kj4 =>
   have H := HA.out
   clear HA
   simp only [cursor_Move.j0] at H
   by_cases c9 : x30_4 = true
   · subst c9
     have H1 : (some (0, 600)) = some (r1, r2) := by rw [if_pos rfl] at H; exact H
     clear H
     have H := H1
     clear H1
     simp only [Option.some.injEq, Prod.mk.injEq] at H
     obtain ⟨rfl, rfl⟩ := H
     go_wp2
     go_ret2
     exact ⟨by first | rfl | (simp [errW_none, errW_some] <;> rfl) | (simp [*, errW_none, errW_some] <;> rfl), by repeat (first | (with_reducible first | exact HB.out | apply below_alloc | apply pw_below_drewN | apply below_drew1) | exact HB.out)⟩
   · replace c9 := Bool.eq_false_iff.mpr c9
     subst c9
     have H1 : (cursor_Move.l0 kj4 a1 a2 0 l0 (l0.length : Int) 0) = some (r1, r2) := by rw [if_neg (show ¬ (false = true) by decide)] at H; exact H
     clear H
     have H := H1
     clear H1
     have H' := Aside0.mk H
     clear H
     go_wp2
     go_loopg [1, 11, 33] kj4 (fun kq v1 v11 v33 w' => ∃ (x1_2 : Int) (x11_2 : Int) (x33_2 : Int), v1 = .int .i64 x1_2 ∧ v11 = .int .i64 x11_2 ∧ v33 = .int .i64 x33_2 ∧ Aside0 (cursor_Move.l0 kq x1_2 a2 x11_2 l0 (l0.length : Int) x33_2 = some (r1, r2)) ∧ Aside0 (kq ≤ kj4) ∧ Aside0 (Below w.heap.size w w'))
     case atStart => exact ⟨(a1), (0), (0), (by first | rfl | (simp; done) | (simp [*]; done)), (by first | rfl | (simp; done) | (simp [*]; done)), (by first | rfl | (simp; done) | (simp [*]; done)), H', ⟨Nat.le_refl _⟩, ⟨by repeat (first | (with_reducible first | exact HB.out | apply below_alloc | apply pw_below_drewN | apply below_drew1) | exact HB.out)⟩⟩
     case round =>
      clear H'
      try clear c2
      try clear p2
      try clear c3
      try clear c7
      try clear c7b0
      try clear c7b1
      try clear c8
      try clear c8b0
      try clear c9
      try clear p2
      obtain ⟨x1_2, x11_2, x33_2, rfl, rfl, rfl, HA, HK2, HB⟩ := hrel
      cases gk with
      | zero => exact absurd HA.out (by simp [cursor_Move.l0])
      | succ k2 =>
       have H := HA.out
       clear HA
       simp only [cursor_Move.l0] at H
       by_cases c10 : x33_2 < (l0.length : Int)
       · rw [if_pos c10] at H
         have c10b0 : decide (x33_2 < (l0.length : Int)) = true := decide_eq_true c10
         clear c10
         by_cases c11 : 0 ≤ x33_2
         · rw [if_pos c11] at H
           have c11b0 : decide (0 ≤ x33_2) = true := decide_eq_true c11
           clear c11
           by_cases c12 : x33_2 < (l0.length : Int)
           · rw [if_pos c12] at H
             have c12b0 : decide (x33_2 < (l0.length : Int)) = true := decide_eq_true c12
             clear c12
             have HC13 := Aside0.mk H
             clear H
             have p104 : 0 ≤ (x33_2 : Int) := of_decide_eq_true (by first | (with_reducible assumption) | assumption)
             have q104 : x33_2 < (l0.length : Int) := of_decide_eq_true (by first | (with_reducible assumption) | assumption)
             obtain ⟨ad104, e104, hx104_0, hx104_1, hx104_2⟩ := at_T31 HR0.out x33_2 p104 q104
             cases e104
             replace hx104_0 := (HB.out.cell (World.block_lt_of_cell? w _ hx104_0)).trans hx104_0
             replace hx104_1 := (HB.out.cell (World.block_lt_of_cell? w _ hx104_1)).trans hx104_1
             replace hx104_2 := (HB.out.cell (World.block_lt_of_cell? w _ hx104_2)).trans hx104_2
             replace p104 := eq_true p104
             replace q104 := eq_true q104
             go_upto_region 8 with (first | ((with_reducible refine gate_dst (N := 13) rfl ?_); refine box_event ?hg (N := 13) ?hd (cs := #[.int .i64 0, .int .i64 0, .string (⟨#[]⟩ : ByteArray)]) (t := 31) ?hr ?_; (case hd => rfl); (case hg => rfl); (case hr => first | (go_simp; done) | (go_simp; rfl)); intro gb105 hg w14 hbox hb; have n0_ := Aside0.mk (below_step (by repeat (first | (with_reducible first | exact HB.out | apply below_alloc | apply pw_below_drewN | apply below_drew1) | exact HB.out)) hb); have n1_ := Aside0.mk (hbox); have n2_ := Aside0.mk ((by rw [hg]; exact (below_size (by repeat (first | (with_reducible first | exact HB.out | apply below_alloc | apply pw_below_drewN | apply below_drew1) | exact HB.out))) : w.heap.size ≤ gb105)); have n3_ := Aside0.mk ((by rw [hg]; exact (below_size (by repeat (first | (with_reducible first | exact HB.out | apply below_alloc | apply pw_below_drewN | apply below_drew1) | exact HB.out))) : w.heap.size ≤ gb105)); clear HB; have HB := n0_; have BK105 := n1_; have GW105 := n2_; have GE105 := n3_; clear n0_ n1_ n2_ n3_; clear hb hbox hg; have hcz15_0 : w14.cell? ⟨gb105, 0, none⟩ = some (.int .i64 0) := (blk_cell BK105.out 0).trans rfl; have hcz15_1 : w14.cell? ⟨gb105, 1, none⟩ = some (.int .i64 0) := (blk_cell BK105.out 1).trans rfl; have hcz15_2 : w14.cell? ⟨gb105, 2, none⟩ = some (.string (⟨#[]⟩ : ByteArray)) := (blk_cell BK105.out 2).trans rfl; have hfz15_0 := blk_frozen BK105.out 0; have hfz15_1 := blk_frozen BK105.out 1; have hfz15_2 := blk_frozen BK105.out 2))
             (try simp only [Act.put, List.setIfInBounds_toArray, List.set_cons_zero, List.set_cons_succ])
             go_cut [47] (fun v47 wc => ∃ (kq : Nat) (x47_12 : Bool), v47 = .bool x47_12 ∧ Aside0 (cursor_Move.j2 kq x1_2 a2 x11_2 l0 (l0.length : Int) x33_2 x47_12 ((rd_T31 l0 x33_2).f0) ((rd_T31 l0 x33_2).f1) ((rd_T31 l0 x33_2).f2) = some (r1, r2)) ∧ Aside0 (kq ≤ k2) ∧ Aside0 (wc.heap[gb105]? = some (.cells #[.int .i64 ((rd_T31 l0 x33_2).f0), .int .i64 ((rd_T31 l0 x33_2).f1), .string ((rd_T31 l0 x33_2).f2)] 31 (0, 0))) ∧ Aside0 (Below w.heap.size w wc))
             case first =>
              have H := HC13.out
              clear HC13
              by_cases c16 : x1_2 = 0
              · rw [if_pos c16] at H
                have c16b0 : (x1_2 == 0) = true := beq_iff_eq.mpr c16
                have c16b1 : (x1_2 != 0) = false := bne_eq_false_iff_eq.mpr c16
                clear c16
                (first | rw [c16b0] | (simp only [i64_w, i32_w]; rw [c16b0]) | skip)
                by_cases c17 : ((rd_T31 l0 x33_2).f0) = 1
                · rw [if_pos c17] at H
                  have c17b0 : (((rd_T31 l0 x33_2).f0) == 1) = true := beq_iff_eq.mpr c17
                  have c17b1 : (((rd_T31 l0 x33_2).f0) != 1) = false := bne_eq_false_iff_eq.mpr c17
                  clear c17
                  have H' := Aside0.mk H
                  clear H
                  have hcz18_0 : w14.cell? ⟨gb105, 0, none⟩ = some (.int .i64 0) := (blk_cell BK105.out 0).trans rfl
                  have hcz18_1 : w14.cell? ⟨gb105, 1, none⟩ = some (.int .i64 0) := (blk_cell BK105.out 1).trans rfl
                  have hcz18_2 : w14.cell? ⟨gb105, 2, none⟩ = some (.string (⟨#[]⟩ : ByteArray)) := (blk_cell BK105.out 2).trans rfl
                  have hfz18_0 := blk_frozen BK105.out 0
                  have hfz18_1 := blk_frozen BK105.out 1
                  have hfz18_2 := blk_frozen BK105.out 2
                  go_wp2
                  go_meet
                  case rel => exact ⟨_, (!a2), (by first | rfl | (simp; done) | (simp [*]; done)), H', ⟨by have := HJ4.out; have := HK2.out; first | omega | exact Nat.le_refl _⟩, ⟨by (with_reducible repeat (first | refine blk_drewN ?_ _ | refine blk_drew ?_ | refine blk_alloc ?_ _)); refine blk_put (cs := #[.int .i64 ((rd_T31 l0 x33_2).f0), .int .i64 ((rd_T31 l0 x33_2).f1), .string (⟨#[]⟩ : ByteArray)]) ?_ 2 _ rfl; (with_reducible repeat (first | refine blk_drewN ?_ _ | refine blk_drew ?_ | refine blk_alloc ?_ _)); refine blk_put (cs := #[.int .i64 ((rd_T31 l0 x33_2).f0), .int .i64 0, .string (⟨#[]⟩ : ByteArray)]) ?_ 1 _ rfl; (with_reducible repeat (first | refine blk_drewN ?_ _ | refine blk_drew ?_ | refine blk_alloc ?_ _)); refine blk_put (cs := #[.int .i64 0, .int .i64 0, .string (⟨#[]⟩ : ByteArray)]) ?_ 0 _ rfl; (with_reducible repeat (first | refine blk_drewN ?_ _ | refine blk_drew ?_ | refine blk_alloc ?_ _)); exact BK105.out⟩, ⟨by repeat (first | (with_reducible first | exact HB.out | apply below_alloc | apply pw_below_drewN | apply below_drew1 | refine below_set ?_ GE105.out) | exact HB.out)⟩⟩
                · rw [if_neg c17] at H
                  have c17b0 : (((rd_T31 l0 x33_2).f0) == 1) = false := beq_eq_false_iff_ne.mpr c17
                  have c17b1 : (((rd_T31 l0 x33_2).f0) != 1) = true := bne_iff_ne.mpr c17
                  have H' := Aside0.mk H
                  clear H
                  have hcz19_0 : w14.cell? ⟨gb105, 0, none⟩ = some (.int .i64 0) := (blk_cell BK105.out 0).trans rfl
                  have hcz19_1 : w14.cell? ⟨gb105, 1, none⟩ = some (.int .i64 0) := (blk_cell BK105.out 1).trans rfl
                  have hcz19_2 : w14.cell? ⟨gb105, 2, none⟩ = some (.string (⟨#[]⟩ : ByteArray)) := (blk_cell BK105.out 2).trans rfl
                  have hfz19_0 := blk_frozen BK105.out 0
                  have hfz19_1 := blk_frozen BK105.out 1
                  have hfz19_2 := blk_frozen BK105.out 2
                  go_wp2
                  go_meet
                  case rel => exact ⟨_, (true), (by first | rfl | (simp; done) | (simp [*]; done)), H', ⟨by have := HJ4.out; have := HK2.out; first | omega | exact Nat.le_refl _⟩, ⟨by (with_reducible repeat (first | refine blk_drewN ?_ _ | refine blk_drew ?_ | refine blk_alloc ?_ _)); refine blk_put (cs := #[.int .i64 ((rd_T31 l0 x33_2).f0), .int .i64 ((rd_T31 l0 x33_2).f1), .string (⟨#[]⟩ : ByteArray)]) ?_ 2 _ rfl; (with_reducible repeat (first | refine blk_drewN ?_ _ | refine blk_drew ?_ | refine blk_alloc ?_ _)); refine blk_put (cs := #[.int .i64 ((rd_T31 l0 x33_2).f0), .int .i64 0, .string (⟨#[]⟩ : ByteArray)]) ?_ 1 _ rfl; (with_reducible repeat (first | refine blk_drewN ?_ _ | refine blk_drew ?_ | refine blk_alloc ?_ _)); refine blk_put (cs := #[.int .i64 0, .int .i64 0, .string (⟨#[]⟩ : ByteArray)]) ?_ 0 _ rfl; (with_reducible repeat (first | refine blk_drewN ?_ _ | refine blk_drew ?_ | refine blk_alloc ?_ _)); exact BK105.out⟩, ⟨by repeat (first | (with_reducible first | exact HB.out | apply below_alloc | apply pw_below_drewN | apply below_drew1 | refine below_set ?_ GE105.out) | exact HB.out)⟩⟩
              · rw [if_neg c16] at H
                have c16b0 : (x1_2 == 0) = false := beq_eq_false_iff_ne.mpr c16
                have c16b1 : (x1_2 != 0) = true := bne_iff_ne.mpr c16
                (first | rw [c16b0] | (simp only [i64_w, i32_w]; rw [c16b0]) | skip)
                have H' := Aside0.mk H
                clear H
                go_wp2
                go_meet
                case rel => exact ⟨_, (false), (by first | rfl | (simp; done) | (simp [*]; done)), H', ⟨by have := HJ4.out; have := HK2.out; first | omega | exact Nat.le_refl _⟩, ⟨by (with_reducible repeat (first | refine blk_drewN ?_ _ | refine blk_drew ?_ | refine blk_alloc ?_ _)); refine blk_put (cs := #[.int .i64 ((rd_T31 l0 x33_2).f0), .int .i64 ((rd_T31 l0 x33_2).f1), .string (⟨#[]⟩ : ByteArray)]) ?_ 2 _ rfl; (with_reducible repeat (first | refine blk_drewN ?_ _ | refine blk_drew ?_ | refine blk_alloc ?_ _)); refine blk_put (cs := #[.int .i64 ((rd_T31 l0 x33_2).f0), .int .i64 0, .string (⟨#[]⟩ : ByteArray)]) ?_ 1 _ rfl; (with_reducible repeat (first | refine blk_drewN ?_ _ | refine blk_drew ?_ | refine blk_alloc ?_ _)); refine blk_put (cs := #[.int .i64 0, .int .i64 0, .string (⟨#[]⟩ : ByteArray)]) ?_ 0 _ rfl; (with_reducible repeat (first | refine blk_drewN ?_ _ | refine blk_drew ?_ | refine blk_alloc ?_ _)); exact BK105.out⟩, ⟨by repeat (first | (with_reducible first | exact HB.out | apply below_alloc | apply pw_below_drewN | apply below_drew1 | refine below_set ?_ GE105.out) | exact HB.out)⟩⟩
             case rest =>
              clear HC13
              try clear c1
              try clear p1
              try clear q1
              try clear hx1
              try clear c2
              try clear p2
              try clear c3
              try clear c7
              try clear c7b0
              try clear c7b1
              try clear c8
              try clear c8b0
              try clear c9
              try clear c10
              try clear c10b0
              try clear p10
              try clear q10
              try clear hx10
              try clear c11
              try clear c11b0
              try clear c12
              try clear c12b0
              try clear c16
              try clear c16b0
              try clear c16b1
              try clear c17
              try clear c17b0
              try clear c17b1
              try clear hcz15_0
              try clear hcz15_1
              try clear hcz15_2
              try clear hcz18_0
              try clear hcz18_1
              try clear hcz18_2
              try clear hcz19_0
              try clear hcz19_1
              try clear hcz19_2
              try clear hfz15_0
              try clear hfz15_1
              try clear hfz15_2
              try clear hfz18_0
              try clear hfz18_1
              try clear hfz18_2
              try clear hfz19_0
              try clear hfz19_1
              try clear hfz19_2
              try clear hx104_0
              try clear hx104_1
              try clear hx104_2
              try clear p104
              try clear p2
              try clear q104
              obtain ⟨kq, x47_12, rfl, HA, HJ12, BK105, HB⟩ := hcut
              cases kq with
              | zero => exact absurd HA.out (by simp [cursor_Move.j2])
              | succ kj12 =>
               have H := HA.out
               clear HA
               simp only [cursor_Move.j2] at H
               by_cases c20 : x47_12 = true
               · subst c20
                 have H1 : (some (x11_2, 0)) = some (r1, r2) := by rw [if_pos rfl] at H; exact H
                 clear H
                 have H := H1
                 clear H1
                 simp only [Option.some.injEq, Prod.mk.injEq] at H
                 obtain ⟨rfl, rfl⟩ := H
                 go_wp2
                 go_ret2
                 exact ⟨by first | rfl | (simp [errW_none, errW_some] <;> rfl) | (simp [*, errW_none, errW_some] <;> rfl), by repeat (first | (with_reducible first | exact HB.out | apply below_alloc | apply pw_below_drewN | apply below_drew1 | refine below_set ?_ GE105.out) | exact HB.out)⟩
               · replace c20 := Bool.eq_false_iff.mpr c20
                 subst c20
                 have H1 : (if ((rd_T31 l0 x33_2).f0) = 1 then (cursor_Move.l0 kj12 x1_2 a2 (wrap64 (x11_2 + (((rd_T31 l0 x33_2).f2).size : Int))) l0 (l0.length : Int) (wrap64 (x33_2 + 1))) else (if ((rd_T31 l0 x33_2).f0) = 0 then (if x1_2 < ((rd_T31 l0 x33_2).f1) then (some (wrap64 (x11_2 + x1_2), 0)) else (cursor_Move.l0 kj12 (wrap64 (x1_2 - ((rd_T31 l0 x33_2).f1))) a2 (wrap64 (x11_2 + ((rd_T31 l0 x33_2).f1))) l0 (l0.length : Int) (wrap64 (x33_2 + 1)))) else (if ((rd_T31 l0 x33_2).f0) = 2 then (if x1_2 < ((rd_T31 l0 x33_2).f1) then (some (x11_2, 0)) else (cursor_Move.l0 kj12 (wrap64 (x1_2 - ((rd_T31 l0 x33_2).f1))) a2 x11_2 l0 (l0.length : Int) (wrap64 (x33_2 + 1)))) else (cursor_Move.l0 kj12 x1_2 a2 x11_2 l0 (l0.length : Int) (wrap64 (x33_2 + 1)))))) = some (r1, r2) := by rw [if_neg (show ¬ (false = true) by decide)] at H; exact H
                 clear H
                 have H := H1
                 clear H1
                 by_cases c21 : ((rd_T31 l0 x33_2).f0) = 1
                 · rw [if_pos c21] at H
                   have c21b0 : (((rd_T31 l0 x33_2).f0) == 1) = true := beq_iff_eq.mpr c21
                   have c21b1 : (((rd_T31 l0 x33_2).f0) != 1) = false := bne_eq_false_iff_eq.mpr c21
                   clear c21
                   have H' := Aside0.mk H
                   clear H
                   have hcz22_0 : wc.cell? ⟨gb105, 0, none⟩ = some (.int .i64 ((rd_T31 l0 x33_2).f0)) := (blk_cell BK105.out 0).trans rfl
                   have hcz22_1 : wc.cell? ⟨gb105, 1, none⟩ = some (.int .i64 ((rd_T31 l0 x33_2).f1)) := (blk_cell BK105.out 1).trans rfl
                   have hcz22_2 : wc.cell? ⟨gb105, 2, none⟩ = some (.string ((rd_T31 l0 x33_2).f2)) := (blk_cell BK105.out 2).trans rfl
                   have hfz22_0 := blk_frozen BK105.out 0
                   have hfz22_1 := blk_frozen BK105.out 1
                   have hfz22_2 := blk_frozen BK105.out 2
                   go_wp2
                   go_roundg kj12
                   case measure => have := HJ4.out; have := HK2.out; have := HJ12.out; omega
                   case rel => exact ⟨(x1_2), (wrap64 (x11_2 + (((rd_T31 l0 x33_2).f2).size : Int))), (wrap64 (x33_2 + 1)), (by first | rfl | (simp; done) | (simp [*]; done)), (by first | rfl | (simp; done) | (simp [*]; done)), (by first | rfl | (simp; done) | (simp [*]; done)), H', ⟨by have := HJ4.out; have := HK2.out; have := HJ12.out; omega⟩, ⟨by repeat (first | (with_reducible first | exact HB.out | apply below_alloc | apply pw_below_drewN | apply below_drew1 | refine below_set ?_ GE105.out) | exact HB.out)⟩⟩
                 · rw [if_neg c21] at H
                   have c21b0 : (((rd_T31 l0 x33_2).f0) == 1) = false := beq_eq_false_iff_ne.mpr c21
                   have c21b1 : (((rd_T31 l0 x33_2).f0) != 1) = true := bne_iff_ne.mpr c21
                   by_cases c23 : ((rd_T31 l0 x33_2).f0) = 0
                   · rw [if_pos c23] at H
                     have c23b0 : (((rd_T31 l0 x33_2).f0) == 0) = true := beq_iff_eq.mpr c23
                     have c23b1 : (((rd_T31 l0 x33_2).f0) != 0) = false := bne_eq_false_iff_eq.mpr c23
                     clear c23
                     by_cases c24 : x1_2 < ((rd_T31 l0 x33_2).f1)
                     · rw [if_pos c24] at H
                       have c24b0 : decide (x1_2 < ((rd_T31 l0 x33_2).f1)) = true := decide_eq_true c24
                       clear c24
                       simp only [Option.some.injEq, Prod.mk.injEq] at H
                       obtain ⟨rfl, rfl⟩ := H
                       have hcz25_0 : wc.cell? ⟨gb105, 0, none⟩ = some (.int .i64 ((rd_T31 l0 x33_2).f0)) := (blk_cell BK105.out 0).trans rfl
                       have hcz25_1 : wc.cell? ⟨gb105, 1, none⟩ = some (.int .i64 ((rd_T31 l0 x33_2).f1)) := (blk_cell BK105.out 1).trans rfl
                       have hcz25_2 : wc.cell? ⟨gb105, 2, none⟩ = some (.string ((rd_T31 l0 x33_2).f2)) := (blk_cell BK105.out 2).trans rfl
                       have hfz25_0 := blk_frozen BK105.out 0
                       have hfz25_1 := blk_frozen BK105.out 1
                       have hfz25_2 := blk_frozen BK105.out 2
                       go_wp2
                       go_ret2
                       exact ⟨by first | rfl | (simp [errW_none, errW_some] <;> rfl) | (simp [*, errW_none, errW_some] <;> rfl), by repeat (first | (with_reducible first | exact HB.out | apply below_alloc | apply pw_below_drewN | apply below_drew1 | refine below_set ?_ GE105.out) | exact HB.out)⟩
                     · rw [if_neg c24] at H
                       have c24b0 : decide (x1_2 < ((rd_T31 l0 x33_2).f1)) = false := decide_eq_false c24
                       clear c24
                       have H' := Aside0.mk H
                       clear H
                       have hcz26_0 : wc.cell? ⟨gb105, 0, none⟩ = some (.int .i64 ((rd_T31 l0 x33_2).f0)) := (blk_cell BK105.out 0).trans rfl
                       have hcz26_1 : wc.cell? ⟨gb105, 1, none⟩ = some (.int .i64 ((rd_T31 l0 x33_2).f1)) := (blk_cell BK105.out 1).trans rfl
                       have hcz26_2 : wc.cell? ⟨gb105, 2, none⟩ = some (.string ((rd_T31 l0 x33_2).f2)) := (blk_cell BK105.out 2).trans rfl
                       have hfz26_0 := blk_frozen BK105.out 0
                       have hfz26_1 := blk_frozen BK105.out 1
                       have hfz26_2 := blk_frozen BK105.out 2
                       go_wp2
                       go_roundg kj12
                       case measure => have := HJ4.out; have := HK2.out; have := HJ12.out; omega
                       case rel => exact ⟨(wrap64 (x1_2 - ((rd_T31 l0 x33_2).f1))), (wrap64 (x11_2 + ((rd_T31 l0 x33_2).f1))), (wrap64 (x33_2 + 1)), (by first | rfl | (simp; done) | (simp [*]; done)), (by first | rfl | (simp; done) | (simp [*]; done)), (by first | rfl | (simp; done) | (simp [*]; done)), H', ⟨by have := HJ4.out; have := HK2.out; have := HJ12.out; omega⟩, ⟨by repeat (first | (with_reducible first | exact HB.out | apply below_alloc | apply pw_below_drewN | apply below_drew1 | refine below_set ?_ GE105.out) | exact HB.out)⟩⟩
                   · rw [if_neg c23] at H
                     have c23b0 : (((rd_T31 l0 x33_2).f0) == 0) = false := beq_eq_false_iff_ne.mpr c23
                     have c23b1 : (((rd_T31 l0 x33_2).f0) != 0) = true := bne_iff_ne.mpr c23
                     by_cases c27 : ((rd_T31 l0 x33_2).f0) = 2
                     · rw [if_pos c27] at H
                       have c27b0 : (((rd_T31 l0 x33_2).f0) == 2) = true := beq_iff_eq.mpr c27
                       have c27b1 : (((rd_T31 l0 x33_2).f0) != 2) = false := bne_eq_false_iff_eq.mpr c27
                       clear c27
                       by_cases c28 : x1_2 < ((rd_T31 l0 x33_2).f1)
                       · rw [if_pos c28] at H
                         have c28b0 : decide (x1_2 < ((rd_T31 l0 x33_2).f1)) = true := decide_eq_true c28
                         clear c28
                         simp only [Option.some.injEq, Prod.mk.injEq] at H
                         obtain ⟨rfl, rfl⟩ := H
                         have hcz29_0 : wc.cell? ⟨gb105, 0, none⟩ = some (.int .i64 ((rd_T31 l0 x33_2).f0)) := (blk_cell BK105.out 0).trans rfl
                         have hcz29_1 : wc.cell? ⟨gb105, 1, none⟩ = some (.int .i64 ((rd_T31 l0 x33_2).f1)) := (blk_cell BK105.out 1).trans rfl
                         have hcz29_2 : wc.cell? ⟨gb105, 2, none⟩ = some (.string ((rd_T31 l0 x33_2).f2)) := (blk_cell BK105.out 2).trans rfl
                         have hfz29_0 := blk_frozen BK105.out 0
                         have hfz29_1 := blk_frozen BK105.out 1
                         have hfz29_2 := blk_frozen BK105.out 2
                         go_wp2
                         go_ret2
                         exact ⟨by first | rfl | (simp [errW_none, errW_some] <;> rfl) | (simp [*, errW_none, errW_some] <;> rfl), by repeat (first | (with_reducible first | exact HB.out | apply below_alloc | apply pw_below_drewN | apply below_drew1 | refine below_set ?_ GE105.out) | exact HB.out)⟩
                       · rw [if_neg c28] at H
                         have c28b0 : decide (x1_2 < ((rd_T31 l0 x33_2).f1)) = false := decide_eq_false c28
                         clear c28
                         have H' := Aside0.mk H
                         clear H
                         have hcz30_0 : wc.cell? ⟨gb105, 0, none⟩ = some (.int .i64 ((rd_T31 l0 x33_2).f0)) := (blk_cell BK105.out 0).trans rfl
                         have hcz30_1 : wc.cell? ⟨gb105, 1, none⟩ = some (.int .i64 ((rd_T31 l0 x33_2).f1)) := (blk_cell BK105.out 1).trans rfl
                         have hcz30_2 : wc.cell? ⟨gb105, 2, none⟩ = some (.string ((rd_T31 l0 x33_2).f2)) := (blk_cell BK105.out 2).trans rfl
                         have hfz30_0 := blk_frozen BK105.out 0
                         have hfz30_1 := blk_frozen BK105.out 1
                         have hfz30_2 := blk_frozen BK105.out 2
                         go_wp2
                         go_roundg kj12
                         case measure => have := HJ4.out; have := HK2.out; have := HJ12.out; omega
                         case rel => exact ⟨(wrap64 (x1_2 - ((rd_T31 l0 x33_2).f1))), (x11_2), (wrap64 (x33_2 + 1)), (by first | rfl | (simp; done) | (simp [*]; done)), (by first | rfl | (simp; done) | (simp [*]; done)), (by first | rfl | (simp; done) | (simp [*]; done)), H', ⟨by have := HJ4.out; have := HK2.out; have := HJ12.out; omega⟩, ⟨by repeat (first | (with_reducible first | exact HB.out | apply below_alloc | apply pw_below_drewN | apply below_drew1 | refine below_set ?_ GE105.out) | exact HB.out)⟩⟩
                     · rw [if_neg c27] at H
                       have c27b0 : (((rd_T31 l0 x33_2).f0) == 2) = false := beq_eq_false_iff_ne.mpr c27
                       have c27b1 : (((rd_T31 l0 x33_2).f0) != 2) = true := bne_iff_ne.mpr c27
                       have H' := Aside0.mk H
                       clear H
                       have hcz31_0 : wc.cell? ⟨gb105, 0, none⟩ = some (.int .i64 ((rd_T31 l0 x33_2).f0)) := (blk_cell BK105.out 0).trans rfl
                       have hcz31_1 : wc.cell? ⟨gb105, 1, none⟩ = some (.int .i64 ((rd_T31 l0 x33_2).f1)) := (blk_cell BK105.out 1).trans rfl
                       have hcz31_2 : wc.cell? ⟨gb105, 2, none⟩ = some (.string ((rd_T31 l0 x33_2).f2)) := (blk_cell BK105.out 2).trans rfl
                       have hfz31_0 := blk_frozen BK105.out 0
                       have hfz31_1 := blk_frozen BK105.out 1
                       have hfz31_2 := blk_frozen BK105.out 2
                       go_wp2
                       go_roundg kj12
                       case measure => have := HJ4.out; have := HK2.out; have := HJ12.out; omega
                       case rel => exact ⟨(x1_2), (x11_2), (wrap64 (x33_2 + 1)), (by first | rfl | (simp; done) | (simp [*]; done)), (by first | rfl | (simp; done) | (simp [*]; done)), (by first | rfl | (simp; done) | (simp [*]; done)), H', ⟨by have := HJ4.out; have := HK2.out; have := HJ12.out; omega⟩, ⟨by repeat (first | (with_reducible first | exact HB.out | apply below_alloc | apply pw_below_drewN | apply below_drew1 | refine below_set ?_ GE105.out) | exact HB.out)⟩⟩
           · rw [if_neg c12] at H
             exact absurd H (by simp)
         · rw [if_neg c11] at H
           exact absurd H (by simp)
       · rw [if_neg c10] at H
         have c10b0 : decide (x33_2 < (l0.length : Int)) = false := decide_eq_false c10
         clear c10
         simp only [Option.some.injEq, Prod.mk.injEq] at H
         obtain ⟨rfl, rfl⟩ := H
         go_wp2
         go_ret2
         exact ⟨by first | rfl | (simp [errW_none, errW_some] <;> rfl) | (simp [*, errW_none, errW_some] <;> rfl), by repeat (first | (with_reducible first | exact HB.out | apply below_alloc | apply pw_below_drewN | apply below_drew1) | exact HB.out)⟩

end Go.Proofs.Ytldaokclpkcmmaa.G
