-- Laid by this session's own program gprint.py (wip/tools), out of the kit's print and of texts of this session. Lean checks it.
import Derived.Test.YtehojohacombkaaGx0
import Derived.Test.YtehojohacombkaaGGoodPGood
import Derived.Test.YtehojohacombkaaGMinuetlaw0PNum
import Derived.Test.YtehojohacombkaaGMinuetlaw12qawake
import Derived.Test.YtehojohacombkaaGParsePParse
namespace Go.Proofs.Ytehojohacombkaa.G
open Go.RowKit Go.Proofs.YtehojohacombkaaW.PrintWords Go.Proofs.YtehojohacombkaaW.PrintLast Go.Proofs.YtehojohacombkaaW.PrintMore
attribute [local go_sem] max2_int min2_int max_two min_two max_three min_three max_four min_four   -- for this text's walks alone
set_option linter.unusedVariables false
set_option linter.unusedSimpArgs false

/-! ### minuetlaw12_GoodTrees: function 3 -/
def minuetlaw12_GoodTrees.l0 : Nat → Bool → Int → Int → Int → Int → Int → List (S34) → Option (Bool)
 | 0, _, _, _, _, _, _, _ => none
 | k + 1, x3, x6, x7, x8, x111000, x111001, x111002 => if x8 < (x111002.length : Int) then (if 0 ≤ x8 then (if ((rd_T34 x111002 x8).f1) = 7 then (minuetlaw12_GoodTrees.l0 k x3 x6 (wrap64 (x7 + 1)) (wrap64 (x8 + 1)) x111000 x111001 x111002) else (minuetlaw12_GoodTrees.l0 k x3 x6 x7 (wrap64 (x8 + 1)) x111000 x111001 x111002)) else (none)) else ((minuetlaw0_Num.f x6).bind fun t114 => (if t114 = 0 then (if (x3 == (x7 == 0)) = true then (some (decide ((x111002.length : Int) > 1))) else (none)) else (none)))
def minuetlaw12_GoodTrees.f (k : Nat) (a0 : ByteArray) : Option (Bool) := (minuetlaw12_awake.f).bind fun t101 => (if t101 = true then ((good_Good.f a0).bind fun bt102 => ((parse_Parse.f a0).bind fun bt104 => ((minuetlaw0_Num.f bt102.2).bind fun t111 => (if t111 = 0 then (minuetlaw12_GoodTrees.l0 k bt102.1 bt104.2.2.2 0 0 bt104.1 bt104.2.1 bt104.2.2.1) else (if bt102.1 = true then (none) else ((minuetlaw0_Num.f bt104.2.2.2).bind fun t112 => (some (t112 == 1100)))))))) else (none))
theorem minuetlaw12_GoodTrees.mono_l : ∀ k, (∀ y0 y1 y2 y3 y4 y5 y6, LeO (minuetlaw12_GoodTrees.l0 k y0 y1 y2 y3 y4 y5 y6) (minuetlaw12_GoodTrees.l0 (k + 1) y0 y1 y2 y3 y4 y5 y6))
 | 0 => fun _ _ _ _ _ _ _ r h => by simp [minuetlaw12_GoodTrees.l0] at h
 | k + 1 => by
  have ih0 := minuetlaw12_GoodTrees.mono_l k
  · intro y0 y1 y2 y3 y4 y5 y6
    unfold minuetlaw12_GoodTrees.l0
    repeat' first
    | (with_reducible exact ih0 _ _ _ _ _ _ _)
    | (with_reducible exact LeO.refl _)
    | (with_reducible exact LeO.none _)
    | (with_reducible refine LeO.ite ?_ ?_)
    | (with_reducible refine LeO.bind ?_ (fun _ => ?_))
    | exact ih0 _ _ _ _ _ _ _
    | exact LeO.none _
    | refine LeO.ite ?_ ?_
    | refine LeO.bind ?_ (fun _ => ?_)
theorem minuetlaw12_GoodTrees.mono : ∀ a0 k, LeO (minuetlaw12_GoodTrees.f k a0) (minuetlaw12_GoodTrees.f (k + 1) a0) := by
 intro a0 k
 have ih0 := minuetlaw12_GoodTrees.mono_l k
 unfold minuetlaw12_GoodTrees.f
 repeat' first
  | (with_reducible exact ih0 _ _ _ _ _ _ _)
  | (with_reducible exact LeO.refl _)
  | (with_reducible exact LeO.none _)
  | (with_reducible refine LeO.ite ?_ ?_)
  | (with_reducible refine LeO.bind ?_ (fun _ => ?_))
  | exact ih0 _ _ _ _ _ _ _
  | exact LeO.none _
  | refine LeO.ite ?_ ?_
  | refine LeO.bind ?_ (fun _ => ?_)
set_option maxHeartbeats 8000000 in
set_option maxRecDepth 100000 in
theorem minuetlaw12_GoodTrees.calls (k : Nat) (a0 : ByteArray) (r : Bool) (w : World) (hm_ : MaxOk w) (h : minuetlaw12_GoodTrees.f k a0 = some r) :
 Calls Try.prog 3 #[.string a0] w fun e w' => e = .returned (.bool r) ∧ Below w.heap.size w w' := by
 have HM_ := Aside0.mk hm_
 clear hm_
 have hu28 := Try.underlying28
 have HB := Aside0.mk (Below.refl w.heap.size w)
 have H : ((minuetlaw12_awake.f).bind fun t101 => (if t101 = true then ((good_Good.f a0).bind fun bt102 => ((parse_Parse.f a0).bind fun bt104 => ((minuetlaw0_Num.f bt102.2).bind fun t111 => (if t111 = 0 then (minuetlaw12_GoodTrees.l0 k bt102.1 bt104.2.2.2 0 0 bt104.1 bt104.2.1 bt104.2.2.1) else (if bt102.1 = true then (none) else ((minuetlaw0_Num.f bt104.2.2.2).bind fun t112 => (some (t112 == 1100)))))))) else (none))) = some r := h
 clear h
 replace H := Option.bind_eq_some_iff.mp H
 obtain ⟨t101, A20, H⟩ := H
 replace H : (if t101 = true then ((good_Good.f a0).bind fun bt102 => ((parse_Parse.f a0).bind fun bt104 => ((minuetlaw0_Num.f bt102.2).bind fun t111 => (if t111 = 0 then (minuetlaw12_GoodTrees.l0 k bt102.1 bt104.2.2.2 0 0 bt104.1 bt104.2.1 bt104.2.2.1) else (if bt102.1 = true then (none) else ((minuetlaw0_Num.f bt104.2.2.2).bind fun t112 => (some (t112 == 1100)))))))) else (none)) = some r := H
 have A2 := Aside0.mk A20
 clear A20
 by_cases c3 : t101 = true
 · subst c3
   have H1 : ((good_Good.f a0).bind fun bt102 => ((parse_Parse.f a0).bind fun bt104 => ((minuetlaw0_Num.f bt102.2).bind fun t111 => (if t111 = 0 then (minuetlaw12_GoodTrees.l0 k bt102.1 bt104.2.2.2 0 0 bt104.1 bt104.2.1 bt104.2.2.1) else (if bt102.1 = true then (none) else ((minuetlaw0_Num.f bt104.2.2.2).bind fun t112 => (some (t112 == 1100)))))))) = some r := by rw [if_pos rfl] at H; exact H
   clear H
   have H := H1
   clear H1
   replace H := Option.bind_eq_some_iff.mp H
   obtain ⟨⟨t102, t103⟩, A40, H⟩ := H
   replace H : ((parse_Parse.f a0).bind fun bt104 => ((minuetlaw0_Num.f t103).bind fun t111 => (if t111 = 0 then (minuetlaw12_GoodTrees.l0 k t102 bt104.2.2.2 0 0 bt104.1 bt104.2.1 bt104.2.2.1) else (if t102 = true then (none) else ((minuetlaw0_Num.f bt104.2.2.2).bind fun t112 => (some (t112 == 1100))))))) = some r := H
   have A4 := Aside0.mk A40
   clear A40
   replace H := Option.bind_eq_some_iff.mp H
   obtain ⟨⟨t104, t105, t106, t109⟩, A50, H⟩ := H
   replace H : ((minuetlaw0_Num.f t103).bind fun t111 => (if t111 = 0 then (minuetlaw12_GoodTrees.l0 k t102 t109 0 0 t104 t105 t106) else (if t102 = true then (none) else ((minuetlaw0_Num.f t109).bind fun t112 => (some (t112 == 1100)))))) = some r := H
   have A5 := Aside0.mk A50
   clear A50
   replace H := Option.bind_eq_some_iff.mp H
   obtain ⟨t111, A60, H⟩ := H
   replace H : (if t111 = 0 then (minuetlaw12_GoodTrees.l0 k t102 t109 0 0 t104 t105 t106) else (if t102 = true then (none) else ((minuetlaw0_Num.f t109).bind fun t112 => (some (t112 == 1100))))) = some r := H
   have A6 := Aside0.mk A60
   clear A60
   by_cases c7 : t111 = 0
   · rw [if_pos c7] at H
     have c7b0 : (t111 == 0) = true := beq_iff_eq.mpr c7
     have c7b1 : (t111 != 0) = false := bne_eq_false_iff_eq.mpr c7
     clear c7
     have H' := Aside0.mk H
     clear H
     go_enter Try.func3, Try.ntmps3
     go_wp2_with (first | ((with_reducible refine gate_callee (f := 12) rfl ?_); refine goesL_ (some 9) rfl rfl Try.func12 (by kernel_rfl) rfl #[] rfl (by (try simp only [List.map_toArray, List.map_cons, List.map_nil]); first | done | rfl | (simp only [List.length_drop, List.length_take]; rfl)) ?_; (with_reducible refine (minuetlaw12_awake.calls  true _ (MaxOk.of HM_.out (by repeat (first | (with_reducible first | exact HB.out | apply below_alloc | apply pw_below_drewN | apply below_drew1) | exact HB.out))) A2.out).mono ?_); rintro e w8 ⟨rfl, hb⟩; refine ⟨_, rfl, ?_⟩; have n0_ := Aside0.mk (below_step (by repeat (first | (with_reducible first | exact HB.out | apply below_alloc | apply pw_below_drewN | apply below_drew1) | exact HB.out)) hb); clear HB; have HB := n0_; clear n0_; (try clear hb); (try clear hb2); (try clear hk); (try clear hi)) | ((with_reducible refine gate_callee (f := 13) rfl ?_); refine goesL_ (some 13) rfl rfl Try.func13 (by kernel_rfl) rfl #[.string a0] rfl (by (try simp only [List.map_toArray, List.map_cons, List.map_nil]); first | done | rfl | (simp only [List.length_drop, List.length_take]; rfl)) ?_; (with_reducible refine (good_Good.calls a0 t102 t103 _ (MaxOk.of HM_.out (by repeat (first | (with_reducible first | exact HB.out | apply below_alloc | apply pw_below_drewN | apply below_drew1) | exact HB.out))) A4.out).mono ?_); rintro e w9 ⟨rfl, hb⟩; refine ⟨_, rfl, ?_⟩; have n0_ := Aside0.mk (below_step (by repeat (first | (with_reducible first | exact HB.out | apply below_alloc | apply pw_below_drewN | apply below_drew1) | exact HB.out)) hb); clear HB; have HB := n0_; clear n0_; (try clear hb); (try clear hb2); (try clear hk); (try clear hi)) | ((with_reducible refine gate_callee (f := 14) rfl ?_); refine goesL_ (some 18) rfl rfl Try.func14 (by kernel_rfl) rfl #[.string a0] rfl (by (try simp only [List.map_toArray, List.map_cons, List.map_nil]); first | done | rfl | (simp only [List.length_drop, List.length_take]; rfl)) ?_; (with_reducible refine (parse_Parse.calls a0 t104 t105 t106 t109 _ (MaxOk.of HM_.out (by repeat (first | (with_reducible first | exact HB.out | apply below_alloc | apply pw_below_drewN | apply below_drew1) | exact HB.out))) A5.out).mono ?_); rintro e w10 ⟨v107, rfl, ho0, hb⟩; refine ⟨_, rfl, ?_⟩; have n0_ := Aside0.mk (Kd.S_lower ho0 (below_size (by repeat (first | (with_reducible first | exact HB.out | apply below_alloc | apply pw_below_drewN | apply below_drew1) | exact HB.out)))); have n1_ := Aside0.mk (below_step (by repeat (first | (with_reducible first | exact HB.out | apply below_alloc | apply pw_below_drewN | apply below_drew1) | exact HB.out)) hb); clear HB; have HO108 := n0_; have HB := n1_; clear n0_ n1_; (try clear hb); (try clear hb2); (try clear hk); (try clear hi); (try clear ho0)) | ((with_reducible refine gate_dst (N := 5) rfl ?_); (try (refine gate_guard (by rfl) ?_; dsimp only)); refine box_event ?hg (N := 5) ?hd (cs := #[.int .i64 0, .int .i64 0, .slice none 0 0]) (t := 28) ?hr ?_; (case hd => rfl); (case hg => rfl); (case hr => first | (go_simp; done) | (go_simp; rfl)); intro gb110 hg w11 hbox hb; have n0_ := Aside0.mk (Kd.S_below (by (with_reducible repeat (first | apply Kd.S_alloc | apply Kd.S_drewN | apply Kd.S_drew)); exact HO108.out) hb); have n1_ := Aside0.mk (below_step (by repeat (first | (with_reducible first | exact HB.out | apply below_alloc | apply pw_below_drewN | apply below_drew1) | exact HB.out)) hb); have n2_ := Aside0.mk (hbox); have n3_ := Aside0.mk ((by rw [hg]; exact (below_size (by repeat (first | (with_reducible first | exact HB.out | apply below_alloc | apply pw_below_drewN | apply below_drew1) | exact HB.out))) : w.heap.size ≤ gb110)); have n4_ := Aside0.mk ((by rw [hg]; exact (below_size (by repeat (first | (with_reducible first | exact HB.out | apply below_alloc | apply pw_below_drewN | apply below_drew1) | exact HB.out))) : w.heap.size ≤ gb110)); clear HO108; clear HB; have HO108 := n0_; have HB := n1_; have BK110 := n2_; have GW110 := n3_; have GE110 := n4_; clear n0_ n1_ n2_ n3_ n4_; clear hb hbox hg; have hcz12_0 : w11.cell? ⟨gb110, 0, none⟩ = some (.int .i64 0) := (blk_cell BK110.out 0).trans rfl; have hcz12_1 : w11.cell? ⟨gb110, 1, none⟩ = some (.int .i64 0) := (blk_cell BK110.out 1).trans rfl; have hcz12_2 : w11.cell? ⟨gb110, 2, none⟩ = some (.slice none 0 0) := (blk_cell BK110.out 2).trans rfl; have hfz12_0 := blk_frozen BK110.out 0; have hfz12_1 := blk_frozen BK110.out 1; have hfz12_2 := blk_frozen BK110.out 2; obtain ⟨Ao13, co13, eo13⟩ := Kd.S_slice HO108.out; subst eo13) | ((with_reducible refine gate_callee (f := 15) rfl ?_); refine goesL_ (some 22) rfl rfl Try.func15 (by kernel_rfl) rfl #[.int .i64 t103] rfl (by (try simp only [List.map_toArray, List.map_cons, List.map_nil]); first | done | rfl | (simp only [List.length_drop, List.length_take]; rfl)) ?_; (with_reducible refine (minuetlaw0_Num.calls t103 t111 _ A6.out).mono ?_); rintro e w' ⟨rfl, ⟨nd, rfl⟩⟩; refine ⟨_, rfl, ?_⟩))
     go_loopg [7, 8] k (fun kq v7 v8 w' => ∃ (x7_1 : Int) (x8_1 : Int), v7 = .int .i64 x7_1 ∧ v8 = .int .i64 x8_1 ∧ Aside0 (minuetlaw12_GoodTrees.l0 kq t102 t109 x7_1 x8_1 t104 t105 t106 = some r) ∧ Aside0 (kq ≤ k) ∧ Aside0 (Kd.S k34 34 w' w.heap.size (fun _ => True) (.slice Ao13 t106.length co13) t106) ∧ Aside0 (w'.heap[gb110]? = some (.cells #[.int .i64 t104, .int .i64 t105, (.slice Ao13 t106.length co13)] 28 (0, 0))) ∧ Aside0 (Below w.heap.size w w'))
     case atStart => exact ⟨(0), (0), (by first | rfl | (simp; done) | (simp [*]; done)), (by first | rfl | (simp; done) | (simp [*]; done)), H', ⟨Nat.le_refl _⟩, ⟨by (with_reducible repeat (first | apply Kd.S_alloc | apply Kd.S_drewN | apply Kd.S_drew)); exact Kd.S_mono (Kd.S_far (p := ⟨gb110, 2, none⟩) (Kd.S_far (p := ⟨gb110, 1, none⟩) (Kd.S_far (p := ⟨gb110, 0, none⟩) (Kd.S_types HO108.out BK110.out (by decide)) (fun _ hk => hk.2) (.int .i64 t104)) (fun _ hk => hk.2) (.int .i64 t105)) (fun _ hk => hk.2) (.slice Ao13 t106.length co13)) (fun _ hk => trivial)⟩, ⟨by (with_reducible repeat (first | refine blk_drewN ?_ _ | refine blk_drew ?_ | refine blk_alloc ?_ _)); refine blk_put (cs := #[.int .i64 t104, .int .i64 t105, .slice none 0 0]) ?_ 2 _ rfl; (with_reducible repeat (first | refine blk_drewN ?_ _ | refine blk_drew ?_ | refine blk_alloc ?_ _)); refine blk_put (cs := #[.int .i64 t104, .int .i64 0, .slice none 0 0]) ?_ 1 _ rfl; (with_reducible repeat (first | refine blk_drewN ?_ _ | refine blk_drew ?_ | refine blk_alloc ?_ _)); refine blk_put (cs := #[.int .i64 0, .int .i64 0, .slice none 0 0]) ?_ 0 _ rfl; (with_reducible repeat (first | refine blk_drewN ?_ _ | refine blk_drew ?_ | refine blk_alloc ?_ _)); exact BK110.out⟩, ⟨by repeat (first | (with_reducible first | exact HB.out | apply below_alloc | apply pw_below_drewN | apply below_drew1 | refine below_set ?_ GE110.out) | exact HB.out)⟩⟩
     case round =>
      clear H'
      try clear c1
      try clear p2
      try clear c3
      try clear c7
      try clear c7b0
      try clear c7b1
      try clear c12
      try clear c13
      try clear hcz12_0
      try clear hcz12_1
      try clear hcz12_2
      try clear hfz12_0
      try clear hfz12_1
      try clear hfz12_2
      obtain ⟨x7_1, x8_1, rfl, rfl, HA, HK1, HO_111002, BK110, HB⟩ := hrel
      cases gk with
      | zero => exact absurd HA.out (by simp [minuetlaw12_GoodTrees.l0])
      | succ k1 =>
       have H := HA.out
       clear HA
       simp only [minuetlaw12_GoodTrees.l0] at H
       by_cases c14 : x8_1 < (t106.length : Int)
       · rw [if_pos c14] at H
         have c14b0 : decide (x8_1 < (t106.length : Int)) = true := decide_eq_true c14
         clear c14
         by_cases c15 : 0 ≤ x8_1
         · rw [if_pos c15] at H
           have c15b0 : decide (0 ≤ x8_1) = true := decide_eq_true c15
           clear c15
           by_cases c16 : ((rd_T34 t106 x8_1).f1) = 7
           · rw [if_pos c16] at H
             have c16b0 : (((rd_T34 t106 x8_1).f1) == 7) = true := beq_iff_eq.mpr c16
             have c16b1 : (((rd_T34 t106 x8_1).f1) != 7) = false := bne_eq_false_iff_eq.mpr c16
             clear c16
             have H' := Aside0.mk H
             clear H
             have hcz17_0 : wr.cell? ⟨gb110, 0, none⟩ = some (.int .i64 t104) := (blk_cell BK110.out 0).trans rfl
             have hcz17_1 : wr.cell? ⟨gb110, 1, none⟩ = some (.int .i64 t105) := (blk_cell BK110.out 1).trans rfl
             have hcz17_2 : wr.cell? ⟨gb110, 2, none⟩ = some (.slice Ao13 t106.length co13) := (blk_cell BK110.out 2).trans rfl
             have hfz17_0 := blk_frozen BK110.out 0
             have hfz17_1 := blk_frozen BK110.out 1
             have hfz17_2 := blk_frozen BK110.out 2
             have p113 : 0 ≤ (x8_1 : Int) := of_decide_eq_true (by first | (with_reducible assumption) | assumption)
             have q113 : x8_1 < (t106.length : Int) := of_decide_eq_true (by first | (with_reducible assumption) | assumption)
             obtain ⟨ad113, A113_4, c113_4, e113, hx113_0, hx113_1, hx113_2, hx113_3, hx113_4, hl113_4, hi113_4⟩ := at_T34 (Kd.S_reads' HO_111002.out).2.2 x8_1 p113 q113
             cases e113
             obtain ⟨ce113, hce113, hMe113, hcc113⟩ := Kd.S_get HO_111002.out z34 x8_1 p113 (by first | exact q113 | exact of_decide_eq_true (by first | (with_reducible assumption) | assumption) | (have e_ := (Kd.S_reads' HO_111002.out).1; omega))
             obtain ⟨ve113_4, rfl, ge113_4⟩ := k34_openM hMe113
             have hv113_4 := hcc113 4 _ rfl
             rw [add_field _ _ 4 (by omega)] at hv113_4
             replace hv113_4 := Option.some.inj (hv113_4.symm.trans hx113_4)
             rw [hv113_4] at ge113_4
             have HL113_4 := Aside0.mk (show Kd.R (Kd.int .i64) 3 _ _ _ _ ((rd_T34 t106 x8_1).f4) from ge113_4)
             clear hv113_4 ge113_4
             clear hcc113 hce113
             have HR113_4 := Aside0.mk hi113_4
             have HC113_4 := Aside0.mk hl113_4
             clear hi113_4 hl113_4
             replace p113 := eq_true p113
             replace q113 := eq_true q113
             go_wp2
             go_roundg k1
             case measure => have := HK1.out; omega
             case rel => exact ⟨(wrap64 (x7_1 + 1)), (wrap64 (x8_1 + 1)), (by first | rfl | (simp; done) | (simp [*]; done)), (by first | rfl | (simp; done) | (simp [*]; done)), H', ⟨by have := HK1.out; omega⟩, ⟨by (with_reducible repeat (first | apply Kd.S_alloc | apply Kd.S_drewN | apply Kd.S_drew)); exact HO_111002.out⟩, ⟨by (with_reducible repeat (first | refine blk_drewN ?_ _ | refine blk_drew ?_ | refine blk_alloc ?_ _)); exact BK110.out⟩, ⟨by repeat (first | (with_reducible first | exact HB.out | apply below_alloc | apply pw_below_drewN | apply below_drew1 | refine below_set ?_ GE110.out) | exact HB.out)⟩⟩
           · rw [if_neg c16] at H
             have c16b0 : (((rd_T34 t106 x8_1).f1) == 7) = false := beq_eq_false_iff_ne.mpr c16
             have c16b1 : (((rd_T34 t106 x8_1).f1) != 7) = true := bne_iff_ne.mpr c16
             have H' := Aside0.mk H
             clear H
             have hcz18_0 : wr.cell? ⟨gb110, 0, none⟩ = some (.int .i64 t104) := (blk_cell BK110.out 0).trans rfl
             have hcz18_1 : wr.cell? ⟨gb110, 1, none⟩ = some (.int .i64 t105) := (blk_cell BK110.out 1).trans rfl
             have hcz18_2 : wr.cell? ⟨gb110, 2, none⟩ = some (.slice Ao13 t106.length co13) := (blk_cell BK110.out 2).trans rfl
             have hfz18_0 := blk_frozen BK110.out 0
             have hfz18_1 := blk_frozen BK110.out 1
             have hfz18_2 := blk_frozen BK110.out 2
             have p113 : 0 ≤ (x8_1 : Int) := of_decide_eq_true (by first | (with_reducible assumption) | assumption)
             have q113 : x8_1 < (t106.length : Int) := of_decide_eq_true (by first | (with_reducible assumption) | assumption)
             obtain ⟨ad113, A113_4, c113_4, e113, hx113_0, hx113_1, hx113_2, hx113_3, hx113_4, hl113_4, hi113_4⟩ := at_T34 (Kd.S_reads' HO_111002.out).2.2 x8_1 p113 q113
             cases e113
             obtain ⟨ce113, hce113, hMe113, hcc113⟩ := Kd.S_get HO_111002.out z34 x8_1 p113 (by first | exact q113 | exact of_decide_eq_true (by first | (with_reducible assumption) | assumption) | (have e_ := (Kd.S_reads' HO_111002.out).1; omega))
             obtain ⟨ve113_4, rfl, ge113_4⟩ := k34_openM hMe113
             have hv113_4 := hcc113 4 _ rfl
             rw [add_field _ _ 4 (by omega)] at hv113_4
             replace hv113_4 := Option.some.inj (hv113_4.symm.trans hx113_4)
             rw [hv113_4] at ge113_4
             have HL113_4 := Aside0.mk (show Kd.R (Kd.int .i64) 3 _ _ _ _ ((rd_T34 t106 x8_1).f4) from ge113_4)
             clear hv113_4 ge113_4
             clear hcc113 hce113
             have HR113_4 := Aside0.mk hi113_4
             have HC113_4 := Aside0.mk hl113_4
             clear hi113_4 hl113_4
             replace p113 := eq_true p113
             replace q113 := eq_true q113
             go_wp2
             go_roundg k1
             case measure => have := HK1.out; omega
             case rel => exact ⟨(x7_1), (wrap64 (x8_1 + 1)), (by first | rfl | (simp; done) | (simp [*]; done)), (by first | rfl | (simp; done) | (simp [*]; done)), H', ⟨by have := HK1.out; omega⟩, ⟨by (with_reducible repeat (first | apply Kd.S_alloc | apply Kd.S_drewN | apply Kd.S_drew)); exact HO_111002.out⟩, ⟨by (with_reducible repeat (first | refine blk_drewN ?_ _ | refine blk_drew ?_ | refine blk_alloc ?_ _)); exact BK110.out⟩, ⟨by repeat (first | (with_reducible first | exact HB.out | apply below_alloc | apply pw_below_drewN | apply below_drew1 | refine below_set ?_ GE110.out) | exact HB.out)⟩⟩
         · rw [if_neg c15] at H
           exact absurd H (by simp)
       · rw [if_neg c14] at H
         have c14b0 : decide (x8_1 < (t106.length : Int)) = false := decide_eq_false c14
         clear c14
         replace H := Option.bind_eq_some_iff.mp H
         obtain ⟨t114, A190, H⟩ := H
         replace H : (if t114 = 0 then (if (t102 == (x7_1 == 0)) = true then (some (decide ((t106.length : Int) > 1))) else (none)) else (none)) = some r := H
         have A19 := Aside0.mk A190
         clear A190
         by_cases c20 : t114 = 0
         · rw [if_pos c20] at H
           have c20b0 : (t114 == 0) = true := beq_iff_eq.mpr c20
           have c20b1 : (t114 != 0) = false := bne_eq_false_iff_eq.mpr c20
           clear c20
           by_cases c21 : (t102 == (x7_1 == 0)) = true
           · rw [if_pos c21] at H
             have c21b0 : (t102 == (x7_1 == 0)) = true := c21
             (try (have c21b1 : decide (t102 = (x7_1 == 0)) = true := by simpa using c21))
             (try (have c21b2 : (t102 == (x7_1 == 0)) = true := by simpa using c21))
             clear c21
             obtain rfl := Option.some.inj H
             have hcz22_0 : wr.cell? ⟨gb110, 0, none⟩ = some (.int .i64 t104) := (blk_cell BK110.out 0).trans rfl
             have hcz22_1 : wr.cell? ⟨gb110, 1, none⟩ = some (.int .i64 t105) := (blk_cell BK110.out 1).trans rfl
             have hcz22_2 : wr.cell? ⟨gb110, 2, none⟩ = some (.slice Ao13 t106.length co13) := (blk_cell BK110.out 2).trans rfl
             have hfz22_0 := blk_frozen BK110.out 0
             have hfz22_1 := blk_frozen BK110.out 1
             have hfz22_2 := blk_frozen BK110.out 2
             go_wp2_with (first | ((with_reducible refine gate_callee (f := 15) rfl ?_); refine goesL_ (some 48) rfl rfl Try.func15 (by kernel_rfl) rfl #[.int .i64 t109] rfl (by (try simp only [List.map_toArray, List.map_cons, List.map_nil]); first | done | rfl | (simp only [List.length_drop, List.length_take]; rfl)) ?_; (with_reducible refine (minuetlaw0_Num.calls t109 t114 _ A19.out).mono ?_); rintro e w' ⟨rfl, ⟨nd, rfl⟩⟩; refine ⟨_, rfl, ?_⟩))
             go_ret
             exact ⟨by first | rfl | (simp [errW_none, errW_some] <;> rfl) | (simp [*, errW_none, errW_some] <;> rfl), by repeat (first | (with_reducible first | exact HB.out | apply below_alloc | apply pw_below_drewN | apply below_drew1 | refine below_set ?_ GE110.out) | exact HB.out)⟩
           · rw [if_neg c21] at H
             exact absurd H (by simp)
         · rw [if_neg c20] at H
           exact absurd H (by simp)
   · rw [if_neg c7] at H
     have c7b0 : (t111 == 0) = false := beq_eq_false_iff_ne.mpr c7
     have c7b1 : (t111 != 0) = true := bne_iff_ne.mpr c7
     by_cases c23 : t102 = true
     · subst c23
       have H1 : (none) = some r := by rw [if_pos rfl] at H; exact H
       clear H
       have H := H1
       clear H1
       exact absurd H (by simp)
     · replace c23 := Bool.eq_false_iff.mpr c23
       subst c23
       have H1 : ((minuetlaw0_Num.f t109).bind fun t112 => (some (t112 == 1100))) = some r := by rw [if_neg (show ¬ (false = true) by decide)] at H; exact H
       clear H
       have H := H1
       clear H1
       replace H := Option.bind_eq_some_iff.mp H
       obtain ⟨t112, A240, H⟩ := H
       replace H : (some (t112 == 1100)) = some r := H
       have A24 := Aside0.mk A240
       clear A240
       obtain rfl := Option.some.inj H
       go_enter Try.func3, Try.ntmps3
       go_wp2_with (first | ((with_reducible refine gate_callee (f := 12) rfl ?_); refine goesL_ (some 9) rfl rfl Try.func12 (by kernel_rfl) rfl #[] rfl (by (try simp only [List.map_toArray, List.map_cons, List.map_nil]); first | done | rfl | (simp only [List.length_drop, List.length_take]; rfl)) ?_; (with_reducible refine (minuetlaw12_awake.calls  true _ (MaxOk.of HM_.out (by repeat (first | (with_reducible first | exact HB.out | apply below_alloc | apply pw_below_drewN | apply below_drew1) | exact HB.out))) A2.out).mono ?_); rintro e w25 ⟨rfl, hb⟩; refine ⟨_, rfl, ?_⟩; have n0_ := Aside0.mk (below_step (by repeat (first | (with_reducible first | exact HB.out | apply below_alloc | apply pw_below_drewN | apply below_drew1) | exact HB.out)) hb); clear HB; have HB := n0_; clear n0_; (try clear hb); (try clear hb2); (try clear hk); (try clear hi)) | ((with_reducible refine gate_callee (f := 13) rfl ?_); refine goesL_ (some 13) rfl rfl Try.func13 (by kernel_rfl) rfl #[.string a0] rfl (by (try simp only [List.map_toArray, List.map_cons, List.map_nil]); first | done | rfl | (simp only [List.length_drop, List.length_take]; rfl)) ?_; (with_reducible refine (good_Good.calls a0 false t103 _ (MaxOk.of HM_.out (by repeat (first | (with_reducible first | exact HB.out | apply below_alloc | apply pw_below_drewN | apply below_drew1) | exact HB.out))) A4.out).mono ?_); rintro e w26 ⟨rfl, hb⟩; refine ⟨_, rfl, ?_⟩; have n0_ := Aside0.mk (below_step (by repeat (first | (with_reducible first | exact HB.out | apply below_alloc | apply pw_below_drewN | apply below_drew1) | exact HB.out)) hb); clear HB; have HB := n0_; clear n0_; (try clear hb); (try clear hb2); (try clear hk); (try clear hi)) | ((with_reducible refine gate_callee (f := 14) rfl ?_); refine goesL_ (some 18) rfl rfl Try.func14 (by kernel_rfl) rfl #[.string a0] rfl (by (try simp only [List.map_toArray, List.map_cons, List.map_nil]); first | done | rfl | (simp only [List.length_drop, List.length_take]; rfl)) ?_; (with_reducible refine (parse_Parse.calls a0 t104 t105 t106 t109 _ (MaxOk.of HM_.out (by repeat (first | (with_reducible first | exact HB.out | apply below_alloc | apply pw_below_drewN | apply below_drew1) | exact HB.out))) A5.out).mono ?_); rintro e w27 ⟨v107, rfl, ho0, hb⟩; refine ⟨_, rfl, ?_⟩; have n0_ := Aside0.mk (Kd.S_lower ho0 (below_size (by repeat (first | (with_reducible first | exact HB.out | apply below_alloc | apply pw_below_drewN | apply below_drew1) | exact HB.out)))); have n1_ := Aside0.mk (below_step (by repeat (first | (with_reducible first | exact HB.out | apply below_alloc | apply pw_below_drewN | apply below_drew1) | exact HB.out)) hb); clear HB; have HO108 := n0_; have HB := n1_; clear n0_ n1_; (try clear hb); (try clear hb2); (try clear hk); (try clear hi); (try clear ho0)) | ((with_reducible refine gate_dst (N := 5) rfl ?_); (try (refine gate_guard (by rfl) ?_; dsimp only)); refine box_event ?hg (N := 5) ?hd (cs := #[.int .i64 0, .int .i64 0, .slice none 0 0]) (t := 28) ?hr ?_; (case hd => rfl); (case hg => rfl); (case hr => first | (go_simp; done) | (go_simp; rfl)); intro gb110 hg w28 hbox hb; have n0_ := Aside0.mk (Kd.S_below (by (with_reducible repeat (first | apply Kd.S_alloc | apply Kd.S_drewN | apply Kd.S_drew)); exact HO108.out) hb); have n1_ := Aside0.mk (below_step (by repeat (first | (with_reducible first | exact HB.out | apply below_alloc | apply pw_below_drewN | apply below_drew1) | exact HB.out)) hb); have n2_ := Aside0.mk (hbox); have n3_ := Aside0.mk ((by rw [hg]; exact (below_size (by repeat (first | (with_reducible first | exact HB.out | apply below_alloc | apply pw_below_drewN | apply below_drew1) | exact HB.out))) : w.heap.size ≤ gb110)); have n4_ := Aside0.mk ((by rw [hg]; exact (below_size (by repeat (first | (with_reducible first | exact HB.out | apply below_alloc | apply pw_below_drewN | apply below_drew1) | exact HB.out))) : w.heap.size ≤ gb110)); clear HO108; clear HB; have HO108 := n0_; have HB := n1_; have BK110 := n2_; have GW110 := n3_; have GE110 := n4_; clear n0_ n1_ n2_ n3_ n4_; clear hb hbox hg; have hcz29_0 : w28.cell? ⟨gb110, 0, none⟩ = some (.int .i64 0) := (blk_cell BK110.out 0).trans rfl; have hcz29_1 : w28.cell? ⟨gb110, 1, none⟩ = some (.int .i64 0) := (blk_cell BK110.out 1).trans rfl; have hcz29_2 : w28.cell? ⟨gb110, 2, none⟩ = some (.slice none 0 0) := (blk_cell BK110.out 2).trans rfl; have hfz29_0 := blk_frozen BK110.out 0; have hfz29_1 := blk_frozen BK110.out 1; have hfz29_2 := blk_frozen BK110.out 2; obtain ⟨Ao30, co30, eo30⟩ := Kd.S_slice HO108.out; subst eo30) | ((with_reducible refine gate_callee (f := 15) rfl ?_); refine goesL_ (some 22) rfl rfl Try.func15 (by kernel_rfl) rfl #[.int .i64 t103] rfl (by (try simp only [List.map_toArray, List.map_cons, List.map_nil]); first | done | rfl | (simp only [List.length_drop, List.length_take]; rfl)) ?_; (with_reducible refine (minuetlaw0_Num.calls t103 t111 _ A6.out).mono ?_); rintro e w' ⟨rfl, ⟨nd, rfl⟩⟩; refine ⟨_, rfl, ?_⟩) | (go_at_call 15; (with_reducible refine (minuetlaw0_Num.calls t109 t112 _ A24.out).mono ?_); rintro e w' ⟨rfl, ⟨nd, rfl⟩⟩))
       go_ret
       exact ⟨by first | rfl | (simp [errW_none, errW_some] <;> rfl) | (simp [*, errW_none, errW_some] <;> rfl), by repeat (first | (with_reducible first | exact HB.out | apply below_alloc | apply pw_below_drewN | apply below_drew1 | refine below_set ?_ GE110.out) | exact HB.out)⟩
 · replace c3 := Bool.eq_false_iff.mpr c3
   subst c3
   have H1 : (none) = some r := by rw [if_neg (show ¬ (false = true) by decide)] at H; exact H
   clear H
   have H := H1
   clear H1
   exact absurd H (by simp)

/-- THE ONE PURE STATEMENT of minuetlaw12_GoodTrees: yours. -/
def minuetlaw12_GoodTrees.Pure : Prop := ∀ (a0 : ByteArray), a0.size ≤ 140737488351232 → ∃ k, minuetlaw12_GoodTrees.f k a0 = some true
theorem minuetlaw12_GoodTrees.walk (P : minuetlaw12_GoodTrees.Pure) (a0 : ByteArray) (w : World) (hm_ : MaxOk w) (w0 : a0.size ≤ 140737488351232) :
 Calls Try.prog 3 #[.string a0] w fun e w' => e = .returned (.bool true) ∧ Below w.heap.size w w' := by
 obtain ⟨k, h⟩ := P a0 w0
 refine (minuetlaw12_GoodTrees.calls k a0 true w hm_ h).mono ?_
 rintro e w' ⟨rfl, hd⟩
 exact ⟨rfl, hd⟩

end Go.Proofs.Ytehojohacombkaa.G
