-- Laid by this session's own program gprint.py (wip/tools), out of the kit's print and of texts of this session. Lean checks it.
import Derived.Test.YtehojohacombkaaGx0
import Derived.Test.YtehojohacombkaaGMinuetlaw0PNum
import Derived.Test.YtehojohacombkaaGParsePParse
import Derived.Test.YtehojohacombkaaGParsePMay
import Derived.Test.YtehojohacombkaaGMinuetlaw11qawake
namespace Go.Proofs.Ytehojohacombkaa.G
open Go.RowKit Go.Proofs.YtehojohacombkaaW.PrintWords Go.Proofs.YtehojohacombkaaW.PrintLast Go.Proofs.YtehojohacombkaaW.PrintMore
attribute [local go_sem] max2_int min2_int max_two min_two max_three min_three max_four min_four   -- for this text's walks alone
set_option linter.unusedVariables false
set_option linter.unusedSimpArgs false

/-! ### minuetlaw11_ParseForms: function 9 -/
def minuetlaw11_ParseForms.j0 : Nat → Int → Int → Bool → Int → Int → List (S34) → Option (Bool)
 | 0, _, _, _, _, _, _ => none
 | k + 1, x0, x5, x31, x109000, x109001, x109002 => if x31 = true then (none) else (if (Int.tmod (IntKind.u64.wrap (x0)) 18) = 0 then ((parse_May.f x109000 x109001 x109002 (wrap64 (13 + x5))).bind fun t111 => (some (!t111))) else (if (Int.tmod (IntKind.u64.wrap (x0)) 18) = 1 then ((parse_May.f x109000 x109001 x109002 (wrap64 (-x5))).bind fun t112 => (some (!t112))) else (if (Int.tmod (IntKind.u64.wrap (x0)) 18) = 2 then ((parse_May.f 1 x109001 x109002 13).bind fun t113 => (some (!t113))) else (if (Int.tmod (IntKind.u64.wrap (x0)) 18) = 3 then ((parse_May.f x109000 6 x109002 13).bind fun t114 => (some (!t114))) else (if (Int.tmod (IntKind.u64.wrap (x0)) 18) = 4 then ((parse_May.f x109000 (wrap64 (16777216 + x5)) x109002 13).bind fun t115 => (some (!t115))) else (if (Int.tmod (IntKind.u64.wrap (x0)) 18) = 5 then (if 2 < (x109002.length : Int) then ((parse_May.f x109000 x109001 (x109002.set (2 : Int).toNat (⟨1, (rd_T34 x109002 2).f1, (rd_T34 x109002 2).f2, (rd_T34 x109002 2).f3, (rd_T34 x109002 2).f4⟩ : S34)) 13).bind fun t117 => (some (!t117))) else (none)) else (if (Int.tmod (IntKind.u64.wrap (x0)) 18) = 6 then (if 6 < (x109002.length : Int) then ((parse_May.f x109000 x109001 (x109002.set (6 : Int).toNat (⟨wrap64 (6 + x5), (rd_T34 x109002 6).f1, (rd_T34 x109002 6).f2, (rd_T34 x109002 6).f3, (rd_T34 x109002 6).f4⟩ : S34)) 13).bind fun t119 => (some (!t119))) else (none)) else (if (Int.tmod (IntKind.u64.wrap (x0)) 18) = 7 then (if 2 < (x109002.length : Int) then ((parse_May.f x109000 x109001 (x109002.set (2 : Int).toNat (⟨(rd_T34 x109002 2).f0, wrap64 (7 + x5), (rd_T34 x109002 2).f2, (rd_T34 x109002 2).f3, (rd_T34 x109002 2).f4⟩ : S34)) 13).bind fun t121 => (some (!t121))) else (none)) else (if (Int.tmod (IntKind.u64.wrap (x0)) 18) = 8 then (if 2 < (x109002.length : Int) then ((parse_May.f x109000 x109001 (x109002.set (2 : Int).toNat (⟨(rd_T34 x109002 2).f0, 0, (rd_T34 x109002 2).f2, (rd_T34 x109002 2).f3, (rd_T34 x109002 2).f4⟩ : S34)) 13).bind fun t123 => (some (!t123))) else (none)) else (if (Int.tmod (IntKind.u64.wrap (x0)) 18) = 9 then (if 2 < (x109002.length : Int) then ((parse_May.f x109000 x109001 (x109002.set (2 : Int).toNat (⟨(rd_T34 x109002 2).f0, (rd_T34 x109002 2).f1, wrap64 (-x5), (rd_T34 x109002 2).f3, (rd_T34 x109002 2).f4⟩ : S34)) 13).bind fun t125 => (some (!t125))) else (none)) else (if (Int.tmod (IntKind.u64.wrap (x0)) 18) = 10 then (if 2 < (x109002.length : Int) then ((parse_May.f x109000 x109001 (x109002.set (2 : Int).toNat (⟨(rd_T34 x109002 2).f0, (rd_T34 x109002 2).f1, (rd_T34 x109002 2).f2, 0, (rd_T34 x109002 2).f4⟩ : S34)) 13).bind fun t127 => (some (!t127))) else (none)) else (if (Int.tmod (IntKind.u64.wrap (x0)) 18) = 11 then (if 6 < (x109002.length : Int) then ((parse_May.f x109000 x109001 (x109002.set (6 : Int).toNat (⟨(rd_T34 x109002 6).f0, (rd_T34 x109002 6).f1, (rd_T34 x109002 6).f2, wrap64 (13 + x5), (rd_T34 x109002 6).f4⟩ : S34)) 13).bind fun t129 => (some (!t129))) else (none)) else (if (Int.tmod (IntKind.u64.wrap (x0)) 18) = 12 then (if 1 < (x109002.length : Int) then ((parse_May.f x109000 x109001 (x109002.set (1 : Int).toNat (⟨(rd_T34 x109002 1).f0, (rd_T34 x109002 1).f1, (rd_T34 x109002 1).f2, (rd_T34 x109002 1).f3, (([2, 2, 3] : List Int))⟩ : S34)) 13).bind fun t134 => (some (!t134))) else (none)) else (if (Int.tmod (IntKind.u64.wrap (x0)) 18) = 13 then (if 1 < (x109002.length : Int) then ((parse_May.f x109000 x109001 (x109002.set (1 : Int).toNat (⟨(rd_T34 x109002 1).f0, (rd_T34 x109002 1).f1, (rd_T34 x109002 1).f2, (rd_T34 x109002 1).f3, (([3, 2] : List Int))⟩ : S34)) 13).bind fun t139 => (some (!t139))) else (none)) else (if (Int.tmod (IntKind.u64.wrap (x0)) 18) = 14 then (if 1 < (x109002.length : Int) then ((parse_May.f x109000 x109001 (x109002.set (1 : Int).toNat (⟨(rd_T34 x109002 1).f0, (rd_T34 x109002 1).f1, (rd_T34 x109002 1).f2, (rd_T34 x109002 1).f3, (([2] : List Int))⟩ : S34)) 13).bind fun t144 => (some (!t144))) else (none)) else (if (Int.tmod (IntKind.u64.wrap (x0)) 18) = 15 then (if 2 < (x109002.length : Int) then ((parse_May.f x109000 x109001 (x109002.set (2 : Int).toNat (⟨(rd_T34 x109002 2).f0, (rd_T34 x109002 2).f1, (rd_T34 x109002 2).f2, (rd_T34 x109002 2).f3, (([4] : List Int))⟩ : S34)) 13).bind fun t149 => (some (!t149))) else (none)) else (if (Int.tmod (IntKind.u64.wrap (x0)) 18) = 16 then (if 1 < (x109002.length : Int) then ((parse_May.f x109000 x109001 (x109002.set (1 : Int).toNat (⟨(rd_T34 x109002 1).f0, (rd_T34 x109002 1).f1, (rd_T34 x109002 1).f2, (rd_T34 x109002 1).f3, (([2, 3, wrap64 (6 + x5)] : List Int))⟩ : S34)) 13).bind fun t154 => (some (!t154))) else (none)) else ((parse_May.f x109000 x109001 ([] : List (S34)) 13).bind fun t155 => (some (!t155))))))))))))))))))))
def minuetlaw11_ParseForms.f (k : Nat) (a0 : Int) (a1 : Int) : Option (Bool) := (minuetlaw11_awake.f k).bind fun t101 => (if t101 = true then ((parse_Parse.f (⟨#[91, 49, 44, 32, 123, 34, 97, 34, 58, 32, 50, 125, 93]⟩ : ByteArray)).bind fun bt102 => ((minuetlaw0_Num.f bt102.2.2.2).bind fun t109 => (if t109 = 0 then (if (bt102.2.2.1.length : Int) = 7 then ((parse_May.f bt102.1 bt102.2.1 bt102.2.2.1 13).bind fun t110 => (minuetlaw11_ParseForms.j0 k a0 (wrap64 (1 + (Go.bits .and .i64 a1 1023))) (!t110) bt102.1 bt102.2.1 bt102.2.2.1)) else (minuetlaw11_ParseForms.j0 k a0 (wrap64 (1 + (Go.bits .and .i64 a1 1023))) true bt102.1 bt102.2.1 bt102.2.2.1)) else (minuetlaw11_ParseForms.j0 k a0 (wrap64 (1 + (Go.bits .and .i64 a1 1023))) true bt102.1 bt102.2.1 bt102.2.2.1)))) else (none))
theorem minuetlaw11_ParseForms.mono_l : ∀ k, (∀ y0 y1 y2 y3 y4 y5, LeO (minuetlaw11_ParseForms.j0 k y0 y1 y2 y3 y4 y5) (minuetlaw11_ParseForms.j0 (k + 1) y0 y1 y2 y3 y4 y5))
 | 0 => fun _ _ _ _ _ _ r h => by simp [minuetlaw11_ParseForms.j0] at h
 | k + 1 => by
  have ih0 := minuetlaw11_ParseForms.mono_l k
  · intro y0 y1 y2 y3 y4 y5
    unfold minuetlaw11_ParseForms.j0
    repeat' first
    | (with_reducible exact ih0 _ _ _ _ _ _)
    | (with_reducible exact minuetlaw11_awake.mono _)
    | (with_reducible exact LeO.refl _)
    | (with_reducible exact LeO.none _)
    | (with_reducible refine LeO.ite ?_ ?_)
    | (with_reducible refine LeO.bind ?_ (fun _ => ?_))
    | exact ih0 _ _ _ _ _ _
    | exact minuetlaw11_awake.mono _
    | exact LeO.none _
    | refine LeO.ite ?_ ?_
    | refine LeO.bind ?_ (fun _ => ?_)
theorem minuetlaw11_ParseForms.mono : ∀ a0 a1 k, LeO (minuetlaw11_ParseForms.f k a0 a1) (minuetlaw11_ParseForms.f (k + 1) a0 a1) := by
 intro a0 a1 k
 have ih0 := minuetlaw11_ParseForms.mono_l k
 unfold minuetlaw11_ParseForms.f
 repeat' first
  | (with_reducible exact ih0 _ _ _ _ _ _)
  | (with_reducible exact minuetlaw11_awake.mono _)
  | (with_reducible exact LeO.refl _)
  | (with_reducible exact LeO.none _)
  | (with_reducible refine LeO.ite ?_ ?_)
  | (with_reducible refine LeO.bind ?_ (fun _ => ?_))
  | exact ih0 _ _ _ _ _ _
  | exact minuetlaw11_awake.mono _
  | exact LeO.none _
  | refine LeO.ite ?_ ?_
  | refine LeO.bind ?_ (fun _ => ?_)
set_option maxHeartbeats 8000000 in
set_option maxRecDepth 100000 in
theorem minuetlaw11_ParseForms.calls (k : Nat) (a0 : Int) (a1 : Int) (r : Bool) (w : World) (hm_ : MaxOk w) (h : minuetlaw11_ParseForms.f k a0 a1 = some r) :
 Calls Try.prog 9 #[.int .i64 a0, .int .i64 a1] w fun e w' => e = .returned (.bool r) ∧ Below w.heap.size w w' := by
 have HM_ := Aside0.mk hm_
 clear hm_
 have hu28 := Try.underlying28
 have HB := Aside0.mk (Below.refl w.heap.size w)
 have H : ((minuetlaw11_awake.f k).bind fun t101 => (if t101 = true then ((parse_Parse.f (⟨#[91, 49, 44, 32, 123, 34, 97, 34, 58, 32, 50, 125, 93]⟩ : ByteArray)).bind fun bt102 => ((minuetlaw0_Num.f bt102.2.2.2).bind fun t109 => (if t109 = 0 then (if (bt102.2.2.1.length : Int) = 7 then ((parse_May.f bt102.1 bt102.2.1 bt102.2.2.1 13).bind fun t110 => (minuetlaw11_ParseForms.j0 k a0 (wrap64 (1 + (Go.bits .and .i64 a1 1023))) (!t110) bt102.1 bt102.2.1 bt102.2.2.1)) else (minuetlaw11_ParseForms.j0 k a0 (wrap64 (1 + (Go.bits .and .i64 a1 1023))) true bt102.1 bt102.2.1 bt102.2.2.1)) else (minuetlaw11_ParseForms.j0 k a0 (wrap64 (1 + (Go.bits .and .i64 a1 1023))) true bt102.1 bt102.2.1 bt102.2.2.1)))) else (none))) = some r := h
 clear h
 replace H := Option.bind_eq_some_iff.mp H
 obtain ⟨t101, A30, H⟩ := H
 replace H : (if t101 = true then ((parse_Parse.f (⟨#[91, 49, 44, 32, 123, 34, 97, 34, 58, 32, 50, 125, 93]⟩ : ByteArray)).bind fun bt102 => ((minuetlaw0_Num.f bt102.2.2.2).bind fun t109 => (if t109 = 0 then (if (bt102.2.2.1.length : Int) = 7 then ((parse_May.f bt102.1 bt102.2.1 bt102.2.2.1 13).bind fun t110 => (minuetlaw11_ParseForms.j0 k a0 (wrap64 (1 + (Go.bits .and .i64 a1 1023))) (!t110) bt102.1 bt102.2.1 bt102.2.2.1)) else (minuetlaw11_ParseForms.j0 k a0 (wrap64 (1 + (Go.bits .and .i64 a1 1023))) true bt102.1 bt102.2.1 bt102.2.2.1)) else (minuetlaw11_ParseForms.j0 k a0 (wrap64 (1 + (Go.bits .and .i64 a1 1023))) true bt102.1 bt102.2.1 bt102.2.2.1)))) else (none)) = some r := H
 have A3 := Aside0.mk A30
 clear A30
 by_cases c4 : t101 = true
 · subst c4
   have H1 : ((parse_Parse.f (⟨#[91, 49, 44, 32, 123, 34, 97, 34, 58, 32, 50, 125, 93]⟩ : ByteArray)).bind fun bt102 => ((minuetlaw0_Num.f bt102.2.2.2).bind fun t109 => (if t109 = 0 then (if (bt102.2.2.1.length : Int) = 7 then ((parse_May.f bt102.1 bt102.2.1 bt102.2.2.1 13).bind fun t110 => (minuetlaw11_ParseForms.j0 k a0 (wrap64 (1 + (Go.bits .and .i64 a1 1023))) (!t110) bt102.1 bt102.2.1 bt102.2.2.1)) else (minuetlaw11_ParseForms.j0 k a0 (wrap64 (1 + (Go.bits .and .i64 a1 1023))) true bt102.1 bt102.2.1 bt102.2.2.1)) else (minuetlaw11_ParseForms.j0 k a0 (wrap64 (1 + (Go.bits .and .i64 a1 1023))) true bt102.1 bt102.2.1 bt102.2.2.1)))) = some r := by rw [if_pos rfl] at H; exact H
   clear H
   have H := H1
   clear H1
   replace H := Option.bind_eq_some_iff.mp H
   obtain ⟨⟨t102, t103, t104, t107⟩, A50, H⟩ := H
   replace H : ((minuetlaw0_Num.f t107).bind fun t109 => (if t109 = 0 then (if (t104.length : Int) = 7 then ((parse_May.f t102 t103 t104 13).bind fun t110 => (minuetlaw11_ParseForms.j0 k a0 (wrap64 (1 + (Go.bits .and .i64 a1 1023))) (!t110) t102 t103 t104)) else (minuetlaw11_ParseForms.j0 k a0 (wrap64 (1 + (Go.bits .and .i64 a1 1023))) true t102 t103 t104)) else (minuetlaw11_ParseForms.j0 k a0 (wrap64 (1 + (Go.bits .and .i64 a1 1023))) true t102 t103 t104))) = some r := H
   have A5 := Aside0.mk A50
   clear A50
   have HC6 := Aside0.mk H
   clear H
   go_enter Try.func9, Try.ntmps9
   go_upto_region 5 with (first | ((with_reducible refine gate_callee (f := 19) rfl ?_); refine goesL_ (some 9) rfl rfl Try.func19 (by kernel_rfl) rfl #[] rfl (by (try simp only [List.map_toArray, List.map_cons, List.map_nil]); first | done | rfl | (simp only [List.length_drop, List.length_take]; rfl)) ?_; (with_reducible refine (minuetlaw11_awake.calls k  true _ (MaxOk.of HM_.out (by repeat (first | (with_reducible first | exact HB.out | apply below_alloc | apply pw_below_drewN | apply below_drew1 | refine below_set ?_ GE108.out) | exact HB.out))) A3.out).mono ?_); rintro e w7 ⟨rfl, hb⟩; refine ⟨_, rfl, ?_⟩; have n0_ := Aside0.mk (below_step (by repeat (first | (with_reducible first | exact HB.out | apply below_alloc | apply pw_below_drewN | apply below_drew1) | exact HB.out)) hb); clear HB; have HB := n0_; clear n0_; (try clear hb); (try clear hb2); (try clear hk); (try clear hi)) | ((with_reducible refine gate_callee (f := 14) rfl ?_); refine goesL_ (some 15) rfl rfl Try.func14 (by kernel_rfl) rfl #[.string (⟨#[91, 49, 44, 32, 123, 34, 97, 34, 58, 32, 50, 125, 93]⟩ : ByteArray)] rfl (by (try simp only [List.map_toArray, List.map_cons, List.map_nil]); first | done | rfl | (simp only [List.length_drop, List.length_take]; rfl)) ?_; (with_reducible refine (parse_Parse.calls (⟨#[91, 49, 44, 32, 123, 34, 97, 34, 58, 32, 50, 125, 93]⟩ : ByteArray) t102 t103 t104 t107 _ (MaxOk.of HM_.out (by repeat (first | (with_reducible first | exact HB.out | apply below_alloc | apply pw_below_drewN | apply below_drew1 | refine below_set ?_ GE108.out) | exact HB.out))) A5.out).mono ?_); rintro e w8 ⟨v105, rfl, ho0, hb⟩; refine ⟨_, rfl, ?_⟩; have n0_ := Aside0.mk (Kd.S_lower ho0 (below_size (by repeat (first | (with_reducible first | exact HB.out | apply below_alloc | apply pw_below_drewN | apply below_drew1) | exact HB.out)))); have n1_ := Aside0.mk (below_step (by repeat (first | (with_reducible first | exact HB.out | apply below_alloc | apply pw_below_drewN | apply below_drew1) | exact HB.out)) hb); clear HB; have HO106 := n0_; have HB := n1_; clear n0_ n1_; (try clear hb); (try clear hb2); (try clear hk); (try clear hi); (try clear ho0)) | ((with_reducible refine gate_dst (N := 6) rfl ?_); (try (refine gate_guard (by rfl) ?_; dsimp only)); refine box_event ?hg (N := 6) ?hd (cs := #[.int .i64 0, .int .i64 0, .slice none 0 0]) (t := 28) ?hr ?_; (case hd => rfl); (case hg => rfl); (case hr => first | (go_simp; done) | (go_simp; rfl)); intro gb108 hg w9 hbox hb; have n0_ := Aside0.mk (Kd.S_below (by (with_reducible repeat (first | apply Kd.S_alloc | apply Kd.S_drewN | apply Kd.S_drew)); exact HO106.out) hb); have n1_ := Aside0.mk (below_step (by repeat (first | (with_reducible first | exact HB.out | apply below_alloc | apply pw_below_drewN | apply below_drew1) | exact HB.out)) hb); have n2_ := Aside0.mk (hbox); have n3_ := Aside0.mk ((by rw [hg]; exact (below_size (by repeat (first | (with_reducible first | exact HB.out | apply below_alloc | apply pw_below_drewN | apply below_drew1) | exact HB.out))) : w.heap.size ≤ gb108)); have n4_ := Aside0.mk ((by rw [hg]; exact (below_size (by repeat (first | (with_reducible first | exact HB.out | apply below_alloc | apply pw_below_drewN | apply below_drew1) | exact HB.out))) : w.heap.size ≤ gb108)); clear HO106; clear HB; have HO106 := n0_; have HB := n1_; have BK108 := n2_; have GW108 := n3_; have GE108 := n4_; clear n0_ n1_ n2_ n3_ n4_; clear hb hbox hg; have hcz10_0 : w9.cell? ⟨gb108, 0, none⟩ = some (.int .i64 0) := (blk_cell BK108.out 0).trans rfl; have hcz10_1 : w9.cell? ⟨gb108, 1, none⟩ = some (.int .i64 0) := (blk_cell BK108.out 1).trans rfl; have hcz10_2 : w9.cell? ⟨gb108, 2, none⟩ = some (.slice none 0 0) := (blk_cell BK108.out 2).trans rfl; have hfz10_0 := blk_frozen BK108.out 0; have hfz10_1 := blk_frozen BK108.out 1; have hfz10_2 := blk_frozen BK108.out 2; obtain ⟨Ao11, co11, eo11⟩ := Kd.S_slice HO106.out; subst eo11))
   (try simp only [Act.put, List.setIfInBounds_toArray, List.set_cons_zero, List.set_cons_succ])
   go_cut [31] (fun v31 wc => ∃ (kq : Nat) (x31_5 : Bool), v31 = .bool x31_5 ∧ Aside0 (minuetlaw11_ParseForms.j0 kq a0 (wrap64 (1 + (Go.bits .and .i64 a1 1023))) x31_5 t102 t103 t104 = some r) ∧ Aside0 (kq ≤ k) ∧ Aside0 (Kd.S k34 34 wc w.heap.size (fun _ => True) (.slice Ao11 t104.length co11) t104) ∧ Aside0 (wc.heap[gb108]? = some (.cells #[.int .i64 t102, .int .i64 t103, (.slice Ao11 t104.length co11)] 28 (0, 0))) ∧ Aside0 (Below w.heap.size w wc))
   case first =>
    have H := HC6.out
    clear HC6
    replace H := Option.bind_eq_some_iff.mp H
    obtain ⟨t109, A120, H⟩ := H
    replace H : (if t109 = 0 then (if (t104.length : Int) = 7 then ((parse_May.f t102 t103 t104 13).bind fun t110 => (minuetlaw11_ParseForms.j0 k a0 (wrap64 (1 + (Go.bits .and .i64 a1 1023))) (!t110) t102 t103 t104)) else (minuetlaw11_ParseForms.j0 k a0 (wrap64 (1 + (Go.bits .and .i64 a1 1023))) true t102 t103 t104)) else (minuetlaw11_ParseForms.j0 k a0 (wrap64 (1 + (Go.bits .and .i64 a1 1023))) true t102 t103 t104)) = some r := H
    have A12 := Aside0.mk A120
    clear A120
    by_cases c13 : t109 = 0
    · rw [if_pos c13] at H
      have c13b0 : (t109 == 0) = true := beq_iff_eq.mpr c13
      have c13b1 : (t109 != 0) = false := bne_eq_false_iff_eq.mpr c13
      clear c13
      (first | rw [c13b0] | (simp only [i64_w, i32_w]; rw [c13b0]) | skip)
      by_cases c14 : (t104.length : Int) = 7
      · rw [if_pos c14] at H
        have c14b0 : ((t104.length : Int) == 7) = true := beq_iff_eq.mpr c14
        have c14b1 : ((t104.length : Int) != 7) = false := bne_eq_false_iff_eq.mpr c14
        clear c14
        replace H := Option.bind_eq_some_iff.mp H
        obtain ⟨t110, A150, H⟩ := H
        replace H : (minuetlaw11_ParseForms.j0 k a0 (wrap64 (1 + (Go.bits .and .i64 a1 1023))) (!t110) t102 t103 t104) = some r := H
        have A15 := Aside0.mk A150
        clear A150
        have H' := Aside0.mk H
        clear H
        go_wp2_with (first | ((with_reducible refine gate_callee (f := 15) rfl ?_); refine goesL_ (some 19) rfl rfl Try.func15 (by kernel_rfl) rfl #[.int .i64 t107] rfl (by (try simp only [List.map_toArray, List.map_cons, List.map_nil]); first | done | rfl | (simp only [List.length_drop, List.length_take]; rfl)) ?_; (with_reducible refine (minuetlaw0_Num.calls t107 t109 _ A12.out).mono ?_); rintro e w' ⟨rfl, ⟨nd, rfl⟩⟩; refine ⟨_, rfl, ?_⟩; have hcz16_0 : w9.cell? ⟨gb108, 0, none⟩ = some (.int .i64 0) := (blk_cell BK108.out 0).trans rfl; have hcz16_1 : w9.cell? ⟨gb108, 1, none⟩ = some (.int .i64 0) := (blk_cell BK108.out 1).trans rfl; have hcz16_2 : w9.cell? ⟨gb108, 2, none⟩ = some (.slice none 0 0) := (blk_cell BK108.out 2).trans rfl; have hfz16_0 := blk_frozen BK108.out 0; have hfz16_1 := blk_frozen BK108.out 1; have hfz16_2 := blk_frozen BK108.out 2) | (go_at_call 21; (with_reducible refine (parse_May.calls t102 t103 _ _ t104 13 t110 _ ?side1 ?side2 A15.out).mono ?_); (case side1 => refine (Kd.S_reads' (e := 34) (base := w.heap.size) (ok := fun k_ => True) (n := t104.length) (c := co11) ?_).2.2; exact (by (with_reducible repeat (first | apply Kd.S_alloc | apply Kd.S_drewN | apply Kd.S_drew)); exact (Kd.S_mono (Kd.S_far (p := ⟨gb108, 2, none⟩) (Kd.S_far (p := ⟨gb108, 1, none⟩) (Kd.S_far (p := ⟨gb108, 0, none⟩) (Kd.S_types HO106.out BK108.out (by decide)) (fun _ hk => hk.2) (.int .i64 t102)) (fun _ hk => hk.2) (.int .i64 t103)) (fun _ hk => hk.2) (.slice Ao11 t104.length co11)) (fun _ h_ => h_.1)))); (case side2 => exact (Kd.S_reads' HO106.out).2.1); rintro e w17 ⟨rfl, hb⟩; have n0_ := Aside0.mk (Kd.S_below (by (with_reducible repeat (first | apply Kd.S_alloc | apply Kd.S_drewN | apply Kd.S_drew)); exact (Kd.S_mono (Kd.S_far (p := ⟨gb108, 2, none⟩) (Kd.S_far (p := ⟨gb108, 1, none⟩) (Kd.S_far (p := ⟨gb108, 0, none⟩) (Kd.S_types HO106.out BK108.out (by decide)) (fun _ hk => hk.2) (.int .i64 t102)) (fun _ hk => hk.2) (.int .i64 t103)) (fun _ hk => hk.2) (.slice Ao11 t104.length co11)) (fun _ h_ => h_.1))) hb); have n1_ := Aside0.mk (blk_below (g := gb108) (o := .cells #[.int .i64 t102, .int .i64 t103, .slice Ao11 t104.length co11] 28 (0, 0)) (by (with_reducible repeat (first | refine blk_drewN ?_ _ | refine blk_drew ?_ | refine blk_alloc ?_ _)); refine blk_put (cs := #[.int .i64 t102, .int .i64 t103, .slice none 0 0]) ?_ 2 _ rfl; (with_reducible repeat (first | refine blk_drewN ?_ _ | refine blk_drew ?_ | refine blk_alloc ?_ _)); refine blk_put (cs := #[.int .i64 t102, .int .i64 0, .slice none 0 0]) ?_ 1 _ rfl; (with_reducible repeat (first | refine blk_drewN ?_ _ | refine blk_drew ?_ | refine blk_alloc ?_ _)); refine blk_put (cs := #[.int .i64 0, .int .i64 0, .slice none 0 0]) ?_ 0 _ rfl; (with_reducible repeat (first | refine blk_drewN ?_ _ | refine blk_drew ?_ | refine blk_alloc ?_ _)); exact BK108.out) hb); have n2_ := Aside0.mk (below_step (by repeat (first | (with_reducible first | exact HB.out | apply below_alloc | apply pw_below_drewN | apply below_drew1 | refine below_set ?_ GE108.out) | exact HB.out)) hb); clear HO106; clear BK108; clear HB; have HO106 := n0_; have BK108 := n1_; have HB := n2_; clear n0_ n1_ n2_; (try clear hb); (try clear hb2); (try clear hk); (try clear hi)))
        go_meet
        case rel => exact ⟨_, (!t110), (by first | rfl | (simp; done) | (simp [*]; done)), H', ⟨by first | omega | exact Nat.le_refl _⟩, ⟨by (with_reducible repeat (first | apply Kd.S_alloc | apply Kd.S_drewN | apply Kd.S_drew)); exact HO106.out⟩, ⟨by (with_reducible repeat (first | refine blk_drewN ?_ _ | refine blk_drew ?_ | refine blk_alloc ?_ _)); exact BK108.out⟩, ⟨by repeat (first | (with_reducible first | exact HB.out | apply below_alloc | apply pw_below_drewN | apply below_drew1 | refine below_set ?_ GE108.out) | exact HB.out)⟩⟩
      · rw [if_neg c14] at H
        have c14b0 : ((t104.length : Int) == 7) = false := beq_eq_false_iff_ne.mpr c14
        have c14b1 : ((t104.length : Int) != 7) = true := bne_iff_ne.mpr c14
        have H' := Aside0.mk H
        clear H
        go_wp2_with (first | ((with_reducible refine gate_callee (f := 15) rfl ?_); refine goesL_ (some 19) rfl rfl Try.func15 (by kernel_rfl) rfl #[.int .i64 t107] rfl (by (try simp only [List.map_toArray, List.map_cons, List.map_nil]); first | done | rfl | (simp only [List.length_drop, List.length_take]; rfl)) ?_; (with_reducible refine (minuetlaw0_Num.calls t107 t109 _ A12.out).mono ?_); rintro e w' ⟨rfl, ⟨nd, rfl⟩⟩; refine ⟨_, rfl, ?_⟩; have hcz18_0 : w9.cell? ⟨gb108, 0, none⟩ = some (.int .i64 0) := (blk_cell BK108.out 0).trans rfl; have hcz18_1 : w9.cell? ⟨gb108, 1, none⟩ = some (.int .i64 0) := (blk_cell BK108.out 1).trans rfl; have hcz18_2 : w9.cell? ⟨gb108, 2, none⟩ = some (.slice none 0 0) := (blk_cell BK108.out 2).trans rfl; have hfz18_0 := blk_frozen BK108.out 0; have hfz18_1 := blk_frozen BK108.out 1; have hfz18_2 := blk_frozen BK108.out 2))
        go_meet
        case rel => exact ⟨_, (true), (by first | rfl | (simp; done) | (simp [*]; done)), H', ⟨by first | omega | exact Nat.le_refl _⟩, ⟨by (with_reducible repeat (first | apply Kd.S_alloc | apply Kd.S_drewN | apply Kd.S_drew)); exact Kd.S_mono (Kd.S_far (p := ⟨gb108, 2, none⟩) (Kd.S_far (p := ⟨gb108, 1, none⟩) (Kd.S_far (p := ⟨gb108, 0, none⟩) (Kd.S_types HO106.out BK108.out (by decide)) (fun _ hk => hk.2) (.int .i64 t102)) (fun _ hk => hk.2) (.int .i64 t103)) (fun _ hk => hk.2) (.slice Ao11 t104.length co11)) (fun _ hk => trivial)⟩, ⟨by (with_reducible repeat (first | refine blk_drewN ?_ _ | refine blk_drew ?_ | refine blk_alloc ?_ _)); refine blk_put (cs := #[.int .i64 t102, .int .i64 t103, .slice none 0 0]) ?_ 2 _ rfl; (with_reducible repeat (first | refine blk_drewN ?_ _ | refine blk_drew ?_ | refine blk_alloc ?_ _)); refine blk_put (cs := #[.int .i64 t102, .int .i64 0, .slice none 0 0]) ?_ 1 _ rfl; (with_reducible repeat (first | refine blk_drewN ?_ _ | refine blk_drew ?_ | refine blk_alloc ?_ _)); refine blk_put (cs := #[.int .i64 0, .int .i64 0, .slice none 0 0]) ?_ 0 _ rfl; (with_reducible repeat (first | refine blk_drewN ?_ _ | refine blk_drew ?_ | refine blk_alloc ?_ _)); exact BK108.out⟩, ⟨by repeat (first | (with_reducible first | exact HB.out | apply below_alloc | apply pw_below_drewN | apply below_drew1 | refine below_set ?_ GE108.out) | exact HB.out)⟩⟩
    · rw [if_neg c13] at H
      have c13b0 : (t109 == 0) = false := beq_eq_false_iff_ne.mpr c13
      have c13b1 : (t109 != 0) = true := bne_iff_ne.mpr c13
      (first | rw [c13b0] | (simp only [i64_w, i32_w]; rw [c13b0]) | skip)
      have H' := Aside0.mk H
      clear H
      go_wp2_with (first | ((with_reducible refine gate_callee (f := 15) rfl ?_); refine goesL_ (some 19) rfl rfl Try.func15 (by kernel_rfl) rfl #[.int .i64 t107] rfl (by (try simp only [List.map_toArray, List.map_cons, List.map_nil]); first | done | rfl | (simp only [List.length_drop, List.length_take]; rfl)) ?_; (with_reducible refine (minuetlaw0_Num.calls t107 t109 _ A12.out).mono ?_); rintro e w' ⟨rfl, ⟨nd, rfl⟩⟩; refine ⟨_, rfl, ?_⟩))
      go_meet
      case rel => exact ⟨_, (true), (by first | rfl | (simp; done) | (simp [*]; done)), H', ⟨by first | omega | exact Nat.le_refl _⟩, ⟨by (with_reducible repeat (first | apply Kd.S_alloc | apply Kd.S_drewN | apply Kd.S_drew)); exact Kd.S_mono (Kd.S_far (p := ⟨gb108, 2, none⟩) (Kd.S_far (p := ⟨gb108, 1, none⟩) (Kd.S_far (p := ⟨gb108, 0, none⟩) (Kd.S_types HO106.out BK108.out (by decide)) (fun _ hk => hk.2) (.int .i64 t102)) (fun _ hk => hk.2) (.int .i64 t103)) (fun _ hk => hk.2) (.slice Ao11 t104.length co11)) (fun _ hk => trivial)⟩, ⟨by (with_reducible repeat (first | refine blk_drewN ?_ _ | refine blk_drew ?_ | refine blk_alloc ?_ _)); refine blk_put (cs := #[.int .i64 t102, .int .i64 t103, .slice none 0 0]) ?_ 2 _ rfl; (with_reducible repeat (first | refine blk_drewN ?_ _ | refine blk_drew ?_ | refine blk_alloc ?_ _)); refine blk_put (cs := #[.int .i64 t102, .int .i64 0, .slice none 0 0]) ?_ 1 _ rfl; (with_reducible repeat (first | refine blk_drewN ?_ _ | refine blk_drew ?_ | refine blk_alloc ?_ _)); refine blk_put (cs := #[.int .i64 0, .int .i64 0, .slice none 0 0]) ?_ 0 _ rfl; (with_reducible repeat (first | refine blk_drewN ?_ _ | refine blk_drew ?_ | refine blk_alloc ?_ _)); exact BK108.out⟩, ⟨by repeat (first | (with_reducible first | exact HB.out | apply below_alloc | apply pw_below_drewN | apply below_drew1 | refine below_set ?_ GE108.out) | exact HB.out)⟩⟩
   case rest =>
    clear HC6
    try clear c1
    try clear p2
    try clear c4
    try clear p6
    try clear c9
    try clear c13
    try clear c13b0
    try clear c13b1
    try clear c14
    try clear c14b0
    try clear c14b1
    try clear c15
    try clear hcz10_0
    try clear hcz10_1
    try clear hcz10_2
    try clear hcz16_0
    try clear hcz16_1
    try clear hcz16_2
    try clear hcz18_0
    try clear hcz18_1
    try clear hcz18_2
    try clear hfz10_0
    try clear hfz10_1
    try clear hfz10_2
    try clear hfz16_0
    try clear hfz16_1
    try clear hfz16_2
    try clear hfz18_0
    try clear hfz18_1
    try clear hfz18_2
    obtain ⟨kq, x31_5, rfl, HA, HJ5, HO_109002, BK108, HB⟩ := hcut
    cases kq with
    | zero => exact absurd HA.out (by simp [minuetlaw11_ParseForms.j0])
    | succ kj5 =>
     have H := HA.out
     clear HA
     simp only [minuetlaw11_ParseForms.j0] at H
     by_cases c19 : x31_5 = true
     · subst c19
       have H1 : (none) = some r := by rw [if_pos rfl] at H; exact H
       clear H
       have H := H1
       clear H1
       exact absurd H (by simp)
     · replace c19 := Bool.eq_false_iff.mpr c19
       subst c19
       have H1 : (if (Int.tmod (IntKind.u64.wrap (a0)) 18) = 0 then ((parse_May.f t102 t103 t104 (wrap64 (13 + (wrap64 (1 + (Go.bits .and .i64 a1 1023)))))).bind fun t111 => (some (!t111))) else (if (Int.tmod (IntKind.u64.wrap (a0)) 18) = 1 then ((parse_May.f t102 t103 t104 (wrap64 (-(wrap64 (1 + (Go.bits .and .i64 a1 1023)))))).bind fun t112 => (some (!t112))) else (if (Int.tmod (IntKind.u64.wrap (a0)) 18) = 2 then ((parse_May.f 1 t103 t104 13).bind fun t113 => (some (!t113))) else (if (Int.tmod (IntKind.u64.wrap (a0)) 18) = 3 then ((parse_May.f t102 6 t104 13).bind fun t114 => (some (!t114))) else (if (Int.tmod (IntKind.u64.wrap (a0)) 18) = 4 then ((parse_May.f t102 (wrap64 (16777216 + (wrap64 (1 + (Go.bits .and .i64 a1 1023))))) t104 13).bind fun t115 => (some (!t115))) else (if (Int.tmod (IntKind.u64.wrap (a0)) 18) = 5 then (if 2 < (t104.length : Int) then ((parse_May.f t102 t103 (t104.set (2 : Int).toNat (⟨1, (rd_T34 t104 2).f1, (rd_T34 t104 2).f2, (rd_T34 t104 2).f3, (rd_T34 t104 2).f4⟩ : S34)) 13).bind fun t117 => (some (!t117))) else (none)) else (if (Int.tmod (IntKind.u64.wrap (a0)) 18) = 6 then (if 6 < (t104.length : Int) then ((parse_May.f t102 t103 (t104.set (6 : Int).toNat (⟨wrap64 (6 + (wrap64 (1 + (Go.bits .and .i64 a1 1023)))), (rd_T34 t104 6).f1, (rd_T34 t104 6).f2, (rd_T34 t104 6).f3, (rd_T34 t104 6).f4⟩ : S34)) 13).bind fun t119 => (some (!t119))) else (none)) else (if (Int.tmod (IntKind.u64.wrap (a0)) 18) = 7 then (if 2 < (t104.length : Int) then ((parse_May.f t102 t103 (t104.set (2 : Int).toNat (⟨(rd_T34 t104 2).f0, wrap64 (7 + (wrap64 (1 + (Go.bits .and .i64 a1 1023)))), (rd_T34 t104 2).f2, (rd_T34 t104 2).f3, (rd_T34 t104 2).f4⟩ : S34)) 13).bind fun t121 => (some (!t121))) else (none)) else (if (Int.tmod (IntKind.u64.wrap (a0)) 18) = 8 then (if 2 < (t104.length : Int) then ((parse_May.f t102 t103 (t104.set (2 : Int).toNat (⟨(rd_T34 t104 2).f0, 0, (rd_T34 t104 2).f2, (rd_T34 t104 2).f3, (rd_T34 t104 2).f4⟩ : S34)) 13).bind fun t123 => (some (!t123))) else (none)) else (if (Int.tmod (IntKind.u64.wrap (a0)) 18) = 9 then (if 2 < (t104.length : Int) then ((parse_May.f t102 t103 (t104.set (2 : Int).toNat (⟨(rd_T34 t104 2).f0, (rd_T34 t104 2).f1, wrap64 (-(wrap64 (1 + (Go.bits .and .i64 a1 1023)))), (rd_T34 t104 2).f3, (rd_T34 t104 2).f4⟩ : S34)) 13).bind fun t125 => (some (!t125))) else (none)) else (if (Int.tmod (IntKind.u64.wrap (a0)) 18) = 10 then (if 2 < (t104.length : Int) then ((parse_May.f t102 t103 (t104.set (2 : Int).toNat (⟨(rd_T34 t104 2).f0, (rd_T34 t104 2).f1, (rd_T34 t104 2).f2, 0, (rd_T34 t104 2).f4⟩ : S34)) 13).bind fun t127 => (some (!t127))) else (none)) else (if (Int.tmod (IntKind.u64.wrap (a0)) 18) = 11 then (if 6 < (t104.length : Int) then ((parse_May.f t102 t103 (t104.set (6 : Int).toNat (⟨(rd_T34 t104 6).f0, (rd_T34 t104 6).f1, (rd_T34 t104 6).f2, wrap64 (13 + (wrap64 (1 + (Go.bits .and .i64 a1 1023)))), (rd_T34 t104 6).f4⟩ : S34)) 13).bind fun t129 => (some (!t129))) else (none)) else (if (Int.tmod (IntKind.u64.wrap (a0)) 18) = 12 then (if 1 < (t104.length : Int) then ((parse_May.f t102 t103 (t104.set (1 : Int).toNat (⟨(rd_T34 t104 1).f0, (rd_T34 t104 1).f1, (rd_T34 t104 1).f2, (rd_T34 t104 1).f3, (([2, 2, 3] : List Int))⟩ : S34)) 13).bind fun t134 => (some (!t134))) else (none)) else (if (Int.tmod (IntKind.u64.wrap (a0)) 18) = 13 then (if 1 < (t104.length : Int) then ((parse_May.f t102 t103 (t104.set (1 : Int).toNat (⟨(rd_T34 t104 1).f0, (rd_T34 t104 1).f1, (rd_T34 t104 1).f2, (rd_T34 t104 1).f3, (([3, 2] : List Int))⟩ : S34)) 13).bind fun t139 => (some (!t139))) else (none)) else (if (Int.tmod (IntKind.u64.wrap (a0)) 18) = 14 then (if 1 < (t104.length : Int) then ((parse_May.f t102 t103 (t104.set (1 : Int).toNat (⟨(rd_T34 t104 1).f0, (rd_T34 t104 1).f1, (rd_T34 t104 1).f2, (rd_T34 t104 1).f3, (([2] : List Int))⟩ : S34)) 13).bind fun t144 => (some (!t144))) else (none)) else (if (Int.tmod (IntKind.u64.wrap (a0)) 18) = 15 then (if 2 < (t104.length : Int) then ((parse_May.f t102 t103 (t104.set (2 : Int).toNat (⟨(rd_T34 t104 2).f0, (rd_T34 t104 2).f1, (rd_T34 t104 2).f2, (rd_T34 t104 2).f3, (([4] : List Int))⟩ : S34)) 13).bind fun t149 => (some (!t149))) else (none)) else (if (Int.tmod (IntKind.u64.wrap (a0)) 18) = 16 then (if 1 < (t104.length : Int) then ((parse_May.f t102 t103 (t104.set (1 : Int).toNat (⟨(rd_T34 t104 1).f0, (rd_T34 t104 1).f1, (rd_T34 t104 1).f2, (rd_T34 t104 1).f3, (([2, 3, wrap64 (6 + (wrap64 (1 + (Go.bits .and .i64 a1 1023))))] : List Int))⟩ : S34)) 13).bind fun t154 => (some (!t154))) else (none)) else ((parse_May.f t102 t103 ([] : List (S34)) 13).bind fun t155 => (some (!t155)))))))))))))))))))) = some r := by rw [if_neg (show ¬ (false = true) by decide)] at H; exact H
       clear H
       have H := H1
       clear H1
       by_cases c20 : (Int.tmod (IntKind.u64.wrap (a0)) 18) = 0
       · rw [if_pos c20] at H
         have c20b0 : ((Int.tmod (IntKind.u64.wrap (a0)) 18) == 0) = true := beq_iff_eq.mpr c20
         have c20b1 : ((Int.tmod (IntKind.u64.wrap (a0)) 18) != 0) = false := bne_eq_false_iff_eq.mpr c20
         clear c20
         replace H := Option.bind_eq_some_iff.mp H
         obtain ⟨t111, A210, H⟩ := H
         replace H : (some (!t111)) = some r := H
         have A21 := Aside0.mk A210
         clear A210
         obtain rfl := Option.some.inj H
         have hcz22_0 : wc.cell? ⟨gb108, 0, none⟩ = some (.int .i64 t102) := (blk_cell BK108.out 0).trans rfl
         have hcz22_1 : wc.cell? ⟨gb108, 1, none⟩ = some (.int .i64 t103) := (blk_cell BK108.out 1).trans rfl
         have hcz22_2 : wc.cell? ⟨gb108, 2, none⟩ = some (.slice Ao11 t104.length co11) := (blk_cell BK108.out 2).trans rfl
         have hfz22_0 := blk_frozen BK108.out 0
         have hfz22_1 := blk_frozen BK108.out 1
         have hfz22_2 := blk_frozen BK108.out 2
         go_wp2_with (first | ((with_reducible refine gate_callee (f := 21) rfl ?_); refine goesL_ (some 144) rfl rfl Try.func21 (by kernel_rfl) rfl #[.agg #[.int .i64 t102, .int .i64 t103, .slice Ao11 t104.length co11], .int .i64 (wrap64 (13 + (wrap64 (1 + (Go.bits .and .i64 a1 1023)))))] rfl (by (try simp only [List.map_toArray, List.map_cons, List.map_nil]); first | done | rfl | (simp only [List.length_drop, List.length_take]; rfl)) ?_; (with_reducible refine (parse_May.calls t102 t103 _ _ t104 (wrap64 (13 + (wrap64 (1 + (Go.bits .and .i64 a1 1023))))) t111 _ ?side1 ?side2 A21.out).mono ?_); (case side1 => repeat (first | exact (Kd.S_reads' HO_109002.out).2.2 | (with_reducible refine Kd.C_alloc ?_ _) | (with_reducible refine Kd.C_drewN ?_ _) | (with_reducible refine Kd.C_drew ?_))); (case side2 => exact (Kd.S_reads' HO_109002.out).2.1); rintro e w23 ⟨rfl, hb⟩; refine ⟨_, rfl, ?_⟩; have n0_ := Aside0.mk (Kd.S_below (by (with_reducible repeat (first | apply Kd.S_alloc | apply Kd.S_drewN | apply Kd.S_drew)); exact HO_109002.out) hb); have n1_ := Aside0.mk (blk_below (g := gb108) (o := .cells #[.int .i64 t102, .int .i64 t103, .slice Ao11 t104.length co11] 28 (0, 0)) (by (with_reducible repeat (first | refine blk_drewN ?_ _ | refine blk_drew ?_ | refine blk_alloc ?_ _)); exact BK108.out) hb); have n2_ := Aside0.mk (below_step (by repeat (first | (with_reducible first | exact HB.out | apply below_alloc | apply pw_below_drewN | apply below_drew1 | refine below_set ?_ GE108.out) | exact HB.out)) hb); clear HO_109002; clear BK108; clear HB; have HO_109002 := n0_; have BK108 := n1_; have HB := n2_; clear n0_ n1_ n2_; (try clear hb); (try clear hb2); (try clear hk); (try clear hi)))
         go_ret
         exact ⟨by first | rfl | (simp [errW_none, errW_some] <;> rfl) | (simp [*, errW_none, errW_some] <;> rfl), by repeat (first | (with_reducible first | exact HB.out | apply below_alloc | apply pw_below_drewN | apply below_drew1 | refine below_set ?_ GE108.out) | exact HB.out)⟩
       · rw [if_neg c20] at H
         have c20b0 : ((Int.tmod (IntKind.u64.wrap (a0)) 18) == 0) = false := beq_eq_false_iff_ne.mpr c20
         have c20b1 : ((Int.tmod (IntKind.u64.wrap (a0)) 18) != 0) = true := bne_iff_ne.mpr c20
         by_cases c24 : (Int.tmod (IntKind.u64.wrap (a0)) 18) = 1
         · rw [if_pos c24] at H
           have c24b0 : ((Int.tmod (IntKind.u64.wrap (a0)) 18) == 1) = true := beq_iff_eq.mpr c24
           have c24b1 : ((Int.tmod (IntKind.u64.wrap (a0)) 18) != 1) = false := bne_eq_false_iff_eq.mpr c24
           clear c24
           replace H := Option.bind_eq_some_iff.mp H
           obtain ⟨t112, A250, H⟩ := H
           replace H : (some (!t112)) = some r := H
           have A25 := Aside0.mk A250
           clear A250
           obtain rfl := Option.some.inj H
           have hcz26_0 : wc.cell? ⟨gb108, 0, none⟩ = some (.int .i64 t102) := (blk_cell BK108.out 0).trans rfl
           have hcz26_1 : wc.cell? ⟨gb108, 1, none⟩ = some (.int .i64 t103) := (blk_cell BK108.out 1).trans rfl
           have hcz26_2 : wc.cell? ⟨gb108, 2, none⟩ = some (.slice Ao11 t104.length co11) := (blk_cell BK108.out 2).trans rfl
           have hfz26_0 := blk_frozen BK108.out 0
           have hfz26_1 := blk_frozen BK108.out 1
           have hfz26_2 := blk_frozen BK108.out 2
           go_wp2_with (first | ((with_reducible refine gate_callee (f := 21) rfl ?_); refine goesL_ (some 144) rfl rfl Try.func21 (by kernel_rfl) rfl #[.agg #[.int .i64 t102, .int .i64 t103, .slice Ao11 t104.length co11], .int .i64 (wrap64 (-(wrap64 (1 + (Go.bits .and .i64 a1 1023)))))] rfl (by (try simp only [List.map_toArray, List.map_cons, List.map_nil]); first | done | rfl | (simp only [List.length_drop, List.length_take]; rfl)) ?_; (with_reducible refine (parse_May.calls t102 t103 _ _ t104 (wrap64 (-(wrap64 (1 + (Go.bits .and .i64 a1 1023))))) t112 _ ?side1 ?side2 A25.out).mono ?_); (case side1 => repeat (first | exact (Kd.S_reads' HO_109002.out).2.2 | (with_reducible refine Kd.C_alloc ?_ _) | (with_reducible refine Kd.C_drewN ?_ _) | (with_reducible refine Kd.C_drew ?_))); (case side2 => exact (Kd.S_reads' HO_109002.out).2.1); rintro e w27 ⟨rfl, hb⟩; refine ⟨_, rfl, ?_⟩; have n0_ := Aside0.mk (Kd.S_below (by (with_reducible repeat (first | apply Kd.S_alloc | apply Kd.S_drewN | apply Kd.S_drew)); exact HO_109002.out) hb); have n1_ := Aside0.mk (blk_below (g := gb108) (o := .cells #[.int .i64 t102, .int .i64 t103, .slice Ao11 t104.length co11] 28 (0, 0)) (by (with_reducible repeat (first | refine blk_drewN ?_ _ | refine blk_drew ?_ | refine blk_alloc ?_ _)); exact BK108.out) hb); have n2_ := Aside0.mk (below_step (by repeat (first | (with_reducible first | exact HB.out | apply below_alloc | apply pw_below_drewN | apply below_drew1 | refine below_set ?_ GE108.out) | exact HB.out)) hb); clear HO_109002; clear BK108; clear HB; have HO_109002 := n0_; have BK108 := n1_; have HB := n2_; clear n0_ n1_ n2_; (try clear hb); (try clear hb2); (try clear hk); (try clear hi)))
           go_ret
           exact ⟨by first | rfl | (simp [errW_none, errW_some] <;> rfl) | (simp [*, errW_none, errW_some] <;> rfl), by repeat (first | (with_reducible first | exact HB.out | apply below_alloc | apply pw_below_drewN | apply below_drew1 | refine below_set ?_ GE108.out) | exact HB.out)⟩
         · rw [if_neg c24] at H
           have c24b0 : ((Int.tmod (IntKind.u64.wrap (a0)) 18) == 1) = false := beq_eq_false_iff_ne.mpr c24
           have c24b1 : ((Int.tmod (IntKind.u64.wrap (a0)) 18) != 1) = true := bne_iff_ne.mpr c24
           by_cases c28 : (Int.tmod (IntKind.u64.wrap (a0)) 18) = 2
           · rw [if_pos c28] at H
             have c28b0 : ((Int.tmod (IntKind.u64.wrap (a0)) 18) == 2) = true := beq_iff_eq.mpr c28
             have c28b1 : ((Int.tmod (IntKind.u64.wrap (a0)) 18) != 2) = false := bne_eq_false_iff_eq.mpr c28
             clear c28
             replace H := Option.bind_eq_some_iff.mp H
             obtain ⟨t113, A290, H⟩ := H
             replace H : (some (!t113)) = some r := H
             have A29 := Aside0.mk A290
             clear A290
             obtain rfl := Option.some.inj H
             have hcz30_0 : wc.cell? ⟨gb108, 0, none⟩ = some (.int .i64 t102) := (blk_cell BK108.out 0).trans rfl
             have hcz30_1 : wc.cell? ⟨gb108, 1, none⟩ = some (.int .i64 t103) := (blk_cell BK108.out 1).trans rfl
             have hcz30_2 : wc.cell? ⟨gb108, 2, none⟩ = some (.slice Ao11 t104.length co11) := (blk_cell BK108.out 2).trans rfl
             have hfz30_0 := blk_frozen BK108.out 0
             have hfz30_1 := blk_frozen BK108.out 1
             have hfz30_2 := blk_frozen BK108.out 2
             go_wp2_with (first | ((with_reducible refine gate_callee (f := 21) rfl ?_); refine goesL_ (some 144) rfl rfl Try.func21 (by kernel_rfl) rfl #[.agg #[.int .i64 1, .int .i64 t103, .slice Ao11 t104.length co11], .int .i64 13] rfl (by (try simp only [List.map_toArray, List.map_cons, List.map_nil]); first | done | rfl | (simp only [List.length_drop, List.length_take]; rfl)) ?_; (with_reducible refine (parse_May.calls 1 t103 _ _ t104 13 t113 _ ?side1 ?side2 A29.out).mono ?_); (case side1 => refine (Kd.S_reads' (e := 34) (base := w.heap.size) (ok := fun k_ => True) (n := t104.length) (c := co11) ?_).2.2; exact (by (with_reducible repeat (first | apply Kd.S_alloc | apply Kd.S_drewN | apply Kd.S_drew)); exact (Kd.S_mono (Kd.S_far (p := ⟨gb108, 0, none⟩) (Kd.S_types HO_109002.out BK108.out (by decide)) (fun _ hk => hk.2) (.int .i64 1)) (fun _ h_ => h_.1)))); (case side2 => exact (Kd.S_reads' HO_109002.out).2.1); rintro e w31 ⟨rfl, hb⟩; refine ⟨_, rfl, ?_⟩; have n0_ := Aside0.mk (Kd.S_below (by (with_reducible repeat (first | apply Kd.S_alloc | apply Kd.S_drewN | apply Kd.S_drew)); exact (Kd.S_mono (Kd.S_far (p := ⟨gb108, 0, none⟩) (Kd.S_types HO_109002.out BK108.out (by decide)) (fun _ hk => hk.2) (.int .i64 1)) (fun _ h_ => h_.1))) hb); have n1_ := Aside0.mk (blk_below (g := gb108) (o := .cells #[.int .i64 1, .int .i64 t103, .slice Ao11 t104.length co11] 28 (0, 0)) (by (with_reducible repeat (first | refine blk_drewN ?_ _ | refine blk_drew ?_ | refine blk_alloc ?_ _)); refine blk_put (cs := #[.int .i64 t102, .int .i64 t103, .slice Ao11 t104.length co11]) ?_ 0 _ rfl; (with_reducible repeat (first | refine blk_drewN ?_ _ | refine blk_drew ?_ | refine blk_alloc ?_ _)); exact BK108.out) hb); have n2_ := Aside0.mk (below_step (by repeat (first | (with_reducible first | exact HB.out | apply below_alloc | apply pw_below_drewN | apply below_drew1 | refine below_set ?_ GE108.out) | exact HB.out)) hb); clear HO_109002; clear BK108; clear HB; have HO_109002 := n0_; have BK108 := n1_; have HB := n2_; clear n0_ n1_ n2_; (try clear hb); (try clear hb2); (try clear hk); (try clear hi)))
             go_ret
             exact ⟨by first | rfl | (simp [errW_none, errW_some] <;> rfl) | (simp [*, errW_none, errW_some] <;> rfl), by repeat (first | (with_reducible first | exact HB.out | apply below_alloc | apply pw_below_drewN | apply below_drew1 | refine below_set ?_ GE108.out) | exact HB.out)⟩
           · rw [if_neg c28] at H
             have c28b0 : ((Int.tmod (IntKind.u64.wrap (a0)) 18) == 2) = false := beq_eq_false_iff_ne.mpr c28
             have c28b1 : ((Int.tmod (IntKind.u64.wrap (a0)) 18) != 2) = true := bne_iff_ne.mpr c28
             by_cases c32 : (Int.tmod (IntKind.u64.wrap (a0)) 18) = 3
             · rw [if_pos c32] at H
               have c32b0 : ((Int.tmod (IntKind.u64.wrap (a0)) 18) == 3) = true := beq_iff_eq.mpr c32
               have c32b1 : ((Int.tmod (IntKind.u64.wrap (a0)) 18) != 3) = false := bne_eq_false_iff_eq.mpr c32
               clear c32
               replace H := Option.bind_eq_some_iff.mp H
               obtain ⟨t114, A330, H⟩ := H
               replace H : (some (!t114)) = some r := H
               have A33 := Aside0.mk A330
               clear A330
               obtain rfl := Option.some.inj H
               have hcz34_0 : wc.cell? ⟨gb108, 0, none⟩ = some (.int .i64 t102) := (blk_cell BK108.out 0).trans rfl
               have hcz34_1 : wc.cell? ⟨gb108, 1, none⟩ = some (.int .i64 t103) := (blk_cell BK108.out 1).trans rfl
               have hcz34_2 : wc.cell? ⟨gb108, 2, none⟩ = some (.slice Ao11 t104.length co11) := (blk_cell BK108.out 2).trans rfl
               have hfz34_0 := blk_frozen BK108.out 0
               have hfz34_1 := blk_frozen BK108.out 1
               have hfz34_2 := blk_frozen BK108.out 2
               go_wp2_with (first | ((with_reducible refine gate_callee (f := 21) rfl ?_); refine goesL_ (some 144) rfl rfl Try.func21 (by kernel_rfl) rfl #[.agg #[.int .i64 t102, .int .i64 6, .slice Ao11 t104.length co11], .int .i64 13] rfl (by (try simp only [List.map_toArray, List.map_cons, List.map_nil]); first | done | rfl | (simp only [List.length_drop, List.length_take]; rfl)) ?_; (with_reducible refine (parse_May.calls t102 6 _ _ t104 13 t114 _ ?side1 ?side2 A33.out).mono ?_); (case side1 => refine (Kd.S_reads' (e := 34) (base := w.heap.size) (ok := fun k_ => True) (n := t104.length) (c := co11) ?_).2.2; exact (by (with_reducible repeat (first | apply Kd.S_alloc | apply Kd.S_drewN | apply Kd.S_drew)); exact (Kd.S_mono (Kd.S_far (p := ⟨gb108, 1, none⟩) (Kd.S_types HO_109002.out BK108.out (by decide)) (fun _ hk => hk.2) (.int .i64 6)) (fun _ h_ => h_.1)))); (case side2 => exact (Kd.S_reads' HO_109002.out).2.1); rintro e w35 ⟨rfl, hb⟩; refine ⟨_, rfl, ?_⟩; have n0_ := Aside0.mk (Kd.S_below (by (with_reducible repeat (first | apply Kd.S_alloc | apply Kd.S_drewN | apply Kd.S_drew)); exact (Kd.S_mono (Kd.S_far (p := ⟨gb108, 1, none⟩) (Kd.S_types HO_109002.out BK108.out (by decide)) (fun _ hk => hk.2) (.int .i64 6)) (fun _ h_ => h_.1))) hb); have n1_ := Aside0.mk (blk_below (g := gb108) (o := .cells #[.int .i64 t102, .int .i64 6, .slice Ao11 t104.length co11] 28 (0, 0)) (by (with_reducible repeat (first | refine blk_drewN ?_ _ | refine blk_drew ?_ | refine blk_alloc ?_ _)); refine blk_put (cs := #[.int .i64 t102, .int .i64 t103, .slice Ao11 t104.length co11]) ?_ 1 _ rfl; (with_reducible repeat (first | refine blk_drewN ?_ _ | refine blk_drew ?_ | refine blk_alloc ?_ _)); exact BK108.out) hb); have n2_ := Aside0.mk (below_step (by repeat (first | (with_reducible first | exact HB.out | apply below_alloc | apply pw_below_drewN | apply below_drew1 | refine below_set ?_ GE108.out) | exact HB.out)) hb); clear HO_109002; clear BK108; clear HB; have HO_109002 := n0_; have BK108 := n1_; have HB := n2_; clear n0_ n1_ n2_; (try clear hb); (try clear hb2); (try clear hk); (try clear hi)))
               go_ret
               exact ⟨by first | rfl | (simp [errW_none, errW_some] <;> rfl) | (simp [*, errW_none, errW_some] <;> rfl), by repeat (first | (with_reducible first | exact HB.out | apply below_alloc | apply pw_below_drewN | apply below_drew1 | refine below_set ?_ GE108.out) | exact HB.out)⟩
             · rw [if_neg c32] at H
               have c32b0 : ((Int.tmod (IntKind.u64.wrap (a0)) 18) == 3) = false := beq_eq_false_iff_ne.mpr c32
               have c32b1 : ((Int.tmod (IntKind.u64.wrap (a0)) 18) != 3) = true := bne_iff_ne.mpr c32
               by_cases c36 : (Int.tmod (IntKind.u64.wrap (a0)) 18) = 4
               · rw [if_pos c36] at H
                 have c36b0 : ((Int.tmod (IntKind.u64.wrap (a0)) 18) == 4) = true := beq_iff_eq.mpr c36
                 have c36b1 : ((Int.tmod (IntKind.u64.wrap (a0)) 18) != 4) = false := bne_eq_false_iff_eq.mpr c36
                 clear c36
                 replace H := Option.bind_eq_some_iff.mp H
                 obtain ⟨t115, A370, H⟩ := H
                 replace H : (some (!t115)) = some r := H
                 have A37 := Aside0.mk A370
                 clear A370
                 obtain rfl := Option.some.inj H
                 have hcz38_0 : wc.cell? ⟨gb108, 0, none⟩ = some (.int .i64 t102) := (blk_cell BK108.out 0).trans rfl
                 have hcz38_1 : wc.cell? ⟨gb108, 1, none⟩ = some (.int .i64 t103) := (blk_cell BK108.out 1).trans rfl
                 have hcz38_2 : wc.cell? ⟨gb108, 2, none⟩ = some (.slice Ao11 t104.length co11) := (blk_cell BK108.out 2).trans rfl
                 have hfz38_0 := blk_frozen BK108.out 0
                 have hfz38_1 := blk_frozen BK108.out 1
                 have hfz38_2 := blk_frozen BK108.out 2
                 go_wp2_with (first | ((with_reducible refine gate_callee (f := 21) rfl ?_); refine goesL_ (some 144) rfl rfl Try.func21 (by kernel_rfl) rfl #[.agg #[.int .i64 t102, .int .i64 (wrap64 (16777216 + (wrap64 (1 + (Go.bits .and .i64 a1 1023))))), .slice Ao11 t104.length co11], .int .i64 13] rfl (by (try simp only [List.map_toArray, List.map_cons, List.map_nil]); first | done | rfl | (simp only [List.length_drop, List.length_take]; rfl)) ?_; (with_reducible refine (parse_May.calls t102 (wrap64 (16777216 + (wrap64 (1 + (Go.bits .and .i64 a1 1023))))) _ _ t104 13 t115 _ ?side1 ?side2 A37.out).mono ?_); (case side1 => refine (Kd.S_reads' (e := 34) (base := w.heap.size) (ok := fun k_ => True) (n := t104.length) (c := co11) ?_).2.2; exact (by (with_reducible repeat (first | apply Kd.S_alloc | apply Kd.S_drewN | apply Kd.S_drew)); exact (Kd.S_mono (Kd.S_far (p := ⟨gb108, 1, none⟩) (Kd.S_types HO_109002.out BK108.out (by decide)) (fun _ hk => hk.2) (.int .i64 (wrap64 (16777216 + (wrap64 (1 + (Go.bits .and .i64 a1 1023))))))) (fun _ h_ => h_.1)))); (case side2 => exact (Kd.S_reads' HO_109002.out).2.1); rintro e w39 ⟨rfl, hb⟩; refine ⟨_, rfl, ?_⟩; have n0_ := Aside0.mk (Kd.S_below (by (with_reducible repeat (first | apply Kd.S_alloc | apply Kd.S_drewN | apply Kd.S_drew)); exact (Kd.S_mono (Kd.S_far (p := ⟨gb108, 1, none⟩) (Kd.S_types HO_109002.out BK108.out (by decide)) (fun _ hk => hk.2) (.int .i64 (wrap64 (16777216 + (wrap64 (1 + (Go.bits .and .i64 a1 1023))))))) (fun _ h_ => h_.1))) hb); have n1_ := Aside0.mk (blk_below (g := gb108) (o := .cells #[.int .i64 t102, .int .i64 (wrap64 (16777216 + (wrap64 (1 + (Go.bits .and .i64 a1 1023))))), .slice Ao11 t104.length co11] 28 (0, 0)) (by (with_reducible repeat (first | refine blk_drewN ?_ _ | refine blk_drew ?_ | refine blk_alloc ?_ _)); refine blk_put (cs := #[.int .i64 t102, .int .i64 t103, .slice Ao11 t104.length co11]) ?_ 1 _ rfl; (with_reducible repeat (first | refine blk_drewN ?_ _ | refine blk_drew ?_ | refine blk_alloc ?_ _)); exact BK108.out) hb); have n2_ := Aside0.mk (below_step (by repeat (first | (with_reducible first | exact HB.out | apply below_alloc | apply pw_below_drewN | apply below_drew1 | refine below_set ?_ GE108.out) | exact HB.out)) hb); clear HO_109002; clear BK108; clear HB; have HO_109002 := n0_; have BK108 := n1_; have HB := n2_; clear n0_ n1_ n2_; (try clear hb); (try clear hb2); (try clear hk); (try clear hi)))
                 go_ret
                 exact ⟨by first | rfl | (simp [errW_none, errW_some] <;> rfl) | (simp [*, errW_none, errW_some] <;> rfl), by repeat (first | (with_reducible first | exact HB.out | apply below_alloc | apply pw_below_drewN | apply below_drew1 | refine below_set ?_ GE108.out) | exact HB.out)⟩
               · rw [if_neg c36] at H
                 have c36b0 : ((Int.tmod (IntKind.u64.wrap (a0)) 18) == 4) = false := beq_eq_false_iff_ne.mpr c36
                 have c36b1 : ((Int.tmod (IntKind.u64.wrap (a0)) 18) != 4) = true := bne_iff_ne.mpr c36
                 by_cases c40 : (Int.tmod (IntKind.u64.wrap (a0)) 18) = 5
                 · rw [if_pos c40] at H
                   have c40b0 : ((Int.tmod (IntKind.u64.wrap (a0)) 18) == 5) = true := beq_iff_eq.mpr c40
                   have c40b1 : ((Int.tmod (IntKind.u64.wrap (a0)) 18) != 5) = false := bne_eq_false_iff_eq.mpr c40
                   clear c40
                   by_cases c41 : 2 < (t104.length : Int)
                   · rw [if_pos c41] at H
                     have c41b0 : decide (2 < (t104.length : Int)) = true := decide_eq_true c41
                     have c41b1 : decide (2 < t104.length) = true := decide_eq_true (by omega)
                     clear c41
                     obtain ⟨y116, hy116⟩ : ∃ y_ : List (S34), y_ = (t104.set (2 : Int).toNat (⟨1, (rd_T34 t104 2).f1, (rd_T34 t104 2).f2, (rd_T34 t104 2).f3, (rd_T34 t104 2).f4⟩ : S34)) := ⟨_, rfl⟩
                     replace H : ((parse_May.f t102 t103 y116 13).bind fun t117 => (some (!t117))) = some r := by first | (rw [hy116]; with_reducible exact H) | (have H2_ := (Option.bind_some _ _).symm.trans H; rw [hy116]; with_reducible exact H2_) | (have H2_ := (Option.bind_some _ _).symm.trans H; with_reducible exact H2_) | with_reducible exact H | (rw [hy116]; exact H) | exact H
                     have Ny116 := Aside0.mk hy116
                     clear hy116
                     replace H := Option.bind_eq_some_iff.mp H
                     obtain ⟨t117, A430, H⟩ := H
                     replace H : (some (!t117)) = some r := H
                     have A43 := Aside0.mk A430
                     clear A430
                     obtain rfl := Option.some.inj H
                     have hcz44_0 : wc.cell? ⟨gb108, 0, none⟩ = some (.int .i64 t102) := (blk_cell BK108.out 0).trans rfl
                     have hcz44_1 : wc.cell? ⟨gb108, 1, none⟩ = some (.int .i64 t103) := (blk_cell BK108.out 1).trans rfl
                     have hcz44_2 : wc.cell? ⟨gb108, 2, none⟩ = some (.slice Ao11 t104.length co11) := (blk_cell BK108.out 2).trans rfl
                     have hfz44_0 := blk_frozen BK108.out 0
                     have hfz44_1 := blk_frozen BK108.out 1
                     have hfz44_2 := blk_frozen BK108.out 2
                     have p42 : 0 ≤ (2 : Int) := (by omega)
                     have q42 : (2 : Int) < ((t104.length : Int) : Int) := of_decide_eq_true (by first | (with_reducible assumption) | assumption)
                     have qi42 : (2 < t104.length) = True := eq_true (by omega)
                     obtain ⟨go42, co42, eo42, gb42, gl42, cl42, HG42⟩ := Kd.S_form HO_109002.out (by omega)
                     (first | cases eo42 | (injection eo42 with ea_ en_ ec_; (first | subst ea_ | (injection ea_ with ea_; subst ea_)); subst ec_; clear en_))
                     have GB42 := Aside0.mk gb42
                     have GG42 := Aside0.mk HG42
                     clear gb42 gl42 HG42
                     obtain ⟨_, ce42, hcl42, hM42, hcc42, hfr42, _, _⟩ := Kd.S_elem HO_109002.out z34 (2 : Int) p42 q42
                     obtain ⟨ve42_4, rfl, ge42_4⟩ := k34_openM hM42
                     have hx42_0 : wc.cell? ⟨go42, (2 : Int).toNat * 5, none⟩ = some (.int .i64 ((rd_T34 t104 2).f0)) := hcc42 0 _ rfl
                     have hx42_1 : wc.cell? ⟨go42, (2 : Int).toNat * 5 + 1, none⟩ = some (.int .i64 ((rd_T34 t104 2).f1)) := hcc42 1 _ rfl
                     have hx42_2 : wc.cell? ⟨go42, (2 : Int).toNat * 5 + 2, none⟩ = some (.int .i64 ((rd_T34 t104 2).f2)) := hcc42 2 _ rfl
                     have hx42_3 : wc.cell? ⟨go42, (2 : Int).toNat * 5 + 3, none⟩ = some (.int .i64 ((rd_T34 t104 2).f3)) := hcc42 3 _ rfl
                     have hx42_4 : wc.cell? ⟨go42, (2 : Int).toNat * 5 + 4, none⟩ = some (ve42_4) := hcc42 4 _ rfl
                     have hf42_0 : wc.frozen? ⟨go42, (2 : Int).toNat * 5, none⟩ = false := hfr42 0
                     have hf42_1 : wc.frozen? ⟨go42, (2 : Int).toNat * 5 + 1, none⟩ = false := hfr42 1
                     have hf42_2 : wc.frozen? ⟨go42, (2 : Int).toNat * 5 + 2, none⟩ = false := hfr42 2
                     have hf42_3 : wc.frozen? ⟨go42, (2 : Int).toNat * 5 + 3, none⟩ = false := hfr42 3
                     have hf42_4 : wc.frozen? ⟨go42, (2 : Int).toNat * 5 + 4, none⟩ = false := hfr42 4
                     clear hcl42 hcc42 hfr42 hM42
                     (try rw [show ((2 : Int)).toNat = 2 from rfl] at hx42_0)
                     (try simp only [Nat.reduceMul, Nat.zero_mul, Nat.zero_add, Nat.reduceAdd] at hx42_0)
                     (try rw [show ((2 : Int)).toNat = 2 from rfl] at hf42_0)
                     (try simp only [Nat.reduceMul, Nat.zero_mul, Nat.zero_add, Nat.reduceAdd] at hf42_0)
                     (try rw [show ((2 : Int)).toNat = 2 from rfl] at hx42_1)
                     (try simp only [Nat.reduceMul, Nat.zero_mul, Nat.zero_add, Nat.reduceAdd] at hx42_1)
                     (try rw [show ((2 : Int)).toNat = 2 from rfl] at hf42_1)
                     (try simp only [Nat.reduceMul, Nat.zero_mul, Nat.zero_add, Nat.reduceAdd] at hf42_1)
                     (try rw [show ((2 : Int)).toNat = 2 from rfl] at hx42_2)
                     (try simp only [Nat.reduceMul, Nat.zero_mul, Nat.zero_add, Nat.reduceAdd] at hx42_2)
                     (try rw [show ((2 : Int)).toNat = 2 from rfl] at hf42_2)
                     (try simp only [Nat.reduceMul, Nat.zero_mul, Nat.zero_add, Nat.reduceAdd] at hf42_2)
                     (try rw [show ((2 : Int)).toNat = 2 from rfl] at hx42_3)
                     (try simp only [Nat.reduceMul, Nat.zero_mul, Nat.zero_add, Nat.reduceAdd] at hx42_3)
                     (try rw [show ((2 : Int)).toNat = 2 from rfl] at hf42_3)
                     (try simp only [Nat.reduceMul, Nat.zero_mul, Nat.zero_add, Nat.reduceAdd] at hf42_3)
                     (try rw [show ((2 : Int)).toNat = 2 from rfl] at hx42_4)
                     (try simp only [Nat.reduceMul, Nat.zero_mul, Nat.zero_add, Nat.reduceAdd] at hx42_4)
                     (try rw [show ((2 : Int)).toNat = 2 from rfl] at hf42_4)
                     (try simp only [Nat.reduceMul, Nat.zero_mul, Nat.zero_add, Nat.reduceAdd] at hf42_4)
                     replace p42 := eq_true p42
                     replace q42 := eq_true q42
                     have HX45 := Aside0.mk (show Kd.S k34 34 wc w.heap.size (fun k_ => ((fun _ => True)) k_ ∧ ¬ ((fun _ => False)) k_) (.slice (some ⟨go42, 0, none⟩) t104.length co11) t104 from (by (with_reducible repeat (first | apply Kd.S_alloc | apply Kd.S_drewN | apply Kd.S_drew)); exact Kd.S_mono HO_109002.out (fun k_ hk => ⟨trivial, fun e_ => e_⟩)))
                     obtain ⟨oki45, ce45, hcl45, hM45, hcc45, hfr45, hoki45, hH45⟩ := Kd.S_elem HX45.out z34 (2 : Int) (by omega) (by have h_ : (2 : Int) < ((t104.length : Int) : Int) := of_decide_eq_true (by first | (with_reducible assumption) | assumption); first | exact h_ | (have e_ := (Kd.S_reads' HO_109002.out).1; omega) | simpa using h_)
                     obtain ⟨ve45_4, rfl, ge45_4⟩ := k34_openM hM45
                     have HP45 := Kd.S_seg hH45 (by omega) (by have h_ : (2 : Int) < ((t104.length : Int) : Int) := of_decide_eq_true (by first | (with_reducible assumption) | assumption); first | exact h_ | (have e_ := (Kd.S_reads' HO_109002.out).1; omega) | simpa using h_) (seg := [.int .i64 1]) (j := 0) (show 1 ≤ 5 from by decide) (x' := (⟨1, (rd_T34 t104 2).f1, (rd_T34 t104 2).f2, (rd_T34 t104 2).f3, (rd_T34 t104 2).f4⟩ : S34)) (k34_mkM _ _ _ (⟨1, (rd_T34 t104 2).f1, (rd_T34 t104 2).f2, (rd_T34 t104 2).f3, (rd_T34 t104 2).f4⟩ : S34) (Kd.R_mono ge45_4 (fun _ h_ => Or.inl h_))) (fun _ hk => hk) (fun k_ hk_ => hk_.elim)
                     have hx45_0 := hcc45 0 _ rfl
                     (try simp only [show (k34).sz = 5 from rfl, Nat.mul_one, Nat.add_zero] at hx45_0)
                     (try rw [show ((2 : Int)).toNat = 2 from rfl] at hx45_0)
                     (try simp only [Nat.reduceMul, Nat.zero_mul, Nat.zero_add, Nat.reduceAdd] at hx45_0)
                     have hf45_0 := hfr45 0
                     (try simp only [show (k34).sz = 5 from rfl, Nat.mul_one, Nat.add_zero] at hf45_0)
                     (try rw [show ((2 : Int)).toNat = 2 from rfl] at hf45_0)
                     (try simp only [Nat.reduceMul, Nat.zero_mul, Nat.zero_add, Nat.reduceAdd] at hf45_0)
                     clear hcl45 hcc45 hfr45 hM45 hoki45 hH45
                     go_wp2_with (first | ((with_reducible refine gate_store (t := 3) (p := 60) rfl ?_); refine store_event (t := 3) (p := 60) (v := ?vo_w46) (w1 := (wc.setCell ⟨go42, 10, none⟩ (.int .i64 1))) ?hg ?ho ?hn ?hr ?_; (case ho => rfl); (case hg => rfl); (case hn => rfl); (case hr => first | (go_simp; done) | (go_simp; rfl)); intro w46 hw; have hg : wc.grownBy w46 (some go42) := (by rw [hw]; exact HP45.2); have hp_ : Kd.S k34 34 w46 w.heap.size (fun _ => True) (.slice (some ⟨go42, 0, none⟩) t104.length co11) y116 := (by rw [hw, Ny116.out]; exact HP45.1); clear HP45; have n0_ := Aside0.mk (hp_); have n1_ := Aside0.mk (blk_grown (g := gb108) (o := .cells #[.int .i64 t102, .int .i64 t103, .slice (some ⟨go42, 0, none⟩) t104.length co11] 28 (0, 0)) (by (with_reducible repeat (first | refine blk_drewN ?_ _ | refine blk_drew ?_ | refine blk_alloc ?_ _)); exact BK108.out) hg (Kd.S_ne HO_109002.out BK108.out (by decide))); have n2_ := Aside0.mk ((by rw [hw]; exact below_set (HB.out) GB42.out : Below w.heap.size w w46)); clear HO_109002; clear BK108; clear HB; have HO_109002 := n0_; have BK108 := n1_; have HB := n2_; clear n0_ n1_ n2_; clear hg hw hp_; have hcz47_0 : w46.cell? ⟨gb108, 0, none⟩ = some (.int .i64 t102) := (blk_cell BK108.out 0).trans rfl; have hcz47_1 : w46.cell? ⟨gb108, 1, none⟩ = some (.int .i64 t103) := (blk_cell BK108.out 1).trans rfl; have hcz47_2 : w46.cell? ⟨gb108, 2, none⟩ = some (.slice (some ⟨go42, 0, none⟩) t104.length co11) := (blk_cell BK108.out 2).trans rfl; have hfz47_0 := blk_frozen BK108.out 0; have hfz47_1 := blk_frozen BK108.out 1; have hfz47_2 := blk_frozen BK108.out 2) | ((with_reducible refine gate_callee (f := 21) rfl ?_); refine goesL_ (some 144) rfl rfl Try.func21 (by kernel_rfl) rfl #[.agg #[.int .i64 t102, .int .i64 t103, .slice (some ⟨go42, 0, none⟩) y116.length co11], .int .i64 13] rfl (by (try simp only [List.map_toArray, List.map_cons, List.map_nil]); first | done | (rw [show y116.length = t104.length from (Kd.S_reads' HO_109002.out).1.symm] <;> rfl) | rfl | (simp only [List.length_drop, List.length_take]; rfl)) ?_; (with_reducible refine (parse_May.calls t102 t103 _ _ y116 13 t117 _ ?side1 ?side2 A43.out).mono ?_); (case side1 => repeat (first | exact (Kd.S_reads' HO_109002.out).2.2 | (with_reducible refine Kd.C_alloc ?_ _) | (with_reducible refine Kd.C_drewN ?_ _) | (with_reducible refine Kd.C_drew ?_))); (case side2 => rw [show y116.length = t104.length from (Kd.S_reads' HO_109002.out).1.symm]; exact (Kd.S_reads' HO_109002.out).2.1); rintro e w48 ⟨rfl, hb⟩; refine ⟨_, rfl, ?_⟩; have n0_ := Aside0.mk (Kd.S_below (by (with_reducible repeat (first | apply Kd.S_alloc | apply Kd.S_drewN | apply Kd.S_drew)); exact HO_109002.out) hb); have n1_ := Aside0.mk (blk_below (g := gb108) (o := .cells #[.int .i64 t102, .int .i64 t103, .slice (some ⟨go42, 0, none⟩) t104.length co11] 28 (0, 0)) (by (with_reducible repeat (first | refine blk_drewN ?_ _ | refine blk_drew ?_ | refine blk_alloc ?_ _)); exact BK108.out) hb); have n2_ := Aside0.mk (below_step (by repeat (first | (with_reducible first | exact HB.out | apply below_alloc | apply pw_below_drewN | apply below_drew1 | refine below_set ?_ GE108.out) | exact HB.out)) hb); clear HO_109002; clear BK108; clear HB; have HO_109002 := n0_; have BK108 := n1_; have HB := n2_; clear n0_ n1_ n2_; (try clear hb); (try clear hb2); (try clear hk); (try clear hi)))
                     go_ret
                     exact ⟨by first | rfl | (simp [errW_none, errW_some] <;> rfl) | (simp [*, errW_none, errW_some] <;> rfl), by repeat (first | (with_reducible first | exact HB.out | apply below_alloc | apply pw_below_drewN | apply below_drew1 | refine below_set ?_ GE108.out) | exact HB.out)⟩
                   · rw [if_neg c41] at H
                     exact absurd H (by simp)
                 · rw [if_neg c40] at H
                   have c40b0 : ((Int.tmod (IntKind.u64.wrap (a0)) 18) == 5) = false := beq_eq_false_iff_ne.mpr c40
                   have c40b1 : ((Int.tmod (IntKind.u64.wrap (a0)) 18) != 5) = true := bne_iff_ne.mpr c40
                   by_cases c49 : (Int.tmod (IntKind.u64.wrap (a0)) 18) = 6
                   · rw [if_pos c49] at H
                     have c49b0 : ((Int.tmod (IntKind.u64.wrap (a0)) 18) == 6) = true := beq_iff_eq.mpr c49
                     have c49b1 : ((Int.tmod (IntKind.u64.wrap (a0)) 18) != 6) = false := bne_eq_false_iff_eq.mpr c49
                     clear c49
                     by_cases c50 : 6 < (t104.length : Int)
                     · rw [if_pos c50] at H
                       have c50b0 : decide (6 < (t104.length : Int)) = true := decide_eq_true c50
                       have c50b1 : decide (6 < t104.length) = true := decide_eq_true (by omega)
                       clear c50
                       obtain ⟨y118, hy118⟩ : ∃ y_ : List (S34), y_ = (t104.set (6 : Int).toNat (⟨wrap64 (6 + (wrap64 (1 + (Go.bits .and .i64 a1 1023)))), (rd_T34 t104 6).f1, (rd_T34 t104 6).f2, (rd_T34 t104 6).f3, (rd_T34 t104 6).f4⟩ : S34)) := ⟨_, rfl⟩
                       replace H : ((parse_May.f t102 t103 y118 13).bind fun t119 => (some (!t119))) = some r := by first | (rw [hy118]; with_reducible exact H) | (have H2_ := (Option.bind_some _ _).symm.trans H; rw [hy118]; with_reducible exact H2_) | (have H2_ := (Option.bind_some _ _).symm.trans H; with_reducible exact H2_) | with_reducible exact H | (rw [hy118]; exact H) | exact H
                       have Ny118 := Aside0.mk hy118
                       clear hy118
                       replace H := Option.bind_eq_some_iff.mp H
                       obtain ⟨t119, A520, H⟩ := H
                       replace H : (some (!t119)) = some r := H
                       have A52 := Aside0.mk A520
                       clear A520
                       obtain rfl := Option.some.inj H
                       have hcz53_0 : wc.cell? ⟨gb108, 0, none⟩ = some (.int .i64 t102) := (blk_cell BK108.out 0).trans rfl
                       have hcz53_1 : wc.cell? ⟨gb108, 1, none⟩ = some (.int .i64 t103) := (blk_cell BK108.out 1).trans rfl
                       have hcz53_2 : wc.cell? ⟨gb108, 2, none⟩ = some (.slice Ao11 t104.length co11) := (blk_cell BK108.out 2).trans rfl
                       have hfz53_0 := blk_frozen BK108.out 0
                       have hfz53_1 := blk_frozen BK108.out 1
                       have hfz53_2 := blk_frozen BK108.out 2
                       have p51 : 0 ≤ (6 : Int) := (by omega)
                       have q51 : (6 : Int) < ((t104.length : Int) : Int) := of_decide_eq_true (by first | (with_reducible assumption) | assumption)
                       have qi51 : (6 < t104.length) = True := eq_true (by omega)
                       obtain ⟨go51, co51, eo51, gb51, gl51, cl51, HG51⟩ := Kd.S_form HO_109002.out (by omega)
                       (first | cases eo51 | (injection eo51 with ea_ en_ ec_; (first | subst ea_ | (injection ea_ with ea_; subst ea_)); subst ec_; clear en_))
                       have GB51 := Aside0.mk gb51
                       have GG51 := Aside0.mk HG51
                       clear gb51 gl51 HG51
                       obtain ⟨_, ce51, hcl51, hM51, hcc51, hfr51, _, _⟩ := Kd.S_elem HO_109002.out z34 (6 : Int) p51 q51
                       obtain ⟨ve51_4, rfl, ge51_4⟩ := k34_openM hM51
                       have hx51_0 : wc.cell? ⟨go51, (6 : Int).toNat * 5, none⟩ = some (.int .i64 ((rd_T34 t104 6).f0)) := hcc51 0 _ rfl
                       have hx51_1 : wc.cell? ⟨go51, (6 : Int).toNat * 5 + 1, none⟩ = some (.int .i64 ((rd_T34 t104 6).f1)) := hcc51 1 _ rfl
                       have hx51_2 : wc.cell? ⟨go51, (6 : Int).toNat * 5 + 2, none⟩ = some (.int .i64 ((rd_T34 t104 6).f2)) := hcc51 2 _ rfl
                       have hx51_3 : wc.cell? ⟨go51, (6 : Int).toNat * 5 + 3, none⟩ = some (.int .i64 ((rd_T34 t104 6).f3)) := hcc51 3 _ rfl
                       have hx51_4 : wc.cell? ⟨go51, (6 : Int).toNat * 5 + 4, none⟩ = some (ve51_4) := hcc51 4 _ rfl
                       have hf51_0 : wc.frozen? ⟨go51, (6 : Int).toNat * 5, none⟩ = false := hfr51 0
                       have hf51_1 : wc.frozen? ⟨go51, (6 : Int).toNat * 5 + 1, none⟩ = false := hfr51 1
                       have hf51_2 : wc.frozen? ⟨go51, (6 : Int).toNat * 5 + 2, none⟩ = false := hfr51 2
                       have hf51_3 : wc.frozen? ⟨go51, (6 : Int).toNat * 5 + 3, none⟩ = false := hfr51 3
                       have hf51_4 : wc.frozen? ⟨go51, (6 : Int).toNat * 5 + 4, none⟩ = false := hfr51 4
                       clear hcl51 hcc51 hfr51 hM51
                       (try rw [show ((6 : Int)).toNat = 6 from rfl] at hx51_0)
                       (try simp only [Nat.reduceMul, Nat.zero_mul, Nat.zero_add, Nat.reduceAdd] at hx51_0)
                       (try rw [show ((6 : Int)).toNat = 6 from rfl] at hf51_0)
                       (try simp only [Nat.reduceMul, Nat.zero_mul, Nat.zero_add, Nat.reduceAdd] at hf51_0)
                       (try rw [show ((6 : Int)).toNat = 6 from rfl] at hx51_1)
                       (try simp only [Nat.reduceMul, Nat.zero_mul, Nat.zero_add, Nat.reduceAdd] at hx51_1)
                       (try rw [show ((6 : Int)).toNat = 6 from rfl] at hf51_1)
                       (try simp only [Nat.reduceMul, Nat.zero_mul, Nat.zero_add, Nat.reduceAdd] at hf51_1)
                       (try rw [show ((6 : Int)).toNat = 6 from rfl] at hx51_2)
                       (try simp only [Nat.reduceMul, Nat.zero_mul, Nat.zero_add, Nat.reduceAdd] at hx51_2)
                       (try rw [show ((6 : Int)).toNat = 6 from rfl] at hf51_2)
                       (try simp only [Nat.reduceMul, Nat.zero_mul, Nat.zero_add, Nat.reduceAdd] at hf51_2)
                       (try rw [show ((6 : Int)).toNat = 6 from rfl] at hx51_3)
                       (try simp only [Nat.reduceMul, Nat.zero_mul, Nat.zero_add, Nat.reduceAdd] at hx51_3)
                       (try rw [show ((6 : Int)).toNat = 6 from rfl] at hf51_3)
                       (try simp only [Nat.reduceMul, Nat.zero_mul, Nat.zero_add, Nat.reduceAdd] at hf51_3)
                       (try rw [show ((6 : Int)).toNat = 6 from rfl] at hx51_4)
                       (try simp only [Nat.reduceMul, Nat.zero_mul, Nat.zero_add, Nat.reduceAdd] at hx51_4)
                       (try rw [show ((6 : Int)).toNat = 6 from rfl] at hf51_4)
                       (try simp only [Nat.reduceMul, Nat.zero_mul, Nat.zero_add, Nat.reduceAdd] at hf51_4)
                       replace p51 := eq_true p51
                       replace q51 := eq_true q51
                       have HX54 := Aside0.mk (show Kd.S k34 34 wc w.heap.size (fun k_ => ((fun _ => True)) k_ ∧ ¬ ((fun _ => False)) k_) (.slice (some ⟨go51, 0, none⟩) t104.length co11) t104 from (by (with_reducible repeat (first | apply Kd.S_alloc | apply Kd.S_drewN | apply Kd.S_drew)); exact Kd.S_mono HO_109002.out (fun k_ hk => ⟨trivial, fun e_ => e_⟩)))
                       obtain ⟨oki54, ce54, hcl54, hM54, hcc54, hfr54, hoki54, hH54⟩ := Kd.S_elem HX54.out z34 (6 : Int) (by omega) (by have h_ : (6 : Int) < ((t104.length : Int) : Int) := of_decide_eq_true (by first | (with_reducible assumption) | assumption); first | exact h_ | (have e_ := (Kd.S_reads' HO_109002.out).1; omega) | simpa using h_)
                       obtain ⟨ve54_4, rfl, ge54_4⟩ := k34_openM hM54
                       have HP54 := Kd.S_seg hH54 (by omega) (by have h_ : (6 : Int) < ((t104.length : Int) : Int) := of_decide_eq_true (by first | (with_reducible assumption) | assumption); first | exact h_ | (have e_ := (Kd.S_reads' HO_109002.out).1; omega) | simpa using h_) (seg := [.int .i64 (wrap64 (6 + (wrap64 (1 + (Go.bits .and .i64 a1 1023)))))]) (j := 0) (show 1 ≤ 5 from by decide) (x' := (⟨wrap64 (6 + (wrap64 (1 + (Go.bits .and .i64 a1 1023)))), (rd_T34 t104 6).f1, (rd_T34 t104 6).f2, (rd_T34 t104 6).f3, (rd_T34 t104 6).f4⟩ : S34)) (k34_mkM _ _ _ (⟨wrap64 (6 + (wrap64 (1 + (Go.bits .and .i64 a1 1023)))), (rd_T34 t104 6).f1, (rd_T34 t104 6).f2, (rd_T34 t104 6).f3, (rd_T34 t104 6).f4⟩ : S34) (Kd.R_mono ge54_4 (fun _ h_ => Or.inl h_))) (fun _ hk => hk) (fun k_ hk_ => hk_.elim)
                       have hx54_0 := hcc54 0 _ rfl
                       (try simp only [show (k34).sz = 5 from rfl, Nat.mul_one, Nat.add_zero] at hx54_0)
                       (try rw [show ((6 : Int)).toNat = 6 from rfl] at hx54_0)
                       (try simp only [Nat.reduceMul, Nat.zero_mul, Nat.zero_add, Nat.reduceAdd] at hx54_0)
                       have hf54_0 := hfr54 0
                       (try simp only [show (k34).sz = 5 from rfl, Nat.mul_one, Nat.add_zero] at hf54_0)
                       (try rw [show ((6 : Int)).toNat = 6 from rfl] at hf54_0)
                       (try simp only [Nat.reduceMul, Nat.zero_mul, Nat.zero_add, Nat.reduceAdd] at hf54_0)
                       clear hcl54 hcc54 hfr54 hM54 hoki54 hH54
                       go_wp2_with (first | ((with_reducible refine gate_store (t := 3) (p := 68) rfl ?_); refine store_event (t := 3) (p := 68) (v := ?vo_w55) (w1 := (wc.setCell ⟨go51, 30, none⟩ (.int .i64 (wrap64 (6 + (wrap64 (1 + (Go.bits .and .i64 a1 1023)))))))) ?hg ?ho ?hn ?hr ?_; (case ho => rfl); (case hg => rfl); (case hn => rfl); (case hr => first | (go_simp; done) | (go_simp; rfl)); intro w55 hw; have hg : wc.grownBy w55 (some go51) := (by rw [hw]; exact HP54.2); have hp_ : Kd.S k34 34 w55 w.heap.size (fun _ => True) (.slice (some ⟨go51, 0, none⟩) t104.length co11) y118 := (by rw [hw, Ny118.out]; exact HP54.1); clear HP54; have n0_ := Aside0.mk (hp_); have n1_ := Aside0.mk (blk_grown (g := gb108) (o := .cells #[.int .i64 t102, .int .i64 t103, .slice (some ⟨go51, 0, none⟩) t104.length co11] 28 (0, 0)) (by (with_reducible repeat (first | refine blk_drewN ?_ _ | refine blk_drew ?_ | refine blk_alloc ?_ _)); exact BK108.out) hg (Kd.S_ne HO_109002.out BK108.out (by decide))); have n2_ := Aside0.mk ((by rw [hw]; exact below_set (HB.out) GB51.out : Below w.heap.size w w55)); clear HO_109002; clear BK108; clear HB; have HO_109002 := n0_; have BK108 := n1_; have HB := n2_; clear n0_ n1_ n2_; clear hg hw hp_; have hcz56_0 : w55.cell? ⟨gb108, 0, none⟩ = some (.int .i64 t102) := (blk_cell BK108.out 0).trans rfl; have hcz56_1 : w55.cell? ⟨gb108, 1, none⟩ = some (.int .i64 t103) := (blk_cell BK108.out 1).trans rfl; have hcz56_2 : w55.cell? ⟨gb108, 2, none⟩ = some (.slice (some ⟨go51, 0, none⟩) t104.length co11) := (blk_cell BK108.out 2).trans rfl; have hfz56_0 := blk_frozen BK108.out 0; have hfz56_1 := blk_frozen BK108.out 1; have hfz56_2 := blk_frozen BK108.out 2) | ((with_reducible refine gate_callee (f := 21) rfl ?_); refine goesL_ (some 144) rfl rfl Try.func21 (by kernel_rfl) rfl #[.agg #[.int .i64 t102, .int .i64 t103, .slice (some ⟨go51, 0, none⟩) y118.length co11], .int .i64 13] rfl (by (try simp only [List.map_toArray, List.map_cons, List.map_nil]); first | done | (rw [show y118.length = t104.length from (Kd.S_reads' HO_109002.out).1.symm] <;> rfl) | rfl | (simp only [List.length_drop, List.length_take]; rfl)) ?_; (with_reducible refine (parse_May.calls t102 t103 _ _ y118 13 t119 _ ?side1 ?side2 A52.out).mono ?_); (case side1 => repeat (first | exact (Kd.S_reads' HO_109002.out).2.2 | (with_reducible refine Kd.C_alloc ?_ _) | (with_reducible refine Kd.C_drewN ?_ _) | (with_reducible refine Kd.C_drew ?_))); (case side2 => rw [show y118.length = t104.length from (Kd.S_reads' HO_109002.out).1.symm]; exact (Kd.S_reads' HO_109002.out).2.1); rintro e w57 ⟨rfl, hb⟩; refine ⟨_, rfl, ?_⟩; have n0_ := Aside0.mk (Kd.S_below (by (with_reducible repeat (first | apply Kd.S_alloc | apply Kd.S_drewN | apply Kd.S_drew)); exact HO_109002.out) hb); have n1_ := Aside0.mk (blk_below (g := gb108) (o := .cells #[.int .i64 t102, .int .i64 t103, .slice (some ⟨go51, 0, none⟩) t104.length co11] 28 (0, 0)) (by (with_reducible repeat (first | refine blk_drewN ?_ _ | refine blk_drew ?_ | refine blk_alloc ?_ _)); exact BK108.out) hb); have n2_ := Aside0.mk (below_step (by repeat (first | (with_reducible first | exact HB.out | apply below_alloc | apply pw_below_drewN | apply below_drew1 | refine below_set ?_ GE108.out) | exact HB.out)) hb); clear HO_109002; clear BK108; clear HB; have HO_109002 := n0_; have BK108 := n1_; have HB := n2_; clear n0_ n1_ n2_; (try clear hb); (try clear hb2); (try clear hk); (try clear hi)))
                       go_ret
                       exact ⟨by first | rfl | (simp [errW_none, errW_some] <;> rfl) | (simp [*, errW_none, errW_some] <;> rfl), by repeat (first | (with_reducible first | exact HB.out | apply below_alloc | apply pw_below_drewN | apply below_drew1 | refine below_set ?_ GE108.out) | exact HB.out)⟩
                     · rw [if_neg c50] at H
                       exact absurd H (by simp)
                   · rw [if_neg c49] at H
                     have c49b0 : ((Int.tmod (IntKind.u64.wrap (a0)) 18) == 6) = false := beq_eq_false_iff_ne.mpr c49
                     have c49b1 : ((Int.tmod (IntKind.u64.wrap (a0)) 18) != 6) = true := bne_iff_ne.mpr c49
                     by_cases c58 : (Int.tmod (IntKind.u64.wrap (a0)) 18) = 7
                     · rw [if_pos c58] at H
                       have c58b0 : ((Int.tmod (IntKind.u64.wrap (a0)) 18) == 7) = true := beq_iff_eq.mpr c58
                       have c58b1 : ((Int.tmod (IntKind.u64.wrap (a0)) 18) != 7) = false := bne_eq_false_iff_eq.mpr c58
                       clear c58
                       by_cases c59 : 2 < (t104.length : Int)
                       · rw [if_pos c59] at H
                         have c59b0 : decide (2 < (t104.length : Int)) = true := decide_eq_true c59
                         have c59b1 : decide (2 < t104.length) = true := decide_eq_true (by omega)
                         clear c59
                         obtain ⟨y120, hy120⟩ : ∃ y_ : List (S34), y_ = (t104.set (2 : Int).toNat (⟨(rd_T34 t104 2).f0, wrap64 (7 + (wrap64 (1 + (Go.bits .and .i64 a1 1023)))), (rd_T34 t104 2).f2, (rd_T34 t104 2).f3, (rd_T34 t104 2).f4⟩ : S34)) := ⟨_, rfl⟩
                         replace H : ((parse_May.f t102 t103 y120 13).bind fun t121 => (some (!t121))) = some r := by first | (rw [hy120]; with_reducible exact H) | (have H2_ := (Option.bind_some _ _).symm.trans H; rw [hy120]; with_reducible exact H2_) | (have H2_ := (Option.bind_some _ _).symm.trans H; with_reducible exact H2_) | with_reducible exact H | (rw [hy120]; exact H) | exact H
                         have Ny120 := Aside0.mk hy120
                         clear hy120
                         replace H := Option.bind_eq_some_iff.mp H
                         obtain ⟨t121, A610, H⟩ := H
                         replace H : (some (!t121)) = some r := H
                         have A61 := Aside0.mk A610
                         clear A610
                         obtain rfl := Option.some.inj H
                         have hcz62_0 : wc.cell? ⟨gb108, 0, none⟩ = some (.int .i64 t102) := (blk_cell BK108.out 0).trans rfl
                         have hcz62_1 : wc.cell? ⟨gb108, 1, none⟩ = some (.int .i64 t103) := (blk_cell BK108.out 1).trans rfl
                         have hcz62_2 : wc.cell? ⟨gb108, 2, none⟩ = some (.slice Ao11 t104.length co11) := (blk_cell BK108.out 2).trans rfl
                         have hfz62_0 := blk_frozen BK108.out 0
                         have hfz62_1 := blk_frozen BK108.out 1
                         have hfz62_2 := blk_frozen BK108.out 2
                         have p60 : 0 ≤ (2 : Int) := (by omega)
                         have q60 : (2 : Int) < ((t104.length : Int) : Int) := of_decide_eq_true (by first | (with_reducible assumption) | assumption)
                         have qi60 : (2 < t104.length) = True := eq_true (by omega)
                         obtain ⟨go60, co60, eo60, gb60, gl60, cl60, HG60⟩ := Kd.S_form HO_109002.out (by omega)
                         (first | cases eo60 | (injection eo60 with ea_ en_ ec_; (first | subst ea_ | (injection ea_ with ea_; subst ea_)); subst ec_; clear en_))
                         have GB60 := Aside0.mk gb60
                         have GG60 := Aside0.mk HG60
                         clear gb60 gl60 HG60
                         obtain ⟨_, ce60, hcl60, hM60, hcc60, hfr60, _, _⟩ := Kd.S_elem HO_109002.out z34 (2 : Int) p60 q60
                         obtain ⟨ve60_4, rfl, ge60_4⟩ := k34_openM hM60
                         have hx60_0 : wc.cell? ⟨go60, (2 : Int).toNat * 5, none⟩ = some (.int .i64 ((rd_T34 t104 2).f0)) := hcc60 0 _ rfl
                         have hx60_1 : wc.cell? ⟨go60, (2 : Int).toNat * 5 + 1, none⟩ = some (.int .i64 ((rd_T34 t104 2).f1)) := hcc60 1 _ rfl
                         have hx60_2 : wc.cell? ⟨go60, (2 : Int).toNat * 5 + 2, none⟩ = some (.int .i64 ((rd_T34 t104 2).f2)) := hcc60 2 _ rfl
                         have hx60_3 : wc.cell? ⟨go60, (2 : Int).toNat * 5 + 3, none⟩ = some (.int .i64 ((rd_T34 t104 2).f3)) := hcc60 3 _ rfl
                         have hx60_4 : wc.cell? ⟨go60, (2 : Int).toNat * 5 + 4, none⟩ = some (ve60_4) := hcc60 4 _ rfl
                         have hf60_0 : wc.frozen? ⟨go60, (2 : Int).toNat * 5, none⟩ = false := hfr60 0
                         have hf60_1 : wc.frozen? ⟨go60, (2 : Int).toNat * 5 + 1, none⟩ = false := hfr60 1
                         have hf60_2 : wc.frozen? ⟨go60, (2 : Int).toNat * 5 + 2, none⟩ = false := hfr60 2
                         have hf60_3 : wc.frozen? ⟨go60, (2 : Int).toNat * 5 + 3, none⟩ = false := hfr60 3
                         have hf60_4 : wc.frozen? ⟨go60, (2 : Int).toNat * 5 + 4, none⟩ = false := hfr60 4
                         clear hcl60 hcc60 hfr60 hM60
                         (try rw [show ((2 : Int)).toNat = 2 from rfl] at hx60_0)
                         (try simp only [Nat.reduceMul, Nat.zero_mul, Nat.zero_add, Nat.reduceAdd] at hx60_0)
                         (try rw [show ((2 : Int)).toNat = 2 from rfl] at hf60_0)
                         (try simp only [Nat.reduceMul, Nat.zero_mul, Nat.zero_add, Nat.reduceAdd] at hf60_0)
                         (try rw [show ((2 : Int)).toNat = 2 from rfl] at hx60_1)
                         (try simp only [Nat.reduceMul, Nat.zero_mul, Nat.zero_add, Nat.reduceAdd] at hx60_1)
                         (try rw [show ((2 : Int)).toNat = 2 from rfl] at hf60_1)
                         (try simp only [Nat.reduceMul, Nat.zero_mul, Nat.zero_add, Nat.reduceAdd] at hf60_1)
                         (try rw [show ((2 : Int)).toNat = 2 from rfl] at hx60_2)
                         (try simp only [Nat.reduceMul, Nat.zero_mul, Nat.zero_add, Nat.reduceAdd] at hx60_2)
                         (try rw [show ((2 : Int)).toNat = 2 from rfl] at hf60_2)
                         (try simp only [Nat.reduceMul, Nat.zero_mul, Nat.zero_add, Nat.reduceAdd] at hf60_2)
                         (try rw [show ((2 : Int)).toNat = 2 from rfl] at hx60_3)
                         (try simp only [Nat.reduceMul, Nat.zero_mul, Nat.zero_add, Nat.reduceAdd] at hx60_3)
                         (try rw [show ((2 : Int)).toNat = 2 from rfl] at hf60_3)
                         (try simp only [Nat.reduceMul, Nat.zero_mul, Nat.zero_add, Nat.reduceAdd] at hf60_3)
                         (try rw [show ((2 : Int)).toNat = 2 from rfl] at hx60_4)
                         (try simp only [Nat.reduceMul, Nat.zero_mul, Nat.zero_add, Nat.reduceAdd] at hx60_4)
                         (try rw [show ((2 : Int)).toNat = 2 from rfl] at hf60_4)
                         (try simp only [Nat.reduceMul, Nat.zero_mul, Nat.zero_add, Nat.reduceAdd] at hf60_4)
                         replace p60 := eq_true p60
                         replace q60 := eq_true q60
                         have HX63 := Aside0.mk (show Kd.S k34 34 wc w.heap.size (fun k_ => ((fun _ => True)) k_ ∧ ¬ ((fun _ => False)) k_) (.slice (some ⟨go60, 0, none⟩) t104.length co11) t104 from (by (with_reducible repeat (first | apply Kd.S_alloc | apply Kd.S_drewN | apply Kd.S_drew)); exact Kd.S_mono HO_109002.out (fun k_ hk => ⟨trivial, fun e_ => e_⟩)))
                         obtain ⟨oki63, ce63, hcl63, hM63, hcc63, hfr63, hoki63, hH63⟩ := Kd.S_elem HX63.out z34 (2 : Int) (by omega) (by have h_ : (2 : Int) < ((t104.length : Int) : Int) := of_decide_eq_true (by first | (with_reducible assumption) | assumption); first | exact h_ | (have e_ := (Kd.S_reads' HO_109002.out).1; omega) | simpa using h_)
                         obtain ⟨ve63_4, rfl, ge63_4⟩ := k34_openM hM63
                         have HP63 := Kd.S_seg hH63 (by omega) (by have h_ : (2 : Int) < ((t104.length : Int) : Int) := of_decide_eq_true (by first | (with_reducible assumption) | assumption); first | exact h_ | (have e_ := (Kd.S_reads' HO_109002.out).1; omega) | simpa using h_) (seg := [.int .i64 (wrap64 (7 + (wrap64 (1 + (Go.bits .and .i64 a1 1023)))))]) (j := 1) (show 2 ≤ 5 from by decide) (x' := (⟨(rd_T34 t104 2).f0, wrap64 (7 + (wrap64 (1 + (Go.bits .and .i64 a1 1023)))), (rd_T34 t104 2).f2, (rd_T34 t104 2).f3, (rd_T34 t104 2).f4⟩ : S34)) (k34_mkM _ _ _ (⟨(rd_T34 t104 2).f0, wrap64 (7 + (wrap64 (1 + (Go.bits .and .i64 a1 1023)))), (rd_T34 t104 2).f2, (rd_T34 t104 2).f3, (rd_T34 t104 2).f4⟩ : S34) (Kd.R_mono ge63_4 (fun _ h_ => Or.inl h_))) (fun _ hk => hk) (fun k_ hk_ => hk_.elim)
                         have hx63_1 := hcc63 1 _ rfl
                         (try simp only [show (k34).sz = 5 from rfl, Nat.mul_one, Nat.add_zero] at hx63_1)
                         (try rw [show ((2 : Int)).toNat = 2 from rfl] at hx63_1)
                         (try simp only [Nat.reduceMul, Nat.zero_mul, Nat.zero_add, Nat.reduceAdd] at hx63_1)
                         have hf63_1 := hfr63 1
                         (try simp only [show (k34).sz = 5 from rfl, Nat.mul_one, Nat.add_zero] at hf63_1)
                         (try rw [show ((2 : Int)).toNat = 2 from rfl] at hf63_1)
                         (try simp only [Nat.reduceMul, Nat.zero_mul, Nat.zero_add, Nat.reduceAdd] at hf63_1)
                         clear hcl63 hcc63 hfr63 hM63 hoki63 hH63
                         go_wp2_with (first | ((with_reducible refine gate_store (t := 3) (p := 76) rfl ?_); refine store_event (t := 3) (p := 76) (v := ?vo_w64) (w1 := (wc.setCell ⟨go60, 11, none⟩ (.int .i64 (wrap64 (7 + (wrap64 (1 + (Go.bits .and .i64 a1 1023)))))))) ?hg ?ho ?hn ?hr ?_; (case ho => rfl); (case hg => rfl); (case hn => rfl); (case hr => first | (go_simp; done) | (go_simp; rfl)); intro w64 hw; have hg : wc.grownBy w64 (some go60) := (by rw [hw]; exact HP63.2); have hp_ : Kd.S k34 34 w64 w.heap.size (fun _ => True) (.slice (some ⟨go60, 0, none⟩) t104.length co11) y120 := (by rw [hw, Ny120.out]; exact HP63.1); clear HP63; have n0_ := Aside0.mk (hp_); have n1_ := Aside0.mk (blk_grown (g := gb108) (o := .cells #[.int .i64 t102, .int .i64 t103, .slice (some ⟨go60, 0, none⟩) t104.length co11] 28 (0, 0)) (by (with_reducible repeat (first | refine blk_drewN ?_ _ | refine blk_drew ?_ | refine blk_alloc ?_ _)); exact BK108.out) hg (Kd.S_ne HO_109002.out BK108.out (by decide))); have n2_ := Aside0.mk ((by rw [hw]; exact below_set (HB.out) GB60.out : Below w.heap.size w w64)); clear HO_109002; clear BK108; clear HB; have HO_109002 := n0_; have BK108 := n1_; have HB := n2_; clear n0_ n1_ n2_; clear hg hw hp_; have hcz65_0 : w64.cell? ⟨gb108, 0, none⟩ = some (.int .i64 t102) := (blk_cell BK108.out 0).trans rfl; have hcz65_1 : w64.cell? ⟨gb108, 1, none⟩ = some (.int .i64 t103) := (blk_cell BK108.out 1).trans rfl; have hcz65_2 : w64.cell? ⟨gb108, 2, none⟩ = some (.slice (some ⟨go60, 0, none⟩) t104.length co11) := (blk_cell BK108.out 2).trans rfl; have hfz65_0 := blk_frozen BK108.out 0; have hfz65_1 := blk_frozen BK108.out 1; have hfz65_2 := blk_frozen BK108.out 2) | ((with_reducible refine gate_callee (f := 21) rfl ?_); refine goesL_ (some 144) rfl rfl Try.func21 (by kernel_rfl) rfl #[.agg #[.int .i64 t102, .int .i64 t103, .slice (some ⟨go60, 0, none⟩) y120.length co11], .int .i64 13] rfl (by (try simp only [List.map_toArray, List.map_cons, List.map_nil]); first | done | (rw [show y120.length = t104.length from (Kd.S_reads' HO_109002.out).1.symm] <;> rfl) | rfl | (simp only [List.length_drop, List.length_take]; rfl)) ?_; (with_reducible refine (parse_May.calls t102 t103 _ _ y120 13 t121 _ ?side1 ?side2 A61.out).mono ?_); (case side1 => repeat (first | exact (Kd.S_reads' HO_109002.out).2.2 | (with_reducible refine Kd.C_alloc ?_ _) | (with_reducible refine Kd.C_drewN ?_ _) | (with_reducible refine Kd.C_drew ?_))); (case side2 => rw [show y120.length = t104.length from (Kd.S_reads' HO_109002.out).1.symm]; exact (Kd.S_reads' HO_109002.out).2.1); rintro e w66 ⟨rfl, hb⟩; refine ⟨_, rfl, ?_⟩; have n0_ := Aside0.mk (Kd.S_below (by (with_reducible repeat (first | apply Kd.S_alloc | apply Kd.S_drewN | apply Kd.S_drew)); exact HO_109002.out) hb); have n1_ := Aside0.mk (blk_below (g := gb108) (o := .cells #[.int .i64 t102, .int .i64 t103, .slice (some ⟨go60, 0, none⟩) t104.length co11] 28 (0, 0)) (by (with_reducible repeat (first | refine blk_drewN ?_ _ | refine blk_drew ?_ | refine blk_alloc ?_ _)); exact BK108.out) hb); have n2_ := Aside0.mk (below_step (by repeat (first | (with_reducible first | exact HB.out | apply below_alloc | apply pw_below_drewN | apply below_drew1 | refine below_set ?_ GE108.out) | exact HB.out)) hb); clear HO_109002; clear BK108; clear HB; have HO_109002 := n0_; have BK108 := n1_; have HB := n2_; clear n0_ n1_ n2_; (try clear hb); (try clear hb2); (try clear hk); (try clear hi)))
                         go_ret
                         exact ⟨by first | rfl | (simp [errW_none, errW_some] <;> rfl) | (simp [*, errW_none, errW_some] <;> rfl), by repeat (first | (with_reducible first | exact HB.out | apply below_alloc | apply pw_below_drewN | apply below_drew1 | refine below_set ?_ GE108.out) | exact HB.out)⟩
                       · rw [if_neg c59] at H
                         exact absurd H (by simp)
                     · rw [if_neg c58] at H
                       have c58b0 : ((Int.tmod (IntKind.u64.wrap (a0)) 18) == 7) = false := beq_eq_false_iff_ne.mpr c58
                       have c58b1 : ((Int.tmod (IntKind.u64.wrap (a0)) 18) != 7) = true := bne_iff_ne.mpr c58
                       by_cases c67 : (Int.tmod (IntKind.u64.wrap (a0)) 18) = 8
                       · rw [if_pos c67] at H
                         have c67b0 : ((Int.tmod (IntKind.u64.wrap (a0)) 18) == 8) = true := beq_iff_eq.mpr c67
                         have c67b1 : ((Int.tmod (IntKind.u64.wrap (a0)) 18) != 8) = false := bne_eq_false_iff_eq.mpr c67
                         clear c67
                         by_cases c68 : 2 < (t104.length : Int)
                         · rw [if_pos c68] at H
                           have c68b0 : decide (2 < (t104.length : Int)) = true := decide_eq_true c68
                           have c68b1 : decide (2 < t104.length) = true := decide_eq_true (by omega)
                           clear c68
                           obtain ⟨y122, hy122⟩ : ∃ y_ : List (S34), y_ = (t104.set (2 : Int).toNat (⟨(rd_T34 t104 2).f0, 0, (rd_T34 t104 2).f2, (rd_T34 t104 2).f3, (rd_T34 t104 2).f4⟩ : S34)) := ⟨_, rfl⟩
                           replace H : ((parse_May.f t102 t103 y122 13).bind fun t123 => (some (!t123))) = some r := by first | (rw [hy122]; with_reducible exact H) | (have H2_ := (Option.bind_some _ _).symm.trans H; rw [hy122]; with_reducible exact H2_) | (have H2_ := (Option.bind_some _ _).symm.trans H; with_reducible exact H2_) | with_reducible exact H | (rw [hy122]; exact H) | exact H
                           have Ny122 := Aside0.mk hy122
                           clear hy122
                           replace H := Option.bind_eq_some_iff.mp H
                           obtain ⟨t123, A700, H⟩ := H
                           replace H : (some (!t123)) = some r := H
                           have A70 := Aside0.mk A700
                           clear A700
                           obtain rfl := Option.some.inj H
                           have hcz71_0 : wc.cell? ⟨gb108, 0, none⟩ = some (.int .i64 t102) := (blk_cell BK108.out 0).trans rfl
                           have hcz71_1 : wc.cell? ⟨gb108, 1, none⟩ = some (.int .i64 t103) := (blk_cell BK108.out 1).trans rfl
                           have hcz71_2 : wc.cell? ⟨gb108, 2, none⟩ = some (.slice Ao11 t104.length co11) := (blk_cell BK108.out 2).trans rfl
                           have hfz71_0 := blk_frozen BK108.out 0
                           have hfz71_1 := blk_frozen BK108.out 1
                           have hfz71_2 := blk_frozen BK108.out 2
                           have p69 : 0 ≤ (2 : Int) := (by omega)
                           have q69 : (2 : Int) < ((t104.length : Int) : Int) := of_decide_eq_true (by first | (with_reducible assumption) | assumption)
                           have qi69 : (2 < t104.length) = True := eq_true (by omega)
                           obtain ⟨go69, co69, eo69, gb69, gl69, cl69, HG69⟩ := Kd.S_form HO_109002.out (by omega)
                           (first | cases eo69 | (injection eo69 with ea_ en_ ec_; (first | subst ea_ | (injection ea_ with ea_; subst ea_)); subst ec_; clear en_))
                           have GB69 := Aside0.mk gb69
                           have GG69 := Aside0.mk HG69
                           clear gb69 gl69 HG69
                           obtain ⟨_, ce69, hcl69, hM69, hcc69, hfr69, _, _⟩ := Kd.S_elem HO_109002.out z34 (2 : Int) p69 q69
                           obtain ⟨ve69_4, rfl, ge69_4⟩ := k34_openM hM69
                           have hx69_0 : wc.cell? ⟨go69, (2 : Int).toNat * 5, none⟩ = some (.int .i64 ((rd_T34 t104 2).f0)) := hcc69 0 _ rfl
                           have hx69_1 : wc.cell? ⟨go69, (2 : Int).toNat * 5 + 1, none⟩ = some (.int .i64 ((rd_T34 t104 2).f1)) := hcc69 1 _ rfl
                           have hx69_2 : wc.cell? ⟨go69, (2 : Int).toNat * 5 + 2, none⟩ = some (.int .i64 ((rd_T34 t104 2).f2)) := hcc69 2 _ rfl
                           have hx69_3 : wc.cell? ⟨go69, (2 : Int).toNat * 5 + 3, none⟩ = some (.int .i64 ((rd_T34 t104 2).f3)) := hcc69 3 _ rfl
                           have hx69_4 : wc.cell? ⟨go69, (2 : Int).toNat * 5 + 4, none⟩ = some (ve69_4) := hcc69 4 _ rfl
                           have hf69_0 : wc.frozen? ⟨go69, (2 : Int).toNat * 5, none⟩ = false := hfr69 0
                           have hf69_1 : wc.frozen? ⟨go69, (2 : Int).toNat * 5 + 1, none⟩ = false := hfr69 1
                           have hf69_2 : wc.frozen? ⟨go69, (2 : Int).toNat * 5 + 2, none⟩ = false := hfr69 2
                           have hf69_3 : wc.frozen? ⟨go69, (2 : Int).toNat * 5 + 3, none⟩ = false := hfr69 3
                           have hf69_4 : wc.frozen? ⟨go69, (2 : Int).toNat * 5 + 4, none⟩ = false := hfr69 4
                           clear hcl69 hcc69 hfr69 hM69
                           (try rw [show ((2 : Int)).toNat = 2 from rfl] at hx69_0)
                           (try simp only [Nat.reduceMul, Nat.zero_mul, Nat.zero_add, Nat.reduceAdd] at hx69_0)
                           (try rw [show ((2 : Int)).toNat = 2 from rfl] at hf69_0)
                           (try simp only [Nat.reduceMul, Nat.zero_mul, Nat.zero_add, Nat.reduceAdd] at hf69_0)
                           (try rw [show ((2 : Int)).toNat = 2 from rfl] at hx69_1)
                           (try simp only [Nat.reduceMul, Nat.zero_mul, Nat.zero_add, Nat.reduceAdd] at hx69_1)
                           (try rw [show ((2 : Int)).toNat = 2 from rfl] at hf69_1)
                           (try simp only [Nat.reduceMul, Nat.zero_mul, Nat.zero_add, Nat.reduceAdd] at hf69_1)
                           (try rw [show ((2 : Int)).toNat = 2 from rfl] at hx69_2)
                           (try simp only [Nat.reduceMul, Nat.zero_mul, Nat.zero_add, Nat.reduceAdd] at hx69_2)
                           (try rw [show ((2 : Int)).toNat = 2 from rfl] at hf69_2)
                           (try simp only [Nat.reduceMul, Nat.zero_mul, Nat.zero_add, Nat.reduceAdd] at hf69_2)
                           (try rw [show ((2 : Int)).toNat = 2 from rfl] at hx69_3)
                           (try simp only [Nat.reduceMul, Nat.zero_mul, Nat.zero_add, Nat.reduceAdd] at hx69_3)
                           (try rw [show ((2 : Int)).toNat = 2 from rfl] at hf69_3)
                           (try simp only [Nat.reduceMul, Nat.zero_mul, Nat.zero_add, Nat.reduceAdd] at hf69_3)
                           (try rw [show ((2 : Int)).toNat = 2 from rfl] at hx69_4)
                           (try simp only [Nat.reduceMul, Nat.zero_mul, Nat.zero_add, Nat.reduceAdd] at hx69_4)
                           (try rw [show ((2 : Int)).toNat = 2 from rfl] at hf69_4)
                           (try simp only [Nat.reduceMul, Nat.zero_mul, Nat.zero_add, Nat.reduceAdd] at hf69_4)
                           replace p69 := eq_true p69
                           replace q69 := eq_true q69
                           have HX72 := Aside0.mk (show Kd.S k34 34 wc w.heap.size (fun k_ => ((fun _ => True)) k_ ∧ ¬ ((fun _ => False)) k_) (.slice (some ⟨go69, 0, none⟩) t104.length co11) t104 from (by (with_reducible repeat (first | apply Kd.S_alloc | apply Kd.S_drewN | apply Kd.S_drew)); exact Kd.S_mono HO_109002.out (fun k_ hk => ⟨trivial, fun e_ => e_⟩)))
                           obtain ⟨oki72, ce72, hcl72, hM72, hcc72, hfr72, hoki72, hH72⟩ := Kd.S_elem HX72.out z34 (2 : Int) (by omega) (by have h_ : (2 : Int) < ((t104.length : Int) : Int) := of_decide_eq_true (by first | (with_reducible assumption) | assumption); first | exact h_ | (have e_ := (Kd.S_reads' HO_109002.out).1; omega) | simpa using h_)
                           obtain ⟨ve72_4, rfl, ge72_4⟩ := k34_openM hM72
                           have HP72 := Kd.S_seg hH72 (by omega) (by have h_ : (2 : Int) < ((t104.length : Int) : Int) := of_decide_eq_true (by first | (with_reducible assumption) | assumption); first | exact h_ | (have e_ := (Kd.S_reads' HO_109002.out).1; omega) | simpa using h_) (seg := [.int .i64 0]) (j := 1) (show 2 ≤ 5 from by decide) (x' := (⟨(rd_T34 t104 2).f0, 0, (rd_T34 t104 2).f2, (rd_T34 t104 2).f3, (rd_T34 t104 2).f4⟩ : S34)) (k34_mkM _ _ _ (⟨(rd_T34 t104 2).f0, 0, (rd_T34 t104 2).f2, (rd_T34 t104 2).f3, (rd_T34 t104 2).f4⟩ : S34) (Kd.R_mono ge72_4 (fun _ h_ => Or.inl h_))) (fun _ hk => hk) (fun k_ hk_ => hk_.elim)
                           have hx72_1 := hcc72 1 _ rfl
                           (try simp only [show (k34).sz = 5 from rfl, Nat.mul_one, Nat.add_zero] at hx72_1)
                           (try rw [show ((2 : Int)).toNat = 2 from rfl] at hx72_1)
                           (try simp only [Nat.reduceMul, Nat.zero_mul, Nat.zero_add, Nat.reduceAdd] at hx72_1)
                           have hf72_1 := hfr72 1
                           (try simp only [show (k34).sz = 5 from rfl, Nat.mul_one, Nat.add_zero] at hf72_1)
                           (try rw [show ((2 : Int)).toNat = 2 from rfl] at hf72_1)
                           (try simp only [Nat.reduceMul, Nat.zero_mul, Nat.zero_add, Nat.reduceAdd] at hf72_1)
                           clear hcl72 hcc72 hfr72 hM72 hoki72 hH72
                           go_wp2_with (first | ((with_reducible refine gate_store (t := 3) (p := 82) rfl ?_); refine store_event (t := 3) (p := 82) (v := ?vo_w73) (w1 := (wc.setCell ⟨go69, 11, none⟩ (.int .i64 0))) ?hg ?ho ?hn ?hr ?_; (case ho => rfl); (case hg => rfl); (case hn => rfl); (case hr => first | (go_simp; done) | (go_simp; rfl)); intro w73 hw; have hg : wc.grownBy w73 (some go69) := (by rw [hw]; exact HP72.2); have hp_ : Kd.S k34 34 w73 w.heap.size (fun _ => True) (.slice (some ⟨go69, 0, none⟩) t104.length co11) y122 := (by rw [hw, Ny122.out]; exact HP72.1); clear HP72; have n0_ := Aside0.mk (hp_); have n1_ := Aside0.mk (blk_grown (g := gb108) (o := .cells #[.int .i64 t102, .int .i64 t103, .slice (some ⟨go69, 0, none⟩) t104.length co11] 28 (0, 0)) (by (with_reducible repeat (first | refine blk_drewN ?_ _ | refine blk_drew ?_ | refine blk_alloc ?_ _)); exact BK108.out) hg (Kd.S_ne HO_109002.out BK108.out (by decide))); have n2_ := Aside0.mk ((by rw [hw]; exact below_set (HB.out) GB69.out : Below w.heap.size w w73)); clear HO_109002; clear BK108; clear HB; have HO_109002 := n0_; have BK108 := n1_; have HB := n2_; clear n0_ n1_ n2_; clear hg hw hp_; have hcz74_0 : w73.cell? ⟨gb108, 0, none⟩ = some (.int .i64 t102) := (blk_cell BK108.out 0).trans rfl; have hcz74_1 : w73.cell? ⟨gb108, 1, none⟩ = some (.int .i64 t103) := (blk_cell BK108.out 1).trans rfl; have hcz74_2 : w73.cell? ⟨gb108, 2, none⟩ = some (.slice (some ⟨go69, 0, none⟩) t104.length co11) := (blk_cell BK108.out 2).trans rfl; have hfz74_0 := blk_frozen BK108.out 0; have hfz74_1 := blk_frozen BK108.out 1; have hfz74_2 := blk_frozen BK108.out 2) | ((with_reducible refine gate_callee (f := 21) rfl ?_); refine goesL_ (some 144) rfl rfl Try.func21 (by kernel_rfl) rfl #[.agg #[.int .i64 t102, .int .i64 t103, .slice (some ⟨go69, 0, none⟩) y122.length co11], .int .i64 13] rfl (by (try simp only [List.map_toArray, List.map_cons, List.map_nil]); first | done | (rw [show y122.length = t104.length from (Kd.S_reads' HO_109002.out).1.symm] <;> rfl) | rfl | (simp only [List.length_drop, List.length_take]; rfl)) ?_; (with_reducible refine (parse_May.calls t102 t103 _ _ y122 13 t123 _ ?side1 ?side2 A70.out).mono ?_); (case side1 => repeat (first | exact (Kd.S_reads' HO_109002.out).2.2 | (with_reducible refine Kd.C_alloc ?_ _) | (with_reducible refine Kd.C_drewN ?_ _) | (with_reducible refine Kd.C_drew ?_))); (case side2 => rw [show y122.length = t104.length from (Kd.S_reads' HO_109002.out).1.symm]; exact (Kd.S_reads' HO_109002.out).2.1); rintro e w75 ⟨rfl, hb⟩; refine ⟨_, rfl, ?_⟩; have n0_ := Aside0.mk (Kd.S_below (by (with_reducible repeat (first | apply Kd.S_alloc | apply Kd.S_drewN | apply Kd.S_drew)); exact HO_109002.out) hb); have n1_ := Aside0.mk (blk_below (g := gb108) (o := .cells #[.int .i64 t102, .int .i64 t103, .slice (some ⟨go69, 0, none⟩) t104.length co11] 28 (0, 0)) (by (with_reducible repeat (first | refine blk_drewN ?_ _ | refine blk_drew ?_ | refine blk_alloc ?_ _)); exact BK108.out) hb); have n2_ := Aside0.mk (below_step (by repeat (first | (with_reducible first | exact HB.out | apply below_alloc | apply pw_below_drewN | apply below_drew1 | refine below_set ?_ GE108.out) | exact HB.out)) hb); clear HO_109002; clear BK108; clear HB; have HO_109002 := n0_; have BK108 := n1_; have HB := n2_; clear n0_ n1_ n2_; (try clear hb); (try clear hb2); (try clear hk); (try clear hi)))
                           go_ret
                           exact ⟨by first | rfl | (simp [errW_none, errW_some] <;> rfl) | (simp [*, errW_none, errW_some] <;> rfl), by repeat (first | (with_reducible first | exact HB.out | apply below_alloc | apply pw_below_drewN | apply below_drew1 | refine below_set ?_ GE108.out) | exact HB.out)⟩
                         · rw [if_neg c68] at H
                           exact absurd H (by simp)
                       · rw [if_neg c67] at H
                         have c67b0 : ((Int.tmod (IntKind.u64.wrap (a0)) 18) == 8) = false := beq_eq_false_iff_ne.mpr c67
                         have c67b1 : ((Int.tmod (IntKind.u64.wrap (a0)) 18) != 8) = true := bne_iff_ne.mpr c67
                         by_cases c76 : (Int.tmod (IntKind.u64.wrap (a0)) 18) = 9
                         · rw [if_pos c76] at H
                           have c76b0 : ((Int.tmod (IntKind.u64.wrap (a0)) 18) == 9) = true := beq_iff_eq.mpr c76
                           have c76b1 : ((Int.tmod (IntKind.u64.wrap (a0)) 18) != 9) = false := bne_eq_false_iff_eq.mpr c76
                           clear c76
                           by_cases c77 : 2 < (t104.length : Int)
                           · rw [if_pos c77] at H
                             have c77b0 : decide (2 < (t104.length : Int)) = true := decide_eq_true c77
                             have c77b1 : decide (2 < t104.length) = true := decide_eq_true (by omega)
                             clear c77
                             obtain ⟨y124, hy124⟩ : ∃ y_ : List (S34), y_ = (t104.set (2 : Int).toNat (⟨(rd_T34 t104 2).f0, (rd_T34 t104 2).f1, wrap64 (-(wrap64 (1 + (Go.bits .and .i64 a1 1023)))), (rd_T34 t104 2).f3, (rd_T34 t104 2).f4⟩ : S34)) := ⟨_, rfl⟩
                             replace H : ((parse_May.f t102 t103 y124 13).bind fun t125 => (some (!t125))) = some r := by first | (rw [hy124]; with_reducible exact H) | (have H2_ := (Option.bind_some _ _).symm.trans H; rw [hy124]; with_reducible exact H2_) | (have H2_ := (Option.bind_some _ _).symm.trans H; with_reducible exact H2_) | with_reducible exact H | (rw [hy124]; exact H) | exact H
                             have Ny124 := Aside0.mk hy124
                             clear hy124
                             replace H := Option.bind_eq_some_iff.mp H
                             obtain ⟨t125, A790, H⟩ := H
                             replace H : (some (!t125)) = some r := H
                             have A79 := Aside0.mk A790
                             clear A790
                             obtain rfl := Option.some.inj H
                             have hcz80_0 : wc.cell? ⟨gb108, 0, none⟩ = some (.int .i64 t102) := (blk_cell BK108.out 0).trans rfl
                             have hcz80_1 : wc.cell? ⟨gb108, 1, none⟩ = some (.int .i64 t103) := (blk_cell BK108.out 1).trans rfl
                             have hcz80_2 : wc.cell? ⟨gb108, 2, none⟩ = some (.slice Ao11 t104.length co11) := (blk_cell BK108.out 2).trans rfl
                             have hfz80_0 := blk_frozen BK108.out 0
                             have hfz80_1 := blk_frozen BK108.out 1
                             have hfz80_2 := blk_frozen BK108.out 2
                             have p78 : 0 ≤ (2 : Int) := (by omega)
                             have q78 : (2 : Int) < ((t104.length : Int) : Int) := of_decide_eq_true (by first | (with_reducible assumption) | assumption)
                             have qi78 : (2 < t104.length) = True := eq_true (by omega)
                             obtain ⟨go78, co78, eo78, gb78, gl78, cl78, HG78⟩ := Kd.S_form HO_109002.out (by omega)
                             (first | cases eo78 | (injection eo78 with ea_ en_ ec_; (first | subst ea_ | (injection ea_ with ea_; subst ea_)); subst ec_; clear en_))
                             have GB78 := Aside0.mk gb78
                             have GG78 := Aside0.mk HG78
                             clear gb78 gl78 HG78
                             obtain ⟨_, ce78, hcl78, hM78, hcc78, hfr78, _, _⟩ := Kd.S_elem HO_109002.out z34 (2 : Int) p78 q78
                             obtain ⟨ve78_4, rfl, ge78_4⟩ := k34_openM hM78
                             have hx78_0 : wc.cell? ⟨go78, (2 : Int).toNat * 5, none⟩ = some (.int .i64 ((rd_T34 t104 2).f0)) := hcc78 0 _ rfl
                             have hx78_1 : wc.cell? ⟨go78, (2 : Int).toNat * 5 + 1, none⟩ = some (.int .i64 ((rd_T34 t104 2).f1)) := hcc78 1 _ rfl
                             have hx78_2 : wc.cell? ⟨go78, (2 : Int).toNat * 5 + 2, none⟩ = some (.int .i64 ((rd_T34 t104 2).f2)) := hcc78 2 _ rfl
                             have hx78_3 : wc.cell? ⟨go78, (2 : Int).toNat * 5 + 3, none⟩ = some (.int .i64 ((rd_T34 t104 2).f3)) := hcc78 3 _ rfl
                             have hx78_4 : wc.cell? ⟨go78, (2 : Int).toNat * 5 + 4, none⟩ = some (ve78_4) := hcc78 4 _ rfl
                             have hf78_0 : wc.frozen? ⟨go78, (2 : Int).toNat * 5, none⟩ = false := hfr78 0
                             have hf78_1 : wc.frozen? ⟨go78, (2 : Int).toNat * 5 + 1, none⟩ = false := hfr78 1
                             have hf78_2 : wc.frozen? ⟨go78, (2 : Int).toNat * 5 + 2, none⟩ = false := hfr78 2
                             have hf78_3 : wc.frozen? ⟨go78, (2 : Int).toNat * 5 + 3, none⟩ = false := hfr78 3
                             have hf78_4 : wc.frozen? ⟨go78, (2 : Int).toNat * 5 + 4, none⟩ = false := hfr78 4
                             clear hcl78 hcc78 hfr78 hM78
                             (try rw [show ((2 : Int)).toNat = 2 from rfl] at hx78_0)
                             (try simp only [Nat.reduceMul, Nat.zero_mul, Nat.zero_add, Nat.reduceAdd] at hx78_0)
                             (try rw [show ((2 : Int)).toNat = 2 from rfl] at hf78_0)
                             (try simp only [Nat.reduceMul, Nat.zero_mul, Nat.zero_add, Nat.reduceAdd] at hf78_0)
                             (try rw [show ((2 : Int)).toNat = 2 from rfl] at hx78_1)
                             (try simp only [Nat.reduceMul, Nat.zero_mul, Nat.zero_add, Nat.reduceAdd] at hx78_1)
                             (try rw [show ((2 : Int)).toNat = 2 from rfl] at hf78_1)
                             (try simp only [Nat.reduceMul, Nat.zero_mul, Nat.zero_add, Nat.reduceAdd] at hf78_1)
                             (try rw [show ((2 : Int)).toNat = 2 from rfl] at hx78_2)
                             (try simp only [Nat.reduceMul, Nat.zero_mul, Nat.zero_add, Nat.reduceAdd] at hx78_2)
                             (try rw [show ((2 : Int)).toNat = 2 from rfl] at hf78_2)
                             (try simp only [Nat.reduceMul, Nat.zero_mul, Nat.zero_add, Nat.reduceAdd] at hf78_2)
                             (try rw [show ((2 : Int)).toNat = 2 from rfl] at hx78_3)
                             (try simp only [Nat.reduceMul, Nat.zero_mul, Nat.zero_add, Nat.reduceAdd] at hx78_3)
                             (try rw [show ((2 : Int)).toNat = 2 from rfl] at hf78_3)
                             (try simp only [Nat.reduceMul, Nat.zero_mul, Nat.zero_add, Nat.reduceAdd] at hf78_3)
                             (try rw [show ((2 : Int)).toNat = 2 from rfl] at hx78_4)
                             (try simp only [Nat.reduceMul, Nat.zero_mul, Nat.zero_add, Nat.reduceAdd] at hx78_4)
                             (try rw [show ((2 : Int)).toNat = 2 from rfl] at hf78_4)
                             (try simp only [Nat.reduceMul, Nat.zero_mul, Nat.zero_add, Nat.reduceAdd] at hf78_4)
                             replace p78 := eq_true p78
                             replace q78 := eq_true q78
                             have HX81 := Aside0.mk (show Kd.S k34 34 wc w.heap.size (fun k_ => ((fun _ => True)) k_ ∧ ¬ ((fun _ => False)) k_) (.slice (some ⟨go78, 0, none⟩) t104.length co11) t104 from (by (with_reducible repeat (first | apply Kd.S_alloc | apply Kd.S_drewN | apply Kd.S_drew)); exact Kd.S_mono HO_109002.out (fun k_ hk => ⟨trivial, fun e_ => e_⟩)))
                             obtain ⟨oki81, ce81, hcl81, hM81, hcc81, hfr81, hoki81, hH81⟩ := Kd.S_elem HX81.out z34 (2 : Int) (by omega) (by have h_ : (2 : Int) < ((t104.length : Int) : Int) := of_decide_eq_true (by first | (with_reducible assumption) | assumption); first | exact h_ | (have e_ := (Kd.S_reads' HO_109002.out).1; omega) | simpa using h_)
                             obtain ⟨ve81_4, rfl, ge81_4⟩ := k34_openM hM81
                             have HP81 := Kd.S_seg hH81 (by omega) (by have h_ : (2 : Int) < ((t104.length : Int) : Int) := of_decide_eq_true (by first | (with_reducible assumption) | assumption); first | exact h_ | (have e_ := (Kd.S_reads' HO_109002.out).1; omega) | simpa using h_) (seg := [.int .i64 (wrap64 (-(wrap64 (1 + (Go.bits .and .i64 a1 1023)))))]) (j := 2) (show 3 ≤ 5 from by decide) (x' := (⟨(rd_T34 t104 2).f0, (rd_T34 t104 2).f1, wrap64 (-(wrap64 (1 + (Go.bits .and .i64 a1 1023)))), (rd_T34 t104 2).f3, (rd_T34 t104 2).f4⟩ : S34)) (k34_mkM _ _ _ (⟨(rd_T34 t104 2).f0, (rd_T34 t104 2).f1, wrap64 (-(wrap64 (1 + (Go.bits .and .i64 a1 1023)))), (rd_T34 t104 2).f3, (rd_T34 t104 2).f4⟩ : S34) (Kd.R_mono ge81_4 (fun _ h_ => Or.inl h_))) (fun _ hk => hk) (fun k_ hk_ => hk_.elim)
                             have hx81_2 := hcc81 2 _ rfl
                             (try simp only [show (k34).sz = 5 from rfl, Nat.mul_one, Nat.add_zero] at hx81_2)
                             (try rw [show ((2 : Int)).toNat = 2 from rfl] at hx81_2)
                             (try simp only [Nat.reduceMul, Nat.zero_mul, Nat.zero_add, Nat.reduceAdd] at hx81_2)
                             have hf81_2 := hfr81 2
                             (try simp only [show (k34).sz = 5 from rfl, Nat.mul_one, Nat.add_zero] at hf81_2)
                             (try rw [show ((2 : Int)).toNat = 2 from rfl] at hf81_2)
                             (try simp only [Nat.reduceMul, Nat.zero_mul, Nat.zero_add, Nat.reduceAdd] at hf81_2)
                             clear hcl81 hcc81 hfr81 hM81 hoki81 hH81
                             go_wp2_with (first | ((with_reducible refine gate_store (t := 3) (p := 90) rfl ?_); refine store_event (t := 3) (p := 90) (v := ?vo_w82) (w1 := (wc.setCell ⟨go78, 12, none⟩ (.int .i64 (wrap64 (-(wrap64 (1 + (Go.bits .and .i64 a1 1023)))))))) ?hg ?ho ?hn ?hr ?_; (case ho => rfl); (case hg => rfl); (case hn => rfl); (case hr => first | (go_simp; done) | (go_simp; rfl)); intro w82 hw; have hg : wc.grownBy w82 (some go78) := (by rw [hw]; exact HP81.2); have hp_ : Kd.S k34 34 w82 w.heap.size (fun _ => True) (.slice (some ⟨go78, 0, none⟩) t104.length co11) y124 := (by rw [hw, Ny124.out]; exact HP81.1); clear HP81; have n0_ := Aside0.mk (hp_); have n1_ := Aside0.mk (blk_grown (g := gb108) (o := .cells #[.int .i64 t102, .int .i64 t103, .slice (some ⟨go78, 0, none⟩) t104.length co11] 28 (0, 0)) (by (with_reducible repeat (first | refine blk_drewN ?_ _ | refine blk_drew ?_ | refine blk_alloc ?_ _)); exact BK108.out) hg (Kd.S_ne HO_109002.out BK108.out (by decide))); have n2_ := Aside0.mk ((by rw [hw]; exact below_set (HB.out) GB78.out : Below w.heap.size w w82)); clear HO_109002; clear BK108; clear HB; have HO_109002 := n0_; have BK108 := n1_; have HB := n2_; clear n0_ n1_ n2_; clear hg hw hp_; have hcz83_0 : w82.cell? ⟨gb108, 0, none⟩ = some (.int .i64 t102) := (blk_cell BK108.out 0).trans rfl; have hcz83_1 : w82.cell? ⟨gb108, 1, none⟩ = some (.int .i64 t103) := (blk_cell BK108.out 1).trans rfl; have hcz83_2 : w82.cell? ⟨gb108, 2, none⟩ = some (.slice (some ⟨go78, 0, none⟩) t104.length co11) := (blk_cell BK108.out 2).trans rfl; have hfz83_0 := blk_frozen BK108.out 0; have hfz83_1 := blk_frozen BK108.out 1; have hfz83_2 := blk_frozen BK108.out 2) | ((with_reducible refine gate_callee (f := 21) rfl ?_); refine goesL_ (some 144) rfl rfl Try.func21 (by kernel_rfl) rfl #[.agg #[.int .i64 t102, .int .i64 t103, .slice (some ⟨go78, 0, none⟩) y124.length co11], .int .i64 13] rfl (by (try simp only [List.map_toArray, List.map_cons, List.map_nil]); first | done | (rw [show y124.length = t104.length from (Kd.S_reads' HO_109002.out).1.symm] <;> rfl) | rfl | (simp only [List.length_drop, List.length_take]; rfl)) ?_; (with_reducible refine (parse_May.calls t102 t103 _ _ y124 13 t125 _ ?side1 ?side2 A79.out).mono ?_); (case side1 => repeat (first | exact (Kd.S_reads' HO_109002.out).2.2 | (with_reducible refine Kd.C_alloc ?_ _) | (with_reducible refine Kd.C_drewN ?_ _) | (with_reducible refine Kd.C_drew ?_))); (case side2 => rw [show y124.length = t104.length from (Kd.S_reads' HO_109002.out).1.symm]; exact (Kd.S_reads' HO_109002.out).2.1); rintro e w84 ⟨rfl, hb⟩; refine ⟨_, rfl, ?_⟩; have n0_ := Aside0.mk (Kd.S_below (by (with_reducible repeat (first | apply Kd.S_alloc | apply Kd.S_drewN | apply Kd.S_drew)); exact HO_109002.out) hb); have n1_ := Aside0.mk (blk_below (g := gb108) (o := .cells #[.int .i64 t102, .int .i64 t103, .slice (some ⟨go78, 0, none⟩) t104.length co11] 28 (0, 0)) (by (with_reducible repeat (first | refine blk_drewN ?_ _ | refine blk_drew ?_ | refine blk_alloc ?_ _)); exact BK108.out) hb); have n2_ := Aside0.mk (below_step (by repeat (first | (with_reducible first | exact HB.out | apply below_alloc | apply pw_below_drewN | apply below_drew1 | refine below_set ?_ GE108.out) | exact HB.out)) hb); clear HO_109002; clear BK108; clear HB; have HO_109002 := n0_; have BK108 := n1_; have HB := n2_; clear n0_ n1_ n2_; (try clear hb); (try clear hb2); (try clear hk); (try clear hi)))
                             go_ret
                             exact ⟨by first | rfl | (simp [errW_none, errW_some] <;> rfl) | (simp [*, errW_none, errW_some] <;> rfl), by repeat (first | (with_reducible first | exact HB.out | apply below_alloc | apply pw_below_drewN | apply below_drew1 | refine below_set ?_ GE108.out) | exact HB.out)⟩
                           · rw [if_neg c77] at H
                             exact absurd H (by simp)
                         · rw [if_neg c76] at H
                           have c76b0 : ((Int.tmod (IntKind.u64.wrap (a0)) 18) == 9) = false := beq_eq_false_iff_ne.mpr c76
                           have c76b1 : ((Int.tmod (IntKind.u64.wrap (a0)) 18) != 9) = true := bne_iff_ne.mpr c76
                           by_cases c85 : (Int.tmod (IntKind.u64.wrap (a0)) 18) = 10
                           · rw [if_pos c85] at H
                             have c85b0 : ((Int.tmod (IntKind.u64.wrap (a0)) 18) == 10) = true := beq_iff_eq.mpr c85
                             have c85b1 : ((Int.tmod (IntKind.u64.wrap (a0)) 18) != 10) = false := bne_eq_false_iff_eq.mpr c85
                             clear c85
                             by_cases c86 : 2 < (t104.length : Int)
                             · rw [if_pos c86] at H
                               have c86b0 : decide (2 < (t104.length : Int)) = true := decide_eq_true c86
                               have c86b1 : decide (2 < t104.length) = true := decide_eq_true (by omega)
                               clear c86
                               obtain ⟨y126, hy126⟩ : ∃ y_ : List (S34), y_ = (t104.set (2 : Int).toNat (⟨(rd_T34 t104 2).f0, (rd_T34 t104 2).f1, (rd_T34 t104 2).f2, 0, (rd_T34 t104 2).f4⟩ : S34)) := ⟨_, rfl⟩
                               replace H : ((parse_May.f t102 t103 y126 13).bind fun t127 => (some (!t127))) = some r := by first | (rw [hy126]; with_reducible exact H) | (have H2_ := (Option.bind_some _ _).symm.trans H; rw [hy126]; with_reducible exact H2_) | (have H2_ := (Option.bind_some _ _).symm.trans H; with_reducible exact H2_) | with_reducible exact H | (rw [hy126]; exact H) | exact H
                               have Ny126 := Aside0.mk hy126
                               clear hy126
                               replace H := Option.bind_eq_some_iff.mp H
                               obtain ⟨t127, A880, H⟩ := H
                               replace H : (some (!t127)) = some r := H
                               have A88 := Aside0.mk A880
                               clear A880
                               obtain rfl := Option.some.inj H
                               have hcz89_0 : wc.cell? ⟨gb108, 0, none⟩ = some (.int .i64 t102) := (blk_cell BK108.out 0).trans rfl
                               have hcz89_1 : wc.cell? ⟨gb108, 1, none⟩ = some (.int .i64 t103) := (blk_cell BK108.out 1).trans rfl
                               have hcz89_2 : wc.cell? ⟨gb108, 2, none⟩ = some (.slice Ao11 t104.length co11) := (blk_cell BK108.out 2).trans rfl
                               have hfz89_0 := blk_frozen BK108.out 0
                               have hfz89_1 := blk_frozen BK108.out 1
                               have hfz89_2 := blk_frozen BK108.out 2
                               have p87 : 0 ≤ (2 : Int) := (by omega)
                               have q87 : (2 : Int) < ((t104.length : Int) : Int) := of_decide_eq_true (by first | (with_reducible assumption) | assumption)
                               have qi87 : (2 < t104.length) = True := eq_true (by omega)
                               obtain ⟨go87, co87, eo87, gb87, gl87, cl87, HG87⟩ := Kd.S_form HO_109002.out (by omega)
                               (first | cases eo87 | (injection eo87 with ea_ en_ ec_; (first | subst ea_ | (injection ea_ with ea_; subst ea_)); subst ec_; clear en_))
                               have GB87 := Aside0.mk gb87
                               have GG87 := Aside0.mk HG87
                               clear gb87 gl87 HG87
                               obtain ⟨_, ce87, hcl87, hM87, hcc87, hfr87, _, _⟩ := Kd.S_elem HO_109002.out z34 (2 : Int) p87 q87
                               obtain ⟨ve87_4, rfl, ge87_4⟩ := k34_openM hM87
                               have hx87_0 : wc.cell? ⟨go87, (2 : Int).toNat * 5, none⟩ = some (.int .i64 ((rd_T34 t104 2).f0)) := hcc87 0 _ rfl
                               have hx87_1 : wc.cell? ⟨go87, (2 : Int).toNat * 5 + 1, none⟩ = some (.int .i64 ((rd_T34 t104 2).f1)) := hcc87 1 _ rfl
                               have hx87_2 : wc.cell? ⟨go87, (2 : Int).toNat * 5 + 2, none⟩ = some (.int .i64 ((rd_T34 t104 2).f2)) := hcc87 2 _ rfl
                               have hx87_3 : wc.cell? ⟨go87, (2 : Int).toNat * 5 + 3, none⟩ = some (.int .i64 ((rd_T34 t104 2).f3)) := hcc87 3 _ rfl
                               have hx87_4 : wc.cell? ⟨go87, (2 : Int).toNat * 5 + 4, none⟩ = some (ve87_4) := hcc87 4 _ rfl
                               have hf87_0 : wc.frozen? ⟨go87, (2 : Int).toNat * 5, none⟩ = false := hfr87 0
                               have hf87_1 : wc.frozen? ⟨go87, (2 : Int).toNat * 5 + 1, none⟩ = false := hfr87 1
                               have hf87_2 : wc.frozen? ⟨go87, (2 : Int).toNat * 5 + 2, none⟩ = false := hfr87 2
                               have hf87_3 : wc.frozen? ⟨go87, (2 : Int).toNat * 5 + 3, none⟩ = false := hfr87 3
                               have hf87_4 : wc.frozen? ⟨go87, (2 : Int).toNat * 5 + 4, none⟩ = false := hfr87 4
                               clear hcl87 hcc87 hfr87 hM87
                               (try rw [show ((2 : Int)).toNat = 2 from rfl] at hx87_0)
                               (try simp only [Nat.reduceMul, Nat.zero_mul, Nat.zero_add, Nat.reduceAdd] at hx87_0)
                               (try rw [show ((2 : Int)).toNat = 2 from rfl] at hf87_0)
                               (try simp only [Nat.reduceMul, Nat.zero_mul, Nat.zero_add, Nat.reduceAdd] at hf87_0)
                               (try rw [show ((2 : Int)).toNat = 2 from rfl] at hx87_1)
                               (try simp only [Nat.reduceMul, Nat.zero_mul, Nat.zero_add, Nat.reduceAdd] at hx87_1)
                               (try rw [show ((2 : Int)).toNat = 2 from rfl] at hf87_1)
                               (try simp only [Nat.reduceMul, Nat.zero_mul, Nat.zero_add, Nat.reduceAdd] at hf87_1)
                               (try rw [show ((2 : Int)).toNat = 2 from rfl] at hx87_2)
                               (try simp only [Nat.reduceMul, Nat.zero_mul, Nat.zero_add, Nat.reduceAdd] at hx87_2)
                               (try rw [show ((2 : Int)).toNat = 2 from rfl] at hf87_2)
                               (try simp only [Nat.reduceMul, Nat.zero_mul, Nat.zero_add, Nat.reduceAdd] at hf87_2)
                               (try rw [show ((2 : Int)).toNat = 2 from rfl] at hx87_3)
                               (try simp only [Nat.reduceMul, Nat.zero_mul, Nat.zero_add, Nat.reduceAdd] at hx87_3)
                               (try rw [show ((2 : Int)).toNat = 2 from rfl] at hf87_3)
                               (try simp only [Nat.reduceMul, Nat.zero_mul, Nat.zero_add, Nat.reduceAdd] at hf87_3)
                               (try rw [show ((2 : Int)).toNat = 2 from rfl] at hx87_4)
                               (try simp only [Nat.reduceMul, Nat.zero_mul, Nat.zero_add, Nat.reduceAdd] at hx87_4)
                               (try rw [show ((2 : Int)).toNat = 2 from rfl] at hf87_4)
                               (try simp only [Nat.reduceMul, Nat.zero_mul, Nat.zero_add, Nat.reduceAdd] at hf87_4)
                               replace p87 := eq_true p87
                               replace q87 := eq_true q87
                               have HX90 := Aside0.mk (show Kd.S k34 34 wc w.heap.size (fun k_ => ((fun _ => True)) k_ ∧ ¬ ((fun _ => False)) k_) (.slice (some ⟨go87, 0, none⟩) t104.length co11) t104 from (by (with_reducible repeat (first | apply Kd.S_alloc | apply Kd.S_drewN | apply Kd.S_drew)); exact Kd.S_mono HO_109002.out (fun k_ hk => ⟨trivial, fun e_ => e_⟩)))
                               obtain ⟨oki90, ce90, hcl90, hM90, hcc90, hfr90, hoki90, hH90⟩ := Kd.S_elem HX90.out z34 (2 : Int) (by omega) (by have h_ : (2 : Int) < ((t104.length : Int) : Int) := of_decide_eq_true (by first | (with_reducible assumption) | assumption); first | exact h_ | (have e_ := (Kd.S_reads' HO_109002.out).1; omega) | simpa using h_)
                               obtain ⟨ve90_4, rfl, ge90_4⟩ := k34_openM hM90
                               have HP90 := Kd.S_seg hH90 (by omega) (by have h_ : (2 : Int) < ((t104.length : Int) : Int) := of_decide_eq_true (by first | (with_reducible assumption) | assumption); first | exact h_ | (have e_ := (Kd.S_reads' HO_109002.out).1; omega) | simpa using h_) (seg := [.int .i64 0]) (j := 3) (show 4 ≤ 5 from by decide) (x' := (⟨(rd_T34 t104 2).f0, (rd_T34 t104 2).f1, (rd_T34 t104 2).f2, 0, (rd_T34 t104 2).f4⟩ : S34)) (k34_mkM _ _ _ (⟨(rd_T34 t104 2).f0, (rd_T34 t104 2).f1, (rd_T34 t104 2).f2, 0, (rd_T34 t104 2).f4⟩ : S34) (Kd.R_mono ge90_4 (fun _ h_ => Or.inl h_))) (fun _ hk => hk) (fun k_ hk_ => hk_.elim)
                               have hx90_3 := hcc90 3 _ rfl
                               (try simp only [show (k34).sz = 5 from rfl, Nat.mul_one, Nat.add_zero] at hx90_3)
                               (try rw [show ((2 : Int)).toNat = 2 from rfl] at hx90_3)
                               (try simp only [Nat.reduceMul, Nat.zero_mul, Nat.zero_add, Nat.reduceAdd] at hx90_3)
                               have hf90_3 := hfr90 3
                               (try simp only [show (k34).sz = 5 from rfl, Nat.mul_one, Nat.add_zero] at hf90_3)
                               (try rw [show ((2 : Int)).toNat = 2 from rfl] at hf90_3)
                               (try simp only [Nat.reduceMul, Nat.zero_mul, Nat.zero_add, Nat.reduceAdd] at hf90_3)
                               clear hcl90 hcc90 hfr90 hM90 hoki90 hH90
                               go_wp2_with (first | ((with_reducible refine gate_store (t := 3) (p := 96) rfl ?_); refine store_event (t := 3) (p := 96) (v := ?vo_w91) (w1 := (wc.setCell ⟨go87, 13, none⟩ (.int .i64 0))) ?hg ?ho ?hn ?hr ?_; (case ho => rfl); (case hg => rfl); (case hn => rfl); (case hr => first | (go_simp; done) | (go_simp; rfl)); intro w91 hw; have hg : wc.grownBy w91 (some go87) := (by rw [hw]; exact HP90.2); have hp_ : Kd.S k34 34 w91 w.heap.size (fun _ => True) (.slice (some ⟨go87, 0, none⟩) t104.length co11) y126 := (by rw [hw, Ny126.out]; exact HP90.1); clear HP90; have n0_ := Aside0.mk (hp_); have n1_ := Aside0.mk (blk_grown (g := gb108) (o := .cells #[.int .i64 t102, .int .i64 t103, .slice (some ⟨go87, 0, none⟩) t104.length co11] 28 (0, 0)) (by (with_reducible repeat (first | refine blk_drewN ?_ _ | refine blk_drew ?_ | refine blk_alloc ?_ _)); exact BK108.out) hg (Kd.S_ne HO_109002.out BK108.out (by decide))); have n2_ := Aside0.mk ((by rw [hw]; exact below_set (HB.out) GB87.out : Below w.heap.size w w91)); clear HO_109002; clear BK108; clear HB; have HO_109002 := n0_; have BK108 := n1_; have HB := n2_; clear n0_ n1_ n2_; clear hg hw hp_; have hcz92_0 : w91.cell? ⟨gb108, 0, none⟩ = some (.int .i64 t102) := (blk_cell BK108.out 0).trans rfl; have hcz92_1 : w91.cell? ⟨gb108, 1, none⟩ = some (.int .i64 t103) := (blk_cell BK108.out 1).trans rfl; have hcz92_2 : w91.cell? ⟨gb108, 2, none⟩ = some (.slice (some ⟨go87, 0, none⟩) t104.length co11) := (blk_cell BK108.out 2).trans rfl; have hfz92_0 := blk_frozen BK108.out 0; have hfz92_1 := blk_frozen BK108.out 1; have hfz92_2 := blk_frozen BK108.out 2) | ((with_reducible refine gate_callee (f := 21) rfl ?_); refine goesL_ (some 144) rfl rfl Try.func21 (by kernel_rfl) rfl #[.agg #[.int .i64 t102, .int .i64 t103, .slice (some ⟨go87, 0, none⟩) y126.length co11], .int .i64 13] rfl (by (try simp only [List.map_toArray, List.map_cons, List.map_nil]); first | done | (rw [show y126.length = t104.length from (Kd.S_reads' HO_109002.out).1.symm] <;> rfl) | rfl | (simp only [List.length_drop, List.length_take]; rfl)) ?_; (with_reducible refine (parse_May.calls t102 t103 _ _ y126 13 t127 _ ?side1 ?side2 A88.out).mono ?_); (case side1 => repeat (first | exact (Kd.S_reads' HO_109002.out).2.2 | (with_reducible refine Kd.C_alloc ?_ _) | (with_reducible refine Kd.C_drewN ?_ _) | (with_reducible refine Kd.C_drew ?_))); (case side2 => rw [show y126.length = t104.length from (Kd.S_reads' HO_109002.out).1.symm]; exact (Kd.S_reads' HO_109002.out).2.1); rintro e w93 ⟨rfl, hb⟩; refine ⟨_, rfl, ?_⟩; have n0_ := Aside0.mk (Kd.S_below (by (with_reducible repeat (first | apply Kd.S_alloc | apply Kd.S_drewN | apply Kd.S_drew)); exact HO_109002.out) hb); have n1_ := Aside0.mk (blk_below (g := gb108) (o := .cells #[.int .i64 t102, .int .i64 t103, .slice (some ⟨go87, 0, none⟩) t104.length co11] 28 (0, 0)) (by (with_reducible repeat (first | refine blk_drewN ?_ _ | refine blk_drew ?_ | refine blk_alloc ?_ _)); exact BK108.out) hb); have n2_ := Aside0.mk (below_step (by repeat (first | (with_reducible first | exact HB.out | apply below_alloc | apply pw_below_drewN | apply below_drew1 | refine below_set ?_ GE108.out) | exact HB.out)) hb); clear HO_109002; clear BK108; clear HB; have HO_109002 := n0_; have BK108 := n1_; have HB := n2_; clear n0_ n1_ n2_; (try clear hb); (try clear hb2); (try clear hk); (try clear hi)))
                               go_ret
                               exact ⟨by first | rfl | (simp [errW_none, errW_some] <;> rfl) | (simp [*, errW_none, errW_some] <;> rfl), by repeat (first | (with_reducible first | exact HB.out | apply below_alloc | apply pw_below_drewN | apply below_drew1 | refine below_set ?_ GE108.out) | exact HB.out)⟩
                             · rw [if_neg c86] at H
                               exact absurd H (by simp)
                           · rw [if_neg c85] at H
                             have c85b0 : ((Int.tmod (IntKind.u64.wrap (a0)) 18) == 10) = false := beq_eq_false_iff_ne.mpr c85
                             have c85b1 : ((Int.tmod (IntKind.u64.wrap (a0)) 18) != 10) = true := bne_iff_ne.mpr c85
                             by_cases c94 : (Int.tmod (IntKind.u64.wrap (a0)) 18) = 11
                             · rw [if_pos c94] at H
                               have c94b0 : ((Int.tmod (IntKind.u64.wrap (a0)) 18) == 11) = true := beq_iff_eq.mpr c94
                               have c94b1 : ((Int.tmod (IntKind.u64.wrap (a0)) 18) != 11) = false := bne_eq_false_iff_eq.mpr c94
                               clear c94
                               by_cases c95 : 6 < (t104.length : Int)
                               · rw [if_pos c95] at H
                                 have c95b0 : decide (6 < (t104.length : Int)) = true := decide_eq_true c95
                                 have c95b1 : decide (6 < t104.length) = true := decide_eq_true (by omega)
                                 clear c95
                                 obtain ⟨y128, hy128⟩ : ∃ y_ : List (S34), y_ = (t104.set (6 : Int).toNat (⟨(rd_T34 t104 6).f0, (rd_T34 t104 6).f1, (rd_T34 t104 6).f2, wrap64 (13 + (wrap64 (1 + (Go.bits .and .i64 a1 1023)))), (rd_T34 t104 6).f4⟩ : S34)) := ⟨_, rfl⟩
                                 replace H : ((parse_May.f t102 t103 y128 13).bind fun t129 => (some (!t129))) = some r := by first | (rw [hy128]; with_reducible exact H) | (have H2_ := (Option.bind_some _ _).symm.trans H; rw [hy128]; with_reducible exact H2_) | (have H2_ := (Option.bind_some _ _).symm.trans H; with_reducible exact H2_) | with_reducible exact H | (rw [hy128]; exact H) | exact H
                                 have Ny128 := Aside0.mk hy128
                                 clear hy128
                                 replace H := Option.bind_eq_some_iff.mp H
                                 obtain ⟨t129, A970, H⟩ := H
                                 replace H : (some (!t129)) = some r := H
                                 have A97 := Aside0.mk A970
                                 clear A970
                                 obtain rfl := Option.some.inj H
                                 have hcz98_0 : wc.cell? ⟨gb108, 0, none⟩ = some (.int .i64 t102) := (blk_cell BK108.out 0).trans rfl
                                 have hcz98_1 : wc.cell? ⟨gb108, 1, none⟩ = some (.int .i64 t103) := (blk_cell BK108.out 1).trans rfl
                                 have hcz98_2 : wc.cell? ⟨gb108, 2, none⟩ = some (.slice Ao11 t104.length co11) := (blk_cell BK108.out 2).trans rfl
                                 have hfz98_0 := blk_frozen BK108.out 0
                                 have hfz98_1 := blk_frozen BK108.out 1
                                 have hfz98_2 := blk_frozen BK108.out 2
                                 have p96 : 0 ≤ (6 : Int) := (by omega)
                                 have q96 : (6 : Int) < ((t104.length : Int) : Int) := of_decide_eq_true (by first | (with_reducible assumption) | assumption)
                                 have qi96 : (6 < t104.length) = True := eq_true (by omega)
                                 obtain ⟨go96, co96, eo96, gb96, gl96, cl96, HG96⟩ := Kd.S_form HO_109002.out (by omega)
                                 (first | cases eo96 | (injection eo96 with ea_ en_ ec_; (first | subst ea_ | (injection ea_ with ea_; subst ea_)); subst ec_; clear en_))
                                 have GB96 := Aside0.mk gb96
                                 have GG96 := Aside0.mk HG96
                                 clear gb96 gl96 HG96
                                 obtain ⟨_, ce96, hcl96, hM96, hcc96, hfr96, _, _⟩ := Kd.S_elem HO_109002.out z34 (6 : Int) p96 q96
                                 obtain ⟨ve96_4, rfl, ge96_4⟩ := k34_openM hM96
                                 have hx96_0 : wc.cell? ⟨go96, (6 : Int).toNat * 5, none⟩ = some (.int .i64 ((rd_T34 t104 6).f0)) := hcc96 0 _ rfl
                                 have hx96_1 : wc.cell? ⟨go96, (6 : Int).toNat * 5 + 1, none⟩ = some (.int .i64 ((rd_T34 t104 6).f1)) := hcc96 1 _ rfl
                                 have hx96_2 : wc.cell? ⟨go96, (6 : Int).toNat * 5 + 2, none⟩ = some (.int .i64 ((rd_T34 t104 6).f2)) := hcc96 2 _ rfl
                                 have hx96_3 : wc.cell? ⟨go96, (6 : Int).toNat * 5 + 3, none⟩ = some (.int .i64 ((rd_T34 t104 6).f3)) := hcc96 3 _ rfl
                                 have hx96_4 : wc.cell? ⟨go96, (6 : Int).toNat * 5 + 4, none⟩ = some (ve96_4) := hcc96 4 _ rfl
                                 have hf96_0 : wc.frozen? ⟨go96, (6 : Int).toNat * 5, none⟩ = false := hfr96 0
                                 have hf96_1 : wc.frozen? ⟨go96, (6 : Int).toNat * 5 + 1, none⟩ = false := hfr96 1
                                 have hf96_2 : wc.frozen? ⟨go96, (6 : Int).toNat * 5 + 2, none⟩ = false := hfr96 2
                                 have hf96_3 : wc.frozen? ⟨go96, (6 : Int).toNat * 5 + 3, none⟩ = false := hfr96 3
                                 have hf96_4 : wc.frozen? ⟨go96, (6 : Int).toNat * 5 + 4, none⟩ = false := hfr96 4
                                 clear hcl96 hcc96 hfr96 hM96
                                 (try rw [show ((6 : Int)).toNat = 6 from rfl] at hx96_0)
                                 (try simp only [Nat.reduceMul, Nat.zero_mul, Nat.zero_add, Nat.reduceAdd] at hx96_0)
                                 (try rw [show ((6 : Int)).toNat = 6 from rfl] at hf96_0)
                                 (try simp only [Nat.reduceMul, Nat.zero_mul, Nat.zero_add, Nat.reduceAdd] at hf96_0)
                                 (try rw [show ((6 : Int)).toNat = 6 from rfl] at hx96_1)
                                 (try simp only [Nat.reduceMul, Nat.zero_mul, Nat.zero_add, Nat.reduceAdd] at hx96_1)
                                 (try rw [show ((6 : Int)).toNat = 6 from rfl] at hf96_1)
                                 (try simp only [Nat.reduceMul, Nat.zero_mul, Nat.zero_add, Nat.reduceAdd] at hf96_1)
                                 (try rw [show ((6 : Int)).toNat = 6 from rfl] at hx96_2)
                                 (try simp only [Nat.reduceMul, Nat.zero_mul, Nat.zero_add, Nat.reduceAdd] at hx96_2)
                                 (try rw [show ((6 : Int)).toNat = 6 from rfl] at hf96_2)
                                 (try simp only [Nat.reduceMul, Nat.zero_mul, Nat.zero_add, Nat.reduceAdd] at hf96_2)
                                 (try rw [show ((6 : Int)).toNat = 6 from rfl] at hx96_3)
                                 (try simp only [Nat.reduceMul, Nat.zero_mul, Nat.zero_add, Nat.reduceAdd] at hx96_3)
                                 (try rw [show ((6 : Int)).toNat = 6 from rfl] at hf96_3)
                                 (try simp only [Nat.reduceMul, Nat.zero_mul, Nat.zero_add, Nat.reduceAdd] at hf96_3)
                                 (try rw [show ((6 : Int)).toNat = 6 from rfl] at hx96_4)
                                 (try simp only [Nat.reduceMul, Nat.zero_mul, Nat.zero_add, Nat.reduceAdd] at hx96_4)
                                 (try rw [show ((6 : Int)).toNat = 6 from rfl] at hf96_4)
                                 (try simp only [Nat.reduceMul, Nat.zero_mul, Nat.zero_add, Nat.reduceAdd] at hf96_4)
                                 replace p96 := eq_true p96
                                 replace q96 := eq_true q96
                                 have HX99 := Aside0.mk (show Kd.S k34 34 wc w.heap.size (fun k_ => ((fun _ => True)) k_ ∧ ¬ ((fun _ => False)) k_) (.slice (some ⟨go96, 0, none⟩) t104.length co11) t104 from (by (with_reducible repeat (first | apply Kd.S_alloc | apply Kd.S_drewN | apply Kd.S_drew)); exact Kd.S_mono HO_109002.out (fun k_ hk => ⟨trivial, fun e_ => e_⟩)))
                                 obtain ⟨oki99, ce99, hcl99, hM99, hcc99, hfr99, hoki99, hH99⟩ := Kd.S_elem HX99.out z34 (6 : Int) (by omega) (by have h_ : (6 : Int) < ((t104.length : Int) : Int) := of_decide_eq_true (by first | (with_reducible assumption) | assumption); first | exact h_ | (have e_ := (Kd.S_reads' HO_109002.out).1; omega) | simpa using h_)
                                 obtain ⟨ve99_4, rfl, ge99_4⟩ := k34_openM hM99
                                 have HP99 := Kd.S_seg hH99 (by omega) (by have h_ : (6 : Int) < ((t104.length : Int) : Int) := of_decide_eq_true (by first | (with_reducible assumption) | assumption); first | exact h_ | (have e_ := (Kd.S_reads' HO_109002.out).1; omega) | simpa using h_) (seg := [.int .i64 (wrap64 (13 + (wrap64 (1 + (Go.bits .and .i64 a1 1023)))))]) (j := 3) (show 4 ≤ 5 from by decide) (x' := (⟨(rd_T34 t104 6).f0, (rd_T34 t104 6).f1, (rd_T34 t104 6).f2, wrap64 (13 + (wrap64 (1 + (Go.bits .and .i64 a1 1023)))), (rd_T34 t104 6).f4⟩ : S34)) (k34_mkM _ _ _ (⟨(rd_T34 t104 6).f0, (rd_T34 t104 6).f1, (rd_T34 t104 6).f2, wrap64 (13 + (wrap64 (1 + (Go.bits .and .i64 a1 1023)))), (rd_T34 t104 6).f4⟩ : S34) (Kd.R_mono ge99_4 (fun _ h_ => Or.inl h_))) (fun _ hk => hk) (fun k_ hk_ => hk_.elim)
                                 have hx99_3 := hcc99 3 _ rfl
                                 (try simp only [show (k34).sz = 5 from rfl, Nat.mul_one, Nat.add_zero] at hx99_3)
                                 (try rw [show ((6 : Int)).toNat = 6 from rfl] at hx99_3)
                                 (try simp only [Nat.reduceMul, Nat.zero_mul, Nat.zero_add, Nat.reduceAdd] at hx99_3)
                                 have hf99_3 := hfr99 3
                                 (try simp only [show (k34).sz = 5 from rfl, Nat.mul_one, Nat.add_zero] at hf99_3)
                                 (try rw [show ((6 : Int)).toNat = 6 from rfl] at hf99_3)
                                 (try simp only [Nat.reduceMul, Nat.zero_mul, Nat.zero_add, Nat.reduceAdd] at hf99_3)
                                 clear hcl99 hcc99 hfr99 hM99 hoki99 hH99
                                 go_wp2_with (first | ((with_reducible refine gate_store (t := 3) (p := 104) rfl ?_); refine store_event (t := 3) (p := 104) (v := ?vo_w100) (w1 := (wc.setCell ⟨go96, 33, none⟩ (.int .i64 (wrap64 (13 + (wrap64 (1 + (Go.bits .and .i64 a1 1023)))))))) ?hg ?ho ?hn ?hr ?_; (case ho => rfl); (case hg => rfl); (case hn => rfl); (case hr => first | (go_simp; done) | (go_simp; rfl)); intro w100 hw; have hg : wc.grownBy w100 (some go96) := (by rw [hw]; exact HP99.2); have hp_ : Kd.S k34 34 w100 w.heap.size (fun _ => True) (.slice (some ⟨go96, 0, none⟩) t104.length co11) y128 := (by rw [hw, Ny128.out]; exact HP99.1); clear HP99; have n0_ := Aside0.mk (hp_); have n1_ := Aside0.mk (blk_grown (g := gb108) (o := .cells #[.int .i64 t102, .int .i64 t103, .slice (some ⟨go96, 0, none⟩) t104.length co11] 28 (0, 0)) (by (with_reducible repeat (first | refine blk_drewN ?_ _ | refine blk_drew ?_ | refine blk_alloc ?_ _)); exact BK108.out) hg (Kd.S_ne HO_109002.out BK108.out (by decide))); have n2_ := Aside0.mk ((by rw [hw]; exact below_set (HB.out) GB96.out : Below w.heap.size w w100)); clear HO_109002; clear BK108; clear HB; have HO_109002 := n0_; have BK108 := n1_; have HB := n2_; clear n0_ n1_ n2_; clear hg hw hp_; have hcz101_0 : w100.cell? ⟨gb108, 0, none⟩ = some (.int .i64 t102) := (blk_cell BK108.out 0).trans rfl; have hcz101_1 : w100.cell? ⟨gb108, 1, none⟩ = some (.int .i64 t103) := (blk_cell BK108.out 1).trans rfl; have hcz101_2 : w100.cell? ⟨gb108, 2, none⟩ = some (.slice (some ⟨go96, 0, none⟩) t104.length co11) := (blk_cell BK108.out 2).trans rfl; have hfz101_0 := blk_frozen BK108.out 0; have hfz101_1 := blk_frozen BK108.out 1; have hfz101_2 := blk_frozen BK108.out 2) | ((with_reducible refine gate_callee (f := 21) rfl ?_); refine goesL_ (some 144) rfl rfl Try.func21 (by kernel_rfl) rfl #[.agg #[.int .i64 t102, .int .i64 t103, .slice (some ⟨go96, 0, none⟩) y128.length co11], .int .i64 13] rfl (by (try simp only [List.map_toArray, List.map_cons, List.map_nil]); first | done | (rw [show y128.length = t104.length from (Kd.S_reads' HO_109002.out).1.symm] <;> rfl) | rfl | (simp only [List.length_drop, List.length_take]; rfl)) ?_; (with_reducible refine (parse_May.calls t102 t103 _ _ y128 13 t129 _ ?side1 ?side2 A97.out).mono ?_); (case side1 => repeat (first | exact (Kd.S_reads' HO_109002.out).2.2 | (with_reducible refine Kd.C_alloc ?_ _) | (with_reducible refine Kd.C_drewN ?_ _) | (with_reducible refine Kd.C_drew ?_))); (case side2 => rw [show y128.length = t104.length from (Kd.S_reads' HO_109002.out).1.symm]; exact (Kd.S_reads' HO_109002.out).2.1); rintro e w102 ⟨rfl, hb⟩; refine ⟨_, rfl, ?_⟩; have n0_ := Aside0.mk (Kd.S_below (by (with_reducible repeat (first | apply Kd.S_alloc | apply Kd.S_drewN | apply Kd.S_drew)); exact HO_109002.out) hb); have n1_ := Aside0.mk (blk_below (g := gb108) (o := .cells #[.int .i64 t102, .int .i64 t103, .slice (some ⟨go96, 0, none⟩) t104.length co11] 28 (0, 0)) (by (with_reducible repeat (first | refine blk_drewN ?_ _ | refine blk_drew ?_ | refine blk_alloc ?_ _)); exact BK108.out) hb); have n2_ := Aside0.mk (below_step (by repeat (first | (with_reducible first | exact HB.out | apply below_alloc | apply pw_below_drewN | apply below_drew1 | refine below_set ?_ GE108.out) | exact HB.out)) hb); clear HO_109002; clear BK108; clear HB; have HO_109002 := n0_; have BK108 := n1_; have HB := n2_; clear n0_ n1_ n2_; (try clear hb); (try clear hb2); (try clear hk); (try clear hi)))
                                 go_ret
                                 exact ⟨by first | rfl | (simp [errW_none, errW_some] <;> rfl) | (simp [*, errW_none, errW_some] <;> rfl), by repeat (first | (with_reducible first | exact HB.out | apply below_alloc | apply pw_below_drewN | apply below_drew1 | refine below_set ?_ GE108.out) | exact HB.out)⟩
                               · rw [if_neg c95] at H
                                 exact absurd H (by simp)
                             · rw [if_neg c94] at H
                               have c94b0 : ((Int.tmod (IntKind.u64.wrap (a0)) 18) == 11) = false := beq_eq_false_iff_ne.mpr c94
                               have c94b1 : ((Int.tmod (IntKind.u64.wrap (a0)) 18) != 11) = true := bne_iff_ne.mpr c94
                               by_cases c103 : (Int.tmod (IntKind.u64.wrap (a0)) 18) = 12
                               · rw [if_pos c103] at H
                                 have c103b0 : ((Int.tmod (IntKind.u64.wrap (a0)) 18) == 12) = true := beq_iff_eq.mpr c103
                                 have c103b1 : ((Int.tmod (IntKind.u64.wrap (a0)) 18) != 12) = false := bne_eq_false_iff_eq.mpr c103
                                 clear c103
                                 obtain ⟨y130, hy130⟩ : ∃ y_ : List Int, y_ = (([2, 2, 3] : List Int)) := ⟨_, rfl⟩
                                 replace H : (if 1 < (t104.length : Int) then ((parse_May.f t102 t103 (t104.set (1 : Int).toNat (⟨(rd_T34 t104 1).f0, (rd_T34 t104 1).f1, (rd_T34 t104 1).f2, (rd_T34 t104 1).f3, y130⟩ : S34)) 13).bind fun t134 => (some (!t134))) else (none)) = some r := by first | (rw [hy130]; with_reducible exact H) | (have H2_ := (Option.bind_some _ _).symm.trans H; rw [hy130]; with_reducible exact H2_) | (have H2_ := (Option.bind_some _ _).symm.trans H; with_reducible exact H2_) | with_reducible exact H | (rw [hy130]; exact H) | exact H
                                 have Ny130 := Aside0.mk hy130
                                 clear hy130
                                 by_cases c104 : 1 < (t104.length : Int)
                                 · rw [if_pos c104] at H
                                   have c104b0 : decide (1 < (t104.length : Int)) = true := decide_eq_true c104
                                   have c104b1 : decide (1 < t104.length) = true := decide_eq_true (by omega)
                                   clear c104
                                   obtain ⟨y133, hy133⟩ : ∃ y_ : List (S34), y_ = (t104.set (1 : Int).toNat (⟨(rd_T34 t104 1).f0, (rd_T34 t104 1).f1, (rd_T34 t104 1).f2, (rd_T34 t104 1).f3, y130⟩ : S34)) := ⟨_, rfl⟩
                                   replace H : ((parse_May.f t102 t103 y133 13).bind fun t134 => (some (!t134))) = some r := by first | (rw [hy133]; with_reducible exact H) | (have H2_ := (Option.bind_some _ _).symm.trans H; rw [hy133]; with_reducible exact H2_) | (have H2_ := (Option.bind_some _ _).symm.trans H; with_reducible exact H2_) | with_reducible exact H | (rw [hy133]; exact H) | exact H
                                   have Ny133 := Aside0.mk hy133
                                   clear hy133
                                   replace H := Option.bind_eq_some_iff.mp H
                                   obtain ⟨t134, A1060, H⟩ := H
                                   replace H : (some (!t134)) = some r := H
                                   have A106 := Aside0.mk A1060
                                   clear A1060
                                   obtain rfl := Option.some.inj H
                                   have hcz107_0 : wc.cell? ⟨gb108, 0, none⟩ = some (.int .i64 t102) := (blk_cell BK108.out 0).trans rfl
                                   have hcz107_1 : wc.cell? ⟨gb108, 1, none⟩ = some (.int .i64 t103) := (blk_cell BK108.out 1).trans rfl
                                   have hcz107_2 : wc.cell? ⟨gb108, 2, none⟩ = some (.slice Ao11 t104.length co11) := (blk_cell BK108.out 2).trans rfl
                                   have hfz107_0 := blk_frozen BK108.out 0
                                   have hfz107_1 := blk_frozen BK108.out 1
                                   have hfz107_2 := blk_frozen BK108.out 2
                                   go_wp2_with (first | ((with_reducible refine gate_dst (N := 109) rfl ?_); (try (refine gate_guard (by rfl) ?_; dsimp only)); refine Kd.R_lit (Kd.int .i64) _ 3 ?hg (N := 109) ?hd (xs := ([2, 2, 3] : List Int)) (inner := [.int .i64 2, .int .i64 2, .int .i64 3]) (ok := fun _ => True) (okp := fun _ => True) ?hr ?hp (fun _ hk => hk) trivial (Below.refl _ _) (Nat.le_refl _) (by simp) ?_; (case hd => rfl); (case hg => rfl); (case hr => first | (go_simp; done) | (go_simp; rfl)); (case hp => exact (Reps.one (show Kd.M (Kd.int .i64) _ _ _ 2 [.int .i64 2] from rfl) (Reps.one (show Kd.M (Kd.int .i64) _ _ _ 2 [.int .i64 2] from rfl) (Reps.one (show Kd.M (Kd.int .i64) _ _ _ 3 [.int .i64 3] from rfl) (Reps.none _ _))))); intro v131 w108 ho109 hb hg_ hnew_; clear hg_ hnew_; (first | rw [← Ny130.out] at ho109 | (simp only [Int.reduceToNat] at ho109; rw [← Ny130.out] at ho109)); have n0_ := Aside0.mk (Kd.S_elder' (by (with_reducible repeat (first | apply Kd.S_alloc | apply Kd.S_drewN | apply Kd.S_drew)); exact HO_109002.out) (Kd.R_base ho109) hb); have n1_ := Aside0.mk (Kd.R_lower ho109 (below_size (by repeat (first | (with_reducible first | exact HB.out | apply below_alloc | apply pw_below_drewN | apply below_drew1 | refine below_set ?_ GE108.out) | exact HB.out)))); have n2_ := Aside0.mk (blk_below (g := gb108) (o := .cells #[.int .i64 t102, .int .i64 t103, .slice Ao11 t104.length co11] 28 (0, 0)) (by (with_reducible repeat (first | refine blk_drewN ?_ _ | refine blk_drew ?_ | refine blk_alloc ?_ _)); exact BK108.out) hb); have n3_ := Aside0.mk (below_step (by repeat (first | (with_reducible first | exact HB.out | apply below_alloc | apply pw_below_drewN | apply below_drew1 | refine below_set ?_ GE108.out) | exact HB.out)) hb); clear HO_109002; clear BK108; clear HB; have HO_109002 := n0_; have HO132 := n1_; have BK108 := n2_; have HB := n3_; clear n0_ n1_ n2_ n3_; clear hb ho109; have p105 : 0 ≤ (1 : Int) := (by omega); have q105 : (1 : Int) < ((t104.length : Int) : Int) := of_decide_eq_true (by first | (with_reducible assumption) | assumption); have qi105 : (1 < t104.length) = True := eq_true (by omega); obtain ⟨go105, co105, eo105, gb105, gl105, cl105, HG105⟩ := Kd.S_form HO_109002.out (by omega); (first | cases eo105 | (injection eo105 with ea_ en_ ec_; (first | subst ea_ | (injection ea_ with ea_; subst ea_)); subst ec_; clear en_)); have GB105 := Aside0.mk gb105; have GG105 := Aside0.mk HG105; clear gb105 gl105 HG105; obtain ⟨_, ce105, hcl105, hM105, hcc105, hfr105, _, _⟩ := Kd.S_elem HO_109002.out z34 (1 : Int) p105 q105; obtain ⟨ve105_4, rfl, ge105_4⟩ := k34_openM hM105; have hx105_0 : w108.cell? ⟨go105, (1 : Int).toNat * 5, none⟩ = some (.int .i64 ((rd_T34 t104 1).f0)) := hcc105 0 _ rfl; have hx105_1 : w108.cell? ⟨go105, (1 : Int).toNat * 5 + 1, none⟩ = some (.int .i64 ((rd_T34 t104 1).f1)) := hcc105 1 _ rfl; have hx105_2 : w108.cell? ⟨go105, (1 : Int).toNat * 5 + 2, none⟩ = some (.int .i64 ((rd_T34 t104 1).f2)) := hcc105 2 _ rfl; have hx105_3 : w108.cell? ⟨go105, (1 : Int).toNat * 5 + 3, none⟩ = some (.int .i64 ((rd_T34 t104 1).f3)) := hcc105 3 _ rfl; have hx105_4 : w108.cell? ⟨go105, (1 : Int).toNat * 5 + 4, none⟩ = some (ve105_4) := hcc105 4 _ rfl; have hf105_0 : w108.frozen? ⟨go105, (1 : Int).toNat * 5, none⟩ = false := hfr105 0; have hf105_1 : w108.frozen? ⟨go105, (1 : Int).toNat * 5 + 1, none⟩ = false := hfr105 1; have hf105_2 : w108.frozen? ⟨go105, (1 : Int).toNat * 5 + 2, none⟩ = false := hfr105 2; have hf105_3 : w108.frozen? ⟨go105, (1 : Int).toNat * 5 + 3, none⟩ = false := hfr105 3; have hf105_4 : w108.frozen? ⟨go105, (1 : Int).toNat * 5 + 4, none⟩ = false := hfr105 4; clear hcl105 hcc105 hfr105 hM105; (try rw [show ((1 : Int)).toNat = 1 from rfl] at hx105_0); (try simp only [Nat.reduceMul, Nat.zero_mul, Nat.zero_add, Nat.reduceAdd] at hx105_0); (try rw [show ((1 : Int)).toNat = 1 from rfl] at hf105_0); (try simp only [Nat.reduceMul, Nat.zero_mul, Nat.zero_add, Nat.reduceAdd] at hf105_0); (try rw [show ((1 : Int)).toNat = 1 from rfl] at hx105_1); (try simp only [Nat.reduceMul, Nat.zero_mul, Nat.zero_add, Nat.reduceAdd] at hx105_1); (try rw [show ((1 : Int)).toNat = 1 from rfl] at hf105_1); (try simp only [Nat.reduceMul, Nat.zero_mul, Nat.zero_add, Nat.reduceAdd] at hf105_1); (try rw [show ((1 : Int)).toNat = 1 from rfl] at hx105_2); (try simp only [Nat.reduceMul, Nat.zero_mul, Nat.zero_add, Nat.reduceAdd] at hx105_2); (try rw [show ((1 : Int)).toNat = 1 from rfl] at hf105_2); (try simp only [Nat.reduceMul, Nat.zero_mul, Nat.zero_add, Nat.reduceAdd] at hf105_2); (try rw [show ((1 : Int)).toNat = 1 from rfl] at hx105_3); (try simp only [Nat.reduceMul, Nat.zero_mul, Nat.zero_add, Nat.reduceAdd] at hx105_3); (try rw [show ((1 : Int)).toNat = 1 from rfl] at hf105_3); (try simp only [Nat.reduceMul, Nat.zero_mul, Nat.zero_add, Nat.reduceAdd] at hf105_3); (try rw [show ((1 : Int)).toNat = 1 from rfl] at hx105_4); (try simp only [Nat.reduceMul, Nat.zero_mul, Nat.zero_add, Nat.reduceAdd] at hx105_4); (try rw [show ((1 : Int)).toNat = 1 from rfl] at hf105_4); (try simp only [Nat.reduceMul, Nat.zero_mul, Nat.zero_add, Nat.reduceAdd] at hf105_4); replace p105 := eq_true p105; replace q105 := eq_true q105; have n_ := Aside0.mk (Kd.S_mono (ok' := (fun k_ => some k_ ≠ (v131 : Value).ownBlock)) HO_109002.out (fun k_ hk => hk.2)); clear HO_109002; have HO_109002 := n_; clear n_; have HX110 := Aside0.mk (show Kd.S k34 34 w108 w.heap.size (fun k_ => ((fun _ => True)) k_ ∧ ¬ ((fun k_ => some k_ = (v131 : Value).ownBlock)) k_) (.slice (some ⟨go105, 0, none⟩) t104.length co11) t104 from (by (with_reducible repeat (first | apply Kd.S_alloc | apply Kd.S_drewN | apply Kd.S_drew)); exact Kd.S_mono HO_109002.out (fun k_ hk => ⟨trivial, fun e_ => hk e_⟩))); obtain ⟨oki110, ce110, hcl110, hM110, hcc110, hfr110, hoki110, hH110⟩ := Kd.S_elem HX110.out z34 (1 : Int) (by omega) (by have h_ : (1 : Int) < ((t104.length : Int) : Int) := of_decide_eq_true (by first | (with_reducible assumption) | assumption); first | exact h_ | (have e_ := (Kd.S_reads' HO_109002.out).1; omega) | simpa using h_); obtain ⟨ve110_4, rfl, ge110_4⟩ := k34_openM hM110; have HP110 := Kd.S_seg hH110 (by omega) (by have h_ : (1 : Int) < ((t104.length : Int) : Int) := of_decide_eq_true (by first | (with_reducible assumption) | assumption); first | exact h_ | (have e_ := (Kd.S_reads' HO_109002.out).1; omega) | simpa using h_) (seg := [v131]) (j := 4) (show 5 ≤ 5 from by decide) (x' := (⟨(rd_T34 t104 1).f0, (rd_T34 t104 1).f1, (rd_T34 t104 1).f2, (rd_T34 t104 1).f3, y130⟩ : S34)) (k34_mkM _ _ _ (⟨(rd_T34 t104 1).f0, (rd_T34 t104 1).f1, (rd_T34 t104 1).f2, (rd_T34 t104 1).f3, y130⟩ : S34) (Kd.R_mono (Kd.R_tight rfl (Kd.R_mono (ok' := fun k_ => ((fun _ => True)) k_ ∧ k_ ≠ go105) (Kd.R_apart' (HO132.out) (Kd.S_typed HO_109002.out) (by decide)) (fun k_ hk => ⟨trivial, fun e_ => (hk.2) (by rw [e_]; rfl)⟩))) (fun _ h_ => Or.inr (h_)))) (fun _ hk => hk) (fun k_ hk_ => ((Kd.R_mono (ok' := fun k_ => ((fun _ => True)) k_ ∧ k_ ≠ go105) (Kd.R_apart' (HO132.out) (Kd.S_typed HO_109002.out) (by decide)) (fun k_ hk => ⟨trivial, fun e_ => (hk.2) (by rw [e_]; rfl)⟩))).1 k_ hk_.symm); have hx110_4 := hcc110 4 _ rfl; (try simp only [show (k34).sz = 5 from rfl, Nat.mul_one, Nat.add_zero] at hx110_4); (try rw [show ((1 : Int)).toNat = 1 from rfl] at hx110_4); (try simp only [Nat.reduceMul, Nat.zero_mul, Nat.zero_add, Nat.reduceAdd] at hx110_4); have hf110_4 := hfr110 4; (try simp only [show (k34).sz = 5 from rfl, Nat.mul_one, Nat.add_zero] at hf110_4); (try rw [show ((1 : Int)).toNat = 1 from rfl] at hf110_4); (try simp only [Nat.reduceMul, Nat.zero_mul, Nat.zero_add, Nat.reduceAdd] at hf110_4); clear hcl110 hcc110 hfr110 hM110 hoki110 hH110) | ((with_reducible refine gate_store (t := 32) (p := 111) rfl ?_); refine store_event (t := 32) (p := 111) (v := ?vo_w111) (w1 := (w108.setCell ⟨go105, 9, none⟩ (v131))) ?hg ?ho ?hn ?hr ?_; (case ho => rfl); (case hg => rfl); (case hn => rfl); (case hr => first | (go_simp; done) | (go_simp; rfl) | (obtain ⟨Ao_, co_, eo_⟩ := Kd.R_slice HO132.out; subst eo_; first | (go_simp; done) | (go_simp; rfl))); intro w111 hw; have hg : w108.grownBy w111 (some go105) := (by rw [hw]; exact HP110.2); have hp_ : Kd.S k34 34 w111 w.heap.size (fun _ => True) (.slice (some ⟨go105, 0, none⟩) t104.length co11) y133 := (by rw [hw, Ny133.out]; exact HP110.1); clear HP110; have n0_ := Aside0.mk (hp_); have n1_ := Aside0.mk (blk_grown (g := gb108) (o := .cells #[.int .i64 t102, .int .i64 t103, .slice (some ⟨go105, 0, none⟩) t104.length co11] 28 (0, 0)) (by (with_reducible repeat (first | refine blk_drewN ?_ _ | refine blk_drew ?_ | refine blk_alloc ?_ _)); exact BK108.out) hg (Kd.S_ne HO_109002.out BK108.out (by decide))); have n2_ := Aside0.mk ((by rw [hw]; exact below_set (HB.out) GB105.out : Below w.heap.size w w111)); clear HO_109002; clear BK108; clear HB; clear HO132; have HO_109002 := n0_; have BK108 := n1_; have HB := n2_; clear n0_ n1_ n2_; clear hg hw hp_; have hcz112_0 : w111.cell? ⟨gb108, 0, none⟩ = some (.int .i64 t102) := (blk_cell BK108.out 0).trans rfl; have hcz112_1 : w111.cell? ⟨gb108, 1, none⟩ = some (.int .i64 t103) := (blk_cell BK108.out 1).trans rfl; have hcz112_2 : w111.cell? ⟨gb108, 2, none⟩ = some (.slice (some ⟨go105, 0, none⟩) t104.length co11) := (blk_cell BK108.out 2).trans rfl; have hfz112_0 := blk_frozen BK108.out 0; have hfz112_1 := blk_frozen BK108.out 1; have hfz112_2 := blk_frozen BK108.out 2) | ((with_reducible refine gate_callee (f := 21) rfl ?_); refine goesL_ (some 144) rfl rfl Try.func21 (by kernel_rfl) rfl #[.agg #[.int .i64 t102, .int .i64 t103, .slice (some ⟨go105, 0, none⟩) y133.length co11], .int .i64 13] rfl (by (try simp only [List.map_toArray, List.map_cons, List.map_nil]); first | done | (rw [show y133.length = t104.length from (Kd.S_reads' HO_109002.out).1.symm] <;> rfl) | rfl | (simp only [List.length_drop, List.length_take]; rfl)) ?_; (with_reducible refine (parse_May.calls t102 t103 _ _ y133 13 t134 _ ?side1 ?side2 A106.out).mono ?_); (case side1 => repeat (first | exact (Kd.S_reads' HO_109002.out).2.2 | (with_reducible refine Kd.C_alloc ?_ _) | (with_reducible refine Kd.C_drewN ?_ _) | (with_reducible refine Kd.C_drew ?_))); (case side2 => rw [show y133.length = t104.length from (Kd.S_reads' HO_109002.out).1.symm]; exact (Kd.S_reads' HO_109002.out).2.1); rintro e w113 ⟨rfl, hb⟩; refine ⟨_, rfl, ?_⟩; have n0_ := Aside0.mk (Kd.S_below (by (with_reducible repeat (first | apply Kd.S_alloc | apply Kd.S_drewN | apply Kd.S_drew)); exact HO_109002.out) hb); have n1_ := Aside0.mk (blk_below (g := gb108) (o := .cells #[.int .i64 t102, .int .i64 t103, .slice (some ⟨go105, 0, none⟩) t104.length co11] 28 (0, 0)) (by (with_reducible repeat (first | refine blk_drewN ?_ _ | refine blk_drew ?_ | refine blk_alloc ?_ _)); exact BK108.out) hb); have n2_ := Aside0.mk (below_step (by repeat (first | (with_reducible first | exact HB.out | apply below_alloc | apply pw_below_drewN | apply below_drew1 | refine below_set ?_ GE108.out) | exact HB.out)) hb); clear HO_109002; clear BK108; clear HB; have HO_109002 := n0_; have BK108 := n1_; have HB := n2_; clear n0_ n1_ n2_; (try clear hb); (try clear hb2); (try clear hk); (try clear hi)))
                                   go_ret
                                   exact ⟨by first | rfl | (simp [errW_none, errW_some] <;> rfl) | (simp [*, errW_none, errW_some] <;> rfl), by repeat (first | (with_reducible first | exact HB.out | apply below_alloc | apply pw_below_drewN | apply below_drew1 | refine below_set ?_ GE108.out) | exact HB.out)⟩
                                 · rw [if_neg c104] at H
                                   exact absurd H (by simp)
                               · rw [if_neg c103] at H
                                 have c103b0 : ((Int.tmod (IntKind.u64.wrap (a0)) 18) == 12) = false := beq_eq_false_iff_ne.mpr c103
                                 have c103b1 : ((Int.tmod (IntKind.u64.wrap (a0)) 18) != 12) = true := bne_iff_ne.mpr c103
                                 by_cases c114 : (Int.tmod (IntKind.u64.wrap (a0)) 18) = 13
                                 · rw [if_pos c114] at H
                                   have c114b0 : ((Int.tmod (IntKind.u64.wrap (a0)) 18) == 13) = true := beq_iff_eq.mpr c114
                                   have c114b1 : ((Int.tmod (IntKind.u64.wrap (a0)) 18) != 13) = false := bne_eq_false_iff_eq.mpr c114
                                   clear c114
                                   obtain ⟨y135, hy135⟩ : ∃ y_ : List Int, y_ = (([3, 2] : List Int)) := ⟨_, rfl⟩
                                   replace H : (if 1 < (t104.length : Int) then ((parse_May.f t102 t103 (t104.set (1 : Int).toNat (⟨(rd_T34 t104 1).f0, (rd_T34 t104 1).f1, (rd_T34 t104 1).f2, (rd_T34 t104 1).f3, y135⟩ : S34)) 13).bind fun t139 => (some (!t139))) else (none)) = some r := by first | (rw [hy135]; with_reducible exact H) | (have H2_ := (Option.bind_some _ _).symm.trans H; rw [hy135]; with_reducible exact H2_) | (have H2_ := (Option.bind_some _ _).symm.trans H; with_reducible exact H2_) | with_reducible exact H | (rw [hy135]; exact H) | exact H
                                   have Ny135 := Aside0.mk hy135
                                   clear hy135
                                   by_cases c115 : 1 < (t104.length : Int)
                                   · rw [if_pos c115] at H
                                     have c115b0 : decide (1 < (t104.length : Int)) = true := decide_eq_true c115
                                     have c115b1 : decide (1 < t104.length) = true := decide_eq_true (by omega)
                                     clear c115
                                     obtain ⟨y138, hy138⟩ : ∃ y_ : List (S34), y_ = (t104.set (1 : Int).toNat (⟨(rd_T34 t104 1).f0, (rd_T34 t104 1).f1, (rd_T34 t104 1).f2, (rd_T34 t104 1).f3, y135⟩ : S34)) := ⟨_, rfl⟩
                                     replace H : ((parse_May.f t102 t103 y138 13).bind fun t139 => (some (!t139))) = some r := by first | (rw [hy138]; with_reducible exact H) | (have H2_ := (Option.bind_some _ _).symm.trans H; rw [hy138]; with_reducible exact H2_) | (have H2_ := (Option.bind_some _ _).symm.trans H; with_reducible exact H2_) | with_reducible exact H | (rw [hy138]; exact H) | exact H
                                     have Ny138 := Aside0.mk hy138
                                     clear hy138
                                     replace H := Option.bind_eq_some_iff.mp H
                                     obtain ⟨t139, A1170, H⟩ := H
                                     replace H : (some (!t139)) = some r := H
                                     have A117 := Aside0.mk A1170
                                     clear A1170
                                     obtain rfl := Option.some.inj H
                                     have hcz118_0 : wc.cell? ⟨gb108, 0, none⟩ = some (.int .i64 t102) := (blk_cell BK108.out 0).trans rfl
                                     have hcz118_1 : wc.cell? ⟨gb108, 1, none⟩ = some (.int .i64 t103) := (blk_cell BK108.out 1).trans rfl
                                     have hcz118_2 : wc.cell? ⟨gb108, 2, none⟩ = some (.slice Ao11 t104.length co11) := (blk_cell BK108.out 2).trans rfl
                                     have hfz118_0 := blk_frozen BK108.out 0
                                     have hfz118_1 := blk_frozen BK108.out 1
                                     have hfz118_2 := blk_frozen BK108.out 2
                                     go_wp2_with (first | ((with_reducible refine gate_dst (N := 116) rfl ?_); (try (refine gate_guard (by rfl) ?_; dsimp only)); refine Kd.R_lit (Kd.int .i64) _ 3 ?hg (N := 116) ?hd (xs := ([3, 2] : List Int)) (inner := [.int .i64 3, .int .i64 2]) (ok := fun _ => True) (okp := fun _ => True) ?hr ?hp (fun _ hk => hk) trivial (Below.refl _ _) (Nat.le_refl _) (by simp) ?_; (case hd => rfl); (case hg => rfl); (case hr => first | (go_simp; done) | (go_simp; rfl)); (case hp => exact (Reps.one (show Kd.M (Kd.int .i64) _ _ _ 3 [.int .i64 3] from rfl) (Reps.one (show Kd.M (Kd.int .i64) _ _ _ 2 [.int .i64 2] from rfl) (Reps.none _ _)))); intro v136 w119 ho120 hb hg_ hnew_; clear hg_ hnew_; (first | rw [← Ny135.out] at ho120 | (simp only [Int.reduceToNat] at ho120; rw [← Ny135.out] at ho120)); have n0_ := Aside0.mk (Kd.S_elder' (by (with_reducible repeat (first | apply Kd.S_alloc | apply Kd.S_drewN | apply Kd.S_drew)); exact HO_109002.out) (Kd.R_base ho120) hb); have n1_ := Aside0.mk (Kd.R_lower ho120 (below_size (by repeat (first | (with_reducible first | exact HB.out | apply below_alloc | apply pw_below_drewN | apply below_drew1 | refine below_set ?_ GE108.out) | exact HB.out)))); have n2_ := Aside0.mk (blk_below (g := gb108) (o := .cells #[.int .i64 t102, .int .i64 t103, .slice Ao11 t104.length co11] 28 (0, 0)) (by (with_reducible repeat (first | refine blk_drewN ?_ _ | refine blk_drew ?_ | refine blk_alloc ?_ _)); exact BK108.out) hb); have n3_ := Aside0.mk (below_step (by repeat (first | (with_reducible first | exact HB.out | apply below_alloc | apply pw_below_drewN | apply below_drew1 | refine below_set ?_ GE108.out) | exact HB.out)) hb); clear HO_109002; clear BK108; clear HB; have HO_109002 := n0_; have HO137 := n1_; have BK108 := n2_; have HB := n3_; clear n0_ n1_ n2_ n3_; clear hb ho120; have p116 : 0 ≤ (1 : Int) := (by omega); have q116 : (1 : Int) < ((t104.length : Int) : Int) := of_decide_eq_true (by first | (with_reducible assumption) | assumption); have qi116 : (1 < t104.length) = True := eq_true (by omega); obtain ⟨go116, co116, eo116, gb116, gl116, cl116, HG116⟩ := Kd.S_form HO_109002.out (by omega); (first | cases eo116 | (injection eo116 with ea_ en_ ec_; (first | subst ea_ | (injection ea_ with ea_; subst ea_)); subst ec_; clear en_)); have GB116 := Aside0.mk gb116; have GG116 := Aside0.mk HG116; clear gb116 gl116 HG116; obtain ⟨_, ce116, hcl116, hM116, hcc116, hfr116, _, _⟩ := Kd.S_elem HO_109002.out z34 (1 : Int) p116 q116; obtain ⟨ve116_4, rfl, ge116_4⟩ := k34_openM hM116; have hx116_0 : w119.cell? ⟨go116, (1 : Int).toNat * 5, none⟩ = some (.int .i64 ((rd_T34 t104 1).f0)) := hcc116 0 _ rfl; have hx116_1 : w119.cell? ⟨go116, (1 : Int).toNat * 5 + 1, none⟩ = some (.int .i64 ((rd_T34 t104 1).f1)) := hcc116 1 _ rfl; have hx116_2 : w119.cell? ⟨go116, (1 : Int).toNat * 5 + 2, none⟩ = some (.int .i64 ((rd_T34 t104 1).f2)) := hcc116 2 _ rfl; have hx116_3 : w119.cell? ⟨go116, (1 : Int).toNat * 5 + 3, none⟩ = some (.int .i64 ((rd_T34 t104 1).f3)) := hcc116 3 _ rfl; have hx116_4 : w119.cell? ⟨go116, (1 : Int).toNat * 5 + 4, none⟩ = some (ve116_4) := hcc116 4 _ rfl; have hf116_0 : w119.frozen? ⟨go116, (1 : Int).toNat * 5, none⟩ = false := hfr116 0; have hf116_1 : w119.frozen? ⟨go116, (1 : Int).toNat * 5 + 1, none⟩ = false := hfr116 1; have hf116_2 : w119.frozen? ⟨go116, (1 : Int).toNat * 5 + 2, none⟩ = false := hfr116 2; have hf116_3 : w119.frozen? ⟨go116, (1 : Int).toNat * 5 + 3, none⟩ = false := hfr116 3; have hf116_4 : w119.frozen? ⟨go116, (1 : Int).toNat * 5 + 4, none⟩ = false := hfr116 4; clear hcl116 hcc116 hfr116 hM116; (try rw [show ((1 : Int)).toNat = 1 from rfl] at hx116_0); (try simp only [Nat.reduceMul, Nat.zero_mul, Nat.zero_add, Nat.reduceAdd] at hx116_0); (try rw [show ((1 : Int)).toNat = 1 from rfl] at hf116_0); (try simp only [Nat.reduceMul, Nat.zero_mul, Nat.zero_add, Nat.reduceAdd] at hf116_0); (try rw [show ((1 : Int)).toNat = 1 from rfl] at hx116_1); (try simp only [Nat.reduceMul, Nat.zero_mul, Nat.zero_add, Nat.reduceAdd] at hx116_1); (try rw [show ((1 : Int)).toNat = 1 from rfl] at hf116_1); (try simp only [Nat.reduceMul, Nat.zero_mul, Nat.zero_add, Nat.reduceAdd] at hf116_1); (try rw [show ((1 : Int)).toNat = 1 from rfl] at hx116_2); (try simp only [Nat.reduceMul, Nat.zero_mul, Nat.zero_add, Nat.reduceAdd] at hx116_2); (try rw [show ((1 : Int)).toNat = 1 from rfl] at hf116_2); (try simp only [Nat.reduceMul, Nat.zero_mul, Nat.zero_add, Nat.reduceAdd] at hf116_2); (try rw [show ((1 : Int)).toNat = 1 from rfl] at hx116_3); (try simp only [Nat.reduceMul, Nat.zero_mul, Nat.zero_add, Nat.reduceAdd] at hx116_3); (try rw [show ((1 : Int)).toNat = 1 from rfl] at hf116_3); (try simp only [Nat.reduceMul, Nat.zero_mul, Nat.zero_add, Nat.reduceAdd] at hf116_3); (try rw [show ((1 : Int)).toNat = 1 from rfl] at hx116_4); (try simp only [Nat.reduceMul, Nat.zero_mul, Nat.zero_add, Nat.reduceAdd] at hx116_4); (try rw [show ((1 : Int)).toNat = 1 from rfl] at hf116_4); (try simp only [Nat.reduceMul, Nat.zero_mul, Nat.zero_add, Nat.reduceAdd] at hf116_4); replace p116 := eq_true p116; replace q116 := eq_true q116; have n_ := Aside0.mk (Kd.S_mono (ok' := (fun k_ => some k_ ≠ (v136 : Value).ownBlock)) HO_109002.out (fun k_ hk => hk.2)); clear HO_109002; have HO_109002 := n_; clear n_; have HX121 := Aside0.mk (show Kd.S k34 34 w119 w.heap.size (fun k_ => ((fun _ => True)) k_ ∧ ¬ ((fun k_ => some k_ = (v136 : Value).ownBlock)) k_) (.slice (some ⟨go116, 0, none⟩) t104.length co11) t104 from (by (with_reducible repeat (first | apply Kd.S_alloc | apply Kd.S_drewN | apply Kd.S_drew)); exact Kd.S_mono HO_109002.out (fun k_ hk => ⟨trivial, fun e_ => hk e_⟩))); obtain ⟨oki121, ce121, hcl121, hM121, hcc121, hfr121, hoki121, hH121⟩ := Kd.S_elem HX121.out z34 (1 : Int) (by omega) (by have h_ : (1 : Int) < ((t104.length : Int) : Int) := of_decide_eq_true (by first | (with_reducible assumption) | assumption); first | exact h_ | (have e_ := (Kd.S_reads' HO_109002.out).1; omega) | simpa using h_); obtain ⟨ve121_4, rfl, ge121_4⟩ := k34_openM hM121; have HP121 := Kd.S_seg hH121 (by omega) (by have h_ : (1 : Int) < ((t104.length : Int) : Int) := of_decide_eq_true (by first | (with_reducible assumption) | assumption); first | exact h_ | (have e_ := (Kd.S_reads' HO_109002.out).1; omega) | simpa using h_) (seg := [v136]) (j := 4) (show 5 ≤ 5 from by decide) (x' := (⟨(rd_T34 t104 1).f0, (rd_T34 t104 1).f1, (rd_T34 t104 1).f2, (rd_T34 t104 1).f3, y135⟩ : S34)) (k34_mkM _ _ _ (⟨(rd_T34 t104 1).f0, (rd_T34 t104 1).f1, (rd_T34 t104 1).f2, (rd_T34 t104 1).f3, y135⟩ : S34) (Kd.R_mono (Kd.R_tight rfl (Kd.R_mono (ok' := fun k_ => ((fun _ => True)) k_ ∧ k_ ≠ go116) (Kd.R_apart' (HO137.out) (Kd.S_typed HO_109002.out) (by decide)) (fun k_ hk => ⟨trivial, fun e_ => (hk.2) (by rw [e_]; rfl)⟩))) (fun _ h_ => Or.inr (h_)))) (fun _ hk => hk) (fun k_ hk_ => ((Kd.R_mono (ok' := fun k_ => ((fun _ => True)) k_ ∧ k_ ≠ go116) (Kd.R_apart' (HO137.out) (Kd.S_typed HO_109002.out) (by decide)) (fun k_ hk => ⟨trivial, fun e_ => (hk.2) (by rw [e_]; rfl)⟩))).1 k_ hk_.symm); have hx121_4 := hcc121 4 _ rfl; (try simp only [show (k34).sz = 5 from rfl, Nat.mul_one, Nat.add_zero] at hx121_4); (try rw [show ((1 : Int)).toNat = 1 from rfl] at hx121_4); (try simp only [Nat.reduceMul, Nat.zero_mul, Nat.zero_add, Nat.reduceAdd] at hx121_4); have hf121_4 := hfr121 4; (try simp only [show (k34).sz = 5 from rfl, Nat.mul_one, Nat.add_zero] at hf121_4); (try rw [show ((1 : Int)).toNat = 1 from rfl] at hf121_4); (try simp only [Nat.reduceMul, Nat.zero_mul, Nat.zero_add, Nat.reduceAdd] at hf121_4); clear hcl121 hcc121 hfr121 hM121 hoki121 hH121) | ((with_reducible refine gate_store (t := 32) (p := 118) rfl ?_); refine store_event (t := 32) (p := 118) (v := ?vo_w122) (w1 := (w119.setCell ⟨go116, 9, none⟩ (v136))) ?hg ?ho ?hn ?hr ?_; (case ho => rfl); (case hg => rfl); (case hn => rfl); (case hr => first | (go_simp; done) | (go_simp; rfl) | (obtain ⟨Ao_, co_, eo_⟩ := Kd.R_slice HO137.out; subst eo_; first | (go_simp; done) | (go_simp; rfl))); intro w122 hw; have hg : w119.grownBy w122 (some go116) := (by rw [hw]; exact HP121.2); have hp_ : Kd.S k34 34 w122 w.heap.size (fun _ => True) (.slice (some ⟨go116, 0, none⟩) t104.length co11) y138 := (by rw [hw, Ny138.out]; exact HP121.1); clear HP121; have n0_ := Aside0.mk (hp_); have n1_ := Aside0.mk (blk_grown (g := gb108) (o := .cells #[.int .i64 t102, .int .i64 t103, .slice (some ⟨go116, 0, none⟩) t104.length co11] 28 (0, 0)) (by (with_reducible repeat (first | refine blk_drewN ?_ _ | refine blk_drew ?_ | refine blk_alloc ?_ _)); exact BK108.out) hg (Kd.S_ne HO_109002.out BK108.out (by decide))); have n2_ := Aside0.mk ((by rw [hw]; exact below_set (HB.out) GB116.out : Below w.heap.size w w122)); clear HO_109002; clear BK108; clear HB; clear HO137; have HO_109002 := n0_; have BK108 := n1_; have HB := n2_; clear n0_ n1_ n2_; clear hg hw hp_; have hcz123_0 : w122.cell? ⟨gb108, 0, none⟩ = some (.int .i64 t102) := (blk_cell BK108.out 0).trans rfl; have hcz123_1 : w122.cell? ⟨gb108, 1, none⟩ = some (.int .i64 t103) := (blk_cell BK108.out 1).trans rfl; have hcz123_2 : w122.cell? ⟨gb108, 2, none⟩ = some (.slice (some ⟨go116, 0, none⟩) t104.length co11) := (blk_cell BK108.out 2).trans rfl; have hfz123_0 := blk_frozen BK108.out 0; have hfz123_1 := blk_frozen BK108.out 1; have hfz123_2 := blk_frozen BK108.out 2) | ((with_reducible refine gate_callee (f := 21) rfl ?_); refine goesL_ (some 144) rfl rfl Try.func21 (by kernel_rfl) rfl #[.agg #[.int .i64 t102, .int .i64 t103, .slice (some ⟨go116, 0, none⟩) y138.length co11], .int .i64 13] rfl (by (try simp only [List.map_toArray, List.map_cons, List.map_nil]); first | done | (rw [show y138.length = t104.length from (Kd.S_reads' HO_109002.out).1.symm] <;> rfl) | rfl | (simp only [List.length_drop, List.length_take]; rfl)) ?_; (with_reducible refine (parse_May.calls t102 t103 _ _ y138 13 t139 _ ?side1 ?side2 A117.out).mono ?_); (case side1 => repeat (first | exact (Kd.S_reads' HO_109002.out).2.2 | (with_reducible refine Kd.C_alloc ?_ _) | (with_reducible refine Kd.C_drewN ?_ _) | (with_reducible refine Kd.C_drew ?_))); (case side2 => rw [show y138.length = t104.length from (Kd.S_reads' HO_109002.out).1.symm]; exact (Kd.S_reads' HO_109002.out).2.1); rintro e w124 ⟨rfl, hb⟩; refine ⟨_, rfl, ?_⟩; have n0_ := Aside0.mk (Kd.S_below (by (with_reducible repeat (first | apply Kd.S_alloc | apply Kd.S_drewN | apply Kd.S_drew)); exact HO_109002.out) hb); have n1_ := Aside0.mk (blk_below (g := gb108) (o := .cells #[.int .i64 t102, .int .i64 t103, .slice (some ⟨go116, 0, none⟩) t104.length co11] 28 (0, 0)) (by (with_reducible repeat (first | refine blk_drewN ?_ _ | refine blk_drew ?_ | refine blk_alloc ?_ _)); exact BK108.out) hb); have n2_ := Aside0.mk (below_step (by repeat (first | (with_reducible first | exact HB.out | apply below_alloc | apply pw_below_drewN | apply below_drew1 | refine below_set ?_ GE108.out) | exact HB.out)) hb); clear HO_109002; clear BK108; clear HB; have HO_109002 := n0_; have BK108 := n1_; have HB := n2_; clear n0_ n1_ n2_; (try clear hb); (try clear hb2); (try clear hk); (try clear hi)))
                                     go_ret
                                     exact ⟨by first | rfl | (simp [errW_none, errW_some] <;> rfl) | (simp [*, errW_none, errW_some] <;> rfl), by repeat (first | (with_reducible first | exact HB.out | apply below_alloc | apply pw_below_drewN | apply below_drew1 | refine below_set ?_ GE108.out) | exact HB.out)⟩
                                   · rw [if_neg c115] at H
                                     exact absurd H (by simp)
                                 · rw [if_neg c114] at H
                                   have c114b0 : ((Int.tmod (IntKind.u64.wrap (a0)) 18) == 13) = false := beq_eq_false_iff_ne.mpr c114
                                   have c114b1 : ((Int.tmod (IntKind.u64.wrap (a0)) 18) != 13) = true := bne_iff_ne.mpr c114
                                   by_cases c125 : (Int.tmod (IntKind.u64.wrap (a0)) 18) = 14
                                   · rw [if_pos c125] at H
                                     have c125b0 : ((Int.tmod (IntKind.u64.wrap (a0)) 18) == 14) = true := beq_iff_eq.mpr c125
                                     have c125b1 : ((Int.tmod (IntKind.u64.wrap (a0)) 18) != 14) = false := bne_eq_false_iff_eq.mpr c125
                                     clear c125
                                     obtain ⟨y140, hy140⟩ : ∃ y_ : List Int, y_ = (([2] : List Int)) := ⟨_, rfl⟩
                                     replace H : (if 1 < (t104.length : Int) then ((parse_May.f t102 t103 (t104.set (1 : Int).toNat (⟨(rd_T34 t104 1).f0, (rd_T34 t104 1).f1, (rd_T34 t104 1).f2, (rd_T34 t104 1).f3, y140⟩ : S34)) 13).bind fun t144 => (some (!t144))) else (none)) = some r := by first | (rw [hy140]; with_reducible exact H) | (have H2_ := (Option.bind_some _ _).symm.trans H; rw [hy140]; with_reducible exact H2_) | (have H2_ := (Option.bind_some _ _).symm.trans H; with_reducible exact H2_) | with_reducible exact H | (rw [hy140]; exact H) | exact H
                                     have Ny140 := Aside0.mk hy140
                                     clear hy140
                                     by_cases c126 : 1 < (t104.length : Int)
                                     · rw [if_pos c126] at H
                                       have c126b0 : decide (1 < (t104.length : Int)) = true := decide_eq_true c126
                                       have c126b1 : decide (1 < t104.length) = true := decide_eq_true (by omega)
                                       clear c126
                                       obtain ⟨y143, hy143⟩ : ∃ y_ : List (S34), y_ = (t104.set (1 : Int).toNat (⟨(rd_T34 t104 1).f0, (rd_T34 t104 1).f1, (rd_T34 t104 1).f2, (rd_T34 t104 1).f3, y140⟩ : S34)) := ⟨_, rfl⟩
                                       replace H : ((parse_May.f t102 t103 y143 13).bind fun t144 => (some (!t144))) = some r := by first | (rw [hy143]; with_reducible exact H) | (have H2_ := (Option.bind_some _ _).symm.trans H; rw [hy143]; with_reducible exact H2_) | (have H2_ := (Option.bind_some _ _).symm.trans H; with_reducible exact H2_) | with_reducible exact H | (rw [hy143]; exact H) | exact H
                                       have Ny143 := Aside0.mk hy143
                                       clear hy143
                                       replace H := Option.bind_eq_some_iff.mp H
                                       obtain ⟨t144, A1280, H⟩ := H
                                       replace H : (some (!t144)) = some r := H
                                       have A128 := Aside0.mk A1280
                                       clear A1280
                                       obtain rfl := Option.some.inj H
                                       have hcz129_0 : wc.cell? ⟨gb108, 0, none⟩ = some (.int .i64 t102) := (blk_cell BK108.out 0).trans rfl
                                       have hcz129_1 : wc.cell? ⟨gb108, 1, none⟩ = some (.int .i64 t103) := (blk_cell BK108.out 1).trans rfl
                                       have hcz129_2 : wc.cell? ⟨gb108, 2, none⟩ = some (.slice Ao11 t104.length co11) := (blk_cell BK108.out 2).trans rfl
                                       have hfz129_0 := blk_frozen BK108.out 0
                                       have hfz129_1 := blk_frozen BK108.out 1
                                       have hfz129_2 := blk_frozen BK108.out 2
                                       go_wp2_with (first | ((with_reducible refine gate_dst (N := 123) rfl ?_); (try (refine gate_guard (by rfl) ?_; dsimp only)); refine Kd.R_lit (Kd.int .i64) _ 3 ?hg (N := 123) ?hd (xs := ([2] : List Int)) (inner := [.int .i64 2]) (ok := fun _ => True) (okp := fun _ => True) ?hr ?hp (fun _ hk => hk) trivial (Below.refl _ _) (Nat.le_refl _) (by simp) ?_; (case hd => rfl); (case hg => rfl); (case hr => first | (go_simp; done) | (go_simp; rfl)); (case hp => exact (Reps.one (show Kd.M (Kd.int .i64) _ _ _ 2 [.int .i64 2] from rfl) (Reps.none _ _))); intro v141 w130 ho131 hb hg_ hnew_; clear hg_ hnew_; (first | rw [← Ny140.out] at ho131 | (simp only [Int.reduceToNat] at ho131; rw [← Ny140.out] at ho131)); have n0_ := Aside0.mk (Kd.S_elder' (by (with_reducible repeat (first | apply Kd.S_alloc | apply Kd.S_drewN | apply Kd.S_drew)); exact HO_109002.out) (Kd.R_base ho131) hb); have n1_ := Aside0.mk (Kd.R_lower ho131 (below_size (by repeat (first | (with_reducible first | exact HB.out | apply below_alloc | apply pw_below_drewN | apply below_drew1 | refine below_set ?_ GE108.out) | exact HB.out)))); have n2_ := Aside0.mk (blk_below (g := gb108) (o := .cells #[.int .i64 t102, .int .i64 t103, .slice Ao11 t104.length co11] 28 (0, 0)) (by (with_reducible repeat (first | refine blk_drewN ?_ _ | refine blk_drew ?_ | refine blk_alloc ?_ _)); exact BK108.out) hb); have n3_ := Aside0.mk (below_step (by repeat (first | (with_reducible first | exact HB.out | apply below_alloc | apply pw_below_drewN | apply below_drew1 | refine below_set ?_ GE108.out) | exact HB.out)) hb); clear HO_109002; clear BK108; clear HB; have HO_109002 := n0_; have HO142 := n1_; have BK108 := n2_; have HB := n3_; clear n0_ n1_ n2_ n3_; clear hb ho131; have p127 : 0 ≤ (1 : Int) := (by omega); have q127 : (1 : Int) < ((t104.length : Int) : Int) := of_decide_eq_true (by first | (with_reducible assumption) | assumption); have qi127 : (1 < t104.length) = True := eq_true (by omega); obtain ⟨go127, co127, eo127, gb127, gl127, cl127, HG127⟩ := Kd.S_form HO_109002.out (by omega); (first | cases eo127 | (injection eo127 with ea_ en_ ec_; (first | subst ea_ | (injection ea_ with ea_; subst ea_)); subst ec_; clear en_)); have GB127 := Aside0.mk gb127; have GG127 := Aside0.mk HG127; clear gb127 gl127 HG127; obtain ⟨_, ce127, hcl127, hM127, hcc127, hfr127, _, _⟩ := Kd.S_elem HO_109002.out z34 (1 : Int) p127 q127; obtain ⟨ve127_4, rfl, ge127_4⟩ := k34_openM hM127; have hx127_0 : w130.cell? ⟨go127, (1 : Int).toNat * 5, none⟩ = some (.int .i64 ((rd_T34 t104 1).f0)) := hcc127 0 _ rfl; have hx127_1 : w130.cell? ⟨go127, (1 : Int).toNat * 5 + 1, none⟩ = some (.int .i64 ((rd_T34 t104 1).f1)) := hcc127 1 _ rfl; have hx127_2 : w130.cell? ⟨go127, (1 : Int).toNat * 5 + 2, none⟩ = some (.int .i64 ((rd_T34 t104 1).f2)) := hcc127 2 _ rfl; have hx127_3 : w130.cell? ⟨go127, (1 : Int).toNat * 5 + 3, none⟩ = some (.int .i64 ((rd_T34 t104 1).f3)) := hcc127 3 _ rfl; have hx127_4 : w130.cell? ⟨go127, (1 : Int).toNat * 5 + 4, none⟩ = some (ve127_4) := hcc127 4 _ rfl; have hf127_0 : w130.frozen? ⟨go127, (1 : Int).toNat * 5, none⟩ = false := hfr127 0; have hf127_1 : w130.frozen? ⟨go127, (1 : Int).toNat * 5 + 1, none⟩ = false := hfr127 1; have hf127_2 : w130.frozen? ⟨go127, (1 : Int).toNat * 5 + 2, none⟩ = false := hfr127 2; have hf127_3 : w130.frozen? ⟨go127, (1 : Int).toNat * 5 + 3, none⟩ = false := hfr127 3; have hf127_4 : w130.frozen? ⟨go127, (1 : Int).toNat * 5 + 4, none⟩ = false := hfr127 4; clear hcl127 hcc127 hfr127 hM127; (try rw [show ((1 : Int)).toNat = 1 from rfl] at hx127_0); (try simp only [Nat.reduceMul, Nat.zero_mul, Nat.zero_add, Nat.reduceAdd] at hx127_0); (try rw [show ((1 : Int)).toNat = 1 from rfl] at hf127_0); (try simp only [Nat.reduceMul, Nat.zero_mul, Nat.zero_add, Nat.reduceAdd] at hf127_0); (try rw [show ((1 : Int)).toNat = 1 from rfl] at hx127_1); (try simp only [Nat.reduceMul, Nat.zero_mul, Nat.zero_add, Nat.reduceAdd] at hx127_1); (try rw [show ((1 : Int)).toNat = 1 from rfl] at hf127_1); (try simp only [Nat.reduceMul, Nat.zero_mul, Nat.zero_add, Nat.reduceAdd] at hf127_1); (try rw [show ((1 : Int)).toNat = 1 from rfl] at hx127_2); (try simp only [Nat.reduceMul, Nat.zero_mul, Nat.zero_add, Nat.reduceAdd] at hx127_2); (try rw [show ((1 : Int)).toNat = 1 from rfl] at hf127_2); (try simp only [Nat.reduceMul, Nat.zero_mul, Nat.zero_add, Nat.reduceAdd] at hf127_2); (try rw [show ((1 : Int)).toNat = 1 from rfl] at hx127_3); (try simp only [Nat.reduceMul, Nat.zero_mul, Nat.zero_add, Nat.reduceAdd] at hx127_3); (try rw [show ((1 : Int)).toNat = 1 from rfl] at hf127_3); (try simp only [Nat.reduceMul, Nat.zero_mul, Nat.zero_add, Nat.reduceAdd] at hf127_3); (try rw [show ((1 : Int)).toNat = 1 from rfl] at hx127_4); (try simp only [Nat.reduceMul, Nat.zero_mul, Nat.zero_add, Nat.reduceAdd] at hx127_4); (try rw [show ((1 : Int)).toNat = 1 from rfl] at hf127_4); (try simp only [Nat.reduceMul, Nat.zero_mul, Nat.zero_add, Nat.reduceAdd] at hf127_4); replace p127 := eq_true p127; replace q127 := eq_true q127; have n_ := Aside0.mk (Kd.S_mono (ok' := (fun k_ => some k_ ≠ (v141 : Value).ownBlock)) HO_109002.out (fun k_ hk => hk.2)); clear HO_109002; have HO_109002 := n_; clear n_; have HX132 := Aside0.mk (show Kd.S k34 34 w130 w.heap.size (fun k_ => ((fun _ => True)) k_ ∧ ¬ ((fun k_ => some k_ = (v141 : Value).ownBlock)) k_) (.slice (some ⟨go127, 0, none⟩) t104.length co11) t104 from (by (with_reducible repeat (first | apply Kd.S_alloc | apply Kd.S_drewN | apply Kd.S_drew)); exact Kd.S_mono HO_109002.out (fun k_ hk => ⟨trivial, fun e_ => hk e_⟩))); obtain ⟨oki132, ce132, hcl132, hM132, hcc132, hfr132, hoki132, hH132⟩ := Kd.S_elem HX132.out z34 (1 : Int) (by omega) (by have h_ : (1 : Int) < ((t104.length : Int) : Int) := of_decide_eq_true (by first | (with_reducible assumption) | assumption); first | exact h_ | (have e_ := (Kd.S_reads' HO_109002.out).1; omega) | simpa using h_); obtain ⟨ve132_4, rfl, ge132_4⟩ := k34_openM hM132; have HP132 := Kd.S_seg hH132 (by omega) (by have h_ : (1 : Int) < ((t104.length : Int) : Int) := of_decide_eq_true (by first | (with_reducible assumption) | assumption); first | exact h_ | (have e_ := (Kd.S_reads' HO_109002.out).1; omega) | simpa using h_) (seg := [v141]) (j := 4) (show 5 ≤ 5 from by decide) (x' := (⟨(rd_T34 t104 1).f0, (rd_T34 t104 1).f1, (rd_T34 t104 1).f2, (rd_T34 t104 1).f3, y140⟩ : S34)) (k34_mkM _ _ _ (⟨(rd_T34 t104 1).f0, (rd_T34 t104 1).f1, (rd_T34 t104 1).f2, (rd_T34 t104 1).f3, y140⟩ : S34) (Kd.R_mono (Kd.R_tight rfl (Kd.R_mono (ok' := fun k_ => ((fun _ => True)) k_ ∧ k_ ≠ go127) (Kd.R_apart' (HO142.out) (Kd.S_typed HO_109002.out) (by decide)) (fun k_ hk => ⟨trivial, fun e_ => (hk.2) (by rw [e_]; rfl)⟩))) (fun _ h_ => Or.inr (h_)))) (fun _ hk => hk) (fun k_ hk_ => ((Kd.R_mono (ok' := fun k_ => ((fun _ => True)) k_ ∧ k_ ≠ go127) (Kd.R_apart' (HO142.out) (Kd.S_typed HO_109002.out) (by decide)) (fun k_ hk => ⟨trivial, fun e_ => (hk.2) (by rw [e_]; rfl)⟩))).1 k_ hk_.symm); have hx132_4 := hcc132 4 _ rfl; (try simp only [show (k34).sz = 5 from rfl, Nat.mul_one, Nat.add_zero] at hx132_4); (try rw [show ((1 : Int)).toNat = 1 from rfl] at hx132_4); (try simp only [Nat.reduceMul, Nat.zero_mul, Nat.zero_add, Nat.reduceAdd] at hx132_4); have hf132_4 := hfr132 4; (try simp only [show (k34).sz = 5 from rfl, Nat.mul_one, Nat.add_zero] at hf132_4); (try rw [show ((1 : Int)).toNat = 1 from rfl] at hf132_4); (try simp only [Nat.reduceMul, Nat.zero_mul, Nat.zero_add, Nat.reduceAdd] at hf132_4); clear hcl132 hcc132 hfr132 hM132 hoki132 hH132) | ((with_reducible refine gate_store (t := 32) (p := 125) rfl ?_); refine store_event (t := 32) (p := 125) (v := ?vo_w133) (w1 := (w130.setCell ⟨go127, 9, none⟩ (v141))) ?hg ?ho ?hn ?hr ?_; (case ho => rfl); (case hg => rfl); (case hn => rfl); (case hr => first | (go_simp; done) | (go_simp; rfl) | (obtain ⟨Ao_, co_, eo_⟩ := Kd.R_slice HO142.out; subst eo_; first | (go_simp; done) | (go_simp; rfl))); intro w133 hw; have hg : w130.grownBy w133 (some go127) := (by rw [hw]; exact HP132.2); have hp_ : Kd.S k34 34 w133 w.heap.size (fun _ => True) (.slice (some ⟨go127, 0, none⟩) t104.length co11) y143 := (by rw [hw, Ny143.out]; exact HP132.1); clear HP132; have n0_ := Aside0.mk (hp_); have n1_ := Aside0.mk (blk_grown (g := gb108) (o := .cells #[.int .i64 t102, .int .i64 t103, .slice (some ⟨go127, 0, none⟩) t104.length co11] 28 (0, 0)) (by (with_reducible repeat (first | refine blk_drewN ?_ _ | refine blk_drew ?_ | refine blk_alloc ?_ _)); exact BK108.out) hg (Kd.S_ne HO_109002.out BK108.out (by decide))); have n2_ := Aside0.mk ((by rw [hw]; exact below_set (HB.out) GB127.out : Below w.heap.size w w133)); clear HO_109002; clear BK108; clear HB; clear HO142; have HO_109002 := n0_; have BK108 := n1_; have HB := n2_; clear n0_ n1_ n2_; clear hg hw hp_; have hcz134_0 : w133.cell? ⟨gb108, 0, none⟩ = some (.int .i64 t102) := (blk_cell BK108.out 0).trans rfl; have hcz134_1 : w133.cell? ⟨gb108, 1, none⟩ = some (.int .i64 t103) := (blk_cell BK108.out 1).trans rfl; have hcz134_2 : w133.cell? ⟨gb108, 2, none⟩ = some (.slice (some ⟨go127, 0, none⟩) t104.length co11) := (blk_cell BK108.out 2).trans rfl; have hfz134_0 := blk_frozen BK108.out 0; have hfz134_1 := blk_frozen BK108.out 1; have hfz134_2 := blk_frozen BK108.out 2) | ((with_reducible refine gate_callee (f := 21) rfl ?_); refine goesL_ (some 144) rfl rfl Try.func21 (by kernel_rfl) rfl #[.agg #[.int .i64 t102, .int .i64 t103, .slice (some ⟨go127, 0, none⟩) y143.length co11], .int .i64 13] rfl (by (try simp only [List.map_toArray, List.map_cons, List.map_nil]); first | done | (rw [show y143.length = t104.length from (Kd.S_reads' HO_109002.out).1.symm] <;> rfl) | rfl | (simp only [List.length_drop, List.length_take]; rfl)) ?_; (with_reducible refine (parse_May.calls t102 t103 _ _ y143 13 t144 _ ?side1 ?side2 A128.out).mono ?_); (case side1 => repeat (first | exact (Kd.S_reads' HO_109002.out).2.2 | (with_reducible refine Kd.C_alloc ?_ _) | (with_reducible refine Kd.C_drewN ?_ _) | (with_reducible refine Kd.C_drew ?_))); (case side2 => rw [show y143.length = t104.length from (Kd.S_reads' HO_109002.out).1.symm]; exact (Kd.S_reads' HO_109002.out).2.1); rintro e w135 ⟨rfl, hb⟩; refine ⟨_, rfl, ?_⟩; have n0_ := Aside0.mk (Kd.S_below (by (with_reducible repeat (first | apply Kd.S_alloc | apply Kd.S_drewN | apply Kd.S_drew)); exact HO_109002.out) hb); have n1_ := Aside0.mk (blk_below (g := gb108) (o := .cells #[.int .i64 t102, .int .i64 t103, .slice (some ⟨go127, 0, none⟩) t104.length co11] 28 (0, 0)) (by (with_reducible repeat (first | refine blk_drewN ?_ _ | refine blk_drew ?_ | refine blk_alloc ?_ _)); exact BK108.out) hb); have n2_ := Aside0.mk (below_step (by repeat (first | (with_reducible first | exact HB.out | apply below_alloc | apply pw_below_drewN | apply below_drew1 | refine below_set ?_ GE108.out) | exact HB.out)) hb); clear HO_109002; clear BK108; clear HB; have HO_109002 := n0_; have BK108 := n1_; have HB := n2_; clear n0_ n1_ n2_; (try clear hb); (try clear hb2); (try clear hk); (try clear hi)))
                                       go_ret
                                       exact ⟨by first | rfl | (simp [errW_none, errW_some] <;> rfl) | (simp [*, errW_none, errW_some] <;> rfl), by repeat (first | (with_reducible first | exact HB.out | apply below_alloc | apply pw_below_drewN | apply below_drew1 | refine below_set ?_ GE108.out) | exact HB.out)⟩
                                     · rw [if_neg c126] at H
                                       exact absurd H (by simp)
                                   · rw [if_neg c125] at H
                                     have c125b0 : ((Int.tmod (IntKind.u64.wrap (a0)) 18) == 14) = false := beq_eq_false_iff_ne.mpr c125
                                     have c125b1 : ((Int.tmod (IntKind.u64.wrap (a0)) 18) != 14) = true := bne_iff_ne.mpr c125
                                     by_cases c136 : (Int.tmod (IntKind.u64.wrap (a0)) 18) = 15
                                     · rw [if_pos c136] at H
                                       have c136b0 : ((Int.tmod (IntKind.u64.wrap (a0)) 18) == 15) = true := beq_iff_eq.mpr c136
                                       have c136b1 : ((Int.tmod (IntKind.u64.wrap (a0)) 18) != 15) = false := bne_eq_false_iff_eq.mpr c136
                                       clear c136
                                       obtain ⟨y145, hy145⟩ : ∃ y_ : List Int, y_ = (([4] : List Int)) := ⟨_, rfl⟩
                                       replace H : (if 2 < (t104.length : Int) then ((parse_May.f t102 t103 (t104.set (2 : Int).toNat (⟨(rd_T34 t104 2).f0, (rd_T34 t104 2).f1, (rd_T34 t104 2).f2, (rd_T34 t104 2).f3, y145⟩ : S34)) 13).bind fun t149 => (some (!t149))) else (none)) = some r := by first | (rw [hy145]; with_reducible exact H) | (have H2_ := (Option.bind_some _ _).symm.trans H; rw [hy145]; with_reducible exact H2_) | (have H2_ := (Option.bind_some _ _).symm.trans H; with_reducible exact H2_) | with_reducible exact H | (rw [hy145]; exact H) | exact H
                                       have Ny145 := Aside0.mk hy145
                                       clear hy145
                                       by_cases c137 : 2 < (t104.length : Int)
                                       · rw [if_pos c137] at H
                                         have c137b0 : decide (2 < (t104.length : Int)) = true := decide_eq_true c137
                                         have c137b1 : decide (2 < t104.length) = true := decide_eq_true (by omega)
                                         clear c137
                                         obtain ⟨y148, hy148⟩ : ∃ y_ : List (S34), y_ = (t104.set (2 : Int).toNat (⟨(rd_T34 t104 2).f0, (rd_T34 t104 2).f1, (rd_T34 t104 2).f2, (rd_T34 t104 2).f3, y145⟩ : S34)) := ⟨_, rfl⟩
                                         replace H : ((parse_May.f t102 t103 y148 13).bind fun t149 => (some (!t149))) = some r := by first | (rw [hy148]; with_reducible exact H) | (have H2_ := (Option.bind_some _ _).symm.trans H; rw [hy148]; with_reducible exact H2_) | (have H2_ := (Option.bind_some _ _).symm.trans H; with_reducible exact H2_) | with_reducible exact H | (rw [hy148]; exact H) | exact H
                                         have Ny148 := Aside0.mk hy148
                                         clear hy148
                                         replace H := Option.bind_eq_some_iff.mp H
                                         obtain ⟨t149, A1390, H⟩ := H
                                         replace H : (some (!t149)) = some r := H
                                         have A139 := Aside0.mk A1390
                                         clear A1390
                                         obtain rfl := Option.some.inj H
                                         have hcz140_0 : wc.cell? ⟨gb108, 0, none⟩ = some (.int .i64 t102) := (blk_cell BK108.out 0).trans rfl
                                         have hcz140_1 : wc.cell? ⟨gb108, 1, none⟩ = some (.int .i64 t103) := (blk_cell BK108.out 1).trans rfl
                                         have hcz140_2 : wc.cell? ⟨gb108, 2, none⟩ = some (.slice Ao11 t104.length co11) := (blk_cell BK108.out 2).trans rfl
                                         have hfz140_0 := blk_frozen BK108.out 0
                                         have hfz140_1 := blk_frozen BK108.out 1
                                         have hfz140_2 := blk_frozen BK108.out 2
                                         go_wp2_with (first | ((with_reducible refine gate_dst (N := 130) rfl ?_); (try (refine gate_guard (by rfl) ?_; dsimp only)); refine Kd.R_lit (Kd.int .i64) _ 3 ?hg (N := 130) ?hd (xs := ([4] : List Int)) (inner := [.int .i64 4]) (ok := fun _ => True) (okp := fun _ => True) ?hr ?hp (fun _ hk => hk) trivial (Below.refl _ _) (Nat.le_refl _) (by simp) ?_; (case hd => rfl); (case hg => rfl); (case hr => first | (go_simp; done) | (go_simp; rfl)); (case hp => exact (Reps.one (show Kd.M (Kd.int .i64) _ _ _ 4 [.int .i64 4] from rfl) (Reps.none _ _))); intro v146 w141 ho142 hb hg_ hnew_; clear hg_ hnew_; (first | rw [← Ny145.out] at ho142 | (simp only [Int.reduceToNat] at ho142; rw [← Ny145.out] at ho142)); have n0_ := Aside0.mk (Kd.S_elder' (by (with_reducible repeat (first | apply Kd.S_alloc | apply Kd.S_drewN | apply Kd.S_drew)); exact HO_109002.out) (Kd.R_base ho142) hb); have n1_ := Aside0.mk (Kd.R_lower ho142 (below_size (by repeat (first | (with_reducible first | exact HB.out | apply below_alloc | apply pw_below_drewN | apply below_drew1 | refine below_set ?_ GE108.out) | exact HB.out)))); have n2_ := Aside0.mk (blk_below (g := gb108) (o := .cells #[.int .i64 t102, .int .i64 t103, .slice Ao11 t104.length co11] 28 (0, 0)) (by (with_reducible repeat (first | refine blk_drewN ?_ _ | refine blk_drew ?_ | refine blk_alloc ?_ _)); exact BK108.out) hb); have n3_ := Aside0.mk (below_step (by repeat (first | (with_reducible first | exact HB.out | apply below_alloc | apply pw_below_drewN | apply below_drew1 | refine below_set ?_ GE108.out) | exact HB.out)) hb); clear HO_109002; clear BK108; clear HB; have HO_109002 := n0_; have HO147 := n1_; have BK108 := n2_; have HB := n3_; clear n0_ n1_ n2_ n3_; clear hb ho142; have p138 : 0 ≤ (2 : Int) := (by omega); have q138 : (2 : Int) < ((t104.length : Int) : Int) := of_decide_eq_true (by first | (with_reducible assumption) | assumption); have qi138 : (2 < t104.length) = True := eq_true (by omega); obtain ⟨go138, co138, eo138, gb138, gl138, cl138, HG138⟩ := Kd.S_form HO_109002.out (by omega); (first | cases eo138 | (injection eo138 with ea_ en_ ec_; (first | subst ea_ | (injection ea_ with ea_; subst ea_)); subst ec_; clear en_)); have GB138 := Aside0.mk gb138; have GG138 := Aside0.mk HG138; clear gb138 gl138 HG138; obtain ⟨_, ce138, hcl138, hM138, hcc138, hfr138, _, _⟩ := Kd.S_elem HO_109002.out z34 (2 : Int) p138 q138; obtain ⟨ve138_4, rfl, ge138_4⟩ := k34_openM hM138; have hx138_0 : w141.cell? ⟨go138, (2 : Int).toNat * 5, none⟩ = some (.int .i64 ((rd_T34 t104 2).f0)) := hcc138 0 _ rfl; have hx138_1 : w141.cell? ⟨go138, (2 : Int).toNat * 5 + 1, none⟩ = some (.int .i64 ((rd_T34 t104 2).f1)) := hcc138 1 _ rfl; have hx138_2 : w141.cell? ⟨go138, (2 : Int).toNat * 5 + 2, none⟩ = some (.int .i64 ((rd_T34 t104 2).f2)) := hcc138 2 _ rfl; have hx138_3 : w141.cell? ⟨go138, (2 : Int).toNat * 5 + 3, none⟩ = some (.int .i64 ((rd_T34 t104 2).f3)) := hcc138 3 _ rfl; have hx138_4 : w141.cell? ⟨go138, (2 : Int).toNat * 5 + 4, none⟩ = some (ve138_4) := hcc138 4 _ rfl; have hf138_0 : w141.frozen? ⟨go138, (2 : Int).toNat * 5, none⟩ = false := hfr138 0; have hf138_1 : w141.frozen? ⟨go138, (2 : Int).toNat * 5 + 1, none⟩ = false := hfr138 1; have hf138_2 : w141.frozen? ⟨go138, (2 : Int).toNat * 5 + 2, none⟩ = false := hfr138 2; have hf138_3 : w141.frozen? ⟨go138, (2 : Int).toNat * 5 + 3, none⟩ = false := hfr138 3; have hf138_4 : w141.frozen? ⟨go138, (2 : Int).toNat * 5 + 4, none⟩ = false := hfr138 4; clear hcl138 hcc138 hfr138 hM138; (try rw [show ((2 : Int)).toNat = 2 from rfl] at hx138_0); (try simp only [Nat.reduceMul, Nat.zero_mul, Nat.zero_add, Nat.reduceAdd] at hx138_0); (try rw [show ((2 : Int)).toNat = 2 from rfl] at hf138_0); (try simp only [Nat.reduceMul, Nat.zero_mul, Nat.zero_add, Nat.reduceAdd] at hf138_0); (try rw [show ((2 : Int)).toNat = 2 from rfl] at hx138_1); (try simp only [Nat.reduceMul, Nat.zero_mul, Nat.zero_add, Nat.reduceAdd] at hx138_1); (try rw [show ((2 : Int)).toNat = 2 from rfl] at hf138_1); (try simp only [Nat.reduceMul, Nat.zero_mul, Nat.zero_add, Nat.reduceAdd] at hf138_1); (try rw [show ((2 : Int)).toNat = 2 from rfl] at hx138_2); (try simp only [Nat.reduceMul, Nat.zero_mul, Nat.zero_add, Nat.reduceAdd] at hx138_2); (try rw [show ((2 : Int)).toNat = 2 from rfl] at hf138_2); (try simp only [Nat.reduceMul, Nat.zero_mul, Nat.zero_add, Nat.reduceAdd] at hf138_2); (try rw [show ((2 : Int)).toNat = 2 from rfl] at hx138_3); (try simp only [Nat.reduceMul, Nat.zero_mul, Nat.zero_add, Nat.reduceAdd] at hx138_3); (try rw [show ((2 : Int)).toNat = 2 from rfl] at hf138_3); (try simp only [Nat.reduceMul, Nat.zero_mul, Nat.zero_add, Nat.reduceAdd] at hf138_3); (try rw [show ((2 : Int)).toNat = 2 from rfl] at hx138_4); (try simp only [Nat.reduceMul, Nat.zero_mul, Nat.zero_add, Nat.reduceAdd] at hx138_4); (try rw [show ((2 : Int)).toNat = 2 from rfl] at hf138_4); (try simp only [Nat.reduceMul, Nat.zero_mul, Nat.zero_add, Nat.reduceAdd] at hf138_4); replace p138 := eq_true p138; replace q138 := eq_true q138; have n_ := Aside0.mk (Kd.S_mono (ok' := (fun k_ => some k_ ≠ (v146 : Value).ownBlock)) HO_109002.out (fun k_ hk => hk.2)); clear HO_109002; have HO_109002 := n_; clear n_; have HX143 := Aside0.mk (show Kd.S k34 34 w141 w.heap.size (fun k_ => ((fun _ => True)) k_ ∧ ¬ ((fun k_ => some k_ = (v146 : Value).ownBlock)) k_) (.slice (some ⟨go138, 0, none⟩) t104.length co11) t104 from (by (with_reducible repeat (first | apply Kd.S_alloc | apply Kd.S_drewN | apply Kd.S_drew)); exact Kd.S_mono HO_109002.out (fun k_ hk => ⟨trivial, fun e_ => hk e_⟩))); obtain ⟨oki143, ce143, hcl143, hM143, hcc143, hfr143, hoki143, hH143⟩ := Kd.S_elem HX143.out z34 (2 : Int) (by omega) (by have h_ : (2 : Int) < ((t104.length : Int) : Int) := of_decide_eq_true (by first | (with_reducible assumption) | assumption); first | exact h_ | (have e_ := (Kd.S_reads' HO_109002.out).1; omega) | simpa using h_); obtain ⟨ve143_4, rfl, ge143_4⟩ := k34_openM hM143; have HP143 := Kd.S_seg hH143 (by omega) (by have h_ : (2 : Int) < ((t104.length : Int) : Int) := of_decide_eq_true (by first | (with_reducible assumption) | assumption); first | exact h_ | (have e_ := (Kd.S_reads' HO_109002.out).1; omega) | simpa using h_) (seg := [v146]) (j := 4) (show 5 ≤ 5 from by decide) (x' := (⟨(rd_T34 t104 2).f0, (rd_T34 t104 2).f1, (rd_T34 t104 2).f2, (rd_T34 t104 2).f3, y145⟩ : S34)) (k34_mkM _ _ _ (⟨(rd_T34 t104 2).f0, (rd_T34 t104 2).f1, (rd_T34 t104 2).f2, (rd_T34 t104 2).f3, y145⟩ : S34) (Kd.R_mono (Kd.R_tight rfl (Kd.R_mono (ok' := fun k_ => ((fun _ => True)) k_ ∧ k_ ≠ go138) (Kd.R_apart' (HO147.out) (Kd.S_typed HO_109002.out) (by decide)) (fun k_ hk => ⟨trivial, fun e_ => (hk.2) (by rw [e_]; rfl)⟩))) (fun _ h_ => Or.inr (h_)))) (fun _ hk => hk) (fun k_ hk_ => ((Kd.R_mono (ok' := fun k_ => ((fun _ => True)) k_ ∧ k_ ≠ go138) (Kd.R_apart' (HO147.out) (Kd.S_typed HO_109002.out) (by decide)) (fun k_ hk => ⟨trivial, fun e_ => (hk.2) (by rw [e_]; rfl)⟩))).1 k_ hk_.symm); have hx143_4 := hcc143 4 _ rfl; (try simp only [show (k34).sz = 5 from rfl, Nat.mul_one, Nat.add_zero] at hx143_4); (try rw [show ((2 : Int)).toNat = 2 from rfl] at hx143_4); (try simp only [Nat.reduceMul, Nat.zero_mul, Nat.zero_add, Nat.reduceAdd] at hx143_4); have hf143_4 := hfr143 4; (try simp only [show (k34).sz = 5 from rfl, Nat.mul_one, Nat.add_zero] at hf143_4); (try rw [show ((2 : Int)).toNat = 2 from rfl] at hf143_4); (try simp only [Nat.reduceMul, Nat.zero_mul, Nat.zero_add, Nat.reduceAdd] at hf143_4); clear hcl143 hcc143 hfr143 hM143 hoki143 hH143) | ((with_reducible refine gate_store (t := 32) (p := 132) rfl ?_); refine store_event (t := 32) (p := 132) (v := ?vo_w144) (w1 := (w141.setCell ⟨go138, 14, none⟩ (v146))) ?hg ?ho ?hn ?hr ?_; (case ho => rfl); (case hg => rfl); (case hn => rfl); (case hr => first | (go_simp; done) | (go_simp; rfl) | (obtain ⟨Ao_, co_, eo_⟩ := Kd.R_slice HO147.out; subst eo_; first | (go_simp; done) | (go_simp; rfl))); intro w144 hw; have hg : w141.grownBy w144 (some go138) := (by rw [hw]; exact HP143.2); have hp_ : Kd.S k34 34 w144 w.heap.size (fun _ => True) (.slice (some ⟨go138, 0, none⟩) t104.length co11) y148 := (by rw [hw, Ny148.out]; exact HP143.1); clear HP143; have n0_ := Aside0.mk (hp_); have n1_ := Aside0.mk (blk_grown (g := gb108) (o := .cells #[.int .i64 t102, .int .i64 t103, .slice (some ⟨go138, 0, none⟩) t104.length co11] 28 (0, 0)) (by (with_reducible repeat (first | refine blk_drewN ?_ _ | refine blk_drew ?_ | refine blk_alloc ?_ _)); exact BK108.out) hg (Kd.S_ne HO_109002.out BK108.out (by decide))); have n2_ := Aside0.mk ((by rw [hw]; exact below_set (HB.out) GB138.out : Below w.heap.size w w144)); clear HO_109002; clear BK108; clear HB; clear HO147; have HO_109002 := n0_; have BK108 := n1_; have HB := n2_; clear n0_ n1_ n2_; clear hg hw hp_; have hcz145_0 : w144.cell? ⟨gb108, 0, none⟩ = some (.int .i64 t102) := (blk_cell BK108.out 0).trans rfl; have hcz145_1 : w144.cell? ⟨gb108, 1, none⟩ = some (.int .i64 t103) := (blk_cell BK108.out 1).trans rfl; have hcz145_2 : w144.cell? ⟨gb108, 2, none⟩ = some (.slice (some ⟨go138, 0, none⟩) t104.length co11) := (blk_cell BK108.out 2).trans rfl; have hfz145_0 := blk_frozen BK108.out 0; have hfz145_1 := blk_frozen BK108.out 1; have hfz145_2 := blk_frozen BK108.out 2) | ((with_reducible refine gate_callee (f := 21) rfl ?_); refine goesL_ (some 144) rfl rfl Try.func21 (by kernel_rfl) rfl #[.agg #[.int .i64 t102, .int .i64 t103, .slice (some ⟨go138, 0, none⟩) y148.length co11], .int .i64 13] rfl (by (try simp only [List.map_toArray, List.map_cons, List.map_nil]); first | done | (rw [show y148.length = t104.length from (Kd.S_reads' HO_109002.out).1.symm] <;> rfl) | rfl | (simp only [List.length_drop, List.length_take]; rfl)) ?_; (with_reducible refine (parse_May.calls t102 t103 _ _ y148 13 t149 _ ?side1 ?side2 A139.out).mono ?_); (case side1 => repeat (first | exact (Kd.S_reads' HO_109002.out).2.2 | (with_reducible refine Kd.C_alloc ?_ _) | (with_reducible refine Kd.C_drewN ?_ _) | (with_reducible refine Kd.C_drew ?_))); (case side2 => rw [show y148.length = t104.length from (Kd.S_reads' HO_109002.out).1.symm]; exact (Kd.S_reads' HO_109002.out).2.1); rintro e w146 ⟨rfl, hb⟩; refine ⟨_, rfl, ?_⟩; have n0_ := Aside0.mk (Kd.S_below (by (with_reducible repeat (first | apply Kd.S_alloc | apply Kd.S_drewN | apply Kd.S_drew)); exact HO_109002.out) hb); have n1_ := Aside0.mk (blk_below (g := gb108) (o := .cells #[.int .i64 t102, .int .i64 t103, .slice (some ⟨go138, 0, none⟩) t104.length co11] 28 (0, 0)) (by (with_reducible repeat (first | refine blk_drewN ?_ _ | refine blk_drew ?_ | refine blk_alloc ?_ _)); exact BK108.out) hb); have n2_ := Aside0.mk (below_step (by repeat (first | (with_reducible first | exact HB.out | apply below_alloc | apply pw_below_drewN | apply below_drew1 | refine below_set ?_ GE108.out) | exact HB.out)) hb); clear HO_109002; clear BK108; clear HB; have HO_109002 := n0_; have BK108 := n1_; have HB := n2_; clear n0_ n1_ n2_; (try clear hb); (try clear hb2); (try clear hk); (try clear hi)))
                                         go_ret
                                         exact ⟨by first | rfl | (simp [errW_none, errW_some] <;> rfl) | (simp [*, errW_none, errW_some] <;> rfl), by repeat (first | (with_reducible first | exact HB.out | apply below_alloc | apply pw_below_drewN | apply below_drew1 | refine below_set ?_ GE108.out) | exact HB.out)⟩
                                       · rw [if_neg c137] at H
                                         exact absurd H (by simp)
                                     · rw [if_neg c136] at H
                                       have c136b0 : ((Int.tmod (IntKind.u64.wrap (a0)) 18) == 15) = false := beq_eq_false_iff_ne.mpr c136
                                       have c136b1 : ((Int.tmod (IntKind.u64.wrap (a0)) 18) != 15) = true := bne_iff_ne.mpr c136
                                       by_cases c147 : (Int.tmod (IntKind.u64.wrap (a0)) 18) = 16
                                       · rw [if_pos c147] at H
                                         have c147b0 : ((Int.tmod (IntKind.u64.wrap (a0)) 18) == 16) = true := beq_iff_eq.mpr c147
                                         have c147b1 : ((Int.tmod (IntKind.u64.wrap (a0)) 18) != 16) = false := bne_eq_false_iff_eq.mpr c147
                                         clear c147
                                         obtain ⟨y150, hy150⟩ : ∃ y_ : List Int, y_ = (([2, 3, wrap64 (6 + (wrap64 (1 + (Go.bits .and .i64 a1 1023))))] : List Int)) := ⟨_, rfl⟩
                                         replace H : (if 1 < (t104.length : Int) then ((parse_May.f t102 t103 (t104.set (1 : Int).toNat (⟨(rd_T34 t104 1).f0, (rd_T34 t104 1).f1, (rd_T34 t104 1).f2, (rd_T34 t104 1).f3, y150⟩ : S34)) 13).bind fun t154 => (some (!t154))) else (none)) = some r := by first | (rw [hy150]; with_reducible exact H) | (have H2_ := (Option.bind_some _ _).symm.trans H; rw [hy150]; with_reducible exact H2_) | (have H2_ := (Option.bind_some _ _).symm.trans H; with_reducible exact H2_) | with_reducible exact H | (rw [hy150]; exact H) | exact H
                                         have Ny150 := Aside0.mk hy150
                                         clear hy150
                                         by_cases c148 : 1 < (t104.length : Int)
                                         · rw [if_pos c148] at H
                                           have c148b0 : decide (1 < (t104.length : Int)) = true := decide_eq_true c148
                                           have c148b1 : decide (1 < t104.length) = true := decide_eq_true (by omega)
                                           clear c148
                                           obtain ⟨y153, hy153⟩ : ∃ y_ : List (S34), y_ = (t104.set (1 : Int).toNat (⟨(rd_T34 t104 1).f0, (rd_T34 t104 1).f1, (rd_T34 t104 1).f2, (rd_T34 t104 1).f3, y150⟩ : S34)) := ⟨_, rfl⟩
                                           replace H : ((parse_May.f t102 t103 y153 13).bind fun t154 => (some (!t154))) = some r := by first | (rw [hy153]; with_reducible exact H) | (have H2_ := (Option.bind_some _ _).symm.trans H; rw [hy153]; with_reducible exact H2_) | (have H2_ := (Option.bind_some _ _).symm.trans H; with_reducible exact H2_) | with_reducible exact H | (rw [hy153]; exact H) | exact H
                                           have Ny153 := Aside0.mk hy153
                                           clear hy153
                                           replace H := Option.bind_eq_some_iff.mp H
                                           obtain ⟨t154, A1500, H⟩ := H
                                           replace H : (some (!t154)) = some r := H
                                           have A150 := Aside0.mk A1500
                                           clear A1500
                                           obtain rfl := Option.some.inj H
                                           have hcz151_0 : wc.cell? ⟨gb108, 0, none⟩ = some (.int .i64 t102) := (blk_cell BK108.out 0).trans rfl
                                           have hcz151_1 : wc.cell? ⟨gb108, 1, none⟩ = some (.int .i64 t103) := (blk_cell BK108.out 1).trans rfl
                                           have hcz151_2 : wc.cell? ⟨gb108, 2, none⟩ = some (.slice Ao11 t104.length co11) := (blk_cell BK108.out 2).trans rfl
                                           have hfz151_0 := blk_frozen BK108.out 0
                                           have hfz151_1 := blk_frozen BK108.out 1
                                           have hfz151_2 := blk_frozen BK108.out 2
                                           go_wp2_with (first | ((with_reducible refine gate_dst (N := 139) rfl ?_); (try (refine gate_guard (by rfl) ?_; dsimp only)); refine Kd.R_lit (Kd.int .i64) _ 3 ?hg (N := 139) ?hd (xs := ([2, 3, wrap64 (6 + (wrap64 (1 + (Go.bits .and .i64 a1 1023))))] : List Int)) (inner := [.int .i64 2, .int .i64 3, .int .i64 (wrap64 (6 + (wrap64 (1 + (Go.bits .and .i64 a1 1023)))))]) (ok := fun _ => True) (okp := fun _ => True) ?hr ?hp (fun _ hk => hk) trivial (Below.refl _ _) (Nat.le_refl _) (by simp) ?_; (case hd => rfl); (case hg => rfl); (case hr => first | (go_simp; done) | (go_simp; rfl)); (case hp => exact (Reps.one (show Kd.M (Kd.int .i64) _ _ _ 2 [.int .i64 2] from rfl) (Reps.one (show Kd.M (Kd.int .i64) _ _ _ 3 [.int .i64 3] from rfl) (Reps.one (show Kd.M (Kd.int .i64) _ _ _ (wrap64 (6 + (wrap64 (1 + (Go.bits .and .i64 a1 1023))))) [.int .i64 (wrap64 (6 + (wrap64 (1 + (Go.bits .and .i64 a1 1023)))))] from rfl) (Reps.none _ _))))); intro v151 w152 ho153 hb hg_ hnew_; clear hg_ hnew_; (first | rw [← Ny150.out] at ho153 | (simp only [Int.reduceToNat] at ho153; rw [← Ny150.out] at ho153)); have n0_ := Aside0.mk (Kd.S_elder' (by (with_reducible repeat (first | apply Kd.S_alloc | apply Kd.S_drewN | apply Kd.S_drew)); exact HO_109002.out) (Kd.R_base ho153) hb); have n1_ := Aside0.mk (Kd.R_lower ho153 (below_size (by repeat (first | (with_reducible first | exact HB.out | apply below_alloc | apply pw_below_drewN | apply below_drew1 | refine below_set ?_ GE108.out) | exact HB.out)))); have n2_ := Aside0.mk (blk_below (g := gb108) (o := .cells #[.int .i64 t102, .int .i64 t103, .slice Ao11 t104.length co11] 28 (0, 0)) (by (with_reducible repeat (first | refine blk_drewN ?_ _ | refine blk_drew ?_ | refine blk_alloc ?_ _)); exact BK108.out) hb); have n3_ := Aside0.mk (below_step (by repeat (first | (with_reducible first | exact HB.out | apply below_alloc | apply pw_below_drewN | apply below_drew1 | refine below_set ?_ GE108.out) | exact HB.out)) hb); clear HO_109002; clear BK108; clear HB; have HO_109002 := n0_; have HO152 := n1_; have BK108 := n2_; have HB := n3_; clear n0_ n1_ n2_ n3_; clear hb ho153; have p149 : 0 ≤ (1 : Int) := (by omega); have q149 : (1 : Int) < ((t104.length : Int) : Int) := of_decide_eq_true (by first | (with_reducible assumption) | assumption); have qi149 : (1 < t104.length) = True := eq_true (by omega); obtain ⟨go149, co149, eo149, gb149, gl149, cl149, HG149⟩ := Kd.S_form HO_109002.out (by omega); (first | cases eo149 | (injection eo149 with ea_ en_ ec_; (first | subst ea_ | (injection ea_ with ea_; subst ea_)); subst ec_; clear en_)); have GB149 := Aside0.mk gb149; have GG149 := Aside0.mk HG149; clear gb149 gl149 HG149; obtain ⟨_, ce149, hcl149, hM149, hcc149, hfr149, _, _⟩ := Kd.S_elem HO_109002.out z34 (1 : Int) p149 q149; obtain ⟨ve149_4, rfl, ge149_4⟩ := k34_openM hM149; have hx149_0 : w152.cell? ⟨go149, (1 : Int).toNat * 5, none⟩ = some (.int .i64 ((rd_T34 t104 1).f0)) := hcc149 0 _ rfl; have hx149_1 : w152.cell? ⟨go149, (1 : Int).toNat * 5 + 1, none⟩ = some (.int .i64 ((rd_T34 t104 1).f1)) := hcc149 1 _ rfl; have hx149_2 : w152.cell? ⟨go149, (1 : Int).toNat * 5 + 2, none⟩ = some (.int .i64 ((rd_T34 t104 1).f2)) := hcc149 2 _ rfl; have hx149_3 : w152.cell? ⟨go149, (1 : Int).toNat * 5 + 3, none⟩ = some (.int .i64 ((rd_T34 t104 1).f3)) := hcc149 3 _ rfl; have hx149_4 : w152.cell? ⟨go149, (1 : Int).toNat * 5 + 4, none⟩ = some (ve149_4) := hcc149 4 _ rfl; have hf149_0 : w152.frozen? ⟨go149, (1 : Int).toNat * 5, none⟩ = false := hfr149 0; have hf149_1 : w152.frozen? ⟨go149, (1 : Int).toNat * 5 + 1, none⟩ = false := hfr149 1; have hf149_2 : w152.frozen? ⟨go149, (1 : Int).toNat * 5 + 2, none⟩ = false := hfr149 2; have hf149_3 : w152.frozen? ⟨go149, (1 : Int).toNat * 5 + 3, none⟩ = false := hfr149 3; have hf149_4 : w152.frozen? ⟨go149, (1 : Int).toNat * 5 + 4, none⟩ = false := hfr149 4; clear hcl149 hcc149 hfr149 hM149; (try rw [show ((1 : Int)).toNat = 1 from rfl] at hx149_0); (try simp only [Nat.reduceMul, Nat.zero_mul, Nat.zero_add, Nat.reduceAdd] at hx149_0); (try rw [show ((1 : Int)).toNat = 1 from rfl] at hf149_0); (try simp only [Nat.reduceMul, Nat.zero_mul, Nat.zero_add, Nat.reduceAdd] at hf149_0); (try rw [show ((1 : Int)).toNat = 1 from rfl] at hx149_1); (try simp only [Nat.reduceMul, Nat.zero_mul, Nat.zero_add, Nat.reduceAdd] at hx149_1); (try rw [show ((1 : Int)).toNat = 1 from rfl] at hf149_1); (try simp only [Nat.reduceMul, Nat.zero_mul, Nat.zero_add, Nat.reduceAdd] at hf149_1); (try rw [show ((1 : Int)).toNat = 1 from rfl] at hx149_2); (try simp only [Nat.reduceMul, Nat.zero_mul, Nat.zero_add, Nat.reduceAdd] at hx149_2); (try rw [show ((1 : Int)).toNat = 1 from rfl] at hf149_2); (try simp only [Nat.reduceMul, Nat.zero_mul, Nat.zero_add, Nat.reduceAdd] at hf149_2); (try rw [show ((1 : Int)).toNat = 1 from rfl] at hx149_3); (try simp only [Nat.reduceMul, Nat.zero_mul, Nat.zero_add, Nat.reduceAdd] at hx149_3); (try rw [show ((1 : Int)).toNat = 1 from rfl] at hf149_3); (try simp only [Nat.reduceMul, Nat.zero_mul, Nat.zero_add, Nat.reduceAdd] at hf149_3); (try rw [show ((1 : Int)).toNat = 1 from rfl] at hx149_4); (try simp only [Nat.reduceMul, Nat.zero_mul, Nat.zero_add, Nat.reduceAdd] at hx149_4); (try rw [show ((1 : Int)).toNat = 1 from rfl] at hf149_4); (try simp only [Nat.reduceMul, Nat.zero_mul, Nat.zero_add, Nat.reduceAdd] at hf149_4); replace p149 := eq_true p149; replace q149 := eq_true q149; have n_ := Aside0.mk (Kd.S_mono (ok' := (fun k_ => some k_ ≠ (v151 : Value).ownBlock)) HO_109002.out (fun k_ hk => hk.2)); clear HO_109002; have HO_109002 := n_; clear n_; have HX154 := Aside0.mk (show Kd.S k34 34 w152 w.heap.size (fun k_ => ((fun _ => True)) k_ ∧ ¬ ((fun k_ => some k_ = (v151 : Value).ownBlock)) k_) (.slice (some ⟨go149, 0, none⟩) t104.length co11) t104 from (by (with_reducible repeat (first | apply Kd.S_alloc | apply Kd.S_drewN | apply Kd.S_drew)); exact Kd.S_mono HO_109002.out (fun k_ hk => ⟨trivial, fun e_ => hk e_⟩))); obtain ⟨oki154, ce154, hcl154, hM154, hcc154, hfr154, hoki154, hH154⟩ := Kd.S_elem HX154.out z34 (1 : Int) (by omega) (by have h_ : (1 : Int) < ((t104.length : Int) : Int) := of_decide_eq_true (by first | (with_reducible assumption) | assumption); first | exact h_ | (have e_ := (Kd.S_reads' HO_109002.out).1; omega) | simpa using h_); obtain ⟨ve154_4, rfl, ge154_4⟩ := k34_openM hM154; have HP154 := Kd.S_seg hH154 (by omega) (by have h_ : (1 : Int) < ((t104.length : Int) : Int) := of_decide_eq_true (by first | (with_reducible assumption) | assumption); first | exact h_ | (have e_ := (Kd.S_reads' HO_109002.out).1; omega) | simpa using h_) (seg := [v151]) (j := 4) (show 5 ≤ 5 from by decide) (x' := (⟨(rd_T34 t104 1).f0, (rd_T34 t104 1).f1, (rd_T34 t104 1).f2, (rd_T34 t104 1).f3, y150⟩ : S34)) (k34_mkM _ _ _ (⟨(rd_T34 t104 1).f0, (rd_T34 t104 1).f1, (rd_T34 t104 1).f2, (rd_T34 t104 1).f3, y150⟩ : S34) (Kd.R_mono (Kd.R_tight rfl (Kd.R_mono (ok' := fun k_ => ((fun _ => True)) k_ ∧ k_ ≠ go149) (Kd.R_apart' (HO152.out) (Kd.S_typed HO_109002.out) (by decide)) (fun k_ hk => ⟨trivial, fun e_ => (hk.2) (by rw [e_]; rfl)⟩))) (fun _ h_ => Or.inr (h_)))) (fun _ hk => hk) (fun k_ hk_ => ((Kd.R_mono (ok' := fun k_ => ((fun _ => True)) k_ ∧ k_ ≠ go149) (Kd.R_apart' (HO152.out) (Kd.S_typed HO_109002.out) (by decide)) (fun k_ hk => ⟨trivial, fun e_ => (hk.2) (by rw [e_]; rfl)⟩))).1 k_ hk_.symm); have hx154_4 := hcc154 4 _ rfl; (try simp only [show (k34).sz = 5 from rfl, Nat.mul_one, Nat.add_zero] at hx154_4); (try rw [show ((1 : Int)).toNat = 1 from rfl] at hx154_4); (try simp only [Nat.reduceMul, Nat.zero_mul, Nat.zero_add, Nat.reduceAdd] at hx154_4); have hf154_4 := hfr154 4; (try simp only [show (k34).sz = 5 from rfl, Nat.mul_one, Nat.add_zero] at hf154_4); (try rw [show ((1 : Int)).toNat = 1 from rfl] at hf154_4); (try simp only [Nat.reduceMul, Nat.zero_mul, Nat.zero_add, Nat.reduceAdd] at hf154_4); clear hcl154 hcc154 hfr154 hM154 hoki154 hH154) | ((with_reducible refine gate_store (t := 32) (p := 141) rfl ?_); refine store_event (t := 32) (p := 141) (v := ?vo_w155) (w1 := (w152.setCell ⟨go149, 9, none⟩ (v151))) ?hg ?ho ?hn ?hr ?_; (case ho => rfl); (case hg => rfl); (case hn => rfl); (case hr => first | (go_simp; done) | (go_simp; rfl) | (obtain ⟨Ao_, co_, eo_⟩ := Kd.R_slice HO152.out; subst eo_; first | (go_simp; done) | (go_simp; rfl))); intro w155 hw; have hg : w152.grownBy w155 (some go149) := (by rw [hw]; exact HP154.2); have hp_ : Kd.S k34 34 w155 w.heap.size (fun _ => True) (.slice (some ⟨go149, 0, none⟩) t104.length co11) y153 := (by rw [hw, Ny153.out]; exact HP154.1); clear HP154; have n0_ := Aside0.mk (hp_); have n1_ := Aside0.mk (blk_grown (g := gb108) (o := .cells #[.int .i64 t102, .int .i64 t103, .slice (some ⟨go149, 0, none⟩) t104.length co11] 28 (0, 0)) (by (with_reducible repeat (first | refine blk_drewN ?_ _ | refine blk_drew ?_ | refine blk_alloc ?_ _)); exact BK108.out) hg (Kd.S_ne HO_109002.out BK108.out (by decide))); have n2_ := Aside0.mk ((by rw [hw]; exact below_set (HB.out) GB149.out : Below w.heap.size w w155)); clear HO_109002; clear BK108; clear HB; clear HO152; have HO_109002 := n0_; have BK108 := n1_; have HB := n2_; clear n0_ n1_ n2_; clear hg hw hp_; have hcz156_0 : w155.cell? ⟨gb108, 0, none⟩ = some (.int .i64 t102) := (blk_cell BK108.out 0).trans rfl; have hcz156_1 : w155.cell? ⟨gb108, 1, none⟩ = some (.int .i64 t103) := (blk_cell BK108.out 1).trans rfl; have hcz156_2 : w155.cell? ⟨gb108, 2, none⟩ = some (.slice (some ⟨go149, 0, none⟩) t104.length co11) := (blk_cell BK108.out 2).trans rfl; have hfz156_0 := blk_frozen BK108.out 0; have hfz156_1 := blk_frozen BK108.out 1; have hfz156_2 := blk_frozen BK108.out 2) | ((with_reducible refine gate_callee (f := 21) rfl ?_); refine goesL_ (some 144) rfl rfl Try.func21 (by kernel_rfl) rfl #[.agg #[.int .i64 t102, .int .i64 t103, .slice (some ⟨go149, 0, none⟩) y153.length co11], .int .i64 13] rfl (by (try simp only [List.map_toArray, List.map_cons, List.map_nil]); first | done | (rw [show y153.length = t104.length from (Kd.S_reads' HO_109002.out).1.symm] <;> rfl) | rfl | (simp only [List.length_drop, List.length_take]; rfl)) ?_; (with_reducible refine (parse_May.calls t102 t103 _ _ y153 13 t154 _ ?side1 ?side2 A150.out).mono ?_); (case side1 => repeat (first | exact (Kd.S_reads' HO_109002.out).2.2 | (with_reducible refine Kd.C_alloc ?_ _) | (with_reducible refine Kd.C_drewN ?_ _) | (with_reducible refine Kd.C_drew ?_))); (case side2 => rw [show y153.length = t104.length from (Kd.S_reads' HO_109002.out).1.symm]; exact (Kd.S_reads' HO_109002.out).2.1); rintro e w157 ⟨rfl, hb⟩; refine ⟨_, rfl, ?_⟩; have n0_ := Aside0.mk (Kd.S_below (by (with_reducible repeat (first | apply Kd.S_alloc | apply Kd.S_drewN | apply Kd.S_drew)); exact HO_109002.out) hb); have n1_ := Aside0.mk (blk_below (g := gb108) (o := .cells #[.int .i64 t102, .int .i64 t103, .slice (some ⟨go149, 0, none⟩) t104.length co11] 28 (0, 0)) (by (with_reducible repeat (first | refine blk_drewN ?_ _ | refine blk_drew ?_ | refine blk_alloc ?_ _)); exact BK108.out) hb); have n2_ := Aside0.mk (below_step (by repeat (first | (with_reducible first | exact HB.out | apply below_alloc | apply pw_below_drewN | apply below_drew1 | refine below_set ?_ GE108.out) | exact HB.out)) hb); clear HO_109002; clear BK108; clear HB; have HO_109002 := n0_; have BK108 := n1_; have HB := n2_; clear n0_ n1_ n2_; (try clear hb); (try clear hb2); (try clear hk); (try clear hi)))
                                           go_ret
                                           exact ⟨by first | rfl | (simp [errW_none, errW_some] <;> rfl) | (simp [*, errW_none, errW_some] <;> rfl), by repeat (first | (with_reducible first | exact HB.out | apply below_alloc | apply pw_below_drewN | apply below_drew1 | refine below_set ?_ GE108.out) | exact HB.out)⟩
                                         · rw [if_neg c148] at H
                                           exact absurd H (by simp)
                                       · rw [if_neg c147] at H
                                         have c147b0 : ((Int.tmod (IntKind.u64.wrap (a0)) 18) == 16) = false := beq_eq_false_iff_ne.mpr c147
                                         have c147b1 : ((Int.tmod (IntKind.u64.wrap (a0)) 18) != 16) = true := bne_iff_ne.mpr c147
                                         replace H := Option.bind_eq_some_iff.mp H
                                         obtain ⟨t155, A1580, H⟩ := H
                                         replace H : (some (!t155)) = some r := H
                                         have A158 := Aside0.mk A1580
                                         clear A1580
                                         obtain rfl := Option.some.inj H
                                         have hcz159_0 : wc.cell? ⟨gb108, 0, none⟩ = some (.int .i64 t102) := (blk_cell BK108.out 0).trans rfl
                                         have hcz159_1 : wc.cell? ⟨gb108, 1, none⟩ = some (.int .i64 t103) := (blk_cell BK108.out 1).trans rfl
                                         have hcz159_2 : wc.cell? ⟨gb108, 2, none⟩ = some (.slice Ao11 t104.length co11) := (blk_cell BK108.out 2).trans rfl
                                         have hfz159_0 := blk_frozen BK108.out 0
                                         have hfz159_1 := blk_frozen BK108.out 1
                                         have hfz159_2 := blk_frozen BK108.out 2
                                         go_wp2_with (first | ((with_reducible refine gate_callee (f := 21) rfl ?_); refine goesL_ (some 144) rfl rfl Try.func21 (by kernel_rfl) rfl #[.agg #[.int .i64 t102, .int .i64 t103, .slice none 0 0], .int .i64 13] rfl (by (try simp only [List.map_toArray, List.map_cons, List.map_nil]); first | done | rfl | (simp only [List.length_drop, List.length_take]; rfl)) ?_; (refine (parse_May.calls t102 t103 _ _ ([] : List (S34)) 13 t155 _ ?side1 ?side2 A158.out).mono ?_); (case side1 => exact Kd.C_nil _ _); (case side2 => exact Nat.le_refl _); rintro e w160 ⟨rfl, hb⟩; refine ⟨_, rfl, ?_⟩; have n0_ := Aside0.mk (Kd.S_below (by (with_reducible repeat (first | apply Kd.S_alloc | apply Kd.S_drewN | apply Kd.S_drew)); exact (Kd.S_mono (Kd.S_far (p := ⟨gb108, 2, none⟩) (Kd.S_types HO_109002.out BK108.out (by decide)) (fun _ hk => hk.2) (.slice none 0 0)) (fun _ h_ => h_.1))) hb); have n1_ := Aside0.mk (blk_below (g := gb108) (o := .cells #[.int .i64 t102, .int .i64 t103, .slice none 0 0] 28 (0, 0)) (by (with_reducible repeat (first | refine blk_drewN ?_ _ | refine blk_drew ?_ | refine blk_alloc ?_ _)); refine blk_put (cs := #[.int .i64 t102, .int .i64 t103, .slice Ao11 t104.length co11]) ?_ 2 _ rfl; (with_reducible repeat (first | refine blk_drewN ?_ _ | refine blk_drew ?_ | refine blk_alloc ?_ _)); exact BK108.out) hb); have n2_ := Aside0.mk (below_step (by repeat (first | (with_reducible first | exact HB.out | apply below_alloc | apply pw_below_drewN | apply below_drew1 | refine below_set ?_ GE108.out) | exact HB.out)) hb); clear HO_109002; clear BK108; clear HB; have HO_109002 := n0_; have BK108 := n1_; have HB := n2_; clear n0_ n1_ n2_; (try clear hb); (try clear hb2); (try clear hk); (try clear hi)))
                                         go_ret
                                         exact ⟨by first | rfl | (simp [errW_none, errW_some] <;> rfl) | (simp [*, errW_none, errW_some] <;> rfl), by repeat (first | (with_reducible first | exact HB.out | apply below_alloc | apply pw_below_drewN | apply below_drew1 | refine below_set ?_ GE108.out) | exact HB.out)⟩
 · replace c4 := Bool.eq_false_iff.mpr c4
   subst c4
   have H1 : (none) = some r := by rw [if_neg (show ¬ (false = true) by decide)] at H; exact H
   clear H
   have H := H1
   clear H1
   exact absurd H (by simp)

/-- THE ONE PURE STATEMENT of minuetlaw11_ParseForms: yours. -/
def minuetlaw11_ParseForms.Pure : Prop := ∀ (a0 : Int) (a1 : Int), (Lit.int .i64 a0).wf = true → (Lit.int .i64 a1).wf = true → ∃ k, minuetlaw11_ParseForms.f k a0 a1 = some true
theorem minuetlaw11_ParseForms.walk (P : minuetlaw11_ParseForms.Pure) (a0 : Int) (a1 : Int) (w : World) (hm_ : MaxOk w) (w0 : (Lit.int .i64 a0).wf = true) (w1 : (Lit.int .i64 a1).wf = true) :
 Calls Try.prog 9 #[.int .i64 a0, .int .i64 a1] w fun e w' => e = .returned (.bool true) ∧ Below w.heap.size w w' := by
 obtain ⟨k, h⟩ := P a0 a1 w0 w1
 refine (minuetlaw11_ParseForms.calls k a0 a1 true w hm_ h).mono ?_
 rintro e w' ⟨rfl, hd⟩
 exact ⟨rfl, hd⟩

end Go.Proofs.Ytehojohacombkaa.G
