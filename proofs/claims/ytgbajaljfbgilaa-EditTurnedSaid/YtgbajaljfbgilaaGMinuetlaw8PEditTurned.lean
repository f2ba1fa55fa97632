-- Laid by this session's own program gprint.py (wip/tools), out of the kit's print and of texts of this session. Lean checks it.
import Derived.Test.YtgbajaljfbgilaaGx0
import Derived.Test.YtgbajaljfbgilaaGEditPBetween
import Derived.Test.YtgbajaljfbgilaaGZ3
import Derived.Test.YtgbajaljfbgilaaGMinuetlaw8qawake
import Derived.Test.YtgbajaljfbgilaaGMinuetlaw0PSameInts
import Derived.Test.YtgbajaljfbgilaaGMinuetlaw8qsizes
namespace Go.Proofs.Ytgbajaljfbgilaa.G
open Go.RowKit Go.Proofs.YtgbajaljfbgilaaW.PrintWords Go.Proofs.YtgbajaljfbgilaaW.PrintLast Go.Proofs.YtgbajaljfbgilaaW.PrintMore
attribute [local go_sem] max2_int min2_int max_two min_two max_three min_three max_four min_four   -- for this text's walks alone
set_option linter.unusedVariables false
set_option linter.unusedSimpArgs false

/-! ### minuetlaw8_EditTurned: function 3 -/
def minuetlaw8_EditTurned.f (k : Nat) (a0 : ByteArray) (a1 : ByteArray) : Option (Bool) := (minuetlaw8_awake.f k).bind fun t101 => (if t101 = true then ((edit_Between.f k a0 a1).bind fun bt102 => ((edit_Between.f k a1 a0).bind fun bt106 => ((minuetlaw0_Num.f bt102.2).bind fun t110 => (if t110 = 0 then ((minuetlaw0_Num.f bt106.2).bind fun t112 => (if t112 = 0 then ((minuetlaw8_sizes.f k bt102.1).bind fun t113 => ((minuetlaw8_sizes.f k bt106.1).bind fun t116 => (if 0 < (t116.length : Int) then ((minuetlaw8_sizes.f k bt106.1).bind fun t120 => (if 2 < (t120.length : Int) then ((minuetlaw8_sizes.f k bt106.1).bind fun t124 => (if 1 < (t124.length : Int) then ((minuetlaw0_SameInts.f k t113 (([rd t116 0, rd t120 2, rd t124 1] : List Int))).bind fun t131 => (some t131)) else (none))) else (none))) else (none)))) else (none))) else ((minuetlaw0_Num.f bt106.2).bind fun t111 => (some (t111 == 800))))))) else (none))
theorem minuetlaw8_EditTurned.mono : ∀ a0 a1 k, LeO (minuetlaw8_EditTurned.f k a0 a1) (minuetlaw8_EditTurned.f (k + 1) a0 a1) := by
 intro a0 a1 k
 unfold minuetlaw8_EditTurned.f
 repeat' first
  | (with_reducible exact edit_Between.mono _ _ _)
  | (with_reducible exact minuetlaw0_SameInts.mono _ _ _)
  | (with_reducible exact minuetlaw8_awake.mono _)
  | (with_reducible exact minuetlaw8_sizes.mono _ _)
  | (with_reducible exact LeO.refl _)
  | (with_reducible exact LeO.none _)
  | (with_reducible refine LeO.ite ?_ ?_)
  | (with_reducible refine LeO.bind ?_ (fun _ => ?_))
  | exact edit_Between.mono _ _ _
  | exact minuetlaw0_SameInts.mono _ _ _
  | exact minuetlaw8_awake.mono _
  | exact minuetlaw8_sizes.mono _ _
  | exact LeO.none _
  | refine LeO.ite ?_ ?_
  | refine LeO.bind ?_ (fun _ => ?_)
def minuetlaw8_EditTurned.T7 : Bool × List (List Nat × List Nat) := (true, [([], []), ([0], [0]), ([1], [1]), ([2, 1], [2]), ([3], [3]), ([4, 3, 3], [3, 4]), ([3], [3]), ([6, 5, 3], [3, 6]), ([7, 3], [3, 7]), ([8, 3], [3, 8]), ([3], [3]), ([10, 7, 3], [3, 10]), ([11, 3], [3, 11]), ([12, 3], [3, 12]), ([3], [3]), ([14, 11, 3], [3, 14]), ([15, 3], [3, 15]), ([16, 3], [3, 16]), ([9, 13, 17, 3], [3, 9, 13, 17]), ([5, 18, 15, 3], [3, 5, 18]), ([3, 19], [3, 19]), ([20, 19, 0, 1, 2, 3, 4, 5, 6, 7, 8, 9, 10, 11, 12, 13, 14, 15, 16, 17, 18, 19, 20], [20])])
def minuetlaw8_EditTurned.B7 : List Nat := [0, 1, 3, 7, 15, 31, 15, 127, 255, 511, 15, 1279, 3327, 7423, 15, 19711, 52479, 118015, 262143, 524287, 1048575, 2097151]
theorem minuetlaw8_EditTurned.tab7 : rtab .any (opsOf Try.f3 7) = minuetlaw8_EditTurned.T7 := by kernel_rfl
theorem minuetlaw8_EditTurned.bits7 : waitsOk minuetlaw8_EditTurned.T7.2 minuetlaw8_EditTurned.B7 = true := by kernel_rfl
theorem ET.drawn {w w' : World} (h : Drawn0 w w') : Below w.heap.size w w' := by obtain ⟨n, rfl⟩ := h.out; exact pw_below_drewN (Below.refl _ _) n
theorem ET.blk3 {W : World} {g : Nat} {a b c : Int} (hb : W.heap[g]? = some (.cells #[.int .i64 a, .int .i64 b, .int .i64 c] 3 (0, 0))) : (Kd.int .i64).C W (some ⟨g, 0, none⟩) 3 [a, b, c] := by
 refine ⟨rfl, by decide, fun _ => ⟨⟨g, 0, none⟩, rfl, fun j p hj => ⟨[.int .i64 p], rfl, rfl, fun i u hu => ?_⟩⟩⟩
 have hi : i = 0 := by
  rcases Nat.eq_zero_or_pos i with h | h
  · exact h
  · rw [List.getElem?_eq_none (by simp; omega)] at hu; cases hu
 subst hi
 have hu' : u = .int .i64 p := by simpa using hu.symm
 subst hu'
 have e : (⟨g, 0, none⟩ : Addr).add (j * 1 + 0) = ⟨g, j, none⟩ := by simp [Addr.add]; omega
 show W.cell? ((⟨g, 0, none⟩ : Addr).add (j * 1 + 0)) = _
 rw [e, blk_cell hb j]
 match j, hj with
 | 0, hj => simp only [List.getElem?_cons_zero, Option.some.injEq] at hj; subst hj; rfl
 | 1, hj => simp only [List.getElem?_cons_succ, List.getElem?_cons_zero, Option.some.injEq] at hj; subst hj; rfl
 | 2, hj => simp only [List.getElem?_cons_succ, List.getElem?_cons_zero, Option.some.injEq] at hj; subst hj; rfl
 | j + 3, hj => simp at hj
theorem ET.same (k : Nat) (Aa : Option Addr) (ca : Nat) (l : List Int) (g : Nat) (a b c : Int) (r : Bool) (w : World) (hr0 : Kd.C (Kd.int .i64) w Aa l.length l) (hc0 : l.length ≤ ca) (hb : w.heap[g]? = some (.cells #[.int .i64 a, .int .i64 b, .int .i64 c] 3 (0, 0))) (h : minuetlaw0_SameInts.f k l [a, b, c] = some r) :
 Calls Try.prog 9 #[.slice Aa l.length ca, .slice (some ⟨g, 0, none⟩) 3 3] w fun e w' => e = .returned (.bool r) ∧ Drawn0 w w' :=
 minuetlaw0_SameInts.calls k Aa ca l (some ⟨g, 0, none⟩) 3 [a, b, c] r w hr0 hc0 (ET.blk3 hb) (Nat.le_refl 3) h
set_option maxHeartbeats 8000000 in
set_option maxRecDepth 100000 in
theorem minuetlaw8_EditTurned.calls (k : Nat) (a0 : ByteArray) (a1 : ByteArray) (r : Bool) (w : World) (h : minuetlaw8_EditTurned.f k a0 a1 = some r) :
 Calls Try.prog 3 #[.string a0, .string a1] w fun e w' => e = .returned (.bool r) ∧ Below w.heap.size w w' := by
 have HB := Aside0.mk (Below.refl w.heap.size w)
 have H : ((minuetlaw8_awake.f k).bind fun t101 => (if t101 = true then ((edit_Between.f k a0 a1).bind fun bt102 => ((edit_Between.f k a1 a0).bind fun bt106 => ((minuetlaw0_Num.f bt102.2).bind fun t110 => (if t110 = 0 then ((minuetlaw0_Num.f bt106.2).bind fun t112 => (if t112 = 0 then ((minuetlaw8_sizes.f k bt102.1).bind fun t113 => ((minuetlaw8_sizes.f k bt106.1).bind fun t116 => (if 0 < (t116.length : Int) then ((minuetlaw8_sizes.f k bt106.1).bind fun t120 => (if 2 < (t120.length : Int) then ((minuetlaw8_sizes.f k bt106.1).bind fun t124 => (if 1 < (t124.length : Int) then ((minuetlaw0_SameInts.f k t113 (([rd t116 0, rd t120 2, rd t124 1] : List Int))).bind fun t131 => (some t131)) else (none))) else (none))) else (none)))) else (none))) else ((minuetlaw0_Num.f bt106.2).bind fun t111 => (some (t111 == 800))))))) else (none))) = some r := h
 clear h
 replace H := Option.bind_eq_some_iff.mp H
 obtain ⟨t101, A30, H⟩ := H
 replace H : (if t101 = true then ((edit_Between.f k a0 a1).bind fun bt102 => ((edit_Between.f k a1 a0).bind fun bt106 => ((minuetlaw0_Num.f bt102.2).bind fun t110 => (if t110 = 0 then ((minuetlaw0_Num.f bt106.2).bind fun t112 => (if t112 = 0 then ((minuetlaw8_sizes.f k bt102.1).bind fun t113 => ((minuetlaw8_sizes.f k bt106.1).bind fun t116 => (if 0 < (t116.length : Int) then ((minuetlaw8_sizes.f k bt106.1).bind fun t120 => (if 2 < (t120.length : Int) then ((minuetlaw8_sizes.f k bt106.1).bind fun t124 => (if 1 < (t124.length : Int) then ((minuetlaw0_SameInts.f k t113 (([rd t116 0, rd t120 2, rd t124 1] : List Int))).bind fun t131 => (some t131)) else (none))) else (none))) else (none)))) else (none))) else ((minuetlaw0_Num.f bt106.2).bind fun t111 => (some (t111 == 800))))))) else (none)) = some r := H
 have A3 := Aside0.mk A30
 clear A30
 by_cases c4 : t101 = true
 · subst c4
   have H1 : ((edit_Between.f k a0 a1).bind fun bt102 => ((edit_Between.f k a1 a0).bind fun bt106 => ((minuetlaw0_Num.f bt102.2).bind fun t110 => (if t110 = 0 then ((minuetlaw0_Num.f bt106.2).bind fun t112 => (if t112 = 0 then ((minuetlaw8_sizes.f k bt102.1).bind fun t113 => ((minuetlaw8_sizes.f k bt106.1).bind fun t116 => (if 0 < (t116.length : Int) then ((minuetlaw8_sizes.f k bt106.1).bind fun t120 => (if 2 < (t120.length : Int) then ((minuetlaw8_sizes.f k bt106.1).bind fun t124 => (if 1 < (t124.length : Int) then ((minuetlaw0_SameInts.f k t113 (([rd t116 0, rd t120 2, rd t124 1] : List Int))).bind fun t131 => (some t131)) else (none))) else (none))) else (none)))) else (none))) else ((minuetlaw0_Num.f bt106.2).bind fun t111 => (some (t111 == 800))))))) = some r := by rw [if_pos rfl] at H; exact H
   clear H
   have H := H1
   clear H1
   replace H := Option.bind_eq_some_iff.mp H
   obtain ⟨⟨t102, t103⟩, A50, H⟩ := H
   replace H : ((edit_Between.f k a1 a0).bind fun bt106 => ((minuetlaw0_Num.f t103).bind fun t110 => (if t110 = 0 then ((minuetlaw0_Num.f bt106.2).bind fun t112 => (if t112 = 0 then ((minuetlaw8_sizes.f k t102).bind fun t113 => ((minuetlaw8_sizes.f k bt106.1).bind fun t116 => (if 0 < (t116.length : Int) then ((minuetlaw8_sizes.f k bt106.1).bind fun t120 => (if 2 < (t120.length : Int) then ((minuetlaw8_sizes.f k bt106.1).bind fun t124 => (if 1 < (t124.length : Int) then ((minuetlaw0_SameInts.f k t113 (([rd t116 0, rd t120 2, rd t124 1] : List Int))).bind fun t131 => (some t131)) else (none))) else (none))) else (none)))) else (none))) else ((minuetlaw0_Num.f bt106.2).bind fun t111 => (some (t111 == 800)))))) = some r := H
   have A5 := Aside0.mk A50
   clear A50
   replace H := Option.bind_eq_some_iff.mp H
   obtain ⟨⟨t106, t107⟩, A60, H⟩ := H
   replace H : ((minuetlaw0_Num.f t103).bind fun t110 => (if t110 = 0 then ((minuetlaw0_Num.f t107).bind fun t112 => (if t112 = 0 then ((minuetlaw8_sizes.f k t102).bind fun t113 => ((minuetlaw8_sizes.f k t106).bind fun t116 => (if 0 < (t116.length : Int) then ((minuetlaw8_sizes.f k t106).bind fun t120 => (if 2 < (t120.length : Int) then ((minuetlaw8_sizes.f k t106).bind fun t124 => (if 1 < (t124.length : Int) then ((minuetlaw0_SameInts.f k t113 (([rd t116 0, rd t120 2, rd t124 1] : List Int))).bind fun t131 => (some t131)) else (none))) else (none))) else (none)))) else (none))) else ((minuetlaw0_Num.f t107).bind fun t111 => (some (t111 == 800))))) = some r := H
   have A6 := Aside0.mk A60
   clear A60
   replace H := Option.bind_eq_some_iff.mp H
   obtain ⟨t110, A70, H⟩ := H
   replace H : (if t110 = 0 then ((minuetlaw0_Num.f t107).bind fun t112 => (if t112 = 0 then ((minuetlaw8_sizes.f k t102).bind fun t113 => ((minuetlaw8_sizes.f k t106).bind fun t116 => (if 0 < (t116.length : Int) then ((minuetlaw8_sizes.f k t106).bind fun t120 => (if 2 < (t120.length : Int) then ((minuetlaw8_sizes.f k t106).bind fun t124 => (if 1 < (t124.length : Int) then ((minuetlaw0_SameInts.f k t113 (([rd t116 0, rd t120 2, rd t124 1] : List Int))).bind fun t131 => (some t131)) else (none))) else (none))) else (none)))) else (none))) else ((minuetlaw0_Num.f t107).bind fun t111 => (some (t111 == 800)))) = some r := H
   have A7 := Aside0.mk A70
   clear A70
   by_cases c8 : t110 = 0
   · rw [if_pos c8] at H
     have c8b0 : (t110 == 0) = true := beq_iff_eq.mpr c8
     have c8b1 : (t110 != 0) = false := bne_eq_false_iff_eq.mpr c8
     clear c8
     replace H := Option.bind_eq_some_iff.mp H
     obtain ⟨t112, A90, H⟩ := H
     replace H : (if t112 = 0 then ((minuetlaw8_sizes.f k t102).bind fun t113 => ((minuetlaw8_sizes.f k t106).bind fun t116 => (if 0 < (t116.length : Int) then ((minuetlaw8_sizes.f k t106).bind fun t120 => (if 2 < (t120.length : Int) then ((minuetlaw8_sizes.f k t106).bind fun t124 => (if 1 < (t124.length : Int) then ((minuetlaw0_SameInts.f k t113 (([rd t116 0, rd t120 2, rd t124 1] : List Int))).bind fun t131 => (some t131)) else (none))) else (none))) else (none)))) else (none)) = some r := H
     have A9 := Aside0.mk A90
     clear A90
     by_cases c10 : t112 = 0
     · rw [if_pos c10] at H
       have c10b0 : (t112 == 0) = true := beq_iff_eq.mpr c10
       have c10b1 : (t112 != 0) = false := bne_eq_false_iff_eq.mpr c10
       clear c10
       replace H := Option.bind_eq_some_iff.mp H
       obtain ⟨t113, A110, H⟩ := H
       replace H : ((minuetlaw8_sizes.f k t106).bind fun t116 => (if 0 < (t116.length : Int) then ((minuetlaw8_sizes.f k t106).bind fun t120 => (if 2 < (t120.length : Int) then ((minuetlaw8_sizes.f k t106).bind fun t124 => (if 1 < (t124.length : Int) then ((minuetlaw0_SameInts.f k t113 (([rd t116 0, rd t120 2, rd t124 1] : List Int))).bind fun t131 => (some t131)) else (none))) else (none))) else (none))) = some r := H
       have A11 := Aside0.mk A110
       clear A110
       replace H := Option.bind_eq_some_iff.mp H
       obtain ⟨t116, A120, H⟩ := H
       replace H : (if 0 < (t116.length : Int) then ((minuetlaw8_sizes.f k t106).bind fun t120 => (if 2 < (t120.length : Int) then ((minuetlaw8_sizes.f k t106).bind fun t124 => (if 1 < (t124.length : Int) then ((minuetlaw0_SameInts.f k t113 (([rd t116 0, rd t120 2, rd t124 1] : List Int))).bind fun t131 => (some t131)) else (none))) else (none))) else (none)) = some r := H
       have A12 := Aside0.mk A120
       clear A120
       by_cases c13 : 0 < (t116.length : Int)
       · rw [if_pos c13] at H
         have c13b0 : decide (0 < (t116.length : Int)) = true := decide_eq_true c13
         have c13b1 : decide (0 < t116.length) = true := decide_eq_true (by omega)
         clear c13
         replace H := Option.bind_eq_some_iff.mp H
         obtain ⟨t120, A140, H⟩ := H
         replace H : (if 2 < (t120.length : Int) then ((minuetlaw8_sizes.f k t106).bind fun t124 => (if 1 < (t124.length : Int) then ((minuetlaw0_SameInts.f k t113 (([rd t116 0, rd t120 2, rd t124 1] : List Int))).bind fun t131 => (some t131)) else (none))) else (none)) = some r := H
         have A14 := Aside0.mk A140
         clear A140
         by_cases c15 : 2 < (t120.length : Int)
         · rw [if_pos c15] at H
           have c15b0 : decide (2 < (t120.length : Int)) = true := decide_eq_true c15
           have c15b1 : decide (2 < t120.length) = true := decide_eq_true (by omega)
           clear c15
           replace H := Option.bind_eq_some_iff.mp H
           obtain ⟨t124, A160, H⟩ := H
           replace H : (if 1 < (t124.length : Int) then ((minuetlaw0_SameInts.f k t113 (([rd t116 0, rd t120 2, rd t124 1] : List Int))).bind fun t131 => (some t131)) else (none)) = some r := H
           have A16 := Aside0.mk A160
           clear A160
           by_cases c17 : 1 < (t124.length : Int)
           · rw [if_pos c17] at H
             have c17b0 : decide (1 < (t124.length : Int)) = true := decide_eq_true c17
             have c17b1 : decide (1 < t124.length) = true := decide_eq_true (by omega)
             clear c17
             obtain ⟨y128, hy128⟩ : ∃ y_ : List Int, y_ = (([rd t116 0, rd t120 2, rd t124 1] : List Int)) := ⟨_, rfl⟩
             replace H : ((minuetlaw0_SameInts.f k t113 y128).bind fun t131 => (some t131)) = some r := by first | (rw [hy128]; with_reducible exact H) | (have H2_ := (Option.bind_some _ _).symm.trans H; rw [hy128]; with_reducible exact H2_) | (have H2_ := (Option.bind_some _ _).symm.trans H; with_reducible exact H2_) | with_reducible exact H | (rw [hy128]; exact H) | exact H
             have Ny128 := Aside0.mk hy128
             clear hy128
             replace H := Option.bind_eq_some_iff.mp H
             obtain ⟨t131, A180, H⟩ := H
             replace H : (some t131) = some r := H
             have A18 := Aside0.mk A180
             clear A180
             obtain rfl := Option.some.inj H
             go_enter Try.func3, Try.ntmps3
             try go_wp2_with (first | ((with_reducible refine gate_callee (f := 6) rfl ?_); refine goesL_ (some 9) rfl rfl Try.func6 (by kernel_rfl) rfl #[] rfl (by (try simp only [List.map_toArray, List.map_cons, List.map_nil]); first | done | rfl | (simp only [List.length_drop, List.length_take]; rfl)) ?_; (with_reducible refine (minuetlaw8_awake.calls k  true _ A3.out).mono ?_); rintro e w19 ⟨rfl, hb⟩; refine ⟨_, rfl, ?_⟩; have n0_ := Aside0.mk (below_step (by repeat (first | (with_reducible first | exact HB.out | apply below_alloc | apply pw_below_drewN | apply below_drew1) | exact HB.out)) hb); clear HB; have HB := n0_; clear n0_; (try clear hb); (try clear hb2); (try clear hk); (try clear hi)) | ((with_reducible refine gate_callee (f := 7) rfl ?_); refine goesL_ (some 14) rfl rfl Try.func7 (by kernel_rfl) rfl #[.string a0, .string a1] rfl (by (try simp only [List.map_toArray, List.map_cons, List.map_nil]); first | done | rfl | (simp only [List.length_drop, List.length_take]; rfl)) ?_; (with_reducible refine (edit_Between.calls k a0 a1 t102 t103 _ A5.out).mono ?_); rintro e w20 ⟨v104, rfl, ho0, hb⟩; refine ⟨_, rfl, ?_⟩; have n0_ := Aside0.mk (Kd.R_lower ho0 (below_size (by repeat (first | (with_reducible first | exact HB.out | apply below_alloc | apply pw_below_drewN | apply below_drew1) | exact HB.out)))); have n1_ := Aside0.mk (below_step (by repeat (first | (with_reducible first | exact HB.out | apply below_alloc | apply pw_below_drewN | apply below_drew1) | exact HB.out)) hb); clear HB; have HO105 := n0_; have HB := n1_; clear n0_ n1_; (try clear hb); (try clear hb2); (try clear hk); (try clear hi); (try clear ho0)) | ((with_reducible refine gate_callee (f := 7) rfl ?_); refine goesL_ (some 20) rfl rfl Try.func7 (by kernel_rfl) rfl #[.string a1, .string a0] rfl (by (try simp only [List.map_toArray, List.map_cons, List.map_nil]); first | done | rfl | (simp only [List.length_drop, List.length_take]; rfl)) ?_; (with_reducible refine (edit_Between.calls k a1 a0 t106 t107 _ A6.out).mono ?_); rintro e w21 ⟨v108, rfl, ho0, hb⟩; refine ⟨_, rfl, ?_⟩; have n0_ := Aside0.mk (Kd.R_elder' (by (with_reducible repeat (first | apply Kd.R_alloc | apply Kd.R_drewN | apply Kd.R_drew)); exact HO105.out) (Kd.R_base ho0) hb); have n1_ := Aside0.mk (Kd.R_lower (Kd.R_new' ho0 (Kd.R_lt (by (with_reducible repeat (first | apply Kd.R_alloc | apply Kd.R_drewN | apply Kd.R_drew)); exact HO105.out))) (below_size (by repeat (first | (with_reducible first | exact HB.out | apply below_alloc | apply pw_below_drewN | apply below_drew1) | exact HB.out)))); have n2_ := Aside0.mk (below_step (by repeat (first | (with_reducible first | exact HB.out | apply below_alloc | apply pw_below_drewN | apply below_drew1) | exact HB.out)) hb); clear HO105; clear HB; have HO105 := n0_; have HO109 := n1_; have HB := n2_; clear n0_ n1_ n2_; (try clear hb); (try clear hb2); (try clear hk); (try clear hi); (try clear ho0)) | ((with_reducible refine gate_callee (f := 8) rfl ?_); refine goesL_ (some 24) rfl rfl Try.func8 (by kernel_rfl) rfl #[.int .i64 t103] rfl (by (try simp only [List.map_toArray, List.map_cons, List.map_nil]); first | done | rfl | (simp only [List.length_drop, List.length_take]; rfl)) ?_; (with_reducible refine (minuetlaw0_Num.calls t103 t110 _ A7.out).mono ?_); rintro e w' ⟨rfl, ⟨nd, rfl⟩⟩; refine ⟨_, rfl, ?_⟩))
             (try (rw [drewN_self w21]; generalize hq_ : World.drewN w21 _ = w21; have n0_ : Aside0 (Kd.R k36 36 w21 w.heap.size (fun k_ => some k_ ≠ (v108 : Value).ownBlock) v104 t102) := ⟨by rw [← hq_]; exact (by (with_reducible repeat (first | apply Kd.R_alloc | apply Kd.R_drewN | apply Kd.R_drew)); exact Kd.R_mono HO105.out (fun _ hk => hk.2))⟩; have n1_ : Aside0 (Kd.R k36 36 w21 w.heap.size (fun k_ => some k_ ≠ (v104 : Value).ownBlock) v108 t106) := ⟨by rw [← hq_]; exact (by (with_reducible repeat (first | apply Kd.R_alloc | apply Kd.R_drewN | apply Kd.R_drew)); exact Kd.R_mono HO109.out (fun _ hk => hk.2))⟩; have n2_ : Aside0 (Below w.heap.size w w21) := ⟨by rw [← hq_]; exact (by repeat (first | (with_reducible first | exact HB.out | apply below_alloc | apply pw_below_drewN | apply below_drew1) | exact HB.out))⟩; clear HO105 HO109 HB hq_; have HO105 := n0_; have HO109 := n1_; have HB := n2_; clear n0_ n1_ n2_))
             have n0_ := Aside0.mk (Kd.R_drew HO105.out)
             have n1_ := Aside0.mk (Kd.R_drew HO109.out)
             have n2_ := Aside0.mk (below_drew1 HB.out)
             clear HO105
             clear HO109
             clear HB
             have HO105 := n0_
             have HO109 := n1_
             have HB := n2_
             clear n0_ n1_ n2_
             obtain ⟨Ao, co, eo⟩ := Kd.R_slice HO105.out
             subst eo
             obtain ⟨Ap, cp, ep⟩ := Kd.R_slice HO109.out
             subst ep
             have e120 : t116 = t120 := Option.some.inj (A12.out.symm.trans A14.out)
             have e124 : t116 = t124 := Option.some.inj (A12.out.symm.trans A16.out)
             subst e120 e124
             have A19 : Aside0 (minuetlaw0_SameInts.f k t113 [rd t116 0, rd t116 2, rd t116 1] = some t131) := ⟨by have h_ := A18.out; rw [Ny128.out] at h_; exact h_⟩
             have HC1 := Aside0.mk (And.intro (Kd.R_reads' HO105.out).2.2 (Kd.R_reads' HO105.out).2.1)
             have HC2 := Aside0.mk (And.intro (Kd.R_reads' HO109.out).2.2 (Kd.R_reads' HO109.out).2.1)
             have q2 : Aside0 ((2 : Int) < (t116.length : Int)) := ⟨of_decide_eq_true c15b0⟩
             have q1 : Aside0 ((1 : Int) < (t116.length : Int)) := ⟨by have := q2.out; omega⟩
             have q0 : Aside0 ((0 : Int) < (t116.length : Int)) := ⟨by have := q2.out; omega⟩
             have r2 := eq_true q2.out
             have r1 := eq_true q1.out
             have r0 := eq_true q0.out
             have s2 := eq_true (show 2 < t116.length by have := q2.out; omega)
             have s1 := eq_true (show 1 < t116.length by have := q2.out; omega)
             have s0 := eq_true (show 0 < t116.length by have := q2.out; omega)
             clear HO105 HO109 A14 A16 A18 Ny128 c13b0 c13b1 c15b0 c15b1 c17b0 c17b1
             go_region_with (first | (have _ := x3_; go_at_call 9; (with_reducible refine (ET.same k Aa ca t113 _ (rd t116 0) (rd t116 2) (rd t116 1) t131 _ (Kd.C_below HRa.out.1 (below_alloc (Below.refl _ _) _)) HRa.out.2 (blk_new _ _) A19.out).mono ?_); rintro e w' ⟨rfl, hd_⟩; have hb_ := ET.drawn hd_; have n3_ := Aside0.mk (below_step HB.out (below_step (below_alloc (Below.refl _ _) _) hb_)); clear HB; have HB := n3_; clear n3_ hd_ hb_) | (have _ := x2_; go_at_call 10; (with_reducible refine (minuetlaw8_sizes.calls k Ap cp t106 t116 _ HC2.out.1 HC2.out.2 A12.out).mono ?_); rintro e w' ⟨v_, rfl, hr_, hb_⟩; obtain ⟨Ai_, ci3, ei_⟩ := Kd.R_slice hr_; subst ei_; obtain ⟨ad3, rfl, y_⟩ := Kd.at_int (Kd.R_reads' hr_).2.2 1 (by decide) q1.out; have x3_n : w'.cell? ⟨ad3.block, ad3.off + 1, none⟩ = some (.int .i64 (rd t116 1)) := (by have h_ := y_; simp only [Addr.add] at h_; exact h_); have n1_ := Aside0.mk (And.intro (Kd.C_below HC1.out.1 hb_) HC1.out.2); have n2_ := Aside0.mk (And.intro (Kd.C_below HC2.out.1 hb_) HC2.out.2); have n3_ := Aside0.mk (below_step HB.out hb_); clear HC1 HC2 HB; have HC1 := n1_; have HC2 := n2_; have HB := n3_; clear n1_ n2_ n3_; have a_ := Aside0.mk (And.intro (Kd.C_below HRa.out.1 hb_) HRa.out.2); clear HRa; have HRa := a_; clear a_; have xx1 := pw_cell_below hb_ x1_; clear x1_; have x1_ := xx1; clear xx1; have xx2 := pw_cell_below hb_ x2_; clear x2_; have x2_ := xx2; clear xx2; have x3_ := x3_n; clear x3_n y_ hr_ hb_) | (have _ := x1_; go_at_call 10; (with_reducible refine (minuetlaw8_sizes.calls k Ap cp t106 t116 _ HC2.out.1 HC2.out.2 A12.out).mono ?_); rintro e w' ⟨v_, rfl, hr_, hb_⟩; obtain ⟨Ai_, ci2, ei_⟩ := Kd.R_slice hr_; subst ei_; obtain ⟨ad2, rfl, y_⟩ := Kd.at_int (Kd.R_reads' hr_).2.2 2 (by decide) q2.out; have x2_n : w'.cell? ⟨ad2.block, ad2.off + 2, none⟩ = some (.int .i64 (rd t116 2)) := (by have h_ := y_; simp only [Addr.add] at h_; exact h_); have n1_ := Aside0.mk (And.intro (Kd.C_below HC1.out.1 hb_) HC1.out.2); have n2_ := Aside0.mk (And.intro (Kd.C_below HC2.out.1 hb_) HC2.out.2); have n3_ := Aside0.mk (below_step HB.out hb_); clear HC1 HC2 HB; have HC1 := n1_; have HC2 := n2_; have HB := n3_; clear n1_ n2_ n3_; have a_ := Aside0.mk (And.intro (Kd.C_below HRa.out.1 hb_) HRa.out.2); clear HRa; have HRa := a_; clear a_; have xx1 := pw_cell_below hb_ x1_; clear x1_; have x1_ := xx1; clear xx1; have x2_ := x2_n; clear x2_n y_ hr_ hb_) | (have _ := HRa; go_at_call 10; (with_reducible refine (minuetlaw8_sizes.calls k Ap cp t106 t116 _ HC2.out.1 HC2.out.2 A12.out).mono ?_); rintro e w' ⟨v_, rfl, hr_, hb_⟩; obtain ⟨Ai_, ci1, ei_⟩ := Kd.R_slice hr_; subst ei_; obtain ⟨ad1, rfl, y_⟩ := Kd.at_int (Kd.R_reads' hr_).2.2 0 (by decide) q0.out; have x1_n : w'.cell? ad1 = some (.int .i64 (rd t116 0)) := (by have h_ := y_; simp only [Addr.add] at h_; exact h_); have n1_ := Aside0.mk (And.intro (Kd.C_below HC1.out.1 hb_) HC1.out.2); have n2_ := Aside0.mk (And.intro (Kd.C_below HC2.out.1 hb_) HC2.out.2); have n3_ := Aside0.mk (below_step HB.out hb_); clear HC1 HC2 HB; have HC1 := n1_; have HC2 := n2_; have HB := n3_; clear n1_ n2_ n3_; have a_ := Aside0.mk (And.intro (Kd.C_below HRa.out.1 hb_) HRa.out.2); clear HRa; have HRa := a_; clear a_; have x1_ := x1_n; clear x1_n y_ hr_ hb_) | (go_at_call 10; (with_reducible refine (minuetlaw8_sizes.calls k Ao co t102 t113 _ HC1.out.1 HC1.out.2 A11.out).mono ?_); rintro e w' ⟨v_, rfl, hr_, hb_⟩; obtain ⟨Aa, ca, ei_⟩ := Kd.R_slice hr_; subst ei_; have HRa := Aside0.mk (And.intro (Kd.R_reads' hr_).2.2 (Kd.R_reads' hr_).2.1); have n1_ := Aside0.mk (And.intro (Kd.C_below HC1.out.1 hb_) HC1.out.2); have n2_ := Aside0.mk (And.intro (Kd.C_below HC2.out.1 hb_) HC2.out.2); have n3_ := Aside0.mk (below_step HB.out hb_); clear HC1 HC2 HB; have HC1 := n1_; have HC2 := n2_; have HB := n3_; clear n1_ n2_ n3_; clear hr_ hb_) | (go_at_call 8; (with_reducible refine (minuetlaw0_Num.calls t107 t112 _ A9.out).mono ?_); rintro e w' ⟨rfl, hd_⟩; have hb_ := ET.drawn hd_; have n1_ := Aside0.mk (And.intro (Kd.C_below HC1.out.1 hb_) HC1.out.2); have n2_ := Aside0.mk (And.intro (Kd.C_below HC2.out.1 hb_) HC2.out.2); have n3_ := Aside0.mk (below_step HB.out hb_); clear HC1 HC2 HB; have HC1 := n1_; have HC2 := n2_; have HB := n3_; clear n1_ n2_ n3_; clear hd_ hb_))
             all_goals
               go_wp2
               go_ret
               exact ⟨rfl, HB.out⟩
           · rw [if_neg c17] at H
             exact absurd H (by simp)
         · rw [if_neg c15] at H
           exact absurd H (by simp)
       · rw [if_neg c13] at H
         exact absurd H (by simp)
     · rw [if_neg c10] at H
       have c10b0 : (t112 == 0) = false := beq_eq_false_iff_ne.mpr c10
       have c10b1 : (t112 != 0) = true := bne_iff_ne.mpr c10
       exact absurd H (by simp)
   · rw [if_neg c8] at H
     have c8b0 : (t110 == 0) = false := beq_eq_false_iff_ne.mpr c8
     have c8b1 : (t110 != 0) = true := bne_iff_ne.mpr c8
     replace H := Option.bind_eq_some_iff.mp H
     obtain ⟨t111, A360, H⟩ := H
     replace H : (some (t111 == 800)) = some r := H
     have A36 := Aside0.mk A360
     clear A360
     obtain rfl := Option.some.inj H
     go_enter Try.func3, Try.ntmps3
     go_wp2_with (first | ((with_reducible refine gate_callee (f := 6) rfl ?_); refine goesL_ (some 9) rfl rfl Try.func6 (by kernel_rfl) rfl #[] rfl (by (try simp only [List.map_toArray, List.map_cons, List.map_nil]); first | done | rfl | (simp only [List.length_drop, List.length_take]; rfl)) ?_; (with_reducible refine (minuetlaw8_awake.calls k  true _ A3.out).mono ?_); rintro e w37 ⟨rfl, hb⟩; refine ⟨_, rfl, ?_⟩; have n0_ := Aside0.mk (below_step (by repeat (first | (with_reducible first | exact HB.out | apply below_alloc | apply pw_below_drewN | apply below_drew1) | exact HB.out)) hb); clear HB; have HB := n0_; clear n0_; (try clear hb); (try clear hb2); (try clear hk); (try clear hi)) | ((with_reducible refine gate_callee (f := 7) rfl ?_); refine goesL_ (some 14) rfl rfl Try.func7 (by kernel_rfl) rfl #[.string a0, .string a1] rfl (by (try simp only [List.map_toArray, List.map_cons, List.map_nil]); first | done | rfl | (simp only [List.length_drop, List.length_take]; rfl)) ?_; (with_reducible refine (edit_Between.calls k a0 a1 t102 t103 _ A5.out).mono ?_); rintro e w38 ⟨v104, rfl, ho0, hb⟩; refine ⟨_, rfl, ?_⟩; have n0_ := Aside0.mk (Kd.R_lower ho0 (below_size (by repeat (first | (with_reducible first | exact HB.out | apply below_alloc | apply pw_below_drewN | apply below_drew1) | exact HB.out)))); have n1_ := Aside0.mk (below_step (by repeat (first | (with_reducible first | exact HB.out | apply below_alloc | apply pw_below_drewN | apply below_drew1) | exact HB.out)) hb); clear HB; have HO105 := n0_; have HB := n1_; clear n0_ n1_; (try clear hb); (try clear hb2); (try clear hk); (try clear hi); (try clear ho0)) | ((with_reducible refine gate_callee (f := 7) rfl ?_); refine goesL_ (some 20) rfl rfl Try.func7 (by kernel_rfl) rfl #[.string a1, .string a0] rfl (by (try simp only [List.map_toArray, List.map_cons, List.map_nil]); first | done | rfl | (simp only [List.length_drop, List.length_take]; rfl)) ?_; (with_reducible refine (edit_Between.calls k a1 a0 t106 t107 _ A6.out).mono ?_); rintro e w39 ⟨v108, rfl, ho0, hb⟩; refine ⟨_, rfl, ?_⟩; have n0_ := Aside0.mk (Kd.R_elder' (by (with_reducible repeat (first | apply Kd.R_alloc | apply Kd.R_drewN | apply Kd.R_drew)); exact HO105.out) (Kd.R_base ho0) hb); have n1_ := Aside0.mk (Kd.R_lower (Kd.R_new' ho0 (Kd.R_lt (by (with_reducible repeat (first | apply Kd.R_alloc | apply Kd.R_drewN | apply Kd.R_drew)); exact HO105.out))) (below_size (by repeat (first | (with_reducible first | exact HB.out | apply below_alloc | apply pw_below_drewN | apply below_drew1) | exact HB.out)))); have n2_ := Aside0.mk (below_step (by repeat (first | (with_reducible first | exact HB.out | apply below_alloc | apply pw_below_drewN | apply below_drew1) | exact HB.out)) hb); clear HO105; clear HB; have HO105 := n0_; have HO109 := n1_; have HB := n2_; clear n0_ n1_ n2_; (try clear hb); (try clear hb2); (try clear hk); (try clear hi); (try clear ho0)) | ((with_reducible refine gate_callee (f := 8) rfl ?_); refine goesL_ (some 24) rfl rfl Try.func8 (by kernel_rfl) rfl #[.int .i64 t103] rfl (by (try simp only [List.map_toArray, List.map_cons, List.map_nil]); first | done | rfl | (simp only [List.length_drop, List.length_take]; rfl)) ?_; (with_reducible refine (minuetlaw0_Num.calls t103 t110 _ A7.out).mono ?_); rintro e w' ⟨rfl, ⟨nd, rfl⟩⟩; refine ⟨_, rfl, ?_⟩) | ((with_reducible refine gate_callee (f := 8) rfl ?_); refine goesL_ (some 27) rfl rfl Try.func8 (by kernel_rfl) rfl #[.int .i64 t107] rfl (by (try simp only [List.map_toArray, List.map_cons, List.map_nil]); first | done | rfl | (simp only [List.length_drop, List.length_take]; rfl)) ?_; (with_reducible refine (minuetlaw0_Num.calls t107 t111 _ A36.out).mono ?_); rintro e w' ⟨rfl, ⟨nd, rfl⟩⟩; refine ⟨_, rfl, ?_⟩))
     go_ret
     exact ⟨by first | rfl | (simp [errW_none, errW_some] <;> rfl) | (simp [*, errW_none, errW_some] <;> rfl), by repeat (first | (with_reducible first | exact HB.out | apply below_alloc | apply pw_below_drewN | apply below_drew1) | exact HB.out)⟩
 · replace c4 := Bool.eq_false_iff.mpr c4
   subst c4
   have H1 : (none) = some r := by rw [if_neg (show ¬ (false = true) by decide)] at H; exact H
   clear H
   have H := H1
   clear H1
   exact absurd H (by simp)

/-- THE ONE PURE STATEMENT of minuetlaw8_EditTurned: yours. -/
def minuetlaw8_EditTurned.Pure : Prop := ∀ (a0 : ByteArray) (a1 : ByteArray), a0.size ≤ 140737488351232 → a1.size ≤ 140737488351232 → ∃ k, minuetlaw8_EditTurned.f k a0 a1 = some true
theorem minuetlaw8_EditTurned.walk (P : minuetlaw8_EditTurned.Pure) (a0 : ByteArray) (a1 : ByteArray) (w : World) (w0 : a0.size ≤ 140737488351232) (w1 : a1.size ≤ 140737488351232) :
 Calls Try.prog 3 #[.string a0, .string a1] w fun e w' => e = .returned (.bool true) ∧ Below w.heap.size w w' := by
 obtain ⟨k, h⟩ := P a0 a1 w0 w1
 refine (minuetlaw8_EditTurned.calls k a0 a1 true w h).mono ?_
 rintro e w' ⟨rfl, hd⟩
 exact ⟨rfl, hd⟩

end Go.Proofs.Ytgbajaljfbgilaa.G
