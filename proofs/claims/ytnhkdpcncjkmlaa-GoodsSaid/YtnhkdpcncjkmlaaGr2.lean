/- The reference's Good by its contract. -/
import Derived.Test.YtnhkdpcncjkmlaaGr1
import Derived.Test.YtnhkdpcncjkmlaaLr
import Derived.Deep.RegionHeld3
import Derived.Deep.AppendLies
namespace Go.Proofs.Ytnhkdpcncjkmlaa.G
open Go.RowKit Go.Proofs.YtnhkdpcncjkmlaaW.PrintWords Go.Proofs.YtnhkdpcncjkmlaaW.PrintLast Go.Proofs.YtnhkdpcncjkmlaaW.PrintMore
open Go.Proofs.Ytnhkdpcncjkmlaa.Lx (Tk toks)
open Go.Proofs.Ytnhkdpcncjkmlaa.Gd (val solid good)
set_option linter.unusedVariables false
set_option linter.unusedSimpArgs false
theorem Gr.tokens_any (s : ByteArray) (T : List Tk) (E : Int) (h : Ev (fun k => minuetref9_Tokens.f k s) (T, E)) (w : World) :
    Calls Try.prog 13 #[.string s] w fun e w' => ∃ v0_ : Value, e = .returned (.tuple #[v0_, .int .i64 E]) ∧ Kd.R k34 34 w' w.heap.size (fun _ => True) v0_ T ∧ Below w.heap.size w w' := by
  obtain ⟨k, hk⟩ := Ev.rounds h
  exact minuetref9_Tokens.calls k s T E w hk
theorem Gr.long_any (s : ByteArray) (hs : ¬ s.size ≤ 300) (w : World) :
    Calls Try.prog 25 #[.string s] w fun e w' => e = .returned (.tuple #[.bool false, .int .i64 1200]) ∧ Below w.heap.size w w' := by
  have HV := Aside0.mk (Pl.rtok_big hs)
  go_enter Try.func25, Try.ntmps25
  go_wp2_with (first | (go_at_call 13; (with_reducible refine (Gr.tokens_any s _ 900 HV.out w).mono ?_); rintro e w1 ⟨v, rfl, ho_, hb_⟩; have HB := Aside0.mk hb_; clear ho_ hb_))
  go_ret2
  exact ⟨rfl, HB.out⟩
theorem Gr.solid_take (T : List Tk) (i : Nat) (h : i < T.length) : solid (T.take (i + 1)) = solid (T.take i) ++ (if (T[i].f0 == 10 || T[i].f0 == 9) = true then [] else [T[i]]) := by
  rw [List.take_succ_eq_append_getElem h]
  unfold Go.Proofs.Ytnhkdpcncjkmlaa.Gd.solid
  rw [List.filter_append, List.filter_cons, List.filter_nil]
  cases (T[i].f0 == 10 || T[i].f0 == 9) <;> simp
set_option maxRecDepth 100000 in
set_option maxHeartbeats 8000000 in
theorem Gr.good_any (s : ByteArray) (hs : s.size ≤ 300) (w : World) :
    Calls Try.prog 25 #[.string s] w fun e w' => e = .returned (.tuple #[.bool (good (byt s)), .int .i64 0]) ∧ Below w.heap.size w w' := by
  obtain ⟨T, hT⟩ : ∃ T, toks (byt s) = T := ⟨_, rfl⟩
  have hv := Pl.rtok_ev hs
  have htl : T.length ≤ 300 := by rw [← hT]; have := Pl.toks_len (byt s); rw [byt_len] at this; omega
  rw [hT] at hv
  have HV := Aside0.mk hv
  have HTL := Aside0.mk htl
  have HVC := Aside0.mk (Gr.value_all 12 (Nat.le_refl _))
  obtain ⟨G, hG⟩ : ∃ G, good (byt s) = G := ⟨_, rfl⟩
  rw [hG]
  unfold Go.Proofs.Ytnhkdpcncjkmlaa.Gd.good at hG
  rw [hT] at hG
  have HG := Aside0.mk hG
  clear hv hT hG htl
  go_enter Try.func25, Try.ntmps25
  go_upto_region 4 with (go_at_call 13; (with_reducible refine (Gr.tokens_any s _ 0 HV.out w).mono ?_); rintro e w1 ⟨v, rfl, ho_, hb_⟩; have HB := Aside0.mk hb_; have HO := Aside0.mk ho_; clear ho_ hb_)
  obtain ⟨A0, c0, e0⟩ := Kd.R_slice HO.out
  subst e0
  have HK := Aside0.mk (Kd.R_reads' HO.out).2.2
  have HL := Aside0.mk (Kd.R_reads' HO.out).2.1
  clear HO
  go_upto_block 0 with (fail)
  have HX : Aside0 ((w1.alloc (.cells #[.slice none 0 0, .int .i64 0] 78)).heap[w1.heap.size]? = some (.cells #[.slice none 0 0, .int .i64 0] 78 (0, 0))) := ⟨blk_new w1 _⟩
  have HW : Aside0 (Below w1.heap.size w1 (w1.alloc (.cells #[.slice none 0 0, .int .i64 0] 78))) := ⟨below_alloc (Below.refl _ _) _⟩
  obtain ⟨g, eg⟩ : ∃ g, w1.heap.size = g := ⟨_, rfl⟩
  have GG : Aside0 (w1.heap.size ≤ g) := ⟨by omega⟩
  rw [eg] at HX ⊢
  generalize (w1.alloc (.cells #[.slice none 0 0, .int .i64 0] 78)) = w2 at HX HW ⊢
  clear eg
  go_cut [7] (fun v7 wc => ∃ vv : Value, Aside0 (wc.heap[g]? = some (.cells #[vv, .int .i64 0] 78 (0, 0))) ∧ Aside0 (Kd.R k34 34 wc w1.heap.size (fun k_ => k_ ≠ g) vv (solid T)) ∧ Aside0 (Below w1.heap.size w1 wc))
  case first =>
    go_wp2
    go_loopg [7] (T.length + 1) (fun kq v7 wr => ∃ (j : Int) (vv : Value) (xs : List Tk), v7 = .int .i64 j ∧ Aside0 (0 ≤ j ∧ j ≤ (T.length : Int) ∧ (T.length : Int) - j < (kq : Int) ∧ solid (T.take j.toNat) = xs ∧ xs.length ≤ j.toNat) ∧ Aside0 (wr.heap[g]? = some (.cells #[vv, .int .i64 0] 78 (0, 0))) ∧ Aside0 (Kd.R k34 34 wr w1.heap.size (fun k_ => k_ ≠ g) vv xs) ∧ Aside0 (Below w1.heap.size w1 wr))
    case atStart => exact ⟨0, _, [], rfl, ⟨by omega, by omega, by omega, rfl, by simp⟩, HX, ⟨Kd.R_nil _ _ _ _ _⟩, HW⟩
    case round =>
      clear HX HW
      obtain ⟨j, vv, xs, rfl, HJ, HX, HO, HW⟩ := hrel
      obtain ⟨j0, j1, j2, j3, j4⟩ := HJ.out
      clear j3
      cases gk with
      | zero => omega
      | succ k1 =>
        by_cases hj : j < (T.length : Int)
        · have c0_ : decide (j < (T.length : Int)) = true := decide_eq_true hj
          have p0 := eq_true j0
          have p1 := eq_true hj
          have hlt : j.toNat < T.length := by omega
          obtain ⟨ad, rfl, y0, y1, y2⟩ := at_T34 HK.out j j0 hj
          have Z0 := Aside0.mk y0
          have Z1 := Aside0.mk y1
          have Z2 := Aside0.mk y2
          replace y0 := (HW.out.cell (World.block_lt_of_cell? _ _ y0)).trans y0
          replace y1 := (HW.out.cell (World.block_lt_of_cell? _ _ y1)).trans y1
          replace y2 := (HW.out.cell (World.block_lt_of_cell? _ _ y2)).trans y2
          have hst := Gr.solid_take T j.toNat hlt
          have er : rd_T34 T j = T[j.toNat] := by
            show T.getD j.toNat z34 = _
            rw [List.getD_eq_getElem?_getD, List.getElem?_eq_getElem hlt]; rfl
          rw [HJ.out.2.2.2.1, ← er] at hst
          obtain ⟨c, hc⟩ : ∃ c, rd_T34 T j = c := ⟨_, rfl⟩
          rw [hc] at y0 y1 y2 hst Z0 Z1 Z2
          have e1 : (j + 1).toNat = j.toNat + 1 := by omega
          rw [← e1] at hst
          have w0 : wrap64 (j + 1) = j + 1 := by have := HTL.out; unfold wrap64; omega
          have j5 : j ≤ 300 := by have := HTL.out; omega
          clear hc er e1
          by_cases k10 : c.f0 = 10
          · have b1 : (c.f0 == 10) = true := beq_iff_eq.mpr k10
            have b2 : (c.f0 != 10) = false := bne_eq_false_iff_eq.mpr k10
            rw [if_pos (by rw [b1]; rfl), List.append_nil] at hst
            have HST := Aside0.mk hst
            clear hst k10
            go_wp2
            go_roundg k1
            case measure => omega
            case rel => exact ⟨j + 1, vv, xs, rfl, ⟨by omega, by omega, by omega, HST.out, by omega⟩, HX, HO, HW⟩
          · have b1 : (c.f0 == 10) = false := beq_eq_false_iff_ne.mpr k10
            have b2 : (c.f0 != 10) = true := bne_iff_ne.mpr k10
            by_cases k9 : c.f0 = 9
            · have b3 : (c.f0 == 9) = true := beq_iff_eq.mpr k9
              have b4 : (c.f0 != 9) = false := bne_eq_false_iff_eq.mpr k9
              rw [if_pos (by rw [b1, b3]; rfl), List.append_nil] at hst
              have HST := Aside0.mk hst
              clear hst k10 k9
              go_wp2
              go_roundg k1
              case measure => omega
              case rel => exact ⟨j + 1, vv, xs, rfl, ⟨by omega, by omega, by omega, HST.out, by omega⟩, HX, HO, HW⟩
            · have b3 : (c.f0 == 9) = false := beq_eq_false_iff_ne.mpr k9
              have b4 : (c.f0 != 9) = true := bne_iff_ne.mpr k9
              rw [if_neg (by rw [b1, b3]; decide)] at hst
              obtain ⟨ys, hys⟩ : ∃ ys, xs ++ [c] = ys := ⟨_, rfl⟩
              rw [hys] at hst
              have HYS := Aside0.mk hys
              have HYL : Aside0 (ys.length = xs.length + 1) := ⟨by rw [← hys]; simp⟩
              clear hys
              have HST := Aside0.mk hst
              have x0 : wr.cell? ⟨g, 0, none⟩ = some vv := (blk_cell HX.out 0).trans rfl
              have f0 := blk_frozen HX.out 0
              have GL := Aside0.mk (blk_lt HX.out)
              have NE := Aside0.mk (Kd.R_ne HO.out HX.out (by decide))
              clear hst k10 k9
              go_upto_region 9 with (fail)
              have gl := GL.out
              go_region_law
                ((rw [show World.drew (World.alloc wr (.cells #[.int .i64 c.f0, .int .i64 c.f1, .int .i64 c.f2] 34)) = World.alloc (World.drew wr) (.cells #[.int .i64 c.f0, .int .i64 c.f1, .int .i64 c.f2] 34) from rfl]; refine Kd.R_append_step k34 (w0 := w1) w1.heap.size (by rfl) (.tmp 41) (.tmp 46) 22 34 (.agg #[(.int .i64 0), (.int .i64 0), (.int .i64 0)]) 24 (by rfl) Try.underlying22 info34 rfl (by decide) (by decide) vv xs c [.int .i64 c.f0, .int .i64 c.f1, .int .i64 c.f2] (fun k_ => k_ ≠ g) (fun _ => False) (by rfl) (by rfl) ?aP (fun _ hk => hk.elim) ?aF ?aO ?aB ?aS ?aL ?_; (case aP => exact k34_mkM _ _ _ c); (case aF => exact (fun k_ hk => by have h_ := GL.out; intro e_; subst e_; exact absurd hk (Nat.not_le.2 h_))); (case aO => exact Kd.R_drew HO.out); (case aB => exact below_drew1 HW.out); (case aS => exact HW.out.size); (case aL => have := HJ.out; have := HTL.out; omega); intro v9 w9 ho hb hg hat; rw [HYS.out] at ho; obtain ⟨A9, c9, e9_⟩ := Kd.R_slice ho; subst e9_; have hz9 : w9.frozen? ⟨g, 0, none⟩ = false := (hg.frozen_far _ GL.out NE.out).trans (show (World.drew wr).frozen? ⟨g, 0, none⟩ = false from f0); have hc9 : w9.cell? ⟨g, 0, none⟩ = some vv := (hg.cell_far _ GL.out NE.out).trans (show (World.drew wr).cell? ⟨g, 0, none⟩ = some vv from x0)))
              all_goals
                have HX9 : Aside0 (w9.heap[g]? = some (.cells #[vv, .int .i64 0] 78 (0, 0))) := ⟨blk_grown (w := World.drew wr) HX.out hg NE.out⟩
                go_wp2
                go_roundg k1
                case measure => omega
                case rel => exact ⟨j + 1, .slice A9 ys.length c9, ys, rfl, ⟨by omega, by omega, by omega, HST.out, by have := HYL.out; omega⟩, ⟨(blk_set HX9.out 0 _).trans rfl⟩, ⟨Kd.R_mono (Kd.R_far (p := ⟨g, 0, none⟩) (Kd.R_mono ho (fun k_ hk => (⟨hk, hk⟩ : _ ∧ k_ ≠ g))) (fun _ hk => hk.2) _) (fun _ hk => hk.1)⟩, ⟨below_set hb GG.out⟩⟩
        · have c0_ : decide (j < (T.length : Int)) = false := decide_eq_false hj
          have hx := HJ.out.2.2.2.1
          rw [List.take_of_length_le (by omega)] at hx
          subst hx
          go_wp2
          go_meet
          case rel => exact ⟨vv, HX, HO, HW⟩
  case rest =>
    clear HX HW
    obtain ⟨vv, HX, HO, HW⟩ := hcut
    have HSL : Aside0 ((solid T).length ≤ 300) := ⟨by have := HTL.out; have h_ := List.length_filter_le (fun c : Tk => !(c.f0 == 10 || c.f0 == 9)) T; unfold Go.Proofs.Ytnhkdpcncjkmlaa.Gd.solid; omega⟩
    have HI : Aside0 (IsGn w1 wc g (solid T) (solid T)) := ⟨⟨vv, 0, HX.out, GG.out, HO.out, Nat.zero_le _, HSL.out, rfl⟩⟩
    have HI2 : Aside0 (IsGn w1 wc.drew g (solid T) (solid T)) := ⟨HI.out.drewN 1⟩
    have HW2 : Aside0 (Below w1.heap.size w1 wc.drew) := ⟨pw_below_drewN HW.out 1⟩
    clear HX HO
    cases hv : val 12 (solid T) with
    | none =>
      have HX := Aside0.mk hv
      clear hv
      go_wp2
      refine start_ (n := 16) (S := fun w' => True) (ds := []) #[false, false, false, false, false, false, false, false, false, false, false, false, false, false, false, false] (by kernel_rfl) rfl rfl trivial (fun hHeld => ?_)
      refine pure_ (i := 0) (N := some 50) (v := ?_) (a' := ?_) #[true, false, false, false, false, false, false, false, false, false, false, false, false, false, false, false] rfl rfl (by kernel_rfl) (fun _ _ _ h => h) (Or.inl ⟨by rfl, ?_⟩) ?_ ?_
      rotate_left
      · intro w'
        go_simp
        with_reducible rfl
      rotate_left
      · simp only [Act.put, List.setIfInBounds_toArray, List.set_cons_zero, List.set_cons_succ, i64_w, i32_w]
        rfl
      refine one_ (i := 1) (N := some 51) #[true, true, false, false, false, false, false, false, false, false, false, false, false, false, false, false] rfl rfl (by kernel_rfl) (by decide) (fun K hK => ?_)
      refine goes_ Try.func34 (by kernel_rfl) rfl #[.pointer (some ⟨g, 0, none⟩), .int .i64 1] (by rfl) rfl rfl (by simp only [List.map_toArray, List.map_cons, List.map_nil]; rfl) ?_
      with_reducible refine (GC.at HVC.out g (solid T) (solid T) 1 w1 _ (by decide) HW2.out HI2.out).mono ?_
      rw [HX.out]
      rintro e w9 ⟨hb_, rfl, us_, hi_⟩
      refine ⟨_, rfl, ?_⟩
      have HB9 := Aside0.mk hb_
      clear hb_ hi_
      refine hK.out _ _ trivial (fun hHeld => ?_)
      clear hK K
      refine norm_ (a' := ?_) ?_ ?_
      rotate_left
      · show Act.put _ (some 51) _ = _
        simp only [Act.put, List.setIfInBounds_toArray, List.set_cons_zero, List.set_cons_succ, i64_w, i32_w]
        rfl
      refine pure_ (i := 2) (N := some 52) (v := ?_) (a' := ?_) #[true, true, true, false, false, false, false, false, false, false, false, false, false, false, false, false] rfl rfl (by kernel_rfl) (fun _ _ _ h => h) (Or.inl ⟨by rfl, ?_⟩) ?_ ?_
      rotate_left
      · intro w'
        go_simp
        with_reducible rfl
      rotate_left
      · simp only [Act.put, List.setIfInBounds_toArray, List.set_cons_zero, List.set_cons_succ, i64_w, i32_w]
        rfl
      refine pure_ (i := 3) (N := some 53) (v := undef) (a' := ?_) #[true, true, true, true, false, false, false, false, false, false, false, false, false, false, false, false] rfl rfl (by kernel_rfl) (fun _ _ _ h => h) (Or.inr ⟨by rfl, rfl⟩) ?_ ?_
      rotate_left
      · simp only [Act.put, List.setIfInBounds_toArray, List.set_cons_zero, List.set_cons_succ, i64_w, i32_w]
        rfl
      refine pure_ (i := 4) (N := some 54) (v := undef) (a' := ?_) #[true, true, true, true, true, false, false, false, false, false, false, false, false, false, false, false] rfl rfl (by kernel_rfl) (fun _ _ _ h => h) (Or.inr ⟨by rfl, rfl⟩) ?_ ?_
      rotate_left
      · simp only [Act.put, List.setIfInBounds_toArray, List.set_cons_zero, List.set_cons_succ, i64_w, i32_w]
        rfl
      refine pure_ (i := 5) (N := some 55) (v := undef) (a' := ?_) #[true, true, true, true, true, true, false, false, false, false, false, false, false, false, false, false] rfl rfl (by kernel_rfl) (fun _ _ _ h => h) (Or.inr ⟨by rfl, rfl⟩) ?_ ?_
      rotate_left
      · simp only [Act.put, List.setIfInBounds_toArray, List.set_cons_zero, List.set_cons_succ, i64_w, i32_w]
        rfl
      refine pure_ (i := 6) (N := some 56) (v := undef) (a' := ?_) #[true, true, true, true, true, true, true, false, false, false, false, false, false, false, false, false] rfl rfl (by kernel_rfl) (fun _ _ _ h => h) (Or.inr ⟨by rfl, rfl⟩) ?_ ?_
      rotate_left
      · simp only [Act.put, List.setIfInBounds_toArray, List.set_cons_zero, List.set_cons_succ, i64_w, i32_w]
        rfl
      refine pure_ (i := 7) (N := some 57) (v := undef) (a' := ?_) #[true, true, true, true, true, true, true, true, false, false, false, false, false, false, false, false] rfl rfl (by kernel_rfl) (fun _ _ _ h => h) (Or.inr ⟨by rfl, rfl⟩) ?_ ?_
      rotate_left
      · simp only [Act.put, List.setIfInBounds_toArray, List.set_cons_zero, List.set_cons_succ, i64_w, i32_w]
        rfl
      refine pure_ (i := 8) (N := some 58) (v := undef) (a' := ?_) #[true, true, true, true, true, true, true, true, true, false, false, false, false, false, false, false] rfl rfl (by kernel_rfl) (fun _ _ _ h => h) (Or.inr ⟨by rfl, rfl⟩) ?_ ?_
      rotate_left
      · simp only [Act.put, List.setIfInBounds_toArray, List.set_cons_zero, List.set_cons_succ, i64_w, i32_w]
        rfl
      refine pure_ (i := 9) (N := some 59) (v := undef) (a' := ?_) #[true, true, true, true, true, true, true, true, true, true, false, false, false, false, false, false] rfl rfl (by kernel_rfl) (fun _ _ _ h => h) (Or.inr ⟨by rfl, rfl⟩) ?_ ?_
      rotate_left
      · simp only [Act.put, List.setIfInBounds_toArray, List.set_cons_zero, List.set_cons_succ, i64_w, i32_w]
        rfl
      refine pure_ (i := 10) (N := some 60) (v := undef) (a' := ?_) #[true, true, true, true, true, true, true, true, true, true, true, false, false, false, false, false] rfl rfl (by kernel_rfl) (fun _ _ _ h => h) (Or.inr ⟨by rfl, rfl⟩) ?_ ?_
      rotate_left
      · simp only [Act.put, List.setIfInBounds_toArray, List.set_cons_zero, List.set_cons_succ, i64_w, i32_w]
        rfl
      refine pure_ (i := 11) (N := some 61) (v := undef) (a' := ?_) #[true, true, true, true, true, true, true, true, true, true, true, true, false, false, false, false] rfl rfl (by kernel_rfl) (fun _ _ _ h => h) (Or.inr ⟨by rfl, rfl⟩) ?_ ?_
      rotate_left
      · simp only [Act.put, List.setIfInBounds_toArray, List.set_cons_zero, List.set_cons_succ, i64_w, i32_w]
        rfl
      refine pure_ (i := 12) (N := some 62) (v := undef) (a' := ?_) #[true, true, true, true, true, true, true, true, true, true, true, true, true, false, false, false] rfl rfl (by kernel_rfl) (fun _ _ _ h => h) (Or.inr ⟨by rfl, rfl⟩) ?_ ?_
      rotate_left
      · simp only [Act.put, List.setIfInBounds_toArray, List.set_cons_zero, List.set_cons_succ, i64_w, i32_w]
        rfl
      refine pure_ (i := 13) (N := some 63) (v := ?_) (a' := ?_) #[true, true, true, true, true, true, true, true, true, true, true, true, true, true, false, false] rfl rfl (by kernel_rfl) (fun _ _ _ h => h) (Or.inl ⟨by rfl, ?_⟩) ?_ ?_
      rotate_left
      · intro w'
        go_simp
        with_reducible rfl
      rotate_left
      · simp only [Act.put, List.setIfInBounds_toArray, List.set_cons_zero, List.set_cons_succ, i64_w, i32_w]
        rfl
      refine pure_ (i := 14) (N := some 2) (v := ?_) (a' := ?_) #[true, true, true, true, true, true, true, true, true, true, true, true, true, true, true, false] rfl rfl (by kernel_rfl) (fun _ _ _ h => h) (Or.inl ⟨by rfl, ?_⟩) ?_ ?_
      rotate_left
      · intro w'
        go_simp
        with_reducible rfl
      rotate_left
      · simp only [Act.put, List.setIfInBounds_toArray, List.set_cons_zero, List.set_cons_succ, i64_w, i32_w]
        rfl
      refine pure_ (i := 15) (N := some 3) (v := ?_) (a' := ?_) #[true, true, true, true, true, true, true, true, true, true, true, true, true, true, true, true] rfl rfl (by kernel_rfl) (fun _ _ _ h => h) (Or.inl ⟨by rfl, ?_⟩) ?_ ?_
      rotate_left
      · intro w'
        go_simp
        with_reducible rfl
      rotate_left
      · simp only [Act.put, List.setIfInBounds_toArray, List.set_cons_zero, List.set_cons_succ, i64_w, i32_w]
        rfl
      refine done_ (by kernel_rfl) ?_
      all_goals (try go_wp2)
      go_ret2
      have hG := HG.out
      rw [HX.out] at hG
      exact ⟨by rw [← hG]; rfl, below_step HB.out HB9.out⟩
    | some us =>
      have HX := Aside0.mk hv
      clear hv
      go_wp2
      cases us with
      | nil =>
        go_region_law ((refine goes_ Try.func34 (by kernel_rfl) rfl #[.pointer (some ⟨g, 0, none⟩), .int .i64 1] (by rfl) rfl rfl (by (try simp only [List.map_toArray, List.map_cons, List.map_nil]); first | done | rfl) ?_; (with_reducible refine (GC.at HVC.out g (solid T) (solid T) 1 w1 _ (by decide) HW2.out HI2.out).mono ?_); rw [HX.out]; rintro e w9 ⟨hb_, rfl, hi_⟩; refine ⟨_, rfl, ?_⟩; have HB9 := Aside0.mk hb_; obtain ⟨v9, i9, hx_, _, hr_, hi9, hl9, hd9⟩ := hi_; obtain ⟨A9, c9, e9_⟩ := Kd.R_slice hr_; subst e9_; have z0 : w9.cell? ⟨g, 0, none⟩ = some (.slice A9 (solid T).length c9) := (blk_cell hx_ 0).trans rfl; have z1 : w9.cell? ⟨g, 1, none⟩ = some (.int .i64 (i9 : Int)) := (blk_cell hx_ 1).trans rfl; have q9 : ((i9 : Int) == ((solid T).length : Int)) = true := beq_iff_eq.mpr (by have := congrArg List.length hd9; rw [List.length_drop] at this; simp at this; omega); have q8 : (i9 == (solid T).length) = true := beq_iff_eq.mpr (by have := congrArg List.length hd9; rw [List.length_drop] at this; simp at this; omega); clear hb_ hx_ hr_ hi9 hl9 hd9))
        all_goals (try go_wp2)
        all_goals go_ret2
        all_goals
          have hG := HG.out
          rw [HX.out] at hG
          exact ⟨by rw [← hG]; rfl, below_step HB.out HB9.out⟩
      | cons d r =>
        go_region_law ((refine goes_ Try.func34 (by kernel_rfl) rfl #[.pointer (some ⟨g, 0, none⟩), .int .i64 1] (by rfl) rfl rfl (by (try simp only [List.map_toArray, List.map_cons, List.map_nil]); first | done | rfl) ?_; (with_reducible refine (GC.at HVC.out g (solid T) (solid T) 1 w1 _ (by decide) HW2.out HI2.out).mono ?_); rw [HX.out]; rintro e w9 ⟨hb_, rfl, hi_⟩; refine ⟨_, rfl, ?_⟩; have HB9 := Aside0.mk hb_; obtain ⟨v9, i9, hx_, _, hr_, hi9, hl9, hd9⟩ := hi_; obtain ⟨A9, c9, e9_⟩ := Kd.R_slice hr_; subst e9_; have z0 : w9.cell? ⟨g, 0, none⟩ = some (.slice A9 (solid T).length c9) := (blk_cell hx_ 0).trans rfl; have z1 : w9.cell? ⟨g, 1, none⟩ = some (.int .i64 (i9 : Int)) := (blk_cell hx_ 1).trans rfl; have q9 : ((i9 : Int) == ((solid T).length : Int)) = false := beq_eq_false_iff_ne.mpr (by have := congrArg List.length hd9; rw [List.length_drop] at this; simp at this; omega); have q8 : (i9 == (solid T).length) = false := beq_eq_false_iff_ne.mpr (by have := congrArg List.length hd9; rw [List.length_drop] at this; simp at this; omega); clear hb_ hx_ hr_ hi9 hl9 hd9))
        all_goals (try go_wp2)
        all_goals go_ret2
        all_goals
          have hG := HG.out
          rw [HX.out] at hG
          exact ⟨by rw [← hG]; rfl, below_step HB.out HB9.out⟩
end Go.Proofs.Ytnhkdpcncjkmlaa.G
