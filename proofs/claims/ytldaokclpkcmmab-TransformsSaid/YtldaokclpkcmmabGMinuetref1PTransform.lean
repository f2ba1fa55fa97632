-- Laid by this session's own program gprint.py (wip/tools), out of the kit's print and of texts of this session. Lean checks it.
import Derived.Test.YtldaokclpkcmmabGx0
import Derived.Test.YtldaokclpkcmmabGZ1
import Derived.Test.YtldaokclpkcmmabGMinuetref1PAdd
import Derived.Test.YtldaokclpkcmmabGZ2
import Derived.Test.YtldaokclpkcmmabGMinuetref1qwhole
import Derived.Test.YtldaokclpkcmmabTw
import Derived.Test.YtldaokclpkcmmabRr
namespace Go.Proofs.Ytldaokclpkcmmab.G
open Go.RowKit Go.Proofs.YtldaokclpkcmmabW.PrintWords Go.Proofs.YtldaokclpkcmmabW.PrintLast Go.Proofs.YtldaokclpkcmmabW.PrintMore
set_option linter.unusedVariables false
set_option linter.unusedSimpArgs false

/-! ### minuetref1_Transform: function 15 -/
def minuetref1_Transform.l0 : Nat → List (S37) → List (S37) → Bool → Int → Int → Int → Int → List (S37) → List (S37) → Option (List (S37) × List (S37) × Int)
 | 0, _, _, _, _, _, _, _, _, _ => none
 | k + 1, l0, l1, fst, ia, pa, ib, pb, p, q => (Rr.peek l0 ia pa).bind fun c => (Rr.peek l1 ib pb).bind fun d =>
  if c.2 = false ∧ d.2 = false then minuetref1_whole.f k p q
  else if (c.2 = true ∧ c.1.f0 = 1) ∧ (fst = true ∨ ¬ (d.2 = true ∧ d.1.f0 = 1)) then (Rr.take l0 ia pa 4096).bind fun t => (minuetref1_Add.f k p t.1.f0 t.1.f1 t.1.f2).bind fun p' => (minuetref1_Add.f k q 0 (t.1.f2.size : Int) (⟨#[]⟩ : ByteArray)).bind fun q' => minuetref1_Transform.l0 k l0 l1 fst t.2.1 t.2.2 ib pb p' q'
  else if d.2 = true ∧ d.1.f0 = 1 then (Rr.take l1 ib pb 4096).bind fun t => (minuetref1_Add.f k q t.1.f0 t.1.f1 t.1.f2).bind fun q' => (minuetref1_Add.f k p 0 (t.1.f2.size : Int) (⟨#[]⟩ : ByteArray)).bind fun p' => minuetref1_Transform.l0 k l0 l1 fst ia pa t.2.1 t.2.2 p' q'
  else if c.2 = true ∧ d.2 = true then (minuetref1_size.f c.1.f0 c.1.f1 c.1.f2).bind fun s => (minuetref1_size.f d.1.f0 d.1.f1 d.1.f2).bind fun i =>
   (Rr.take l0 ia pa (Rr.mini s i)).bind fun t => (Rr.take l1 ib pb (Rr.mini s i)).bind fun u =>
   (if u.1.f0 = 0 then minuetref1_Add.f k p t.1.f0 t.1.f1 t.1.f2 else some p).bind fun p' => (if t.1.f0 = 0 then minuetref1_Add.f k q u.1.f0 u.1.f1 u.1.f2 else some q).bind fun q' => minuetref1_Transform.l0 k l0 l1 fst t.2.1 t.2.2 u.2.1 u.2.2 p' q'
  else none
def minuetref1_Transform.f (k : Nat) (l0 l1 : List (S37)) (fst : Bool) : Option (List (S37) × List (S37) × Int) := (minuetref1_Lengths.f k l0).bind fun t => (minuetref1_Lengths.f k l1).bind fun u => if t.2.2 = 0 ∧ u.2.2 = 0 ∧ t.1 = u.1 then minuetref1_Transform.l0 k l0 l1 fst 0 0 0 0 [] [] else some ([], [], 500)
theorem minuetref1_Transform.mono_l : ∀ k, (∀ y0 y1 y2 y3 y4 y5 y6 y7 y8, LeO (minuetref1_Transform.l0 k y0 y1 y2 y3 y4 y5 y6 y7 y8) (minuetref1_Transform.l0 (k + 1) y0 y1 y2 y3 y4 y5 y6 y7 y8))
 | 0 => fun _ _ _ _ _ _ _ _ _ r h => by simp [minuetref1_Transform.l0] at h
 | k + 1 => by
  have ih := minuetref1_Transform.mono_l k
  intro y0 y1 y2 y3 y4 y5 y6 y7 y8
  unfold minuetref1_Transform.l0
  refine LeO.bind (LeO.refl _) (fun c => LeO.bind (LeO.refl _) (fun d => LeO.ite ?_ (LeO.ite ?_ (LeO.ite ?_ (LeO.ite ?_ (LeO.none _))))))
  · exact minuetref1_whole.mono _ _ _
  · exact LeO.bind (LeO.refl _) (fun t => LeO.bind (minuetref1_Add.mono _ _ _ _ _) (fun o => LeO.bind (minuetref1_Add.mono _ _ _ _ _) (fun o => ih _ _ _ _ _ _ _ _ _)))
  · exact LeO.bind (LeO.refl _) (fun t => LeO.bind (minuetref1_Add.mono _ _ _ _ _) (fun o => LeO.bind (minuetref1_Add.mono _ _ _ _ _) (fun o => ih _ _ _ _ _ _ _ _ _)))
  · exact LeO.bind (LeO.refl _) (fun s => LeO.bind (LeO.refl _) (fun q => LeO.bind (LeO.refl _) (fun t => LeO.bind (LeO.refl _) (fun u => LeO.bind (LeO.ite (minuetref1_Add.mono _ _ _ _ _) (LeO.refl _)) (fun o => LeO.bind (LeO.ite (minuetref1_Add.mono _ _ _ _ _) (LeO.refl _)) (fun o => ih _ _ _ _ _ _ _ _ _))))))
theorem minuetref1_Transform.mono : ∀ a0 a1 a2 k, LeO (minuetref1_Transform.f k a0 a1 a2) (minuetref1_Transform.f (k + 1) a0 a1 a2) := by
 intro a0 a1 a2 k; unfold minuetref1_Transform.f
 exact LeO.bind (minuetref1_Lengths.mono _ _) (fun t => LeO.bind (minuetref1_Lengths.mono _ _) (fun u => LeO.ite (minuetref1_Transform.mono_l _ _ _ _ _ _ _ _ _ _) (LeO.refl _)))
set_option maxHeartbeats 8000000 in
set_option maxRecDepth 100000 in
theorem minuetref1_Transform.calls (k : Nat) (A0 : Option Addr) (c0 : Nat) (l0 : List (S37)) (A1 : Option Addr) (c1 : Nat) (l1 : List (S37)) (a2 : Bool) (r1 : List (S37)) (r2 : List (S37)) (r3 : Int) (w : World) (hr0 : Kd.C k37 w A0 l0.length l0) (hc0 : l0.length ≤ c0) (hr1 : Kd.C k37 w A1 l1.length l1) (hc1 : l1.length ≤ c1) (h : minuetref1_Transform.f k l0 l1 a2 = some (r1, r2, r3)) :
 Calls Try.prog 15 #[.slice A0 l0.length c0, .slice A1 l1.length c1, .bool a2] w fun e w' => ∃ v0_ v1_ : Value, e = .returned (.tuple #[v0_, v1_, .int .i64 r3]) ∧ Kd.R k37 37 w' w.heap.size (fun k_ => some k_ ≠ (v1_ : Value).ownBlock) v0_ r1 ∧ Kd.R k37 37 w' w.heap.size (fun k_ => some k_ ≠ (v0_ : Value).ownBlock) v1_ r2 ∧ Below w.heap.size w w' := by
 have HR0 := Aside0.mk hr0
 have HC0 := Aside0.mk hc0
 have HR1 := Aside0.mk hr1
 have HC1 := Aside0.mk hc1
 clear hr0 hc0 hr1 hc1
 have HB := Aside0.mk (Below.refl w.heap.size w)
 unfold minuetref1_Transform.f at h
 replace h := Option.bind_eq_some_iff.mp h; obtain ⟨⟨t1, t2, t3⟩, AT_, h⟩ := h; have AT := Aside0.mk AT_; clear AT_
 replace h := Option.bind_eq_some_iff.mp h; obtain ⟨⟨u1, u2, u3⟩, AU_, h⟩ := h; have AU := Aside0.mk AU_; clear AU_
 simp only at h
 by_cases hok : t3 = 0 ∧ u3 = 0 ∧ t1 = u1
 · rw [if_pos hok] at h
   have a1 : (t3 != 0) = false := bne_eq_false_iff_eq.mpr hok.1
   have a2_ : (u3 != 0) = false := bne_eq_false_iff_eq.mpr hok.2.1
   have a3 : (t1 != u1) = false := bne_eq_false_iff_eq.mpr hok.2.2
   have H' := Aside0.mk h
   clear h hok
   go_enter Try.func15, Try.ntmps15
   go_wp2_with (first | ((with_reducible refine gate_callee (f := 21) rfl ?_); refine goesL_ (some 32) rfl rfl Try.func21 (by kernel_rfl) rfl #[.slice A0 l0.length c0] rfl (by (try simp only [List.map_toArray, List.map_cons, List.map_nil]); first | done | rfl | (simp only [List.length_drop, List.length_take]; rfl)) ?_; (with_reducible refine (minuetref1_Lengths.calls k _ _ l0 t1 t2 t3 _ ?side1 ?side2 AT.out).mono ?_); (case side1 => exact Kd.C_below HR0.out HB.out); (case side2 => exact HC0.out); rintro e w_ ⟨rfl, hb⟩; refine ⟨_, rfl, ?_⟩; have n0_ := Aside0.mk (below_step HB.out hb); clear HB; have HB := n0_; clear n0_; clear hb) | ((with_reducible refine gate_callee (f := 21) rfl ?_); refine goesL_ (some 38) rfl rfl Try.func21 (by kernel_rfl) rfl #[.slice A1 l1.length c1] rfl (by (try simp only [List.map_toArray, List.map_cons, List.map_nil]); first | done | rfl | (simp only [List.length_drop, List.length_take]; rfl)) ?_; (with_reducible refine (minuetref1_Lengths.calls k _ _ l1 u1 u2 u3 _ ?side1 ?side2 AU.out).mono ?_); (case side1 => exact Kd.C_below HR1.out HB.out); (case side2 => exact HC1.out); rintro e w_ ⟨rfl, hb⟩; refine ⟨_, rfl, ?_⟩; have n0_ := Aside0.mk (below_step HB.out hb); clear HB; have HB := n0_; clear n0_; clear hb) | ((with_reducible refine gate_dst (N := 55) rfl ?_); refine box_event ?hg (N := 55) ?hd (cs := #[.slice A0 l0.length c0, .int .i64 0, .int .i64 0]) (t := 89) ?hr ?_; (case hd => rfl); (case hg => rfl); (case hr => first | (go_simp; done) | (go_simp; rfl)); intro gx hg w_ hbox hb; have HX := Aside0.mk (show IsRr w w_ gx l0 0 0 from ⟨_, _, hbox, by rw [hg]; exact HB.out.size, HR0.out⟩); have n0_ := Aside0.mk (below_step HB.out hb); clear HB; have HB := n0_; clear n0_; clear hbox hb hg) | ((with_reducible refine gate_dst (N := 58) rfl ?_); refine box_event ?hg (N := 58) ?hd (cs := #[.slice A1 l1.length c1, .int .i64 0, .int .i64 0]) (t := 89) ?hr ?_; (case hd => rfl); (case hg => rfl); (case hr => first | (go_simp; done) | (go_simp; rfl)); intro gy hg w_ hbox hb; have NXY := Aside0.mk (show gx ≠ gy from fun e_ => by have := (Rr.shape HX.out).2; omega); have HY := Aside0.mk (show IsRr w w_ gy l1 0 0 from ⟨_, _, hbox, by rw [hg]; exact HB.out.size, HR1.out⟩); have n1_ := Aside0.mk (HX.out.below hb); have n0_ := Aside0.mk (below_step HB.out hb); clear HB HX; have HB := n0_; have HX := n1_; clear n0_ n1_; clear hbox hb hg))
   go_loopg [17, 18] k (fun kq v17 v18 w' => ∃ (SP SQ : Nat → Prop) (ia pa ib pb : Int) (p q : List (S37)), Aside0 (minuetref1_Transform.l0 kq l0 l1 a2 ia pa ib pb p q = some (r1, r2, r3)) ∧ Aside0 (kq ≤ k) ∧ Aside0 (IsRr w w' gx l0 ia pa) ∧ Aside0 (IsRr w w' gy l1 ib pb) ∧ Aside0 (Two w w' gx gy SP SQ v17 v18 p q))
   case atStart => exact ⟨_, _, 0, 0, 0, 0, [], [], H', ⟨Nat.le_refl _⟩, HX, HY, ⟨Two.start HB.out (Rr.shape HX.out).2 (Rr.shape HY.out).2⟩⟩
   case round =>
    clear H' HX HY HB a1 a2_ a3
    obtain ⟨SP, SQ, ia, pa, ib, pb, p, q, HA, HK1, HX, HY, HT⟩ := hrel
    cases gk with
    | zero => exact absurd HA.out (by simp [minuetref1_Transform.l0])
    | succ k1 =>
     have H := HA.out
     clear HA
     unfold minuetref1_Transform.l0 at H
     replace H := Option.bind_eq_some_iff.mp H; obtain ⟨⟨c, is⟩, AC_, H⟩ := H; (try dsimp only at AC_ H); have AC := Aside0.mk AC_; clear AC_
     replace H := Option.bind_eq_some_iff.mp H; obtain ⟨⟨d, are⟩, AD_, H⟩ := H; (try dsimp only at AD_ H); have AD := Aside0.mk AD_; clear AD_
     by_cases c1_ : is = false ∧ are = false
     · rw [if_pos c1_] at H
       obtain ⟨rfl, rfl⟩ := c1_
       have HH := Aside0.mk H
       clear H
       go_upto_region 8 with (first | ((with_reducible refine gate_callee (f := 48) rfl ?_); refine goesL_ (some 61) rfl rfl Try.func48 (by kernel_rfl) rfl #[.pointer (some ⟨gx, 0, none⟩)] rfl (by (try simp only [List.map_toArray, List.map_cons, List.map_nil]); first | done | rfl | (simp only [List.length_drop, List.length_take]; rfl)) ?_; (with_reducible refine (Rr.peek_any gx l0 ia pa c false w _ HT.out.hb HX.out AC.out).mono ?_); rintro e w_ ⟨rfl, hb⟩; refine ⟨_, rfl, ?_⟩; have n0_ := Aside0.mk (HX.out.below hb); have n1_ := Aside0.mk (HY.out.below hb); have n2_ := Aside0.mk (HT.out.below hb); clear HX HY HT; have HX := n0_; have HY := n1_; have HT := n2_; clear n0_ n1_ n2_; clear hb) | ((with_reducible refine gate_dst (N := 19) rfl ?_); refine box_event ?hg (N := 19) ?hd (cs := #[.int .i64 0, .int .i64 0, .string (⟨#[]⟩ : ByteArray)]) (t := 37) ?hr ?_; (case hd => rfl); (case hg => rfl); (case hr => first | (go_simp; done) | (go_simp; rfl)); intro gc hg wb_ hbox hb; have BC := Aside0.mk hbox; have Ggc := Aside0.mk (Nat.le_of_eq hg.symm : w_.heap.size ≤ gc); have HW := Aside0.mk hb; clear hb hbox hg; obtain ⟨cz0, cz1, cz2, fz0, fz1, fz2⟩ := Rd.three BC.out))
       have BC1 : Aside0 ((((wb_.setCell ⟨gc, 0, none⟩ (.int .i64 c.f0)).setCell ⟨gc, 1, none⟩ (.int .i64 c.f1)).setCell ⟨gc, 2, none⟩ (.string c.f2)).heap[gc]? = some (.cells #[.int .i64 c.f0, .int .i64 c.f1, .string c.f2] 37 (0, 0))) := ⟨Rd.set3 BC.out⟩
       have hb : Below w_.heap.size w_ (((wb_.setCell ⟨gc, 0, none⟩ (.int .i64 c.f0)).setCell ⟨gc, 1, none⟩ (.int .i64 c.f1)).setCell ⟨gc, 2, none⟩ (.string c.f2)) := ((HW.out.setCell Ggc.out _).setCell Ggc.out _).setCell Ggc.out _
       have HX1 := Aside0.mk (HX.out.below hb)
       have HY1 := Aside0.mk (HY.out.below hb)
       have HT1 := Aside0.mk (HT.out.below hb)
       have NPgc : ¬ SP gc := fun h_ => by have := (HT.out.dp _ h_).2.2.2; have := Ggc.out; omega
       have NQgc : ¬ SQ gc := fun h_ => by have := (HT.out.dq _ h_).2.2; have := Ggc.out; omega
       have nxgc : gx ≠ gc := fun e_ => by have := HT.out.lx; have := Ggc.out; omega
       have nygc : gy ≠ gc := fun e_ => by have := HT.out.ly; have := Ggc.out; omega
       have NPgc := Aside0.mk NPgc
       have NQgc := Aside0.mk NQgc
       have nxgc := Aside0.mk nxgc
       have nygc := Aside0.mk nygc
       clear hb
       generalize (((wb_.setCell ⟨gc, 0, none⟩ (.int .i64 c.f0)).setCell ⟨gc, 1, none⟩ (.int .i64 c.f1)).setCell ⟨gc, 2, none⟩ (.string c.f2)) = wA at BC1 HX1 HY1 HT1 ⊢
       clear BC HX HY HT HW cz0 cz1 cz2 fz0 fz1 fz2
       have BC := BC1
       have HX := HX1
       have HY := HY1
       have HT := HT1
       clear BC1 HX1 HY1 HT1
       go_upto_region 9 with (first | ((with_reducible refine gate_callee (f := 48) rfl ?_); refine goesL_ (some 66) rfl rfl Try.func48 (by kernel_rfl) rfl #[.pointer (some ⟨gy, 0, none⟩)] rfl (by (try simp only [List.map_toArray, List.map_cons, List.map_nil]); first | done | rfl | (simp only [List.length_drop, List.length_take]; rfl)) ?_; (with_reducible refine (Rr.peek_any gy l1 ib pb d false w _ HT.out.hb HY.out AD.out).mono ?_); rintro e w_ ⟨rfl, hb⟩; refine ⟨_, rfl, ?_⟩; have n0_ := Aside0.mk ((hb.block _ (blk_lt BC.out)).trans BC.out); have n1_ := Aside0.mk (HX.out.below hb); have n2_ := Aside0.mk (HY.out.below hb); have n3_ := Aside0.mk (HT.out.below hb); clear BC HX HY HT; have BC := n0_; have HX := n1_; have HY := n2_; have HT := n3_; clear n0_ n1_ n2_ n3_; clear hb) | ((with_reducible refine gate_dst (N := 21) rfl ?_); refine box_event ?hg (N := 21) ?hd (cs := #[.int .i64 0, .int .i64 0, .string (⟨#[]⟩ : ByteArray)]) (t := 37) ?hr ?_; (case hd => rfl); (case hg => rfl); (case hr => first | (go_simp; done) | (go_simp; rfl)); intro gd hg wb_ hbox hb; have BD := Aside0.mk hbox; have Ggd := Aside0.mk (Nat.le_of_eq hg.symm : w_.heap.size ≤ gd); have HW := Aside0.mk hb; clear hb hbox hg; obtain ⟨cz0, cz1, cz2, fz0, fz1, fz2⟩ := Rd.three BD.out))
       have BD1 : Aside0 ((((wb_.setCell ⟨gd, 0, none⟩ (.int .i64 d.f0)).setCell ⟨gd, 1, none⟩ (.int .i64 d.f1)).setCell ⟨gd, 2, none⟩ (.string d.f2)).heap[gd]? = some (.cells #[.int .i64 d.f0, .int .i64 d.f1, .string d.f2] 37 (0, 0))) := ⟨Rd.set3 BD.out⟩
       have hb : Below w_.heap.size w_ (((wb_.setCell ⟨gd, 0, none⟩ (.int .i64 d.f0)).setCell ⟨gd, 1, none⟩ (.int .i64 d.f1)).setCell ⟨gd, 2, none⟩ (.string d.f2)) := ((HW.out.setCell Ggd.out _).setCell Ggd.out _).setCell Ggd.out _
       have BC1 := Aside0.mk ((hb.block _ (blk_lt BC.out)).trans BC.out)
       have HX1 := Aside0.mk (HX.out.below hb)
       have HY1 := Aside0.mk (HY.out.below hb)
       have HT1 := Aside0.mk (HT.out.below hb)
       have NPgd : ¬ SP gd := fun h_ => by have := (HT.out.dp _ h_).2.2.2; have := Ggd.out; omega
       have NQgd : ¬ SQ gd := fun h_ => by have := (HT.out.dq _ h_).2.2; have := Ggd.out; omega
       have nxgd : gx ≠ gd := fun e_ => by have := HT.out.lx; have := Ggd.out; omega
       have nygd : gy ≠ gd := fun e_ => by have := HT.out.ly; have := Ggd.out; omega
       have NPgd := Aside0.mk NPgd
       have NQgd := Aside0.mk NQgd
       have nxgd := Aside0.mk nxgd
       have nygd := Aside0.mk nygd
       clear hb
       generalize (((wb_.setCell ⟨gd, 0, none⟩ (.int .i64 d.f0)).setCell ⟨gd, 1, none⟩ (.int .i64 d.f1)).setCell ⟨gd, 2, none⟩ (.string d.f2)) = wB at BD1 BC1 HX1 HY1 HT1 ⊢
       clear BD BC HX HY HT HW cz0 cz1 cz2 fz0 fz1 fz2
       have BD := BD1
       have BC := BC1
       have HX := HX1
       have HY := HY1
       have HT := HT1
       clear BD1 BC1 HX1 HY1 HT1
       obtain ⟨cp0, cp1, cp2, ep0, ep1, ep2⟩ := Rd.three BC.out
       obtain ⟨cq0, cq1, cq2, eq0, eq1, eq2⟩ := Rd.three BD.out
       have H := HH.out
       clear HH
       have HWH := Aside0.mk H
       clear H
       go_wp2_with (first | (go_at_call 49; refine (minuetref1_whole.calls k1 SP u17 p SQ u18 q r1 r2 r3 w _ HT.out.hb HT.out.hp (fun k_ hk => (HT.out.dp k_ hk).1) HT.out.hq (fun k_ hk hp => (HT.out.dp k_ hp).1 hk) HWH.out).mono ?_; rintro e w_ ⟨v0_, v1_, rfl, hr1, hr2, hb, hkp⟩; have HR1_ := Aside0.mk hr1; have HR2_ := Aside0.mk hr2; have HB_ := Aside0.mk hb; clear hr1 hr2 hb hkp))
       go_ret3
       exact ⟨_, _, rfl, Kd.R_mono HR1_.out (fun _ hk => hk.2), Kd.R_mono HR2_.out (fun _ hk => hk.2), HB_.out⟩
     · rw [if_neg c1_] at H
       by_cases c2_ : (is = true ∧ c.f0 = 1) ∧ (a2 = true ∨ ¬ (are = true ∧ d.f0 = 1))
       · rw [if_pos c2_] at H
         obtain ⟨⟨rfl, c2_⟩, c3_⟩ := c2_
         have b1 : (c.f0 == 1) = true := beq_iff_eq.mpr c2_
         cases are with
         | true =>
          cases a2 with
          | true =>
           clear c1_ c2_ c3_
           by_cases kd_ : d.f0 = 1
           · have b2 : (d.f0 == 1) = true := beq_iff_eq.mpr kd_
             clear kd_
             have HH := Aside0.mk H
             clear H
             go_upto_region 8 with (first | ((with_reducible refine gate_callee (f := 48) rfl ?_); refine goesL_ (some 61) rfl rfl Try.func48 (by kernel_rfl) rfl #[.pointer (some ⟨gx, 0, none⟩)] rfl (by (try simp only [List.map_toArray, List.map_cons, List.map_nil]); first | done | rfl | (simp only [List.length_drop, List.length_take]; rfl)) ?_; (with_reducible refine (Rr.peek_any gx l0 ia pa c true w _ HT.out.hb HX.out AC.out).mono ?_); rintro e w_ ⟨rfl, hb⟩; refine ⟨_, rfl, ?_⟩; have n0_ := Aside0.mk (HX.out.below hb); have n1_ := Aside0.mk (HY.out.below hb); have n2_ := Aside0.mk (HT.out.below hb); clear HX HY HT; have HX := n0_; have HY := n1_; have HT := n2_; clear n0_ n1_ n2_; clear hb) | ((with_reducible refine gate_dst (N := 19) rfl ?_); refine box_event ?hg (N := 19) ?hd (cs := #[.int .i64 0, .int .i64 0, .string (⟨#[]⟩ : ByteArray)]) (t := 37) ?hr ?_; (case hd => rfl); (case hg => rfl); (case hr => first | (go_simp; done) | (go_simp; rfl)); intro gc hg wb_ hbox hb; have BC := Aside0.mk hbox; have Ggc := Aside0.mk (Nat.le_of_eq hg.symm : w_.heap.size ≤ gc); have HW := Aside0.mk hb; clear hb hbox hg; obtain ⟨cz0, cz1, cz2, fz0, fz1, fz2⟩ := Rd.three BC.out))
             have BC1 : Aside0 ((((wb_.setCell ⟨gc, 0, none⟩ (.int .i64 c.f0)).setCell ⟨gc, 1, none⟩ (.int .i64 c.f1)).setCell ⟨gc, 2, none⟩ (.string c.f2)).heap[gc]? = some (.cells #[.int .i64 c.f0, .int .i64 c.f1, .string c.f2] 37 (0, 0))) := ⟨Rd.set3 BC.out⟩
             have hb : Below w_.heap.size w_ (((wb_.setCell ⟨gc, 0, none⟩ (.int .i64 c.f0)).setCell ⟨gc, 1, none⟩ (.int .i64 c.f1)).setCell ⟨gc, 2, none⟩ (.string c.f2)) := ((HW.out.setCell Ggc.out _).setCell Ggc.out _).setCell Ggc.out _
             have HX1 := Aside0.mk (HX.out.below hb)
             have HY1 := Aside0.mk (HY.out.below hb)
             have HT1 := Aside0.mk (HT.out.below hb)
             have NPgc : ¬ SP gc := fun h_ => by have := (HT.out.dp _ h_).2.2.2; have := Ggc.out; omega
             have NQgc : ¬ SQ gc := fun h_ => by have := (HT.out.dq _ h_).2.2; have := Ggc.out; omega
             have nxgc : gx ≠ gc := fun e_ => by have := HT.out.lx; have := Ggc.out; omega
             have nygc : gy ≠ gc := fun e_ => by have := HT.out.ly; have := Ggc.out; omega
             have NPgc := Aside0.mk NPgc
             have NQgc := Aside0.mk NQgc
             have nxgc := Aside0.mk nxgc
             have nygc := Aside0.mk nygc
             clear hb
             generalize (((wb_.setCell ⟨gc, 0, none⟩ (.int .i64 c.f0)).setCell ⟨gc, 1, none⟩ (.int .i64 c.f1)).setCell ⟨gc, 2, none⟩ (.string c.f2)) = wA at BC1 HX1 HY1 HT1 ⊢
             clear BC HX HY HT HW cz0 cz1 cz2 fz0 fz1 fz2
             have BC := BC1
             have HX := HX1
             have HY := HY1
             have HT := HT1
             clear BC1 HX1 HY1 HT1
             go_upto_region 9 with (first | ((with_reducible refine gate_callee (f := 48) rfl ?_); refine goesL_ (some 66) rfl rfl Try.func48 (by kernel_rfl) rfl #[.pointer (some ⟨gy, 0, none⟩)] rfl (by (try simp only [List.map_toArray, List.map_cons, List.map_nil]); first | done | rfl | (simp only [List.length_drop, List.length_take]; rfl)) ?_; (with_reducible refine (Rr.peek_any gy l1 ib pb d true w _ HT.out.hb HY.out AD.out).mono ?_); rintro e w_ ⟨rfl, hb⟩; refine ⟨_, rfl, ?_⟩; have n0_ := Aside0.mk ((hb.block _ (blk_lt BC.out)).trans BC.out); have n1_ := Aside0.mk (HX.out.below hb); have n2_ := Aside0.mk (HY.out.below hb); have n3_ := Aside0.mk (HT.out.below hb); clear BC HX HY HT; have BC := n0_; have HX := n1_; have HY := n2_; have HT := n3_; clear n0_ n1_ n2_ n3_; clear hb) | ((with_reducible refine gate_dst (N := 21) rfl ?_); refine box_event ?hg (N := 21) ?hd (cs := #[.int .i64 0, .int .i64 0, .string (⟨#[]⟩ : ByteArray)]) (t := 37) ?hr ?_; (case hd => rfl); (case hg => rfl); (case hr => first | (go_simp; done) | (go_simp; rfl)); intro gd hg wb_ hbox hb; have BD := Aside0.mk hbox; have Ggd := Aside0.mk (Nat.le_of_eq hg.symm : w_.heap.size ≤ gd); have HW := Aside0.mk hb; clear hb hbox hg; obtain ⟨cz0, cz1, cz2, fz0, fz1, fz2⟩ := Rd.three BD.out))
             have BD1 : Aside0 ((((wb_.setCell ⟨gd, 0, none⟩ (.int .i64 d.f0)).setCell ⟨gd, 1, none⟩ (.int .i64 d.f1)).setCell ⟨gd, 2, none⟩ (.string d.f2)).heap[gd]? = some (.cells #[.int .i64 d.f0, .int .i64 d.f1, .string d.f2] 37 (0, 0))) := ⟨Rd.set3 BD.out⟩
             have hb : Below w_.heap.size w_ (((wb_.setCell ⟨gd, 0, none⟩ (.int .i64 d.f0)).setCell ⟨gd, 1, none⟩ (.int .i64 d.f1)).setCell ⟨gd, 2, none⟩ (.string d.f2)) := ((HW.out.setCell Ggd.out _).setCell Ggd.out _).setCell Ggd.out _
             have BC1 := Aside0.mk ((hb.block _ (blk_lt BC.out)).trans BC.out)
             have HX1 := Aside0.mk (HX.out.below hb)
             have HY1 := Aside0.mk (HY.out.below hb)
             have HT1 := Aside0.mk (HT.out.below hb)
             have NPgd : ¬ SP gd := fun h_ => by have := (HT.out.dp _ h_).2.2.2; have := Ggd.out; omega
             have NQgd : ¬ SQ gd := fun h_ => by have := (HT.out.dq _ h_).2.2; have := Ggd.out; omega
             have nxgd : gx ≠ gd := fun e_ => by have := HT.out.lx; have := Ggd.out; omega
             have nygd : gy ≠ gd := fun e_ => by have := HT.out.ly; have := Ggd.out; omega
             have NPgd := Aside0.mk NPgd
             have NQgd := Aside0.mk NQgd
             have nxgd := Aside0.mk nxgd
             have nygd := Aside0.mk nygd
             clear hb
             generalize (((wb_.setCell ⟨gd, 0, none⟩ (.int .i64 d.f0)).setCell ⟨gd, 1, none⟩ (.int .i64 d.f1)).setCell ⟨gd, 2, none⟩ (.string d.f2)) = wB at BD1 BC1 HX1 HY1 HT1 ⊢
             clear BD BC HX HY HT HW cz0 cz1 cz2 fz0 fz1 fz2
             have BD := BD1
             have BC := BC1
             have HX := HX1
             have HY := HY1
             have HT := HT1
             clear BD1 BC1 HX1 HY1 HT1
             obtain ⟨cp0, cp1, cp2, ep0, ep1, ep2⟩ := Rd.three BC.out
             obtain ⟨cq0, cq1, cq2, eq0, eq1, eq2⟩ := Rd.three BD.out
             have H := HH.out
             clear HH
             replace H := Option.bind_eq_some_iff.mp H; obtain ⟨⟨t, i2, p2⟩, AT1_, H⟩ := H; (try dsimp only at AT1_ H); have AT1 := Aside0.mk AT1_; clear AT1_
             replace H := Option.bind_eq_some_iff.mp H; obtain ⟨p', AP_, H⟩ := H; (try dsimp only at AP_ H); have AP := Aside0.mk AP_; clear AP_
             replace H := Option.bind_eq_some_iff.mp H; obtain ⟨q', AQ_, H⟩ := H; (try dsimp only at AQ_ H); have AQ := Aside0.mk AQ_; clear AQ_
             have H' := Aside0.mk H
             clear H BC BD
             go_upto_region 22 with (first | ((with_reducible refine gate_callee (f := 50) rfl ?_); refine goesL_ (some 127) rfl rfl Try.func50 (by kernel_rfl) rfl #[.pointer (some ⟨gx, 0, none⟩), .int .i64 4096] rfl (by (try simp only [List.map_toArray, List.map_cons, List.map_nil]); first | done | rfl | (simp only [List.length_drop, List.length_take]; rfl)) ?_; (with_reducible refine (Rr.take_any gx l0 ia pa 4096 t i2 p2 w _ HT.out.hb HX.out AT1.out).mono ?_); rintro e w_ ⟨rfl, hx, hb, hkp⟩; refine ⟨_, rfl, ?_⟩; have n0_ := Aside0.mk (hx); have n1_ := Aside0.mk (HY.out.kept hkp (fun e_ => NXY.out e_.symm)); have n2_ := Aside0.mk (HT.out.keptX hb hkp); clear HX HY HT; have HX := n0_; have HY := n1_; have HT := n2_; clear n0_ n1_ n2_; clear hx hb hkp) | ((with_reducible refine gate_dst (N := 25) rfl ?_); refine box_event ?hg (N := 25) ?hd (cs := #[.int .i64 0, .int .i64 0, .string (⟨#[]⟩ : ByteArray)]) (t := 37) ?hr ?_; (case hd => rfl); (case hg => rfl); (case hr => first | (go_simp; done) | (go_simp; rfl)); intro gt hg wb_ hbox hb; have BT := Aside0.mk hbox; have Ggt := Aside0.mk (Nat.le_of_eq hg.symm : w_.heap.size ≤ gt); have HW := Aside0.mk hb; clear hb hbox hg; obtain ⟨cz0, cz1, cz2, fz0, fz1, fz2⟩ := Rd.three BT.out))
             have BT1 : Aside0 ((((wb_.setCell ⟨gt, 0, none⟩ (.int .i64 t.f0)).setCell ⟨gt, 1, none⟩ (.int .i64 t.f1)).setCell ⟨gt, 2, none⟩ (.string t.f2)).heap[gt]? = some (.cells #[.int .i64 t.f0, .int .i64 t.f1, .string t.f2] 37 (0, 0))) := ⟨Rd.set3 BT.out⟩
             have hb : Below w_.heap.size w_ (((wb_.setCell ⟨gt, 0, none⟩ (.int .i64 t.f0)).setCell ⟨gt, 1, none⟩ (.int .i64 t.f1)).setCell ⟨gt, 2, none⟩ (.string t.f2)) := ((HW.out.setCell Ggt.out _).setCell Ggt.out _).setCell Ggt.out _
             have HX1 := Aside0.mk (HX.out.below hb)
             have HY1 := Aside0.mk (HY.out.below hb)
             have HT1 := Aside0.mk (HT.out.below hb)
             have NPgt : ¬ SP gt := fun h_ => by have := (HT.out.dp _ h_).2.2.2; have := Ggt.out; omega
             have NQgt : ¬ SQ gt := fun h_ => by have := (HT.out.dq _ h_).2.2; have := Ggt.out; omega
             have nxgt : gx ≠ gt := fun e_ => by have := HT.out.lx; have := Ggt.out; omega
             have nygt : gy ≠ gt := fun e_ => by have := HT.out.ly; have := Ggt.out; omega
             have NPgt := Aside0.mk NPgt
             have NQgt := Aside0.mk NQgt
             have nxgt := Aside0.mk nxgt
             have nygt := Aside0.mk nygt
             clear hb
             generalize (((wb_.setCell ⟨gt, 0, none⟩ (.int .i64 t.f0)).setCell ⟨gt, 1, none⟩ (.int .i64 t.f1)).setCell ⟨gt, 2, none⟩ (.string t.f2)) = wC at BT1 HX1 HY1 HT1 ⊢
             clear BT HX HY HT HW cz0 cz1 cz2 fz0 fz1 fz2
             have BT := BT1
             have HX := HX1
             have HY := HY1
             have HT := HT1
             clear BT1 HX1 HY1 HT1
             obtain ⟨ct0, ct1, ct2, et0, et1, et2⟩ := Rd.three BT.out
             go_wp2_with (first | ((with_reducible refine gate_callee (f := 51) rfl ?_); refine goesL_ (some 130) rfl rfl Try.func51 (by kernel_rfl) rfl #[u17, .agg #[.int .i64 t.f0, .int .i64 t.f1, .string t.f2]] rfl (by (try simp only [List.map_toArray, List.map_cons, List.map_nil]); first | done | rfl | (simp only [List.length_drop, List.length_take]; rfl)) ?_; (with_reducible refine (minuetref1_Add.calls k1 _ _ p t.f0 t.f1 t.f2 p' w _ HT.out.hb HT.out.hp AP.out).mono ?_); rintro e w_ ⟨vP_, rfl, ho0, hb, hkp⟩; refine ⟨_, rfl, ?_⟩; have q_ := Aside0.mk (blk_kept BT.out hkp NPgt.out); clear BT ct0 ct1 ct2 et0 et1 et2; have BT := q_; clear q_; obtain ⟨ct0, ct1, ct2, et0, et1, et2⟩ := Rd.three BT.out; have n0_ := Aside0.mk (HX.out.kept hkp HT.out.nX.1); have n1_ := Aside0.mk (HY.out.kept hkp HT.out.nX.2.1); have n2_ := Aside0.mk (HT.out.addP ho0 hb hkp); clear HX HY HT; have HX := n0_; have HY := n1_; have HT := n2_; clear n0_ n1_ n2_; clear ho0 hb hkp) | ((with_reducible refine gate_callee (f := 51) rfl ?_); refine goesL_ (some 136) rfl rfl Try.func51 (by kernel_rfl) rfl #[u18, .agg #[.int .i64 0, .int .i64 (t.f2.size : Int), .string (⟨#[]⟩ : ByteArray)]] rfl (by (try simp only [List.map_toArray, List.map_cons, List.map_nil]); first | done | rfl | (simp only [List.length_drop, List.length_take]; rfl)) ?_; (with_reducible refine (minuetref1_Add.calls k1 _ _ q 0 (t.f2.size : Int) (⟨#[]⟩ : ByteArray) q' w _ HT.out.hb HT.out.hq AQ.out).mono ?_); rintro e w_ ⟨vQ_, rfl, ho0, hb, hkp⟩; refine ⟨_, rfl, ?_⟩; have n0_ := Aside0.mk (HX.out.kept hkp HT.out.nX.2.2.1); have n1_ := Aside0.mk (HY.out.kept hkp HT.out.nX.2.2.2); have n2_ := Aside0.mk (HT.out.addQ ho0 hb hkp); clear HX HY HT; have HX := n0_; have HY := n1_; have HT := n2_; clear n0_ n1_ n2_; clear ho0 hb hkp))
             all_goals
              go_roundg k1
              case measure => have := HK1.out; omega
              case rel => exact ⟨_, _, _, _, _, _, _, _, H', ⟨by have := HK1.out; omega⟩, HX, HY, HT⟩
           · have b2 : (d.f0 == 1) = false := beq_eq_false_iff_ne.mpr kd_
             clear kd_
             have HH := Aside0.mk H
             clear H
             go_upto_region 8 with (first | ((with_reducible refine gate_callee (f := 48) rfl ?_); refine goesL_ (some 61) rfl rfl Try.func48 (by kernel_rfl) rfl #[.pointer (some ⟨gx, 0, none⟩)] rfl (by (try simp only [List.map_toArray, List.map_cons, List.map_nil]); first | done | rfl | (simp only [List.length_drop, List.length_take]; rfl)) ?_; (with_reducible refine (Rr.peek_any gx l0 ia pa c true w _ HT.out.hb HX.out AC.out).mono ?_); rintro e w_ ⟨rfl, hb⟩; refine ⟨_, rfl, ?_⟩; have n0_ := Aside0.mk (HX.out.below hb); have n1_ := Aside0.mk (HY.out.below hb); have n2_ := Aside0.mk (HT.out.below hb); clear HX HY HT; have HX := n0_; have HY := n1_; have HT := n2_; clear n0_ n1_ n2_; clear hb) | ((with_reducible refine gate_dst (N := 19) rfl ?_); refine box_event ?hg (N := 19) ?hd (cs := #[.int .i64 0, .int .i64 0, .string (⟨#[]⟩ : ByteArray)]) (t := 37) ?hr ?_; (case hd => rfl); (case hg => rfl); (case hr => first | (go_simp; done) | (go_simp; rfl)); intro gc hg wb_ hbox hb; have BC := Aside0.mk hbox; have Ggc := Aside0.mk (Nat.le_of_eq hg.symm : w_.heap.size ≤ gc); have HW := Aside0.mk hb; clear hb hbox hg; obtain ⟨cz0, cz1, cz2, fz0, fz1, fz2⟩ := Rd.three BC.out))
             have BC1 : Aside0 ((((wb_.setCell ⟨gc, 0, none⟩ (.int .i64 c.f0)).setCell ⟨gc, 1, none⟩ (.int .i64 c.f1)).setCell ⟨gc, 2, none⟩ (.string c.f2)).heap[gc]? = some (.cells #[.int .i64 c.f0, .int .i64 c.f1, .string c.f2] 37 (0, 0))) := ⟨Rd.set3 BC.out⟩
             have hb : Below w_.heap.size w_ (((wb_.setCell ⟨gc, 0, none⟩ (.int .i64 c.f0)).setCell ⟨gc, 1, none⟩ (.int .i64 c.f1)).setCell ⟨gc, 2, none⟩ (.string c.f2)) := ((HW.out.setCell Ggc.out _).setCell Ggc.out _).setCell Ggc.out _
             have HX1 := Aside0.mk (HX.out.below hb)
             have HY1 := Aside0.mk (HY.out.below hb)
             have HT1 := Aside0.mk (HT.out.below hb)
             have NPgc : ¬ SP gc := fun h_ => by have := (HT.out.dp _ h_).2.2.2; have := Ggc.out; omega
             have NQgc : ¬ SQ gc := fun h_ => by have := (HT.out.dq _ h_).2.2; have := Ggc.out; omega
             have nxgc : gx ≠ gc := fun e_ => by have := HT.out.lx; have := Ggc.out; omega
             have nygc : gy ≠ gc := fun e_ => by have := HT.out.ly; have := Ggc.out; omega
             have NPgc := Aside0.mk NPgc
             have NQgc := Aside0.mk NQgc
             have nxgc := Aside0.mk nxgc
             have nygc := Aside0.mk nygc
             clear hb
             generalize (((wb_.setCell ⟨gc, 0, none⟩ (.int .i64 c.f0)).setCell ⟨gc, 1, none⟩ (.int .i64 c.f1)).setCell ⟨gc, 2, none⟩ (.string c.f2)) = wA at BC1 HX1 HY1 HT1 ⊢
             clear BC HX HY HT HW cz0 cz1 cz2 fz0 fz1 fz2
             have BC := BC1
             have HX := HX1
             have HY := HY1
             have HT := HT1
             clear BC1 HX1 HY1 HT1
             go_upto_region 9 with (first | ((with_reducible refine gate_callee (f := 48) rfl ?_); refine goesL_ (some 66) rfl rfl Try.func48 (by kernel_rfl) rfl #[.pointer (some ⟨gy, 0, none⟩)] rfl (by (try simp only [List.map_toArray, List.map_cons, List.map_nil]); first | done | rfl | (simp only [List.length_drop, List.length_take]; rfl)) ?_; (with_reducible refine (Rr.peek_any gy l1 ib pb d true w _ HT.out.hb HY.out AD.out).mono ?_); rintro e w_ ⟨rfl, hb⟩; refine ⟨_, rfl, ?_⟩; have n0_ := Aside0.mk ((hb.block _ (blk_lt BC.out)).trans BC.out); have n1_ := Aside0.mk (HX.out.below hb); have n2_ := Aside0.mk (HY.out.below hb); have n3_ := Aside0.mk (HT.out.below hb); clear BC HX HY HT; have BC := n0_; have HX := n1_; have HY := n2_; have HT := n3_; clear n0_ n1_ n2_ n3_; clear hb) | ((with_reducible refine gate_dst (N := 21) rfl ?_); refine box_event ?hg (N := 21) ?hd (cs := #[.int .i64 0, .int .i64 0, .string (⟨#[]⟩ : ByteArray)]) (t := 37) ?hr ?_; (case hd => rfl); (case hg => rfl); (case hr => first | (go_simp; done) | (go_simp; rfl)); intro gd hg wb_ hbox hb; have BD := Aside0.mk hbox; have Ggd := Aside0.mk (Nat.le_of_eq hg.symm : w_.heap.size ≤ gd); have HW := Aside0.mk hb; clear hb hbox hg; obtain ⟨cz0, cz1, cz2, fz0, fz1, fz2⟩ := Rd.three BD.out))
             have BD1 : Aside0 ((((wb_.setCell ⟨gd, 0, none⟩ (.int .i64 d.f0)).setCell ⟨gd, 1, none⟩ (.int .i64 d.f1)).setCell ⟨gd, 2, none⟩ (.string d.f2)).heap[gd]? = some (.cells #[.int .i64 d.f0, .int .i64 d.f1, .string d.f2] 37 (0, 0))) := ⟨Rd.set3 BD.out⟩
             have hb : Below w_.heap.size w_ (((wb_.setCell ⟨gd, 0, none⟩ (.int .i64 d.f0)).setCell ⟨gd, 1, none⟩ (.int .i64 d.f1)).setCell ⟨gd, 2, none⟩ (.string d.f2)) := ((HW.out.setCell Ggd.out _).setCell Ggd.out _).setCell Ggd.out _
             have BC1 := Aside0.mk ((hb.block _ (blk_lt BC.out)).trans BC.out)
             have HX1 := Aside0.mk (HX.out.below hb)
             have HY1 := Aside0.mk (HY.out.below hb)
             have HT1 := Aside0.mk (HT.out.below hb)
             have NPgd : ¬ SP gd := fun h_ => by have := (HT.out.dp _ h_).2.2.2; have := Ggd.out; omega
             have NQgd : ¬ SQ gd := fun h_ => by have := (HT.out.dq _ h_).2.2; have := Ggd.out; omega
             have nxgd : gx ≠ gd := fun e_ => by have := HT.out.lx; have := Ggd.out; omega
             have nygd : gy ≠ gd := fun e_ => by have := HT.out.ly; have := Ggd.out; omega
             have NPgd := Aside0.mk NPgd
             have NQgd := Aside0.mk NQgd
             have nxgd := Aside0.mk nxgd
             have nygd := Aside0.mk nygd
             clear hb
             generalize (((wb_.setCell ⟨gd, 0, none⟩ (.int .i64 d.f0)).setCell ⟨gd, 1, none⟩ (.int .i64 d.f1)).setCell ⟨gd, 2, none⟩ (.string d.f2)) = wB at BD1 BC1 HX1 HY1 HT1 ⊢
             clear BD BC HX HY HT HW cz0 cz1 cz2 fz0 fz1 fz2
             have BD := BD1
             have BC := BC1
             have HX := HX1
             have HY := HY1
             have HT := HT1
             clear BD1 BC1 HX1 HY1 HT1
             obtain ⟨cp0, cp1, cp2, ep0, ep1, ep2⟩ := Rd.three BC.out
             obtain ⟨cq0, cq1, cq2, eq0, eq1, eq2⟩ := Rd.three BD.out
             have H := HH.out
             clear HH
             replace H := Option.bind_eq_some_iff.mp H; obtain ⟨⟨t, i2, p2⟩, AT1_, H⟩ := H; (try dsimp only at AT1_ H); have AT1 := Aside0.mk AT1_; clear AT1_
             replace H := Option.bind_eq_some_iff.mp H; obtain ⟨p', AP_, H⟩ := H; (try dsimp only at AP_ H); have AP := Aside0.mk AP_; clear AP_
             replace H := Option.bind_eq_some_iff.mp H; obtain ⟨q', AQ_, H⟩ := H; (try dsimp only at AQ_ H); have AQ := Aside0.mk AQ_; clear AQ_
             have H' := Aside0.mk H
             clear H BC BD
             go_upto_region 22 with (first | ((with_reducible refine gate_callee (f := 50) rfl ?_); refine goesL_ (some 127) rfl rfl Try.func50 (by kernel_rfl) rfl #[.pointer (some ⟨gx, 0, none⟩), .int .i64 4096] rfl (by (try simp only [List.map_toArray, List.map_cons, List.map_nil]); first | done | rfl | (simp only [List.length_drop, List.length_take]; rfl)) ?_; (with_reducible refine (Rr.take_any gx l0 ia pa 4096 t i2 p2 w _ HT.out.hb HX.out AT1.out).mono ?_); rintro e w_ ⟨rfl, hx, hb, hkp⟩; refine ⟨_, rfl, ?_⟩; have n0_ := Aside0.mk (hx); have n1_ := Aside0.mk (HY.out.kept hkp (fun e_ => NXY.out e_.symm)); have n2_ := Aside0.mk (HT.out.keptX hb hkp); clear HX HY HT; have HX := n0_; have HY := n1_; have HT := n2_; clear n0_ n1_ n2_; clear hx hb hkp) | ((with_reducible refine gate_dst (N := 25) rfl ?_); refine box_event ?hg (N := 25) ?hd (cs := #[.int .i64 0, .int .i64 0, .string (⟨#[]⟩ : ByteArray)]) (t := 37) ?hr ?_; (case hd => rfl); (case hg => rfl); (case hr => first | (go_simp; done) | (go_simp; rfl)); intro gt hg wb_ hbox hb; have BT := Aside0.mk hbox; have Ggt := Aside0.mk (Nat.le_of_eq hg.symm : w_.heap.size ≤ gt); have HW := Aside0.mk hb; clear hb hbox hg; obtain ⟨cz0, cz1, cz2, fz0, fz1, fz2⟩ := Rd.three BT.out))
             have BT1 : Aside0 ((((wb_.setCell ⟨gt, 0, none⟩ (.int .i64 t.f0)).setCell ⟨gt, 1, none⟩ (.int .i64 t.f1)).setCell ⟨gt, 2, none⟩ (.string t.f2)).heap[gt]? = some (.cells #[.int .i64 t.f0, .int .i64 t.f1, .string t.f2] 37 (0, 0))) := ⟨Rd.set3 BT.out⟩
             have hb : Below w_.heap.size w_ (((wb_.setCell ⟨gt, 0, none⟩ (.int .i64 t.f0)).setCell ⟨gt, 1, none⟩ (.int .i64 t.f1)).setCell ⟨gt, 2, none⟩ (.string t.f2)) := ((HW.out.setCell Ggt.out _).setCell Ggt.out _).setCell Ggt.out _
             have HX1 := Aside0.mk (HX.out.below hb)
             have HY1 := Aside0.mk (HY.out.below hb)
             have HT1 := Aside0.mk (HT.out.below hb)
             have NPgt : ¬ SP gt := fun h_ => by have := (HT.out.dp _ h_).2.2.2; have := Ggt.out; omega
             have NQgt : ¬ SQ gt := fun h_ => by have := (HT.out.dq _ h_).2.2; have := Ggt.out; omega
             have nxgt : gx ≠ gt := fun e_ => by have := HT.out.lx; have := Ggt.out; omega
             have nygt : gy ≠ gt := fun e_ => by have := HT.out.ly; have := Ggt.out; omega
             have NPgt := Aside0.mk NPgt
             have NQgt := Aside0.mk NQgt
             have nxgt := Aside0.mk nxgt
             have nygt := Aside0.mk nygt
             clear hb
             generalize (((wb_.setCell ⟨gt, 0, none⟩ (.int .i64 t.f0)).setCell ⟨gt, 1, none⟩ (.int .i64 t.f1)).setCell ⟨gt, 2, none⟩ (.string t.f2)) = wC at BT1 HX1 HY1 HT1 ⊢
             clear BT HX HY HT HW cz0 cz1 cz2 fz0 fz1 fz2
             have BT := BT1
             have HX := HX1
             have HY := HY1
             have HT := HT1
             clear BT1 HX1 HY1 HT1
             obtain ⟨ct0, ct1, ct2, et0, et1, et2⟩ := Rd.three BT.out
             go_wp2_with (first | ((with_reducible refine gate_callee (f := 51) rfl ?_); refine goesL_ (some 130) rfl rfl Try.func51 (by kernel_rfl) rfl #[u17, .agg #[.int .i64 t.f0, .int .i64 t.f1, .string t.f2]] rfl (by (try simp only [List.map_toArray, List.map_cons, List.map_nil]); first | done | rfl | (simp only [List.length_drop, List.length_take]; rfl)) ?_; (with_reducible refine (minuetref1_Add.calls k1 _ _ p t.f0 t.f1 t.f2 p' w _ HT.out.hb HT.out.hp AP.out).mono ?_); rintro e w_ ⟨vP_, rfl, ho0, hb, hkp⟩; refine ⟨_, rfl, ?_⟩; have q_ := Aside0.mk (blk_kept BT.out hkp NPgt.out); clear BT ct0 ct1 ct2 et0 et1 et2; have BT := q_; clear q_; obtain ⟨ct0, ct1, ct2, et0, et1, et2⟩ := Rd.three BT.out; have n0_ := Aside0.mk (HX.out.kept hkp HT.out.nX.1); have n1_ := Aside0.mk (HY.out.kept hkp HT.out.nX.2.1); have n2_ := Aside0.mk (HT.out.addP ho0 hb hkp); clear HX HY HT; have HX := n0_; have HY := n1_; have HT := n2_; clear n0_ n1_ n2_; clear ho0 hb hkp) | ((with_reducible refine gate_callee (f := 51) rfl ?_); refine goesL_ (some 136) rfl rfl Try.func51 (by kernel_rfl) rfl #[u18, .agg #[.int .i64 0, .int .i64 (t.f2.size : Int), .string (⟨#[]⟩ : ByteArray)]] rfl (by (try simp only [List.map_toArray, List.map_cons, List.map_nil]); first | done | rfl | (simp only [List.length_drop, List.length_take]; rfl)) ?_; (with_reducible refine (minuetref1_Add.calls k1 _ _ q 0 (t.f2.size : Int) (⟨#[]⟩ : ByteArray) q' w _ HT.out.hb HT.out.hq AQ.out).mono ?_); rintro e w_ ⟨vQ_, rfl, ho0, hb, hkp⟩; refine ⟨_, rfl, ?_⟩; have n0_ := Aside0.mk (HX.out.kept hkp HT.out.nX.2.2.1); have n1_ := Aside0.mk (HY.out.kept hkp HT.out.nX.2.2.2); have n2_ := Aside0.mk (HT.out.addQ ho0 hb hkp); clear HX HY HT; have HX := n0_; have HY := n1_; have HT := n2_; clear n0_ n1_ n2_; clear ho0 hb hkp))
             all_goals
              go_roundg k1
              case measure => have := HK1.out; omega
              case rel => exact ⟨_, _, _, _, _, _, _, _, H', ⟨by have := HK1.out; omega⟩, HX, HY, HT⟩
          | false =>
           have b2 : (d.f0 == 1) = false := beq_eq_false_iff_ne.mpr (fun h_ => c3_.elim (fun x_ => by cases x_) (fun x_ => x_ ⟨rfl, h_⟩))
           clear c1_ c2_ c3_
           have HH := Aside0.mk H
           clear H
           go_upto_region 8 with (first | ((with_reducible refine gate_callee (f := 48) rfl ?_); refine goesL_ (some 61) rfl rfl Try.func48 (by kernel_rfl) rfl #[.pointer (some ⟨gx, 0, none⟩)] rfl (by (try simp only [List.map_toArray, List.map_cons, List.map_nil]); first | done | rfl | (simp only [List.length_drop, List.length_take]; rfl)) ?_; (with_reducible refine (Rr.peek_any gx l0 ia pa c true w _ HT.out.hb HX.out AC.out).mono ?_); rintro e w_ ⟨rfl, hb⟩; refine ⟨_, rfl, ?_⟩; have n0_ := Aside0.mk (HX.out.below hb); have n1_ := Aside0.mk (HY.out.below hb); have n2_ := Aside0.mk (HT.out.below hb); clear HX HY HT; have HX := n0_; have HY := n1_; have HT := n2_; clear n0_ n1_ n2_; clear hb) | ((with_reducible refine gate_dst (N := 19) rfl ?_); refine box_event ?hg (N := 19) ?hd (cs := #[.int .i64 0, .int .i64 0, .string (⟨#[]⟩ : ByteArray)]) (t := 37) ?hr ?_; (case hd => rfl); (case hg => rfl); (case hr => first | (go_simp; done) | (go_simp; rfl)); intro gc hg wb_ hbox hb; have BC := Aside0.mk hbox; have Ggc := Aside0.mk (Nat.le_of_eq hg.symm : w_.heap.size ≤ gc); have HW := Aside0.mk hb; clear hb hbox hg; obtain ⟨cz0, cz1, cz2, fz0, fz1, fz2⟩ := Rd.three BC.out))
           have BC1 : Aside0 ((((wb_.setCell ⟨gc, 0, none⟩ (.int .i64 c.f0)).setCell ⟨gc, 1, none⟩ (.int .i64 c.f1)).setCell ⟨gc, 2, none⟩ (.string c.f2)).heap[gc]? = some (.cells #[.int .i64 c.f0, .int .i64 c.f1, .string c.f2] 37 (0, 0))) := ⟨Rd.set3 BC.out⟩
           have hb : Below w_.heap.size w_ (((wb_.setCell ⟨gc, 0, none⟩ (.int .i64 c.f0)).setCell ⟨gc, 1, none⟩ (.int .i64 c.f1)).setCell ⟨gc, 2, none⟩ (.string c.f2)) := ((HW.out.setCell Ggc.out _).setCell Ggc.out _).setCell Ggc.out _
           have HX1 := Aside0.mk (HX.out.below hb)
           have HY1 := Aside0.mk (HY.out.below hb)
           have HT1 := Aside0.mk (HT.out.below hb)
           have NPgc : ¬ SP gc := fun h_ => by have := (HT.out.dp _ h_).2.2.2; have := Ggc.out; omega
           have NQgc : ¬ SQ gc := fun h_ => by have := (HT.out.dq _ h_).2.2; have := Ggc.out; omega
           have nxgc : gx ≠ gc := fun e_ => by have := HT.out.lx; have := Ggc.out; omega
           have nygc : gy ≠ gc := fun e_ => by have := HT.out.ly; have := Ggc.out; omega
           have NPgc := Aside0.mk NPgc
           have NQgc := Aside0.mk NQgc
           have nxgc := Aside0.mk nxgc
           have nygc := Aside0.mk nygc
           clear hb
           generalize (((wb_.setCell ⟨gc, 0, none⟩ (.int .i64 c.f0)).setCell ⟨gc, 1, none⟩ (.int .i64 c.f1)).setCell ⟨gc, 2, none⟩ (.string c.f2)) = wA at BC1 HX1 HY1 HT1 ⊢
           clear BC HX HY HT HW cz0 cz1 cz2 fz0 fz1 fz2
           have BC := BC1
           have HX := HX1
           have HY := HY1
           have HT := HT1
           clear BC1 HX1 HY1 HT1
           go_upto_region 9 with (first | ((with_reducible refine gate_callee (f := 48) rfl ?_); refine goesL_ (some 66) rfl rfl Try.func48 (by kernel_rfl) rfl #[.pointer (some ⟨gy, 0, none⟩)] rfl (by (try simp only [List.map_toArray, List.map_cons, List.map_nil]); first | done | rfl | (simp only [List.length_drop, List.length_take]; rfl)) ?_; (with_reducible refine (Rr.peek_any gy l1 ib pb d true w _ HT.out.hb HY.out AD.out).mono ?_); rintro e w_ ⟨rfl, hb⟩; refine ⟨_, rfl, ?_⟩; have n0_ := Aside0.mk ((hb.block _ (blk_lt BC.out)).trans BC.out); have n1_ := Aside0.mk (HX.out.below hb); have n2_ := Aside0.mk (HY.out.below hb); have n3_ := Aside0.mk (HT.out.below hb); clear BC HX HY HT; have BC := n0_; have HX := n1_; have HY := n2_; have HT := n3_; clear n0_ n1_ n2_ n3_; clear hb) | ((with_reducible refine gate_dst (N := 21) rfl ?_); refine box_event ?hg (N := 21) ?hd (cs := #[.int .i64 0, .int .i64 0, .string (⟨#[]⟩ : ByteArray)]) (t := 37) ?hr ?_; (case hd => rfl); (case hg => rfl); (case hr => first | (go_simp; done) | (go_simp; rfl)); intro gd hg wb_ hbox hb; have BD := Aside0.mk hbox; have Ggd := Aside0.mk (Nat.le_of_eq hg.symm : w_.heap.size ≤ gd); have HW := Aside0.mk hb; clear hb hbox hg; obtain ⟨cz0, cz1, cz2, fz0, fz1, fz2⟩ := Rd.three BD.out))
           have BD1 : Aside0 ((((wb_.setCell ⟨gd, 0, none⟩ (.int .i64 d.f0)).setCell ⟨gd, 1, none⟩ (.int .i64 d.f1)).setCell ⟨gd, 2, none⟩ (.string d.f2)).heap[gd]? = some (.cells #[.int .i64 d.f0, .int .i64 d.f1, .string d.f2] 37 (0, 0))) := ⟨Rd.set3 BD.out⟩
           have hb : Below w_.heap.size w_ (((wb_.setCell ⟨gd, 0, none⟩ (.int .i64 d.f0)).setCell ⟨gd, 1, none⟩ (.int .i64 d.f1)).setCell ⟨gd, 2, none⟩ (.string d.f2)) := ((HW.out.setCell Ggd.out _).setCell Ggd.out _).setCell Ggd.out _
           have BC1 := Aside0.mk ((hb.block _ (blk_lt BC.out)).trans BC.out)
           have HX1 := Aside0.mk (HX.out.below hb)
           have HY1 := Aside0.mk (HY.out.below hb)
           have HT1 := Aside0.mk (HT.out.below hb)
           have NPgd : ¬ SP gd := fun h_ => by have := (HT.out.dp _ h_).2.2.2; have := Ggd.out; omega
           have NQgd : ¬ SQ gd := fun h_ => by have := (HT.out.dq _ h_).2.2; have := Ggd.out; omega
           have nxgd : gx ≠ gd := fun e_ => by have := HT.out.lx; have := Ggd.out; omega
           have nygd : gy ≠ gd := fun e_ => by have := HT.out.ly; have := Ggd.out; omega
           have NPgd := Aside0.mk NPgd
           have NQgd := Aside0.mk NQgd
           have nxgd := Aside0.mk nxgd
           have nygd := Aside0.mk nygd
           clear hb
           generalize (((wb_.setCell ⟨gd, 0, none⟩ (.int .i64 d.f0)).setCell ⟨gd, 1, none⟩ (.int .i64 d.f1)).setCell ⟨gd, 2, none⟩ (.string d.f2)) = wB at BD1 BC1 HX1 HY1 HT1 ⊢
           clear BD BC HX HY HT HW cz0 cz1 cz2 fz0 fz1 fz2
           have BD := BD1
           have BC := BC1
           have HX := HX1
           have HY := HY1
           have HT := HT1
           clear BD1 BC1 HX1 HY1 HT1
           obtain ⟨cp0, cp1, cp2, ep0, ep1, ep2⟩ := Rd.three BC.out
           obtain ⟨cq0, cq1, cq2, eq0, eq1, eq2⟩ := Rd.three BD.out
           have H := HH.out
           clear HH
           replace H := Option.bind_eq_some_iff.mp H; obtain ⟨⟨t, i2, p2⟩, AT1_, H⟩ := H; (try dsimp only at AT1_ H); have AT1 := Aside0.mk AT1_; clear AT1_
           replace H := Option.bind_eq_some_iff.mp H; obtain ⟨p', AP_, H⟩ := H; (try dsimp only at AP_ H); have AP := Aside0.mk AP_; clear AP_
           replace H := Option.bind_eq_some_iff.mp H; obtain ⟨q', AQ_, H⟩ := H; (try dsimp only at AQ_ H); have AQ := Aside0.mk AQ_; clear AQ_
           have H' := Aside0.mk H
           clear H BC BD
           go_upto_region 22 with (first | ((with_reducible refine gate_callee (f := 50) rfl ?_); refine goesL_ (some 127) rfl rfl Try.func50 (by kernel_rfl) rfl #[.pointer (some ⟨gx, 0, none⟩), .int .i64 4096] rfl (by (try simp only [List.map_toArray, List.map_cons, List.map_nil]); first | done | rfl | (simp only [List.length_drop, List.length_take]; rfl)) ?_; (with_reducible refine (Rr.take_any gx l0 ia pa 4096 t i2 p2 w _ HT.out.hb HX.out AT1.out).mono ?_); rintro e w_ ⟨rfl, hx, hb, hkp⟩; refine ⟨_, rfl, ?_⟩; have n0_ := Aside0.mk (hx); have n1_ := Aside0.mk (HY.out.kept hkp (fun e_ => NXY.out e_.symm)); have n2_ := Aside0.mk (HT.out.keptX hb hkp); clear HX HY HT; have HX := n0_; have HY := n1_; have HT := n2_; clear n0_ n1_ n2_; clear hx hb hkp) | ((with_reducible refine gate_dst (N := 25) rfl ?_); refine box_event ?hg (N := 25) ?hd (cs := #[.int .i64 0, .int .i64 0, .string (⟨#[]⟩ : ByteArray)]) (t := 37) ?hr ?_; (case hd => rfl); (case hg => rfl); (case hr => first | (go_simp; done) | (go_simp; rfl)); intro gt hg wb_ hbox hb; have BT := Aside0.mk hbox; have Ggt := Aside0.mk (Nat.le_of_eq hg.symm : w_.heap.size ≤ gt); have HW := Aside0.mk hb; clear hb hbox hg; obtain ⟨cz0, cz1, cz2, fz0, fz1, fz2⟩ := Rd.three BT.out))
           have BT1 : Aside0 ((((wb_.setCell ⟨gt, 0, none⟩ (.int .i64 t.f0)).setCell ⟨gt, 1, none⟩ (.int .i64 t.f1)).setCell ⟨gt, 2, none⟩ (.string t.f2)).heap[gt]? = some (.cells #[.int .i64 t.f0, .int .i64 t.f1, .string t.f2] 37 (0, 0))) := ⟨Rd.set3 BT.out⟩
           have hb : Below w_.heap.size w_ (((wb_.setCell ⟨gt, 0, none⟩ (.int .i64 t.f0)).setCell ⟨gt, 1, none⟩ (.int .i64 t.f1)).setCell ⟨gt, 2, none⟩ (.string t.f2)) := ((HW.out.setCell Ggt.out _).setCell Ggt.out _).setCell Ggt.out _
           have HX1 := Aside0.mk (HX.out.below hb)
           have HY1 := Aside0.mk (HY.out.below hb)
           have HT1 := Aside0.mk (HT.out.below hb)
           have NPgt : ¬ SP gt := fun h_ => by have := (HT.out.dp _ h_).2.2.2; have := Ggt.out; omega
           have NQgt : ¬ SQ gt := fun h_ => by have := (HT.out.dq _ h_).2.2; have := Ggt.out; omega
           have nxgt : gx ≠ gt := fun e_ => by have := HT.out.lx; have := Ggt.out; omega
           have nygt : gy ≠ gt := fun e_ => by have := HT.out.ly; have := Ggt.out; omega
           have NPgt := Aside0.mk NPgt
           have NQgt := Aside0.mk NQgt
           have nxgt := Aside0.mk nxgt
           have nygt := Aside0.mk nygt
           clear hb
           generalize (((wb_.setCell ⟨gt, 0, none⟩ (.int .i64 t.f0)).setCell ⟨gt, 1, none⟩ (.int .i64 t.f1)).setCell ⟨gt, 2, none⟩ (.string t.f2)) = wC at BT1 HX1 HY1 HT1 ⊢
           clear BT HX HY HT HW cz0 cz1 cz2 fz0 fz1 fz2
           have BT := BT1
           have HX := HX1
           have HY := HY1
           have HT := HT1
           clear BT1 HX1 HY1 HT1
           obtain ⟨ct0, ct1, ct2, et0, et1, et2⟩ := Rd.three BT.out
           go_wp2_with (first | ((with_reducible refine gate_callee (f := 51) rfl ?_); refine goesL_ (some 130) rfl rfl Try.func51 (by kernel_rfl) rfl #[u17, .agg #[.int .i64 t.f0, .int .i64 t.f1, .string t.f2]] rfl (by (try simp only [List.map_toArray, List.map_cons, List.map_nil]); first | done | rfl | (simp only [List.length_drop, List.length_take]; rfl)) ?_; (with_reducible refine (minuetref1_Add.calls k1 _ _ p t.f0 t.f1 t.f2 p' w _ HT.out.hb HT.out.hp AP.out).mono ?_); rintro e w_ ⟨vP_, rfl, ho0, hb, hkp⟩; refine ⟨_, rfl, ?_⟩; have q_ := Aside0.mk (blk_kept BT.out hkp NPgt.out); clear BT ct0 ct1 ct2 et0 et1 et2; have BT := q_; clear q_; obtain ⟨ct0, ct1, ct2, et0, et1, et2⟩ := Rd.three BT.out; have n0_ := Aside0.mk (HX.out.kept hkp HT.out.nX.1); have n1_ := Aside0.mk (HY.out.kept hkp HT.out.nX.2.1); have n2_ := Aside0.mk (HT.out.addP ho0 hb hkp); clear HX HY HT; have HX := n0_; have HY := n1_; have HT := n2_; clear n0_ n1_ n2_; clear ho0 hb hkp) | ((with_reducible refine gate_callee (f := 51) rfl ?_); refine goesL_ (some 136) rfl rfl Try.func51 (by kernel_rfl) rfl #[u18, .agg #[.int .i64 0, .int .i64 (t.f2.size : Int), .string (⟨#[]⟩ : ByteArray)]] rfl (by (try simp only [List.map_toArray, List.map_cons, List.map_nil]); first | done | rfl | (simp only [List.length_drop, List.length_take]; rfl)) ?_; (with_reducible refine (minuetref1_Add.calls k1 _ _ q 0 (t.f2.size : Int) (⟨#[]⟩ : ByteArray) q' w _ HT.out.hb HT.out.hq AQ.out).mono ?_); rintro e w_ ⟨vQ_, rfl, ho0, hb, hkp⟩; refine ⟨_, rfl, ?_⟩; have n0_ := Aside0.mk (HX.out.kept hkp HT.out.nX.2.2.1); have n1_ := Aside0.mk (HY.out.kept hkp HT.out.nX.2.2.2); have n2_ := Aside0.mk (HT.out.addQ ho0 hb hkp); clear HX HY HT; have HX := n0_; have HY := n1_; have HT := n2_; clear n0_ n1_ n2_; clear ho0 hb hkp))
           all_goals
            go_roundg k1
            case measure => have := HK1.out; omega
            case rel => exact ⟨_, _, _, _, _, _, _, _, H', ⟨by have := HK1.out; omega⟩, HX, HY, HT⟩
         | false =>
          clear c1_ c2_ c3_
          cases a2 with
          | true =>
           have HH := Aside0.mk H
           clear H
           go_upto_region 8 with (first | ((with_reducible refine gate_callee (f := 48) rfl ?_); refine goesL_ (some 61) rfl rfl Try.func48 (by kernel_rfl) rfl #[.pointer (some ⟨gx, 0, none⟩)] rfl (by (try simp only [List.map_toArray, List.map_cons, List.map_nil]); first | done | rfl | (simp only [List.length_drop, List.length_take]; rfl)) ?_; (with_reducible refine (Rr.peek_any gx l0 ia pa c true w _ HT.out.hb HX.out AC.out).mono ?_); rintro e w_ ⟨rfl, hb⟩; refine ⟨_, rfl, ?_⟩; have n0_ := Aside0.mk (HX.out.below hb); have n1_ := Aside0.mk (HY.out.below hb); have n2_ := Aside0.mk (HT.out.below hb); clear HX HY HT; have HX := n0_; have HY := n1_; have HT := n2_; clear n0_ n1_ n2_; clear hb) | ((with_reducible refine gate_dst (N := 19) rfl ?_); refine box_event ?hg (N := 19) ?hd (cs := #[.int .i64 0, .int .i64 0, .string (⟨#[]⟩ : ByteArray)]) (t := 37) ?hr ?_; (case hd => rfl); (case hg => rfl); (case hr => first | (go_simp; done) | (go_simp; rfl)); intro gc hg wb_ hbox hb; have BC := Aside0.mk hbox; have Ggc := Aside0.mk (Nat.le_of_eq hg.symm : w_.heap.size ≤ gc); have HW := Aside0.mk hb; clear hb hbox hg; obtain ⟨cz0, cz1, cz2, fz0, fz1, fz2⟩ := Rd.three BC.out))
           have BC1 : Aside0 ((((wb_.setCell ⟨gc, 0, none⟩ (.int .i64 c.f0)).setCell ⟨gc, 1, none⟩ (.int .i64 c.f1)).setCell ⟨gc, 2, none⟩ (.string c.f2)).heap[gc]? = some (.cells #[.int .i64 c.f0, .int .i64 c.f1, .string c.f2] 37 (0, 0))) := ⟨Rd.set3 BC.out⟩
           have hb : Below w_.heap.size w_ (((wb_.setCell ⟨gc, 0, none⟩ (.int .i64 c.f0)).setCell ⟨gc, 1, none⟩ (.int .i64 c.f1)).setCell ⟨gc, 2, none⟩ (.string c.f2)) := ((HW.out.setCell Ggc.out _).setCell Ggc.out _).setCell Ggc.out _
           have HX1 := Aside0.mk (HX.out.below hb)
           have HY1 := Aside0.mk (HY.out.below hb)
           have HT1 := Aside0.mk (HT.out.below hb)
           have NPgc : ¬ SP gc := fun h_ => by have := (HT.out.dp _ h_).2.2.2; have := Ggc.out; omega
           have NQgc : ¬ SQ gc := fun h_ => by have := (HT.out.dq _ h_).2.2; have := Ggc.out; omega
           have nxgc : gx ≠ gc := fun e_ => by have := HT.out.lx; have := Ggc.out; omega
           have nygc : gy ≠ gc := fun e_ => by have := HT.out.ly; have := Ggc.out; omega
           have NPgc := Aside0.mk NPgc
           have NQgc := Aside0.mk NQgc
           have nxgc := Aside0.mk nxgc
           have nygc := Aside0.mk nygc
           clear hb
           generalize (((wb_.setCell ⟨gc, 0, none⟩ (.int .i64 c.f0)).setCell ⟨gc, 1, none⟩ (.int .i64 c.f1)).setCell ⟨gc, 2, none⟩ (.string c.f2)) = wA at BC1 HX1 HY1 HT1 ⊢
           clear BC HX HY HT HW cz0 cz1 cz2 fz0 fz1 fz2
           have BC := BC1
           have HX := HX1
           have HY := HY1
           have HT := HT1
           clear BC1 HX1 HY1 HT1
           go_upto_region 9 with (first | ((with_reducible refine gate_callee (f := 48) rfl ?_); refine goesL_ (some 66) rfl rfl Try.func48 (by kernel_rfl) rfl #[.pointer (some ⟨gy, 0, none⟩)] rfl (by (try simp only [List.map_toArray, List.map_cons, List.map_nil]); first | done | rfl | (simp only [List.length_drop, List.length_take]; rfl)) ?_; (with_reducible refine (Rr.peek_any gy l1 ib pb d false w _ HT.out.hb HY.out AD.out).mono ?_); rintro e w_ ⟨rfl, hb⟩; refine ⟨_, rfl, ?_⟩; have n0_ := Aside0.mk ((hb.block _ (blk_lt BC.out)).trans BC.out); have n1_ := Aside0.mk (HX.out.below hb); have n2_ := Aside0.mk (HY.out.below hb); have n3_ := Aside0.mk (HT.out.below hb); clear BC HX HY HT; have BC := n0_; have HX := n1_; have HY := n2_; have HT := n3_; clear n0_ n1_ n2_ n3_; clear hb) | ((with_reducible refine gate_dst (N := 21) rfl ?_); refine box_event ?hg (N := 21) ?hd (cs := #[.int .i64 0, .int .i64 0, .string (⟨#[]⟩ : ByteArray)]) (t := 37) ?hr ?_; (case hd => rfl); (case hg => rfl); (case hr => first | (go_simp; done) | (go_simp; rfl)); intro gd hg wb_ hbox hb; have BD := Aside0.mk hbox; have Ggd := Aside0.mk (Nat.le_of_eq hg.symm : w_.heap.size ≤ gd); have HW := Aside0.mk hb; clear hb hbox hg; obtain ⟨cz0, cz1, cz2, fz0, fz1, fz2⟩ := Rd.three BD.out))
           have BD1 : Aside0 ((((wb_.setCell ⟨gd, 0, none⟩ (.int .i64 d.f0)).setCell ⟨gd, 1, none⟩ (.int .i64 d.f1)).setCell ⟨gd, 2, none⟩ (.string d.f2)).heap[gd]? = some (.cells #[.int .i64 d.f0, .int .i64 d.f1, .string d.f2] 37 (0, 0))) := ⟨Rd.set3 BD.out⟩
           have hb : Below w_.heap.size w_ (((wb_.setCell ⟨gd, 0, none⟩ (.int .i64 d.f0)).setCell ⟨gd, 1, none⟩ (.int .i64 d.f1)).setCell ⟨gd, 2, none⟩ (.string d.f2)) := ((HW.out.setCell Ggd.out _).setCell Ggd.out _).setCell Ggd.out _
           have BC1 := Aside0.mk ((hb.block _ (blk_lt BC.out)).trans BC.out)
           have HX1 := Aside0.mk (HX.out.below hb)
           have HY1 := Aside0.mk (HY.out.below hb)
           have HT1 := Aside0.mk (HT.out.below hb)
           have NPgd : ¬ SP gd := fun h_ => by have := (HT.out.dp _ h_).2.2.2; have := Ggd.out; omega
           have NQgd : ¬ SQ gd := fun h_ => by have := (HT.out.dq _ h_).2.2; have := Ggd.out; omega
           have nxgd : gx ≠ gd := fun e_ => by have := HT.out.lx; have := Ggd.out; omega
           have nygd : gy ≠ gd := fun e_ => by have := HT.out.ly; have := Ggd.out; omega
           have NPgd := Aside0.mk NPgd
           have NQgd := Aside0.mk NQgd
           have nxgd := Aside0.mk nxgd
           have nygd := Aside0.mk nygd
           clear hb
           generalize (((wb_.setCell ⟨gd, 0, none⟩ (.int .i64 d.f0)).setCell ⟨gd, 1, none⟩ (.int .i64 d.f1)).setCell ⟨gd, 2, none⟩ (.string d.f2)) = wB at BD1 BC1 HX1 HY1 HT1 ⊢
           clear BD BC HX HY HT HW cz0 cz1 cz2 fz0 fz1 fz2
           have BD := BD1
           have BC := BC1
           have HX := HX1
           have HY := HY1
           have HT := HT1
           clear BD1 BC1 HX1 HY1 HT1
           obtain ⟨cp0, cp1, cp2, ep0, ep1, ep2⟩ := Rd.three BC.out
           obtain ⟨cq0, cq1, cq2, eq0, eq1, eq2⟩ := Rd.three BD.out
           have H := HH.out
           clear HH
           replace H := Option.bind_eq_some_iff.mp H; obtain ⟨⟨t, i2, p2⟩, AT1_, H⟩ := H; (try dsimp only at AT1_ H); have AT1 := Aside0.mk AT1_; clear AT1_
           replace H := Option.bind_eq_some_iff.mp H; obtain ⟨p', AP_, H⟩ := H; (try dsimp only at AP_ H); have AP := Aside0.mk AP_; clear AP_
           replace H := Option.bind_eq_some_iff.mp H; obtain ⟨q', AQ_, H⟩ := H; (try dsimp only at AQ_ H); have AQ := Aside0.mk AQ_; clear AQ_
           have H' := Aside0.mk H
           clear H BC BD
           go_upto_region 22 with (first | ((with_reducible refine gate_callee (f := 50) rfl ?_); refine goesL_ (some 127) rfl rfl Try.func50 (by kernel_rfl) rfl #[.pointer (some ⟨gx, 0, none⟩), .int .i64 4096] rfl (by (try simp only [List.map_toArray, List.map_cons, List.map_nil]); first | done | rfl | (simp only [List.length_drop, List.length_take]; rfl)) ?_; (with_reducible refine (Rr.take_any gx l0 ia pa 4096 t i2 p2 w _ HT.out.hb HX.out AT1.out).mono ?_); rintro e w_ ⟨rfl, hx, hb, hkp⟩; refine ⟨_, rfl, ?_⟩; have n0_ := Aside0.mk (hx); have n1_ := Aside0.mk (HY.out.kept hkp (fun e_ => NXY.out e_.symm)); have n2_ := Aside0.mk (HT.out.keptX hb hkp); clear HX HY HT; have HX := n0_; have HY := n1_; have HT := n2_; clear n0_ n1_ n2_; clear hx hb hkp) | ((with_reducible refine gate_dst (N := 25) rfl ?_); refine box_event ?hg (N := 25) ?hd (cs := #[.int .i64 0, .int .i64 0, .string (⟨#[]⟩ : ByteArray)]) (t := 37) ?hr ?_; (case hd => rfl); (case hg => rfl); (case hr => first | (go_simp; done) | (go_simp; rfl)); intro gt hg wb_ hbox hb; have BT := Aside0.mk hbox; have Ggt := Aside0.mk (Nat.le_of_eq hg.symm : w_.heap.size ≤ gt); have HW := Aside0.mk hb; clear hb hbox hg; obtain ⟨cz0, cz1, cz2, fz0, fz1, fz2⟩ := Rd.three BT.out))
           have BT1 : Aside0 ((((wb_.setCell ⟨gt, 0, none⟩ (.int .i64 t.f0)).setCell ⟨gt, 1, none⟩ (.int .i64 t.f1)).setCell ⟨gt, 2, none⟩ (.string t.f2)).heap[gt]? = some (.cells #[.int .i64 t.f0, .int .i64 t.f1, .string t.f2] 37 (0, 0))) := ⟨Rd.set3 BT.out⟩
           have hb : Below w_.heap.size w_ (((wb_.setCell ⟨gt, 0, none⟩ (.int .i64 t.f0)).setCell ⟨gt, 1, none⟩ (.int .i64 t.f1)).setCell ⟨gt, 2, none⟩ (.string t.f2)) := ((HW.out.setCell Ggt.out _).setCell Ggt.out _).setCell Ggt.out _
           have HX1 := Aside0.mk (HX.out.below hb)
           have HY1 := Aside0.mk (HY.out.below hb)
           have HT1 := Aside0.mk (HT.out.below hb)
           have NPgt : ¬ SP gt := fun h_ => by have := (HT.out.dp _ h_).2.2.2; have := Ggt.out; omega
           have NQgt : ¬ SQ gt := fun h_ => by have := (HT.out.dq _ h_).2.2; have := Ggt.out; omega
           have nxgt : gx ≠ gt := fun e_ => by have := HT.out.lx; have := Ggt.out; omega
           have nygt : gy ≠ gt := fun e_ => by have := HT.out.ly; have := Ggt.out; omega
           have NPgt := Aside0.mk NPgt
           have NQgt := Aside0.mk NQgt
           have nxgt := Aside0.mk nxgt
           have nygt := Aside0.mk nygt
           clear hb
           generalize (((wb_.setCell ⟨gt, 0, none⟩ (.int .i64 t.f0)).setCell ⟨gt, 1, none⟩ (.int .i64 t.f1)).setCell ⟨gt, 2, none⟩ (.string t.f2)) = wC at BT1 HX1 HY1 HT1 ⊢
           clear BT HX HY HT HW cz0 cz1 cz2 fz0 fz1 fz2
           have BT := BT1
           have HX := HX1
           have HY := HY1
           have HT := HT1
           clear BT1 HX1 HY1 HT1
           obtain ⟨ct0, ct1, ct2, et0, et1, et2⟩ := Rd.three BT.out
           go_wp2_with (first | ((with_reducible refine gate_callee (f := 51) rfl ?_); refine goesL_ (some 130) rfl rfl Try.func51 (by kernel_rfl) rfl #[u17, .agg #[.int .i64 t.f0, .int .i64 t.f1, .string t.f2]] rfl (by (try simp only [List.map_toArray, List.map_cons, List.map_nil]); first | done | rfl | (simp only [List.length_drop, List.length_take]; rfl)) ?_; (with_reducible refine (minuetref1_Add.calls k1 _ _ p t.f0 t.f1 t.f2 p' w _ HT.out.hb HT.out.hp AP.out).mono ?_); rintro e w_ ⟨vP_, rfl, ho0, hb, hkp⟩; refine ⟨_, rfl, ?_⟩; have q_ := Aside0.mk (blk_kept BT.out hkp NPgt.out); clear BT ct0 ct1 ct2 et0 et1 et2; have BT := q_; clear q_; obtain ⟨ct0, ct1, ct2, et0, et1, et2⟩ := Rd.three BT.out; have n0_ := Aside0.mk (HX.out.kept hkp HT.out.nX.1); have n1_ := Aside0.mk (HY.out.kept hkp HT.out.nX.2.1); have n2_ := Aside0.mk (HT.out.addP ho0 hb hkp); clear HX HY HT; have HX := n0_; have HY := n1_; have HT := n2_; clear n0_ n1_ n2_; clear ho0 hb hkp) | ((with_reducible refine gate_callee (f := 51) rfl ?_); refine goesL_ (some 136) rfl rfl Try.func51 (by kernel_rfl) rfl #[u18, .agg #[.int .i64 0, .int .i64 (t.f2.size : Int), .string (⟨#[]⟩ : ByteArray)]] rfl (by (try simp only [List.map_toArray, List.map_cons, List.map_nil]); first | done | rfl | (simp only [List.length_drop, List.length_take]; rfl)) ?_; (with_reducible refine (minuetref1_Add.calls k1 _ _ q 0 (t.f2.size : Int) (⟨#[]⟩ : ByteArray) q' w _ HT.out.hb HT.out.hq AQ.out).mono ?_); rintro e w_ ⟨vQ_, rfl, ho0, hb, hkp⟩; refine ⟨_, rfl, ?_⟩; have n0_ := Aside0.mk (HX.out.kept hkp HT.out.nX.2.2.1); have n1_ := Aside0.mk (HY.out.kept hkp HT.out.nX.2.2.2); have n2_ := Aside0.mk (HT.out.addQ ho0 hb hkp); clear HX HY HT; have HX := n0_; have HY := n1_; have HT := n2_; clear n0_ n1_ n2_; clear ho0 hb hkp))
           all_goals
            go_roundg k1
            case measure => have := HK1.out; omega
            case rel => exact ⟨_, _, _, _, _, _, _, _, H', ⟨by have := HK1.out; omega⟩, HX, HY, HT⟩
          | false =>
           have HH := Aside0.mk H
           clear H
           go_upto_region 8 with (first | ((with_reducible refine gate_callee (f := 48) rfl ?_); refine goesL_ (some 61) rfl rfl Try.func48 (by kernel_rfl) rfl #[.pointer (some ⟨gx, 0, none⟩)] rfl (by (try simp only [List.map_toArray, List.map_cons, List.map_nil]); first | done | rfl | (simp only [List.length_drop, List.length_take]; rfl)) ?_; (with_reducible refine (Rr.peek_any gx l0 ia pa c true w _ HT.out.hb HX.out AC.out).mono ?_); rintro e w_ ⟨rfl, hb⟩; refine ⟨_, rfl, ?_⟩; have n0_ := Aside0.mk (HX.out.below hb); have n1_ := Aside0.mk (HY.out.below hb); have n2_ := Aside0.mk (HT.out.below hb); clear HX HY HT; have HX := n0_; have HY := n1_; have HT := n2_; clear n0_ n1_ n2_; clear hb) | ((with_reducible refine gate_dst (N := 19) rfl ?_); refine box_event ?hg (N := 19) ?hd (cs := #[.int .i64 0, .int .i64 0, .string (⟨#[]⟩ : ByteArray)]) (t := 37) ?hr ?_; (case hd => rfl); (case hg => rfl); (case hr => first | (go_simp; done) | (go_simp; rfl)); intro gc hg wb_ hbox hb; have BC := Aside0.mk hbox; have Ggc := Aside0.mk (Nat.le_of_eq hg.symm : w_.heap.size ≤ gc); have HW := Aside0.mk hb; clear hb hbox hg; obtain ⟨cz0, cz1, cz2, fz0, fz1, fz2⟩ := Rd.three BC.out))
           have BC1 : Aside0 ((((wb_.setCell ⟨gc, 0, none⟩ (.int .i64 c.f0)).setCell ⟨gc, 1, none⟩ (.int .i64 c.f1)).setCell ⟨gc, 2, none⟩ (.string c.f2)).heap[gc]? = some (.cells #[.int .i64 c.f0, .int .i64 c.f1, .string c.f2] 37 (0, 0))) := ⟨Rd.set3 BC.out⟩
           have hb : Below w_.heap.size w_ (((wb_.setCell ⟨gc, 0, none⟩ (.int .i64 c.f0)).setCell ⟨gc, 1, none⟩ (.int .i64 c.f1)).setCell ⟨gc, 2, none⟩ (.string c.f2)) := ((HW.out.setCell Ggc.out _).setCell Ggc.out _).setCell Ggc.out _
           have HX1 := Aside0.mk (HX.out.below hb)
           have HY1 := Aside0.mk (HY.out.below hb)
           have HT1 := Aside0.mk (HT.out.below hb)
           have NPgc : ¬ SP gc := fun h_ => by have := (HT.out.dp _ h_).2.2.2; have := Ggc.out; omega
           have NQgc : ¬ SQ gc := fun h_ => by have := (HT.out.dq _ h_).2.2; have := Ggc.out; omega
           have nxgc : gx ≠ gc := fun e_ => by have := HT.out.lx; have := Ggc.out; omega
           have nygc : gy ≠ gc := fun e_ => by have := HT.out.ly; have := Ggc.out; omega
           have NPgc := Aside0.mk NPgc
           have NQgc := Aside0.mk NQgc
           have nxgc := Aside0.mk nxgc
           have nygc := Aside0.mk nygc
           clear hb
           generalize (((wb_.setCell ⟨gc, 0, none⟩ (.int .i64 c.f0)).setCell ⟨gc, 1, none⟩ (.int .i64 c.f1)).setCell ⟨gc, 2, none⟩ (.string c.f2)) = wA at BC1 HX1 HY1 HT1 ⊢
           clear BC HX HY HT HW cz0 cz1 cz2 fz0 fz1 fz2
           have BC := BC1
           have HX := HX1
           have HY := HY1
           have HT := HT1
           clear BC1 HX1 HY1 HT1
           go_upto_region 9 with (first | ((with_reducible refine gate_callee (f := 48) rfl ?_); refine goesL_ (some 66) rfl rfl Try.func48 (by kernel_rfl) rfl #[.pointer (some ⟨gy, 0, none⟩)] rfl (by (try simp only [List.map_toArray, List.map_cons, List.map_nil]); first | done | rfl | (simp only [List.length_drop, List.length_take]; rfl)) ?_; (with_reducible refine (Rr.peek_any gy l1 ib pb d false w _ HT.out.hb HY.out AD.out).mono ?_); rintro e w_ ⟨rfl, hb⟩; refine ⟨_, rfl, ?_⟩; have n0_ := Aside0.mk ((hb.block _ (blk_lt BC.out)).trans BC.out); have n1_ := Aside0.mk (HX.out.below hb); have n2_ := Aside0.mk (HY.out.below hb); have n3_ := Aside0.mk (HT.out.below hb); clear BC HX HY HT; have BC := n0_; have HX := n1_; have HY := n2_; have HT := n3_; clear n0_ n1_ n2_ n3_; clear hb) | ((with_reducible refine gate_dst (N := 21) rfl ?_); refine box_event ?hg (N := 21) ?hd (cs := #[.int .i64 0, .int .i64 0, .string (⟨#[]⟩ : ByteArray)]) (t := 37) ?hr ?_; (case hd => rfl); (case hg => rfl); (case hr => first | (go_simp; done) | (go_simp; rfl)); intro gd hg wb_ hbox hb; have BD := Aside0.mk hbox; have Ggd := Aside0.mk (Nat.le_of_eq hg.symm : w_.heap.size ≤ gd); have HW := Aside0.mk hb; clear hb hbox hg; obtain ⟨cz0, cz1, cz2, fz0, fz1, fz2⟩ := Rd.three BD.out))
           have BD1 : Aside0 ((((wb_.setCell ⟨gd, 0, none⟩ (.int .i64 d.f0)).setCell ⟨gd, 1, none⟩ (.int .i64 d.f1)).setCell ⟨gd, 2, none⟩ (.string d.f2)).heap[gd]? = some (.cells #[.int .i64 d.f0, .int .i64 d.f1, .string d.f2] 37 (0, 0))) := ⟨Rd.set3 BD.out⟩
           have hb : Below w_.heap.size w_ (((wb_.setCell ⟨gd, 0, none⟩ (.int .i64 d.f0)).setCell ⟨gd, 1, none⟩ (.int .i64 d.f1)).setCell ⟨gd, 2, none⟩ (.string d.f2)) := ((HW.out.setCell Ggd.out _).setCell Ggd.out _).setCell Ggd.out _
           have BC1 := Aside0.mk ((hb.block _ (blk_lt BC.out)).trans BC.out)
           have HX1 := Aside0.mk (HX.out.below hb)
           have HY1 := Aside0.mk (HY.out.below hb)
           have HT1 := Aside0.mk (HT.out.below hb)
           have NPgd : ¬ SP gd := fun h_ => by have := (HT.out.dp _ h_).2.2.2; have := Ggd.out; omega
           have NQgd : ¬ SQ gd := fun h_ => by have := (HT.out.dq _ h_).2.2; have := Ggd.out; omega
           have nxgd : gx ≠ gd := fun e_ => by have := HT.out.lx; have := Ggd.out; omega
           have nygd : gy ≠ gd := fun e_ => by have := HT.out.ly; have := Ggd.out; omega
           have NPgd := Aside0.mk NPgd
           have NQgd := Aside0.mk NQgd
           have nxgd := Aside0.mk nxgd
           have nygd := Aside0.mk nygd
           clear hb
           generalize (((wb_.setCell ⟨gd, 0, none⟩ (.int .i64 d.f0)).setCell ⟨gd, 1, none⟩ (.int .i64 d.f1)).setCell ⟨gd, 2, none⟩ (.string d.f2)) = wB at BD1 BC1 HX1 HY1 HT1 ⊢
           clear BD BC HX HY HT HW cz0 cz1 cz2 fz0 fz1 fz2
           have BD := BD1
           have BC := BC1
           have HX := HX1
           have HY := HY1
           have HT := HT1
           clear BD1 BC1 HX1 HY1 HT1
           obtain ⟨cp0, cp1, cp2, ep0, ep1, ep2⟩ := Rd.three BC.out
           obtain ⟨cq0, cq1, cq2, eq0, eq1, eq2⟩ := Rd.three BD.out
           have H := HH.out
           clear HH
           replace H := Option.bind_eq_some_iff.mp H; obtain ⟨⟨t, i2, p2⟩, AT1_, H⟩ := H; (try dsimp only at AT1_ H); have AT1 := Aside0.mk AT1_; clear AT1_
           replace H := Option.bind_eq_some_iff.mp H; obtain ⟨p', AP_, H⟩ := H; (try dsimp only at AP_ H); have AP := Aside0.mk AP_; clear AP_
           replace H := Option.bind_eq_some_iff.mp H; obtain ⟨q', AQ_, H⟩ := H; (try dsimp only at AQ_ H); have AQ := Aside0.mk AQ_; clear AQ_
           have H' := Aside0.mk H
           clear H BC BD
           go_upto_region 22 with (first | ((with_reducible refine gate_callee (f := 50) rfl ?_); refine goesL_ (some 127) rfl rfl Try.func50 (by kernel_rfl) rfl #[.pointer (some ⟨gx, 0, none⟩), .int .i64 4096] rfl (by (try simp only [List.map_toArray, List.map_cons, List.map_nil]); first | done | rfl | (simp only [List.length_drop, List.length_take]; rfl)) ?_; (with_reducible refine (Rr.take_any gx l0 ia pa 4096 t i2 p2 w _ HT.out.hb HX.out AT1.out).mono ?_); rintro e w_ ⟨rfl, hx, hb, hkp⟩; refine ⟨_, rfl, ?_⟩; have n0_ := Aside0.mk (hx); have n1_ := Aside0.mk (HY.out.kept hkp (fun e_ => NXY.out e_.symm)); have n2_ := Aside0.mk (HT.out.keptX hb hkp); clear HX HY HT; have HX := n0_; have HY := n1_; have HT := n2_; clear n0_ n1_ n2_; clear hx hb hkp) | ((with_reducible refine gate_dst (N := 25) rfl ?_); refine box_event ?hg (N := 25) ?hd (cs := #[.int .i64 0, .int .i64 0, .string (⟨#[]⟩ : ByteArray)]) (t := 37) ?hr ?_; (case hd => rfl); (case hg => rfl); (case hr => first | (go_simp; done) | (go_simp; rfl)); intro gt hg wb_ hbox hb; have BT := Aside0.mk hbox; have Ggt := Aside0.mk (Nat.le_of_eq hg.symm : w_.heap.size ≤ gt); have HW := Aside0.mk hb; clear hb hbox hg; obtain ⟨cz0, cz1, cz2, fz0, fz1, fz2⟩ := Rd.three BT.out))
           have BT1 : Aside0 ((((wb_.setCell ⟨gt, 0, none⟩ (.int .i64 t.f0)).setCell ⟨gt, 1, none⟩ (.int .i64 t.f1)).setCell ⟨gt, 2, none⟩ (.string t.f2)).heap[gt]? = some (.cells #[.int .i64 t.f0, .int .i64 t.f1, .string t.f2] 37 (0, 0))) := ⟨Rd.set3 BT.out⟩
           have hb : Below w_.heap.size w_ (((wb_.setCell ⟨gt, 0, none⟩ (.int .i64 t.f0)).setCell ⟨gt, 1, none⟩ (.int .i64 t.f1)).setCell ⟨gt, 2, none⟩ (.string t.f2)) := ((HW.out.setCell Ggt.out _).setCell Ggt.out _).setCell Ggt.out _
           have HX1 := Aside0.mk (HX.out.below hb)
           have HY1 := Aside0.mk (HY.out.below hb)
           have HT1 := Aside0.mk (HT.out.below hb)
           have NPgt : ¬ SP gt := fun h_ => by have := (HT.out.dp _ h_).2.2.2; have := Ggt.out; omega
           have NQgt : ¬ SQ gt := fun h_ => by have := (HT.out.dq _ h_).2.2; have := Ggt.out; omega
           have nxgt : gx ≠ gt := fun e_ => by have := HT.out.lx; have := Ggt.out; omega
           have nygt : gy ≠ gt := fun e_ => by have := HT.out.ly; have := Ggt.out; omega
           have NPgt := Aside0.mk NPgt
           have NQgt := Aside0.mk NQgt
           have nxgt := Aside0.mk nxgt
           have nygt := Aside0.mk nygt
           clear hb
           generalize (((wb_.setCell ⟨gt, 0, none⟩ (.int .i64 t.f0)).setCell ⟨gt, 1, none⟩ (.int .i64 t.f1)).setCell ⟨gt, 2, none⟩ (.string t.f2)) = wC at BT1 HX1 HY1 HT1 ⊢
           clear BT HX HY HT HW cz0 cz1 cz2 fz0 fz1 fz2
           have BT := BT1
           have HX := HX1
           have HY := HY1
           have HT := HT1
           clear BT1 HX1 HY1 HT1
           obtain ⟨ct0, ct1, ct2, et0, et1, et2⟩ := Rd.three BT.out
           go_wp2_with (first | ((with_reducible refine gate_callee (f := 51) rfl ?_); refine goesL_ (some 130) rfl rfl Try.func51 (by kernel_rfl) rfl #[u17, .agg #[.int .i64 t.f0, .int .i64 t.f1, .string t.f2]] rfl (by (try simp only [List.map_toArray, List.map_cons, List.map_nil]); first | done | rfl | (simp only [List.length_drop, List.length_take]; rfl)) ?_; (with_reducible refine (minuetref1_Add.calls k1 _ _ p t.f0 t.f1 t.f2 p' w _ HT.out.hb HT.out.hp AP.out).mono ?_); rintro e w_ ⟨vP_, rfl, ho0, hb, hkp⟩; refine ⟨_, rfl, ?_⟩; have q_ := Aside0.mk (blk_kept BT.out hkp NPgt.out); clear BT ct0 ct1 ct2 et0 et1 et2; have BT := q_; clear q_; obtain ⟨ct0, ct1, ct2, et0, et1, et2⟩ := Rd.three BT.out; have n0_ := Aside0.mk (HX.out.kept hkp HT.out.nX.1); have n1_ := Aside0.mk (HY.out.kept hkp HT.out.nX.2.1); have n2_ := Aside0.mk (HT.out.addP ho0 hb hkp); clear HX HY HT; have HX := n0_; have HY := n1_; have HT := n2_; clear n0_ n1_ n2_; clear ho0 hb hkp) | ((with_reducible refine gate_callee (f := 51) rfl ?_); refine goesL_ (some 136) rfl rfl Try.func51 (by kernel_rfl) rfl #[u18, .agg #[.int .i64 0, .int .i64 (t.f2.size : Int), .string (⟨#[]⟩ : ByteArray)]] rfl (by (try simp only [List.map_toArray, List.map_cons, List.map_nil]); first | done | rfl | (simp only [List.length_drop, List.length_take]; rfl)) ?_; (with_reducible refine (minuetref1_Add.calls k1 _ _ q 0 (t.f2.size : Int) (⟨#[]⟩ : ByteArray) q' w _ HT.out.hb HT.out.hq AQ.out).mono ?_); rintro e w_ ⟨vQ_, rfl, ho0, hb, hkp⟩; refine ⟨_, rfl, ?_⟩; have n0_ := Aside0.mk (HX.out.kept hkp HT.out.nX.2.2.1); have n1_ := Aside0.mk (HY.out.kept hkp HT.out.nX.2.2.2); have n2_ := Aside0.mk (HT.out.addQ ho0 hb hkp); clear HX HY HT; have HX := n0_; have HY := n1_; have HT := n2_; clear n0_ n1_ n2_; clear ho0 hb hkp))
           all_goals
            go_roundg k1
            case measure => have := HK1.out; omega
            case rel => exact ⟨_, _, _, _, _, _, _, _, H', ⟨by have := HK1.out; omega⟩, HX, HY, HT⟩
       · rw [if_neg c2_] at H
         by_cases c3_ : are = true ∧ d.f0 = 1
         · rw [if_pos c3_] at H
           obtain ⟨rfl, c3_⟩ := c3_
           have b2 : (d.f0 == 1) = true := beq_iff_eq.mpr c3_
           cases is with
           | true =>
            by_cases kc_ : c.f0 = 1
            · have b1 : (c.f0 == 1) = true := beq_iff_eq.mpr kc_
              have ea : a2 = false := by cases a2 with | false => rfl | true => exact absurd ⟨⟨rfl, kc_⟩, .inl rfl⟩ c2_
              subst ea
              clear c1_ c2_ c3_ kc_
              have HH := Aside0.mk H
              clear H
              go_upto_region 8 with (first | ((with_reducible refine gate_callee (f := 48) rfl ?_); refine goesL_ (some 61) rfl rfl Try.func48 (by kernel_rfl) rfl #[.pointer (some ⟨gx, 0, none⟩)] rfl (by (try simp only [List.map_toArray, List.map_cons, List.map_nil]); first | done | rfl | (simp only [List.length_drop, List.length_take]; rfl)) ?_; (with_reducible refine (Rr.peek_any gx l0 ia pa c true w _ HT.out.hb HX.out AC.out).mono ?_); rintro e w_ ⟨rfl, hb⟩; refine ⟨_, rfl, ?_⟩; have n0_ := Aside0.mk (HX.out.below hb); have n1_ := Aside0.mk (HY.out.below hb); have n2_ := Aside0.mk (HT.out.below hb); clear HX HY HT; have HX := n0_; have HY := n1_; have HT := n2_; clear n0_ n1_ n2_; clear hb) | ((with_reducible refine gate_dst (N := 19) rfl ?_); refine box_event ?hg (N := 19) ?hd (cs := #[.int .i64 0, .int .i64 0, .string (⟨#[]⟩ : ByteArray)]) (t := 37) ?hr ?_; (case hd => rfl); (case hg => rfl); (case hr => first | (go_simp; done) | (go_simp; rfl)); intro gc hg wb_ hbox hb; have BC := Aside0.mk hbox; have Ggc := Aside0.mk (Nat.le_of_eq hg.symm : w_.heap.size ≤ gc); have HW := Aside0.mk hb; clear hb hbox hg; obtain ⟨cz0, cz1, cz2, fz0, fz1, fz2⟩ := Rd.three BC.out))
              have BC1 : Aside0 ((((wb_.setCell ⟨gc, 0, none⟩ (.int .i64 c.f0)).setCell ⟨gc, 1, none⟩ (.int .i64 c.f1)).setCell ⟨gc, 2, none⟩ (.string c.f2)).heap[gc]? = some (.cells #[.int .i64 c.f0, .int .i64 c.f1, .string c.f2] 37 (0, 0))) := ⟨Rd.set3 BC.out⟩
              have hb : Below w_.heap.size w_ (((wb_.setCell ⟨gc, 0, none⟩ (.int .i64 c.f0)).setCell ⟨gc, 1, none⟩ (.int .i64 c.f1)).setCell ⟨gc, 2, none⟩ (.string c.f2)) := ((HW.out.setCell Ggc.out _).setCell Ggc.out _).setCell Ggc.out _
              have HX1 := Aside0.mk (HX.out.below hb)
              have HY1 := Aside0.mk (HY.out.below hb)
              have HT1 := Aside0.mk (HT.out.below hb)
              have NPgc : ¬ SP gc := fun h_ => by have := (HT.out.dp _ h_).2.2.2; have := Ggc.out; omega
              have NQgc : ¬ SQ gc := fun h_ => by have := (HT.out.dq _ h_).2.2; have := Ggc.out; omega
              have nxgc : gx ≠ gc := fun e_ => by have := HT.out.lx; have := Ggc.out; omega
              have nygc : gy ≠ gc := fun e_ => by have := HT.out.ly; have := Ggc.out; omega
              have NPgc := Aside0.mk NPgc
              have NQgc := Aside0.mk NQgc
              have nxgc := Aside0.mk nxgc
              have nygc := Aside0.mk nygc
              clear hb
              generalize (((wb_.setCell ⟨gc, 0, none⟩ (.int .i64 c.f0)).setCell ⟨gc, 1, none⟩ (.int .i64 c.f1)).setCell ⟨gc, 2, none⟩ (.string c.f2)) = wA at BC1 HX1 HY1 HT1 ⊢
              clear BC HX HY HT HW cz0 cz1 cz2 fz0 fz1 fz2
              have BC := BC1
              have HX := HX1
              have HY := HY1
              have HT := HT1
              clear BC1 HX1 HY1 HT1
              go_upto_region 9 with (first | ((with_reducible refine gate_callee (f := 48) rfl ?_); refine goesL_ (some 66) rfl rfl Try.func48 (by kernel_rfl) rfl #[.pointer (some ⟨gy, 0, none⟩)] rfl (by (try simp only [List.map_toArray, List.map_cons, List.map_nil]); first | done | rfl | (simp only [List.length_drop, List.length_take]; rfl)) ?_; (with_reducible refine (Rr.peek_any gy l1 ib pb d true w _ HT.out.hb HY.out AD.out).mono ?_); rintro e w_ ⟨rfl, hb⟩; refine ⟨_, rfl, ?_⟩; have n0_ := Aside0.mk ((hb.block _ (blk_lt BC.out)).trans BC.out); have n1_ := Aside0.mk (HX.out.below hb); have n2_ := Aside0.mk (HY.out.below hb); have n3_ := Aside0.mk (HT.out.below hb); clear BC HX HY HT; have BC := n0_; have HX := n1_; have HY := n2_; have HT := n3_; clear n0_ n1_ n2_ n3_; clear hb) | ((with_reducible refine gate_dst (N := 21) rfl ?_); refine box_event ?hg (N := 21) ?hd (cs := #[.int .i64 0, .int .i64 0, .string (⟨#[]⟩ : ByteArray)]) (t := 37) ?hr ?_; (case hd => rfl); (case hg => rfl); (case hr => first | (go_simp; done) | (go_simp; rfl)); intro gd hg wb_ hbox hb; have BD := Aside0.mk hbox; have Ggd := Aside0.mk (Nat.le_of_eq hg.symm : w_.heap.size ≤ gd); have HW := Aside0.mk hb; clear hb hbox hg; obtain ⟨cz0, cz1, cz2, fz0, fz1, fz2⟩ := Rd.three BD.out))
              have BD1 : Aside0 ((((wb_.setCell ⟨gd, 0, none⟩ (.int .i64 d.f0)).setCell ⟨gd, 1, none⟩ (.int .i64 d.f1)).setCell ⟨gd, 2, none⟩ (.string d.f2)).heap[gd]? = some (.cells #[.int .i64 d.f0, .int .i64 d.f1, .string d.f2] 37 (0, 0))) := ⟨Rd.set3 BD.out⟩
              have hb : Below w_.heap.size w_ (((wb_.setCell ⟨gd, 0, none⟩ (.int .i64 d.f0)).setCell ⟨gd, 1, none⟩ (.int .i64 d.f1)).setCell ⟨gd, 2, none⟩ (.string d.f2)) := ((HW.out.setCell Ggd.out _).setCell Ggd.out _).setCell Ggd.out _
              have BC1 := Aside0.mk ((hb.block _ (blk_lt BC.out)).trans BC.out)
              have HX1 := Aside0.mk (HX.out.below hb)
              have HY1 := Aside0.mk (HY.out.below hb)
              have HT1 := Aside0.mk (HT.out.below hb)
              have NPgd : ¬ SP gd := fun h_ => by have := (HT.out.dp _ h_).2.2.2; have := Ggd.out; omega
              have NQgd : ¬ SQ gd := fun h_ => by have := (HT.out.dq _ h_).2.2; have := Ggd.out; omega
              have nxgd : gx ≠ gd := fun e_ => by have := HT.out.lx; have := Ggd.out; omega
              have nygd : gy ≠ gd := fun e_ => by have := HT.out.ly; have := Ggd.out; omega
              have NPgd := Aside0.mk NPgd
              have NQgd := Aside0.mk NQgd
              have nxgd := Aside0.mk nxgd
              have nygd := Aside0.mk nygd
              clear hb
              generalize (((wb_.setCell ⟨gd, 0, none⟩ (.int .i64 d.f0)).setCell ⟨gd, 1, none⟩ (.int .i64 d.f1)).setCell ⟨gd, 2, none⟩ (.string d.f2)) = wB at BD1 BC1 HX1 HY1 HT1 ⊢
              clear BD BC HX HY HT HW cz0 cz1 cz2 fz0 fz1 fz2
              have BD := BD1
              have BC := BC1
              have HX := HX1
              have HY := HY1
              have HT := HT1
              clear BD1 BC1 HX1 HY1 HT1
              obtain ⟨cp0, cp1, cp2, ep0, ep1, ep2⟩ := Rd.three BC.out
              obtain ⟨cq0, cq1, cq2, eq0, eq1, eq2⟩ := Rd.three BD.out
              have H := HH.out
              clear HH
              replace H := Option.bind_eq_some_iff.mp H; obtain ⟨⟨t, i2, p2⟩, AT1_, H⟩ := H; (try dsimp only at AT1_ H); have AT1 := Aside0.mk AT1_; clear AT1_
              replace H := Option.bind_eq_some_iff.mp H; obtain ⟨q', AQ_, H⟩ := H; (try dsimp only at AQ_ H); have AQ := Aside0.mk AQ_; clear AQ_
              replace H := Option.bind_eq_some_iff.mp H; obtain ⟨p', AP_, H⟩ := H; (try dsimp only at AP_ H); have AP := Aside0.mk AP_; clear AP_
              have H' := Aside0.mk H
              clear H BC BD
              go_upto_region 26 with (first | ((with_reducible refine gate_callee (f := 50) rfl ?_); refine goesL_ (some 140) rfl rfl Try.func50 (by kernel_rfl) rfl #[.pointer (some ⟨gy, 0, none⟩), .int .i64 4096] rfl (by (try simp only [List.map_toArray, List.map_cons, List.map_nil]); first | done | rfl | (simp only [List.length_drop, List.length_take]; rfl)) ?_; (with_reducible refine (Rr.take_any gy l1 ib pb 4096 t i2 p2 w _ HT.out.hb HY.out AT1.out).mono ?_); rintro e w_ ⟨rfl, hx, hb, hkp⟩; refine ⟨_, rfl, ?_⟩; have n0_ := Aside0.mk (hx); have n1_ := Aside0.mk (HX.out.kept hkp (fun e_ => NXY.out e_)); have n2_ := Aside0.mk (HT.out.keptY hb hkp); clear HY HX HT; have HY := n0_; have HX := n1_; have HT := n2_; clear n0_ n1_ n2_; clear hx hb hkp) | ((with_reducible refine gate_dst (N := 26) rfl ?_); refine box_event ?hg (N := 26) ?hd (cs := #[.int .i64 0, .int .i64 0, .string (⟨#[]⟩ : ByteArray)]) (t := 37) ?hr ?_; (case hd => rfl); (case hg => rfl); (case hr => first | (go_simp; done) | (go_simp; rfl)); intro gt hg wb_ hbox hb; have BT := Aside0.mk hbox; have Ggt := Aside0.mk (Nat.le_of_eq hg.symm : w_.heap.size ≤ gt); have HW := Aside0.mk hb; clear hb hbox hg; obtain ⟨cz0, cz1, cz2, fz0, fz1, fz2⟩ := Rd.three BT.out))
              have BT1 : Aside0 ((((wb_.setCell ⟨gt, 0, none⟩ (.int .i64 t.f0)).setCell ⟨gt, 1, none⟩ (.int .i64 t.f1)).setCell ⟨gt, 2, none⟩ (.string t.f2)).heap[gt]? = some (.cells #[.int .i64 t.f0, .int .i64 t.f1, .string t.f2] 37 (0, 0))) := ⟨Rd.set3 BT.out⟩
              have hb : Below w_.heap.size w_ (((wb_.setCell ⟨gt, 0, none⟩ (.int .i64 t.f0)).setCell ⟨gt, 1, none⟩ (.int .i64 t.f1)).setCell ⟨gt, 2, none⟩ (.string t.f2)) := ((HW.out.setCell Ggt.out _).setCell Ggt.out _).setCell Ggt.out _
              have HX1 := Aside0.mk (HX.out.below hb)
              have HY1 := Aside0.mk (HY.out.below hb)
              have HT1 := Aside0.mk (HT.out.below hb)
              have NPgt : ¬ SP gt := fun h_ => by have := (HT.out.dp _ h_).2.2.2; have := Ggt.out; omega
              have NQgt : ¬ SQ gt := fun h_ => by have := (HT.out.dq _ h_).2.2; have := Ggt.out; omega
              have nxgt : gx ≠ gt := fun e_ => by have := HT.out.lx; have := Ggt.out; omega
              have nygt : gy ≠ gt := fun e_ => by have := HT.out.ly; have := Ggt.out; omega
              have NPgt := Aside0.mk NPgt
              have NQgt := Aside0.mk NQgt
              have nxgt := Aside0.mk nxgt
              have nygt := Aside0.mk nygt
              clear hb
              generalize (((wb_.setCell ⟨gt, 0, none⟩ (.int .i64 t.f0)).setCell ⟨gt, 1, none⟩ (.int .i64 t.f1)).setCell ⟨gt, 2, none⟩ (.string t.f2)) = wC at BT1 HX1 HY1 HT1 ⊢
              clear BT HX HY HT HW cz0 cz1 cz2 fz0 fz1 fz2
              have BT := BT1
              have HX := HX1
              have HY := HY1
              have HT := HT1
              clear BT1 HX1 HY1 HT1
              obtain ⟨ct0, ct1, ct2, et0, et1, et2⟩ := Rd.three BT.out
              go_wp2_with (first | ((with_reducible refine gate_callee (f := 51) rfl ?_); refine goesL_ (some 143) rfl rfl Try.func51 (by kernel_rfl) rfl #[u18, .agg #[.int .i64 t.f0, .int .i64 t.f1, .string t.f2]] rfl (by (try simp only [List.map_toArray, List.map_cons, List.map_nil]); first | done | rfl | (simp only [List.length_drop, List.length_take]; rfl)) ?_; (with_reducible refine (minuetref1_Add.calls k1 _ _ q t.f0 t.f1 t.f2 q' w _ HT.out.hb HT.out.hq AQ.out).mono ?_); rintro e w_ ⟨vQ_, rfl, ho0, hb, hkp⟩; refine ⟨_, rfl, ?_⟩; have q_ := Aside0.mk (blk_kept BT.out hkp NQgt.out); clear BT ct0 ct1 ct2 et0 et1 et2; have BT := q_; clear q_; obtain ⟨ct0, ct1, ct2, et0, et1, et2⟩ := Rd.three BT.out; have n0_ := Aside0.mk (HX.out.kept hkp HT.out.nX.2.2.1); have n1_ := Aside0.mk (HY.out.kept hkp HT.out.nX.2.2.2); have n2_ := Aside0.mk (HT.out.addQ ho0 hb hkp); clear HX HY HT; have HX := n0_; have HY := n1_; have HT := n2_; clear n0_ n1_ n2_; clear ho0 hb hkp) | ((with_reducible refine gate_callee (f := 51) rfl ?_); refine goesL_ (some 149) rfl rfl Try.func51 (by kernel_rfl) rfl #[u17, .agg #[.int .i64 0, .int .i64 (t.f2.size : Int), .string (⟨#[]⟩ : ByteArray)]] rfl (by (try simp only [List.map_toArray, List.map_cons, List.map_nil]); first | done | rfl | (simp only [List.length_drop, List.length_take]; rfl)) ?_; (with_reducible refine (minuetref1_Add.calls k1 _ _ p 0 (t.f2.size : Int) (⟨#[]⟩ : ByteArray) p' w _ HT.out.hb HT.out.hp AP.out).mono ?_); rintro e w_ ⟨vP_, rfl, ho0, hb, hkp⟩; refine ⟨_, rfl, ?_⟩; have n0_ := Aside0.mk (HX.out.kept hkp HT.out.nX.1); have n1_ := Aside0.mk (HY.out.kept hkp HT.out.nX.2.1); have n2_ := Aside0.mk (HT.out.addP ho0 hb hkp); clear HX HY HT; have HX := n0_; have HY := n1_; have HT := n2_; clear n0_ n1_ n2_; clear ho0 hb hkp))
              all_goals
               go_roundg k1
               case measure => have := HK1.out; omega
               case rel => exact ⟨_, _, _, _, _, _, _, _, H', ⟨by have := HK1.out; omega⟩, HX, HY, HT⟩
            · have b1 : (c.f0 == 1) = false := beq_eq_false_iff_ne.mpr kc_
              clear c1_ c2_ c3_ kc_
              have HH := Aside0.mk H
              clear H
              go_upto_region 8 with (first | ((with_reducible refine gate_callee (f := 48) rfl ?_); refine goesL_ (some 61) rfl rfl Try.func48 (by kernel_rfl) rfl #[.pointer (some ⟨gx, 0, none⟩)] rfl (by (try simp only [List.map_toArray, List.map_cons, List.map_nil]); first | done | rfl | (simp only [List.length_drop, List.length_take]; rfl)) ?_; (with_reducible refine (Rr.peek_any gx l0 ia pa c true w _ HT.out.hb HX.out AC.out).mono ?_); rintro e w_ ⟨rfl, hb⟩; refine ⟨_, rfl, ?_⟩; have n0_ := Aside0.mk (HX.out.below hb); have n1_ := Aside0.mk (HY.out.below hb); have n2_ := Aside0.mk (HT.out.below hb); clear HX HY HT; have HX := n0_; have HY := n1_; have HT := n2_; clear n0_ n1_ n2_; clear hb) | ((with_reducible refine gate_dst (N := 19) rfl ?_); refine box_event ?hg (N := 19) ?hd (cs := #[.int .i64 0, .int .i64 0, .string (⟨#[]⟩ : ByteArray)]) (t := 37) ?hr ?_; (case hd => rfl); (case hg => rfl); (case hr => first | (go_simp; done) | (go_simp; rfl)); intro gc hg wb_ hbox hb; have BC := Aside0.mk hbox; have Ggc := Aside0.mk (Nat.le_of_eq hg.symm : w_.heap.size ≤ gc); have HW := Aside0.mk hb; clear hb hbox hg; obtain ⟨cz0, cz1, cz2, fz0, fz1, fz2⟩ := Rd.three BC.out))
              have BC1 : Aside0 ((((wb_.setCell ⟨gc, 0, none⟩ (.int .i64 c.f0)).setCell ⟨gc, 1, none⟩ (.int .i64 c.f1)).setCell ⟨gc, 2, none⟩ (.string c.f2)).heap[gc]? = some (.cells #[.int .i64 c.f0, .int .i64 c.f1, .string c.f2] 37 (0, 0))) := ⟨Rd.set3 BC.out⟩
              have hb : Below w_.heap.size w_ (((wb_.setCell ⟨gc, 0, none⟩ (.int .i64 c.f0)).setCell ⟨gc, 1, none⟩ (.int .i64 c.f1)).setCell ⟨gc, 2, none⟩ (.string c.f2)) := ((HW.out.setCell Ggc.out _).setCell Ggc.out _).setCell Ggc.out _
              have HX1 := Aside0.mk (HX.out.below hb)
              have HY1 := Aside0.mk (HY.out.below hb)
              have HT1 := Aside0.mk (HT.out.below hb)
              have NPgc : ¬ SP gc := fun h_ => by have := (HT.out.dp _ h_).2.2.2; have := Ggc.out; omega
              have NQgc : ¬ SQ gc := fun h_ => by have := (HT.out.dq _ h_).2.2; have := Ggc.out; omega
              have nxgc : gx ≠ gc := fun e_ => by have := HT.out.lx; have := Ggc.out; omega
              have nygc : gy ≠ gc := fun e_ => by have := HT.out.ly; have := Ggc.out; omega
              have NPgc := Aside0.mk NPgc
              have NQgc := Aside0.mk NQgc
              have nxgc := Aside0.mk nxgc
              have nygc := Aside0.mk nygc
              clear hb
              generalize (((wb_.setCell ⟨gc, 0, none⟩ (.int .i64 c.f0)).setCell ⟨gc, 1, none⟩ (.int .i64 c.f1)).setCell ⟨gc, 2, none⟩ (.string c.f2)) = wA at BC1 HX1 HY1 HT1 ⊢
              clear BC HX HY HT HW cz0 cz1 cz2 fz0 fz1 fz2
              have BC := BC1
              have HX := HX1
              have HY := HY1
              have HT := HT1
              clear BC1 HX1 HY1 HT1
              go_upto_region 9 with (first | ((with_reducible refine gate_callee (f := 48) rfl ?_); refine goesL_ (some 66) rfl rfl Try.func48 (by kernel_rfl) rfl #[.pointer (some ⟨gy, 0, none⟩)] rfl (by (try simp only [List.map_toArray, List.map_cons, List.map_nil]); first | done | rfl | (simp only [List.length_drop, List.length_take]; rfl)) ?_; (with_reducible refine (Rr.peek_any gy l1 ib pb d true w _ HT.out.hb HY.out AD.out).mono ?_); rintro e w_ ⟨rfl, hb⟩; refine ⟨_, rfl, ?_⟩; have n0_ := Aside0.mk ((hb.block _ (blk_lt BC.out)).trans BC.out); have n1_ := Aside0.mk (HX.out.below hb); have n2_ := Aside0.mk (HY.out.below hb); have n3_ := Aside0.mk (HT.out.below hb); clear BC HX HY HT; have BC := n0_; have HX := n1_; have HY := n2_; have HT := n3_; clear n0_ n1_ n2_ n3_; clear hb) | ((with_reducible refine gate_dst (N := 21) rfl ?_); refine box_event ?hg (N := 21) ?hd (cs := #[.int .i64 0, .int .i64 0, .string (⟨#[]⟩ : ByteArray)]) (t := 37) ?hr ?_; (case hd => rfl); (case hg => rfl); (case hr => first | (go_simp; done) | (go_simp; rfl)); intro gd hg wb_ hbox hb; have BD := Aside0.mk hbox; have Ggd := Aside0.mk (Nat.le_of_eq hg.symm : w_.heap.size ≤ gd); have HW := Aside0.mk hb; clear hb hbox hg; obtain ⟨cz0, cz1, cz2, fz0, fz1, fz2⟩ := Rd.three BD.out))
              have BD1 : Aside0 ((((wb_.setCell ⟨gd, 0, none⟩ (.int .i64 d.f0)).setCell ⟨gd, 1, none⟩ (.int .i64 d.f1)).setCell ⟨gd, 2, none⟩ (.string d.f2)).heap[gd]? = some (.cells #[.int .i64 d.f0, .int .i64 d.f1, .string d.f2] 37 (0, 0))) := ⟨Rd.set3 BD.out⟩
              have hb : Below w_.heap.size w_ (((wb_.setCell ⟨gd, 0, none⟩ (.int .i64 d.f0)).setCell ⟨gd, 1, none⟩ (.int .i64 d.f1)).setCell ⟨gd, 2, none⟩ (.string d.f2)) := ((HW.out.setCell Ggd.out _).setCell Ggd.out _).setCell Ggd.out _
              have BC1 := Aside0.mk ((hb.block _ (blk_lt BC.out)).trans BC.out)
              have HX1 := Aside0.mk (HX.out.below hb)
              have HY1 := Aside0.mk (HY.out.below hb)
              have HT1 := Aside0.mk (HT.out.below hb)
              have NPgd : ¬ SP gd := fun h_ => by have := (HT.out.dp _ h_).2.2.2; have := Ggd.out; omega
              have NQgd : ¬ SQ gd := fun h_ => by have := (HT.out.dq _ h_).2.2; have := Ggd.out; omega
              have nxgd : gx ≠ gd := fun e_ => by have := HT.out.lx; have := Ggd.out; omega
              have nygd : gy ≠ gd := fun e_ => by have := HT.out.ly; have := Ggd.out; omega
              have NPgd := Aside0.mk NPgd
              have NQgd := Aside0.mk NQgd
              have nxgd := Aside0.mk nxgd
              have nygd := Aside0.mk nygd
              clear hb
              generalize (((wb_.setCell ⟨gd, 0, none⟩ (.int .i64 d.f0)).setCell ⟨gd, 1, none⟩ (.int .i64 d.f1)).setCell ⟨gd, 2, none⟩ (.string d.f2)) = wB at BD1 BC1 HX1 HY1 HT1 ⊢
              clear BD BC HX HY HT HW cz0 cz1 cz2 fz0 fz1 fz2
              have BD := BD1
              have BC := BC1
              have HX := HX1
              have HY := HY1
              have HT := HT1
              clear BD1 BC1 HX1 HY1 HT1
              obtain ⟨cp0, cp1, cp2, ep0, ep1, ep2⟩ := Rd.three BC.out
              obtain ⟨cq0, cq1, cq2, eq0, eq1, eq2⟩ := Rd.three BD.out
              have H := HH.out
              clear HH
              replace H := Option.bind_eq_some_iff.mp H; obtain ⟨⟨t, i2, p2⟩, AT1_, H⟩ := H; (try dsimp only at AT1_ H); have AT1 := Aside0.mk AT1_; clear AT1_
              replace H := Option.bind_eq_some_iff.mp H; obtain ⟨q', AQ_, H⟩ := H; (try dsimp only at AQ_ H); have AQ := Aside0.mk AQ_; clear AQ_
              replace H := Option.bind_eq_some_iff.mp H; obtain ⟨p', AP_, H⟩ := H; (try dsimp only at AP_ H); have AP := Aside0.mk AP_; clear AP_
              have H' := Aside0.mk H
              clear H BC BD
              go_upto_region 26 with (first | ((with_reducible refine gate_callee (f := 50) rfl ?_); refine goesL_ (some 140) rfl rfl Try.func50 (by kernel_rfl) rfl #[.pointer (some ⟨gy, 0, none⟩), .int .i64 4096] rfl (by (try simp only [List.map_toArray, List.map_cons, List.map_nil]); first | done | rfl | (simp only [List.length_drop, List.length_take]; rfl)) ?_; (with_reducible refine (Rr.take_any gy l1 ib pb 4096 t i2 p2 w _ HT.out.hb HY.out AT1.out).mono ?_); rintro e w_ ⟨rfl, hx, hb, hkp⟩; refine ⟨_, rfl, ?_⟩; have n0_ := Aside0.mk (hx); have n1_ := Aside0.mk (HX.out.kept hkp (fun e_ => NXY.out e_)); have n2_ := Aside0.mk (HT.out.keptY hb hkp); clear HY HX HT; have HY := n0_; have HX := n1_; have HT := n2_; clear n0_ n1_ n2_; clear hx hb hkp) | ((with_reducible refine gate_dst (N := 26) rfl ?_); refine box_event ?hg (N := 26) ?hd (cs := #[.int .i64 0, .int .i64 0, .string (⟨#[]⟩ : ByteArray)]) (t := 37) ?hr ?_; (case hd => rfl); (case hg => rfl); (case hr => first | (go_simp; done) | (go_simp; rfl)); intro gt hg wb_ hbox hb; have BT := Aside0.mk hbox; have Ggt := Aside0.mk (Nat.le_of_eq hg.symm : w_.heap.size ≤ gt); have HW := Aside0.mk hb; clear hb hbox hg; obtain ⟨cz0, cz1, cz2, fz0, fz1, fz2⟩ := Rd.three BT.out))
              have BT1 : Aside0 ((((wb_.setCell ⟨gt, 0, none⟩ (.int .i64 t.f0)).setCell ⟨gt, 1, none⟩ (.int .i64 t.f1)).setCell ⟨gt, 2, none⟩ (.string t.f2)).heap[gt]? = some (.cells #[.int .i64 t.f0, .int .i64 t.f1, .string t.f2] 37 (0, 0))) := ⟨Rd.set3 BT.out⟩
              have hb : Below w_.heap.size w_ (((wb_.setCell ⟨gt, 0, none⟩ (.int .i64 t.f0)).setCell ⟨gt, 1, none⟩ (.int .i64 t.f1)).setCell ⟨gt, 2, none⟩ (.string t.f2)) := ((HW.out.setCell Ggt.out _).setCell Ggt.out _).setCell Ggt.out _
              have HX1 := Aside0.mk (HX.out.below hb)
              have HY1 := Aside0.mk (HY.out.below hb)
              have HT1 := Aside0.mk (HT.out.below hb)
              have NPgt : ¬ SP gt := fun h_ => by have := (HT.out.dp _ h_).2.2.2; have := Ggt.out; omega
              have NQgt : ¬ SQ gt := fun h_ => by have := (HT.out.dq _ h_).2.2; have := Ggt.out; omega
              have nxgt : gx ≠ gt := fun e_ => by have := HT.out.lx; have := Ggt.out; omega
              have nygt : gy ≠ gt := fun e_ => by have := HT.out.ly; have := Ggt.out; omega
              have NPgt := Aside0.mk NPgt
              have NQgt := Aside0.mk NQgt
              have nxgt := Aside0.mk nxgt
              have nygt := Aside0.mk nygt
              clear hb
              generalize (((wb_.setCell ⟨gt, 0, none⟩ (.int .i64 t.f0)).setCell ⟨gt, 1, none⟩ (.int .i64 t.f1)).setCell ⟨gt, 2, none⟩ (.string t.f2)) = wC at BT1 HX1 HY1 HT1 ⊢
              clear BT HX HY HT HW cz0 cz1 cz2 fz0 fz1 fz2
              have BT := BT1
              have HX := HX1
              have HY := HY1
              have HT := HT1
              clear BT1 HX1 HY1 HT1
              obtain ⟨ct0, ct1, ct2, et0, et1, et2⟩ := Rd.three BT.out
              go_wp2_with (first | ((with_reducible refine gate_callee (f := 51) rfl ?_); refine goesL_ (some 143) rfl rfl Try.func51 (by kernel_rfl) rfl #[u18, .agg #[.int .i64 t.f0, .int .i64 t.f1, .string t.f2]] rfl (by (try simp only [List.map_toArray, List.map_cons, List.map_nil]); first | done | rfl | (simp only [List.length_drop, List.length_take]; rfl)) ?_; (with_reducible refine (minuetref1_Add.calls k1 _ _ q t.f0 t.f1 t.f2 q' w _ HT.out.hb HT.out.hq AQ.out).mono ?_); rintro e w_ ⟨vQ_, rfl, ho0, hb, hkp⟩; refine ⟨_, rfl, ?_⟩; have q_ := Aside0.mk (blk_kept BT.out hkp NQgt.out); clear BT ct0 ct1 ct2 et0 et1 et2; have BT := q_; clear q_; obtain ⟨ct0, ct1, ct2, et0, et1, et2⟩ := Rd.three BT.out; have n0_ := Aside0.mk (HX.out.kept hkp HT.out.nX.2.2.1); have n1_ := Aside0.mk (HY.out.kept hkp HT.out.nX.2.2.2); have n2_ := Aside0.mk (HT.out.addQ ho0 hb hkp); clear HX HY HT; have HX := n0_; have HY := n1_; have HT := n2_; clear n0_ n1_ n2_; clear ho0 hb hkp) | ((with_reducible refine gate_callee (f := 51) rfl ?_); refine goesL_ (some 149) rfl rfl Try.func51 (by kernel_rfl) rfl #[u17, .agg #[.int .i64 0, .int .i64 (t.f2.size : Int), .string (⟨#[]⟩ : ByteArray)]] rfl (by (try simp only [List.map_toArray, List.map_cons, List.map_nil]); first | done | rfl | (simp only [List.length_drop, List.length_take]; rfl)) ?_; (with_reducible refine (minuetref1_Add.calls k1 _ _ p 0 (t.f2.size : Int) (⟨#[]⟩ : ByteArray) p' w _ HT.out.hb HT.out.hp AP.out).mono ?_); rintro e w_ ⟨vP_, rfl, ho0, hb, hkp⟩; refine ⟨_, rfl, ?_⟩; have n0_ := Aside0.mk (HX.out.kept hkp HT.out.nX.1); have n1_ := Aside0.mk (HY.out.kept hkp HT.out.nX.2.1); have n2_ := Aside0.mk (HT.out.addP ho0 hb hkp); clear HX HY HT; have HX := n0_; have HY := n1_; have HT := n2_; clear n0_ n1_ n2_; clear ho0 hb hkp))
              all_goals
               go_roundg k1
               case measure => have := HK1.out; omega
               case rel => exact ⟨_, _, _, _, _, _, _, _, H', ⟨by have := HK1.out; omega⟩, HX, HY, HT⟩
           | false =>
            clear c1_ c2_ c3_
            have HH := Aside0.mk H
            clear H
            go_upto_region 8 with (first | ((with_reducible refine gate_callee (f := 48) rfl ?_); refine goesL_ (some 61) rfl rfl Try.func48 (by kernel_rfl) rfl #[.pointer (some ⟨gx, 0, none⟩)] rfl (by (try simp only [List.map_toArray, List.map_cons, List.map_nil]); first | done | rfl | (simp only [List.length_drop, List.length_take]; rfl)) ?_; (with_reducible refine (Rr.peek_any gx l0 ia pa c false w _ HT.out.hb HX.out AC.out).mono ?_); rintro e w_ ⟨rfl, hb⟩; refine ⟨_, rfl, ?_⟩; have n0_ := Aside0.mk (HX.out.below hb); have n1_ := Aside0.mk (HY.out.below hb); have n2_ := Aside0.mk (HT.out.below hb); clear HX HY HT; have HX := n0_; have HY := n1_; have HT := n2_; clear n0_ n1_ n2_; clear hb) | ((with_reducible refine gate_dst (N := 19) rfl ?_); refine box_event ?hg (N := 19) ?hd (cs := #[.int .i64 0, .int .i64 0, .string (⟨#[]⟩ : ByteArray)]) (t := 37) ?hr ?_; (case hd => rfl); (case hg => rfl); (case hr => first | (go_simp; done) | (go_simp; rfl)); intro gc hg wb_ hbox hb; have BC := Aside0.mk hbox; have Ggc := Aside0.mk (Nat.le_of_eq hg.symm : w_.heap.size ≤ gc); have HW := Aside0.mk hb; clear hb hbox hg; obtain ⟨cz0, cz1, cz2, fz0, fz1, fz2⟩ := Rd.three BC.out))
            have BC1 : Aside0 ((((wb_.setCell ⟨gc, 0, none⟩ (.int .i64 c.f0)).setCell ⟨gc, 1, none⟩ (.int .i64 c.f1)).setCell ⟨gc, 2, none⟩ (.string c.f2)).heap[gc]? = some (.cells #[.int .i64 c.f0, .int .i64 c.f1, .string c.f2] 37 (0, 0))) := ⟨Rd.set3 BC.out⟩
            have hb : Below w_.heap.size w_ (((wb_.setCell ⟨gc, 0, none⟩ (.int .i64 c.f0)).setCell ⟨gc, 1, none⟩ (.int .i64 c.f1)).setCell ⟨gc, 2, none⟩ (.string c.f2)) := ((HW.out.setCell Ggc.out _).setCell Ggc.out _).setCell Ggc.out _
            have HX1 := Aside0.mk (HX.out.below hb)
            have HY1 := Aside0.mk (HY.out.below hb)
            have HT1 := Aside0.mk (HT.out.below hb)
            have NPgc : ¬ SP gc := fun h_ => by have := (HT.out.dp _ h_).2.2.2; have := Ggc.out; omega
            have NQgc : ¬ SQ gc := fun h_ => by have := (HT.out.dq _ h_).2.2; have := Ggc.out; omega
            have nxgc : gx ≠ gc := fun e_ => by have := HT.out.lx; have := Ggc.out; omega
            have nygc : gy ≠ gc := fun e_ => by have := HT.out.ly; have := Ggc.out; omega
            have NPgc := Aside0.mk NPgc
            have NQgc := Aside0.mk NQgc
            have nxgc := Aside0.mk nxgc
            have nygc := Aside0.mk nygc
            clear hb
            generalize (((wb_.setCell ⟨gc, 0, none⟩ (.int .i64 c.f0)).setCell ⟨gc, 1, none⟩ (.int .i64 c.f1)).setCell ⟨gc, 2, none⟩ (.string c.f2)) = wA at BC1 HX1 HY1 HT1 ⊢
            clear BC HX HY HT HW cz0 cz1 cz2 fz0 fz1 fz2
            have BC := BC1
            have HX := HX1
            have HY := HY1
            have HT := HT1
            clear BC1 HX1 HY1 HT1
            go_upto_region 9 with (first | ((with_reducible refine gate_callee (f := 48) rfl ?_); refine goesL_ (some 66) rfl rfl Try.func48 (by kernel_rfl) rfl #[.pointer (some ⟨gy, 0, none⟩)] rfl (by (try simp only [List.map_toArray, List.map_cons, List.map_nil]); first | done | rfl | (simp only [List.length_drop, List.length_take]; rfl)) ?_; (with_reducible refine (Rr.peek_any gy l1 ib pb d true w _ HT.out.hb HY.out AD.out).mono ?_); rintro e w_ ⟨rfl, hb⟩; refine ⟨_, rfl, ?_⟩; have n0_ := Aside0.mk ((hb.block _ (blk_lt BC.out)).trans BC.out); have n1_ := Aside0.mk (HX.out.below hb); have n2_ := Aside0.mk (HY.out.below hb); have n3_ := Aside0.mk (HT.out.below hb); clear BC HX HY HT; have BC := n0_; have HX := n1_; have HY := n2_; have HT := n3_; clear n0_ n1_ n2_ n3_; clear hb) | ((with_reducible refine gate_dst (N := 21) rfl ?_); refine box_event ?hg (N := 21) ?hd (cs := #[.int .i64 0, .int .i64 0, .string (⟨#[]⟩ : ByteArray)]) (t := 37) ?hr ?_; (case hd => rfl); (case hg => rfl); (case hr => first | (go_simp; done) | (go_simp; rfl)); intro gd hg wb_ hbox hb; have BD := Aside0.mk hbox; have Ggd := Aside0.mk (Nat.le_of_eq hg.symm : w_.heap.size ≤ gd); have HW := Aside0.mk hb; clear hb hbox hg; obtain ⟨cz0, cz1, cz2, fz0, fz1, fz2⟩ := Rd.three BD.out))
            have BD1 : Aside0 ((((wb_.setCell ⟨gd, 0, none⟩ (.int .i64 d.f0)).setCell ⟨gd, 1, none⟩ (.int .i64 d.f1)).setCell ⟨gd, 2, none⟩ (.string d.f2)).heap[gd]? = some (.cells #[.int .i64 d.f0, .int .i64 d.f1, .string d.f2] 37 (0, 0))) := ⟨Rd.set3 BD.out⟩
            have hb : Below w_.heap.size w_ (((wb_.setCell ⟨gd, 0, none⟩ (.int .i64 d.f0)).setCell ⟨gd, 1, none⟩ (.int .i64 d.f1)).setCell ⟨gd, 2, none⟩ (.string d.f2)) := ((HW.out.setCell Ggd.out _).setCell Ggd.out _).setCell Ggd.out _
            have BC1 := Aside0.mk ((hb.block _ (blk_lt BC.out)).trans BC.out)
            have HX1 := Aside0.mk (HX.out.below hb)
            have HY1 := Aside0.mk (HY.out.below hb)
            have HT1 := Aside0.mk (HT.out.below hb)
            have NPgd : ¬ SP gd := fun h_ => by have := (HT.out.dp _ h_).2.2.2; have := Ggd.out; omega
            have NQgd : ¬ SQ gd := fun h_ => by have := (HT.out.dq _ h_).2.2; have := Ggd.out; omega
            have nxgd : gx ≠ gd := fun e_ => by have := HT.out.lx; have := Ggd.out; omega
            have nygd : gy ≠ gd := fun e_ => by have := HT.out.ly; have := Ggd.out; omega
            have NPgd := Aside0.mk NPgd
            have NQgd := Aside0.mk NQgd
            have nxgd := Aside0.mk nxgd
            have nygd := Aside0.mk nygd
            clear hb
            generalize (((wb_.setCell ⟨gd, 0, none⟩ (.int .i64 d.f0)).setCell ⟨gd, 1, none⟩ (.int .i64 d.f1)).setCell ⟨gd, 2, none⟩ (.string d.f2)) = wB at BD1 BC1 HX1 HY1 HT1 ⊢
            clear BD BC HX HY HT HW cz0 cz1 cz2 fz0 fz1 fz2
            have BD := BD1
            have BC := BC1
            have HX := HX1
            have HY := HY1
            have HT := HT1
            clear BD1 BC1 HX1 HY1 HT1
            obtain ⟨cp0, cp1, cp2, ep0, ep1, ep2⟩ := Rd.three BC.out
            obtain ⟨cq0, cq1, cq2, eq0, eq1, eq2⟩ := Rd.three BD.out
            have H := HH.out
            clear HH
            replace H := Option.bind_eq_some_iff.mp H; obtain ⟨⟨t, i2, p2⟩, AT1_, H⟩ := H; (try dsimp only at AT1_ H); have AT1 := Aside0.mk AT1_; clear AT1_
            replace H := Option.bind_eq_some_iff.mp H; obtain ⟨q', AQ_, H⟩ := H; (try dsimp only at AQ_ H); have AQ := Aside0.mk AQ_; clear AQ_
            replace H := Option.bind_eq_some_iff.mp H; obtain ⟨p', AP_, H⟩ := H; (try dsimp only at AP_ H); have AP := Aside0.mk AP_; clear AP_
            have H' := Aside0.mk H
            clear H BC BD
            go_upto_region 26 with (first | ((with_reducible refine gate_callee (f := 50) rfl ?_); refine goesL_ (some 140) rfl rfl Try.func50 (by kernel_rfl) rfl #[.pointer (some ⟨gy, 0, none⟩), .int .i64 4096] rfl (by (try simp only [List.map_toArray, List.map_cons, List.map_nil]); first | done | rfl | (simp only [List.length_drop, List.length_take]; rfl)) ?_; (with_reducible refine (Rr.take_any gy l1 ib pb 4096 t i2 p2 w _ HT.out.hb HY.out AT1.out).mono ?_); rintro e w_ ⟨rfl, hx, hb, hkp⟩; refine ⟨_, rfl, ?_⟩; have n0_ := Aside0.mk (hx); have n1_ := Aside0.mk (HX.out.kept hkp (fun e_ => NXY.out e_)); have n2_ := Aside0.mk (HT.out.keptY hb hkp); clear HY HX HT; have HY := n0_; have HX := n1_; have HT := n2_; clear n0_ n1_ n2_; clear hx hb hkp) | ((with_reducible refine gate_dst (N := 26) rfl ?_); refine box_event ?hg (N := 26) ?hd (cs := #[.int .i64 0, .int .i64 0, .string (⟨#[]⟩ : ByteArray)]) (t := 37) ?hr ?_; (case hd => rfl); (case hg => rfl); (case hr => first | (go_simp; done) | (go_simp; rfl)); intro gt hg wb_ hbox hb; have BT := Aside0.mk hbox; have Ggt := Aside0.mk (Nat.le_of_eq hg.symm : w_.heap.size ≤ gt); have HW := Aside0.mk hb; clear hb hbox hg; obtain ⟨cz0, cz1, cz2, fz0, fz1, fz2⟩ := Rd.three BT.out))
            have BT1 : Aside0 ((((wb_.setCell ⟨gt, 0, none⟩ (.int .i64 t.f0)).setCell ⟨gt, 1, none⟩ (.int .i64 t.f1)).setCell ⟨gt, 2, none⟩ (.string t.f2)).heap[gt]? = some (.cells #[.int .i64 t.f0, .int .i64 t.f1, .string t.f2] 37 (0, 0))) := ⟨Rd.set3 BT.out⟩
            have hb : Below w_.heap.size w_ (((wb_.setCell ⟨gt, 0, none⟩ (.int .i64 t.f0)).setCell ⟨gt, 1, none⟩ (.int .i64 t.f1)).setCell ⟨gt, 2, none⟩ (.string t.f2)) := ((HW.out.setCell Ggt.out _).setCell Ggt.out _).setCell Ggt.out _
            have HX1 := Aside0.mk (HX.out.below hb)
            have HY1 := Aside0.mk (HY.out.below hb)
            have HT1 := Aside0.mk (HT.out.below hb)
            have NPgt : ¬ SP gt := fun h_ => by have := (HT.out.dp _ h_).2.2.2; have := Ggt.out; omega
            have NQgt : ¬ SQ gt := fun h_ => by have := (HT.out.dq _ h_).2.2; have := Ggt.out; omega
            have nxgt : gx ≠ gt := fun e_ => by have := HT.out.lx; have := Ggt.out; omega
            have nygt : gy ≠ gt := fun e_ => by have := HT.out.ly; have := Ggt.out; omega
            have NPgt := Aside0.mk NPgt
            have NQgt := Aside0.mk NQgt
            have nxgt := Aside0.mk nxgt
            have nygt := Aside0.mk nygt
            clear hb
            generalize (((wb_.setCell ⟨gt, 0, none⟩ (.int .i64 t.f0)).setCell ⟨gt, 1, none⟩ (.int .i64 t.f1)).setCell ⟨gt, 2, none⟩ (.string t.f2)) = wC at BT1 HX1 HY1 HT1 ⊢
            clear BT HX HY HT HW cz0 cz1 cz2 fz0 fz1 fz2
            have BT := BT1
            have HX := HX1
            have HY := HY1
            have HT := HT1
            clear BT1 HX1 HY1 HT1
            obtain ⟨ct0, ct1, ct2, et0, et1, et2⟩ := Rd.three BT.out
            go_wp2_with (first | ((with_reducible refine gate_callee (f := 51) rfl ?_); refine goesL_ (some 143) rfl rfl Try.func51 (by kernel_rfl) rfl #[u18, .agg #[.int .i64 t.f0, .int .i64 t.f1, .string t.f2]] rfl (by (try simp only [List.map_toArray, List.map_cons, List.map_nil]); first | done | rfl | (simp only [List.length_drop, List.length_take]; rfl)) ?_; (with_reducible refine (minuetref1_Add.calls k1 _ _ q t.f0 t.f1 t.f2 q' w _ HT.out.hb HT.out.hq AQ.out).mono ?_); rintro e w_ ⟨vQ_, rfl, ho0, hb, hkp⟩; refine ⟨_, rfl, ?_⟩; have q_ := Aside0.mk (blk_kept BT.out hkp NQgt.out); clear BT ct0 ct1 ct2 et0 et1 et2; have BT := q_; clear q_; obtain ⟨ct0, ct1, ct2, et0, et1, et2⟩ := Rd.three BT.out; have n0_ := Aside0.mk (HX.out.kept hkp HT.out.nX.2.2.1); have n1_ := Aside0.mk (HY.out.kept hkp HT.out.nX.2.2.2); have n2_ := Aside0.mk (HT.out.addQ ho0 hb hkp); clear HX HY HT; have HX := n0_; have HY := n1_; have HT := n2_; clear n0_ n1_ n2_; clear ho0 hb hkp) | ((with_reducible refine gate_callee (f := 51) rfl ?_); refine goesL_ (some 149) rfl rfl Try.func51 (by kernel_rfl) rfl #[u17, .agg #[.int .i64 0, .int .i64 (t.f2.size : Int), .string (⟨#[]⟩ : ByteArray)]] rfl (by (try simp only [List.map_toArray, List.map_cons, List.map_nil]); first | done | rfl | (simp only [List.length_drop, List.length_take]; rfl)) ?_; (with_reducible refine (minuetref1_Add.calls k1 _ _ p 0 (t.f2.size : Int) (⟨#[]⟩ : ByteArray) p' w _ HT.out.hb HT.out.hp AP.out).mono ?_); rintro e w_ ⟨vP_, rfl, ho0, hb, hkp⟩; refine ⟨_, rfl, ?_⟩; have n0_ := Aside0.mk (HX.out.kept hkp HT.out.nX.1); have n1_ := Aside0.mk (HY.out.kept hkp HT.out.nX.2.1); have n2_ := Aside0.mk (HT.out.addP ho0 hb hkp); clear HX HY HT; have HX := n0_; have HY := n1_; have HT := n2_; clear n0_ n1_ n2_; clear ho0 hb hkp))
            all_goals
             go_roundg k1
             case measure => have := HK1.out; omega
             case rel => exact ⟨_, _, _, _, _, _, _, _, H', ⟨by have := HK1.out; omega⟩, HX, HY, HT⟩
         · rw [if_neg c3_] at H
           by_cases c4_ : is = true ∧ are = true
           · rw [if_pos c4_] at H
             obtain ⟨rfl, rfl⟩ := c4_
             have kc_ : ¬ c.f0 = 1 := fun h_ => c2_ ⟨⟨rfl, h_⟩, .inr c3_⟩
             have b1 : (c.f0 == 1) = false := beq_eq_false_iff_ne.mpr kc_
             have b2 : (d.f0 == 1) = false := beq_eq_false_iff_ne.mpr (fun h_ => c3_ ⟨rfl, h_⟩)
             clear c1_ c2_ c3_ kc_
             have HH := Aside0.mk H
             clear H
             go_upto_region 8 with (first | ((with_reducible refine gate_callee (f := 48) rfl ?_); refine goesL_ (some 61) rfl rfl Try.func48 (by kernel_rfl) rfl #[.pointer (some ⟨gx, 0, none⟩)] rfl (by (try simp only [List.map_toArray, List.map_cons, List.map_nil]); first | done | rfl | (simp only [List.length_drop, List.length_take]; rfl)) ?_; (with_reducible refine (Rr.peek_any gx l0 ia pa c true w _ HT.out.hb HX.out AC.out).mono ?_); rintro e w_ ⟨rfl, hb⟩; refine ⟨_, rfl, ?_⟩; have n0_ := Aside0.mk (HX.out.below hb); have n1_ := Aside0.mk (HY.out.below hb); have n2_ := Aside0.mk (HT.out.below hb); clear HX HY HT; have HX := n0_; have HY := n1_; have HT := n2_; clear n0_ n1_ n2_; clear hb) | ((with_reducible refine gate_dst (N := 19) rfl ?_); refine box_event ?hg (N := 19) ?hd (cs := #[.int .i64 0, .int .i64 0, .string (⟨#[]⟩ : ByteArray)]) (t := 37) ?hr ?_; (case hd => rfl); (case hg => rfl); (case hr => first | (go_simp; done) | (go_simp; rfl)); intro gc hg wb_ hbox hb; have BC := Aside0.mk hbox; have Ggc := Aside0.mk (Nat.le_of_eq hg.symm : w_.heap.size ≤ gc); have HW := Aside0.mk hb; clear hb hbox hg; obtain ⟨cz0, cz1, cz2, fz0, fz1, fz2⟩ := Rd.three BC.out))
             have BC1 : Aside0 ((((wb_.setCell ⟨gc, 0, none⟩ (.int .i64 c.f0)).setCell ⟨gc, 1, none⟩ (.int .i64 c.f1)).setCell ⟨gc, 2, none⟩ (.string c.f2)).heap[gc]? = some (.cells #[.int .i64 c.f0, .int .i64 c.f1, .string c.f2] 37 (0, 0))) := ⟨Rd.set3 BC.out⟩
             have hb : Below w_.heap.size w_ (((wb_.setCell ⟨gc, 0, none⟩ (.int .i64 c.f0)).setCell ⟨gc, 1, none⟩ (.int .i64 c.f1)).setCell ⟨gc, 2, none⟩ (.string c.f2)) := ((HW.out.setCell Ggc.out _).setCell Ggc.out _).setCell Ggc.out _
             have HX1 := Aside0.mk (HX.out.below hb)
             have HY1 := Aside0.mk (HY.out.below hb)
             have HT1 := Aside0.mk (HT.out.below hb)
             have NPgc : ¬ SP gc := fun h_ => by have := (HT.out.dp _ h_).2.2.2; have := Ggc.out; omega
             have NQgc : ¬ SQ gc := fun h_ => by have := (HT.out.dq _ h_).2.2; have := Ggc.out; omega
             have nxgc : gx ≠ gc := fun e_ => by have := HT.out.lx; have := Ggc.out; omega
             have nygc : gy ≠ gc := fun e_ => by have := HT.out.ly; have := Ggc.out; omega
             have NPgc := Aside0.mk NPgc
             have NQgc := Aside0.mk NQgc
             have nxgc := Aside0.mk nxgc
             have nygc := Aside0.mk nygc
             clear hb
             generalize (((wb_.setCell ⟨gc, 0, none⟩ (.int .i64 c.f0)).setCell ⟨gc, 1, none⟩ (.int .i64 c.f1)).setCell ⟨gc, 2, none⟩ (.string c.f2)) = wA at BC1 HX1 HY1 HT1 ⊢
             clear BC HX HY HT HW cz0 cz1 cz2 fz0 fz1 fz2
             have BC := BC1
             have HX := HX1
             have HY := HY1
             have HT := HT1
             clear BC1 HX1 HY1 HT1
             go_upto_region 9 with (first | ((with_reducible refine gate_callee (f := 48) rfl ?_); refine goesL_ (some 66) rfl rfl Try.func48 (by kernel_rfl) rfl #[.pointer (some ⟨gy, 0, none⟩)] rfl (by (try simp only [List.map_toArray, List.map_cons, List.map_nil]); first | done | rfl | (simp only [List.length_drop, List.length_take]; rfl)) ?_; (with_reducible refine (Rr.peek_any gy l1 ib pb d true w _ HT.out.hb HY.out AD.out).mono ?_); rintro e w_ ⟨rfl, hb⟩; refine ⟨_, rfl, ?_⟩; have n0_ := Aside0.mk ((hb.block _ (blk_lt BC.out)).trans BC.out); have n1_ := Aside0.mk (HX.out.below hb); have n2_ := Aside0.mk (HY.out.below hb); have n3_ := Aside0.mk (HT.out.below hb); clear BC HX HY HT; have BC := n0_; have HX := n1_; have HY := n2_; have HT := n3_; clear n0_ n1_ n2_ n3_; clear hb) | ((with_reducible refine gate_dst (N := 21) rfl ?_); refine box_event ?hg (N := 21) ?hd (cs := #[.int .i64 0, .int .i64 0, .string (⟨#[]⟩ : ByteArray)]) (t := 37) ?hr ?_; (case hd => rfl); (case hg => rfl); (case hr => first | (go_simp; done) | (go_simp; rfl)); intro gd hg wb_ hbox hb; have BD := Aside0.mk hbox; have Ggd := Aside0.mk (Nat.le_of_eq hg.symm : w_.heap.size ≤ gd); have HW := Aside0.mk hb; clear hb hbox hg; obtain ⟨cz0, cz1, cz2, fz0, fz1, fz2⟩ := Rd.three BD.out))
             have BD1 : Aside0 ((((wb_.setCell ⟨gd, 0, none⟩ (.int .i64 d.f0)).setCell ⟨gd, 1, none⟩ (.int .i64 d.f1)).setCell ⟨gd, 2, none⟩ (.string d.f2)).heap[gd]? = some (.cells #[.int .i64 d.f0, .int .i64 d.f1, .string d.f2] 37 (0, 0))) := ⟨Rd.set3 BD.out⟩
             have hb : Below w_.heap.size w_ (((wb_.setCell ⟨gd, 0, none⟩ (.int .i64 d.f0)).setCell ⟨gd, 1, none⟩ (.int .i64 d.f1)).setCell ⟨gd, 2, none⟩ (.string d.f2)) := ((HW.out.setCell Ggd.out _).setCell Ggd.out _).setCell Ggd.out _
             have BC1 := Aside0.mk ((hb.block _ (blk_lt BC.out)).trans BC.out)
             have HX1 := Aside0.mk (HX.out.below hb)
             have HY1 := Aside0.mk (HY.out.below hb)
             have HT1 := Aside0.mk (HT.out.below hb)
             have NPgd : ¬ SP gd := fun h_ => by have := (HT.out.dp _ h_).2.2.2; have := Ggd.out; omega
             have NQgd : ¬ SQ gd := fun h_ => by have := (HT.out.dq _ h_).2.2; have := Ggd.out; omega
             have nxgd : gx ≠ gd := fun e_ => by have := HT.out.lx; have := Ggd.out; omega
             have nygd : gy ≠ gd := fun e_ => by have := HT.out.ly; have := Ggd.out; omega
             have NPgd := Aside0.mk NPgd
             have NQgd := Aside0.mk NQgd
             have nxgd := Aside0.mk nxgd
             have nygd := Aside0.mk nygd
             clear hb
             generalize (((wb_.setCell ⟨gd, 0, none⟩ (.int .i64 d.f0)).setCell ⟨gd, 1, none⟩ (.int .i64 d.f1)).setCell ⟨gd, 2, none⟩ (.string d.f2)) = wB at BD1 BC1 HX1 HY1 HT1 ⊢
             clear BD BC HX HY HT HW cz0 cz1 cz2 fz0 fz1 fz2
             have BD := BD1
             have BC := BC1
             have HX := HX1
             have HY := HY1
             have HT := HT1
             clear BD1 BC1 HX1 HY1 HT1
             obtain ⟨cp0, cp1, cp2, ep0, ep1, ep2⟩ := Rd.three BC.out
             obtain ⟨cq0, cq1, cq2, eq0, eq1, eq2⟩ := Rd.three BD.out
             have H := HH.out
             clear HH
             replace H := Option.bind_eq_some_iff.mp H; obtain ⟨s, HS_, H⟩ := H; (try dsimp only at HS_ H); have HS := Aside0.mk HS_; clear HS_
             replace H := Option.bind_eq_some_iff.mp H; obtain ⟨i, HI_, H⟩ := H; (try dsimp only at HI_ H); have HI := Aside0.mk HI_; clear HI_
             replace H := Option.bind_eq_some_iff.mp H; obtain ⟨⟨t, i2, p2⟩, AT1_, H⟩ := H; (try dsimp only at AT1_ H); have AT1 := Aside0.mk AT1_; clear AT1_
             replace H := Option.bind_eq_some_iff.mp H; obtain ⟨⟨u, i3, p3⟩, AT2_, H⟩ := H; (try dsimp only at AT2_ H); have AT2 := Aside0.mk AT2_; clear AT2_
             have HH := Aside0.mk H
             clear H
             go_upto_region 11 with (fail)
             have hs := HS.out
             have hi := HI.out
             have HV := Aside0.mk (Below.refl wB.heap.size wB)
             go_region_held3 (fun w' => w'.cell? ⟨gc, 0, none⟩ = some (.int .i64 c.f0) ∧ w'.cell? ⟨gc, 1, none⟩ = some (.int .i64 c.f1) ∧ w'.cell? ⟨gc, 2, none⟩ = some (.string c.f2) ∧ w'.cell? ⟨gd, 0, none⟩ = some (.int .i64 d.f0) ∧ w'.cell? ⟨gd, 1, none⟩ = some (.int .i64 d.f1) ∧ w'.cell? ⟨gd, 2, none⟩ = some (.string d.f2)) (first | (go_keep; done) | ((try dsimp only at *); go_split_ands; exact ⟨pw_cell_below hb (by assumption), pw_cell_below hb (by assumption), pw_cell_below hb (by assumption), pw_cell_below hb (by assumption), pw_cell_below hb (by assumption), pw_cell_below hb (by assumption)⟩)) (first | (go_at_call 52; refine (minuetref1_size.calls _ _ _ _ _ (by assumption)).mono ?_; rintro e w8 ⟨rfl, hb⟩; have HV2 := Aside0.mk (by first | exact below_step HV.out hb | exact below_step HV.out.drew hb : Below wB.heap.size wB w8); clear HV; have HV := HV2; clear HV2))
             all_goals
              have hv := HV.out
              clear HV hs hi
              have hb := hv
              clear hv
              have n0_ := Aside0.mk (HX.out.below hb)
              have n1_ := Aside0.mk (HY.out.below hb)
              have n2_ := Aside0.mk (HT.out.below hb)
              clear HX HY HT
              have HX := n0_
              have HY := n1_
              have HT := n2_
              clear n0_ n1_ n2_
              clear hb BC BD
              go_upto_region 13 with (first | ((with_reducible refine gate_callee (f := 50) rfl ?_); refine goesL_ (some 88) rfl rfl Try.func50 (by kernel_rfl) rfl #[.pointer (some ⟨gx, 0, none⟩), .int .i64 (Rr.mini s i)] rfl (by (try simp only [List.map_toArray, List.map_cons, List.map_nil]); first | done | rfl | (simp only [List.length_drop, List.length_take]; rfl)) ?_; (with_reducible refine (Rr.take_any gx l0 ia pa (Rr.mini s i) t i2 p2 w _ HT.out.hb HX.out AT1.out).mono ?_); rintro e w_ ⟨rfl, hx, hb, hkp⟩; refine ⟨_, rfl, ?_⟩; have n0_ := Aside0.mk (hx); have n1_ := Aside0.mk (HY.out.kept hkp (fun e_ => NXY.out e_.symm)); have n2_ := Aside0.mk (HT.out.keptX hb hkp); clear HX HY HT; have HX := n0_; have HY := n1_; have HT := n2_; clear n0_ n1_ n2_; clear hx hb hkp) | ((with_reducible refine gate_dst (N := 28) rfl ?_); refine box_event ?hg (N := 28) ?hd (cs := #[.int .i64 0, .int .i64 0, .string (⟨#[]⟩ : ByteArray)]) (t := 37) ?hr ?_; (case hd => rfl); (case hg => rfl); (case hr => first | (go_simp; done) | (go_simp; rfl)); intro gt hg wb_ hbox hb; have BT := Aside0.mk hbox; have Ggt := Aside0.mk (Nat.le_of_eq hg.symm : w_.heap.size ≤ gt); have HW := Aside0.mk hb; clear hb hbox hg; obtain ⟨cz0, cz1, cz2, fz0, fz1, fz2⟩ := Rd.three BT.out))
              have BT1 : Aside0 ((((wb_.setCell ⟨gt, 0, none⟩ (.int .i64 t.f0)).setCell ⟨gt, 1, none⟩ (.int .i64 t.f1)).setCell ⟨gt, 2, none⟩ (.string t.f2)).heap[gt]? = some (.cells #[.int .i64 t.f0, .int .i64 t.f1, .string t.f2] 37 (0, 0))) := ⟨Rd.set3 BT.out⟩
              have hb : Below w_.heap.size w_ (((wb_.setCell ⟨gt, 0, none⟩ (.int .i64 t.f0)).setCell ⟨gt, 1, none⟩ (.int .i64 t.f1)).setCell ⟨gt, 2, none⟩ (.string t.f2)) := ((HW.out.setCell Ggt.out _).setCell Ggt.out _).setCell Ggt.out _
              have HX1 := Aside0.mk (HX.out.below hb)
              have HY1 := Aside0.mk (HY.out.below hb)
              have HT1 := Aside0.mk (HT.out.below hb)
              have NPgt : ¬ SP gt := fun h_ => by have := (HT.out.dp _ h_).2.2.2; have := Ggt.out; omega
              have NQgt : ¬ SQ gt := fun h_ => by have := (HT.out.dq _ h_).2.2; have := Ggt.out; omega
              have nxgt : gx ≠ gt := fun e_ => by have := HT.out.lx; have := Ggt.out; omega
              have nygt : gy ≠ gt := fun e_ => by have := HT.out.ly; have := Ggt.out; omega
              have NPgt := Aside0.mk NPgt
              have NQgt := Aside0.mk NQgt
              have nxgt := Aside0.mk nxgt
              have nygt := Aside0.mk nygt
              clear hb
              generalize (((wb_.setCell ⟨gt, 0, none⟩ (.int .i64 t.f0)).setCell ⟨gt, 1, none⟩ (.int .i64 t.f1)).setCell ⟨gt, 2, none⟩ (.string t.f2)) = wC at BT1 HX1 HY1 HT1 ⊢
              clear BT HX HY HT HW cz0 cz1 cz2 fz0 fz1 fz2
              have BT := BT1
              have HX := HX1
              have HY := HY1
              have HT := HT1
              clear BT1 HX1 HY1 HT1
              go_upto_region 14 with (first | ((with_reducible refine gate_callee (f := 50) rfl ?_); refine goesL_ (some 91) rfl rfl Try.func50 (by kernel_rfl) rfl #[.pointer (some ⟨gy, 0, none⟩), .int .i64 (Rr.mini s i)] rfl (by (try simp only [List.map_toArray, List.map_cons, List.map_nil]); first | done | rfl | (simp only [List.length_drop, List.length_take]; rfl)) ?_; (with_reducible refine (Rr.take_any gy l1 ib pb (Rr.mini s i) u i3 p3 w _ HT.out.hb HY.out AT2.out).mono ?_); rintro e w_ ⟨rfl, hx, hb, hkp⟩; refine ⟨_, rfl, ?_⟩; have n0_ := Aside0.mk (blk_kept BT.out hkp (fun e_ => nygt.out e_.symm)); have n1_ := Aside0.mk (hx); have n2_ := Aside0.mk (HX.out.kept hkp (fun e_ => NXY.out e_)); have n3_ := Aside0.mk (HT.out.keptY hb hkp); clear BT HY HX HT; have BT := n0_; have HY := n1_; have HX := n2_; have HT := n3_; clear n0_ n1_ n2_ n3_; clear hx hb hkp) | ((with_reducible refine gate_dst (N := 29) rfl ?_); refine box_event ?hg (N := 29) ?hd (cs := #[.int .i64 0, .int .i64 0, .string (⟨#[]⟩ : ByteArray)]) (t := 37) ?hr ?_; (case hd => rfl); (case hg => rfl); (case hr => first | (go_simp; done) | (go_simp; rfl)); intro gu hg wb_ hbox hb; have BU := Aside0.mk hbox; have Ggu := Aside0.mk (Nat.le_of_eq hg.symm : w_.heap.size ≤ gu); have HW := Aside0.mk hb; clear hb hbox hg; obtain ⟨cz0, cz1, cz2, fz0, fz1, fz2⟩ := Rd.three BU.out))
              have BU1 : Aside0 ((((wb_.setCell ⟨gu, 0, none⟩ (.int .i64 u.f0)).setCell ⟨gu, 1, none⟩ (.int .i64 u.f1)).setCell ⟨gu, 2, none⟩ (.string u.f2)).heap[gu]? = some (.cells #[.int .i64 u.f0, .int .i64 u.f1, .string u.f2] 37 (0, 0))) := ⟨Rd.set3 BU.out⟩
              have hb : Below w_.heap.size w_ (((wb_.setCell ⟨gu, 0, none⟩ (.int .i64 u.f0)).setCell ⟨gu, 1, none⟩ (.int .i64 u.f1)).setCell ⟨gu, 2, none⟩ (.string u.f2)) := ((HW.out.setCell Ggu.out _).setCell Ggu.out _).setCell Ggu.out _
              have BT1 := Aside0.mk ((hb.block _ (blk_lt BT.out)).trans BT.out)
              have HX1 := Aside0.mk (HX.out.below hb)
              have HY1 := Aside0.mk (HY.out.below hb)
              have HT1 := Aside0.mk (HT.out.below hb)
              have NPgu : ¬ SP gu := fun h_ => by have := (HT.out.dp _ h_).2.2.2; have := Ggu.out; omega
              have NQgu : ¬ SQ gu := fun h_ => by have := (HT.out.dq _ h_).2.2; have := Ggu.out; omega
              have nxgu : gx ≠ gu := fun e_ => by have := HT.out.lx; have := Ggu.out; omega
              have nygu : gy ≠ gu := fun e_ => by have := HT.out.ly; have := Ggu.out; omega
              have NPgu := Aside0.mk NPgu
              have NQgu := Aside0.mk NQgu
              have nxgu := Aside0.mk nxgu
              have nygu := Aside0.mk nygu
              clear hb
              generalize (((wb_.setCell ⟨gu, 0, none⟩ (.int .i64 u.f0)).setCell ⟨gu, 1, none⟩ (.int .i64 u.f1)).setCell ⟨gu, 2, none⟩ (.string u.f2)) = wD at BU1 BT1 HX1 HY1 HT1 ⊢
              clear BU BT HX HY HT HW cz0 cz1 cz2 fz0 fz1 fz2
              have BU := BU1
              have BT := BT1
              have HX := HX1
              have HY := HY1
              have HT := HT1
              clear BU1 BT1 HX1 HY1 HT1
              obtain ⟨ct0, ct1, ct2, et0, et1, et2⟩ := Rd.three BT.out
              obtain ⟨cu0, cu1, cu2, eu0, eu1, eu2⟩ := Rd.three BU.out
              have H := HH.out
              clear HH
              by_cases c5_ : u.f0 = 0
              · rw [if_pos c5_] at H
                replace H := Option.bind_eq_some_iff.mp H; obtain ⟨p', AP_, H⟩ := H; (try dsimp only at AP_ H); have AP := Aside0.mk AP_; clear AP_
                have b6 : (u.f0 == 0) = true := beq_iff_eq.mpr c5_
                clear c5_
                by_cases c6_ : t.f0 = 0
                · rw [if_pos c6_] at H
                  replace H := Option.bind_eq_some_iff.mp H; obtain ⟨q', AQ_, H⟩ := H; (try dsimp only at AQ_ H); have AQ := Aside0.mk AQ_; clear AQ_
                  have b7 : (t.f0 == 0) = true := beq_iff_eq.mpr c6_
                  have H' := Aside0.mk H
                  clear c6_ H
                  go_wp2_with (first | ((with_reducible refine gate_callee (f := 51) rfl ?_); refine goesL_ (some 97) rfl rfl Try.func51 (by kernel_rfl) rfl #[u17, .agg #[.int .i64 t.f0, .int .i64 t.f1, .string t.f2]] rfl (by (try simp only [List.map_toArray, List.map_cons, List.map_nil]); first | done | rfl | (simp only [List.length_drop, List.length_take]; rfl)) ?_; (with_reducible refine (minuetref1_Add.calls k1 _ _ p t.f0 t.f1 t.f2 p' w _ HT.out.hb HT.out.hp AP.out).mono ?_); rintro e w_ ⟨vP_, rfl, ho0, hb, hkp⟩; refine ⟨_, rfl, ?_⟩; have q_ := Aside0.mk (blk_kept BT.out hkp NPgt.out); clear BT ct0 ct1 ct2 et0 et1 et2; have BT := q_; clear q_; obtain ⟨ct0, ct1, ct2, et0, et1, et2⟩ := Rd.three BT.out; have q_ := Aside0.mk (blk_kept BU.out hkp NPgu.out); clear BU cu0 cu1 cu2 eu0 eu1 eu2; have BU := q_; clear q_; obtain ⟨cu0, cu1, cu2, eu0, eu1, eu2⟩ := Rd.three BU.out; have n0_ := Aside0.mk (HX.out.kept hkp HT.out.nX.1); have n1_ := Aside0.mk (HY.out.kept hkp HT.out.nX.2.1); have n2_ := Aside0.mk (HT.out.addP ho0 hb hkp); clear HX HY HT; have HX := n0_; have HY := n1_; have HT := n2_; clear n0_ n1_ n2_; clear ho0 hb hkp) | ((with_reducible refine gate_callee (f := 51) rfl ?_); refine goesL_ (some 103) rfl rfl Try.func51 (by kernel_rfl) rfl #[u18, .agg #[.int .i64 u.f0, .int .i64 u.f1, .string u.f2]] rfl (by (try simp only [List.map_toArray, List.map_cons, List.map_nil]); first | done | rfl | (simp only [List.length_drop, List.length_take]; rfl)) ?_; (with_reducible refine (minuetref1_Add.calls k1 _ _ q u.f0 u.f1 u.f2 q' w _ HT.out.hb HT.out.hq AQ.out).mono ?_); rintro e w_ ⟨vQ_, rfl, ho0, hb, hkp⟩; refine ⟨_, rfl, ?_⟩; have n0_ := Aside0.mk (HX.out.kept hkp HT.out.nX.2.2.1); have n1_ := Aside0.mk (HY.out.kept hkp HT.out.nX.2.2.2); have n2_ := Aside0.mk (HT.out.addQ ho0 hb hkp); clear HX HY HT; have HX := n0_; have HY := n1_; have HT := n2_; clear n0_ n1_ n2_; clear ho0 hb hkp))
                  all_goals
                   go_roundg k1
                   case measure => have := HK1.out; omega
                   case rel => exact ⟨_, _, _, _, _, _, _, _, H', ⟨by have := HK1.out; omega⟩, HX, HY, HT⟩
                · rw [if_neg c6_] at H
                  have b7 : (t.f0 == 0) = false := beq_eq_false_iff_ne.mpr c6_
                  simp only [Option.bind_some] at H
                  have H' := Aside0.mk H
                  clear c6_ H
                  go_wp2_with (first | ((with_reducible refine gate_callee (f := 51) rfl ?_); refine goesL_ (some 97) rfl rfl Try.func51 (by kernel_rfl) rfl #[u17, .agg #[.int .i64 t.f0, .int .i64 t.f1, .string t.f2]] rfl (by (try simp only [List.map_toArray, List.map_cons, List.map_nil]); first | done | rfl | (simp only [List.length_drop, List.length_take]; rfl)) ?_; (with_reducible refine (minuetref1_Add.calls k1 _ _ p t.f0 t.f1 t.f2 p' w _ HT.out.hb HT.out.hp AP.out).mono ?_); rintro e w_ ⟨vP_, rfl, ho0, hb, hkp⟩; refine ⟨_, rfl, ?_⟩; have q_ := Aside0.mk (blk_kept BT.out hkp NPgt.out); clear BT ct0 ct1 ct2 et0 et1 et2; have BT := q_; clear q_; obtain ⟨ct0, ct1, ct2, et0, et1, et2⟩ := Rd.three BT.out; have q_ := Aside0.mk (blk_kept BU.out hkp NPgu.out); clear BU cu0 cu1 cu2 eu0 eu1 eu2; have BU := q_; clear q_; obtain ⟨cu0, cu1, cu2, eu0, eu1, eu2⟩ := Rd.three BU.out; have n0_ := Aside0.mk (HX.out.kept hkp HT.out.nX.1); have n1_ := Aside0.mk (HY.out.kept hkp HT.out.nX.2.1); have n2_ := Aside0.mk (HT.out.addP ho0 hb hkp); clear HX HY HT; have HX := n0_; have HY := n1_; have HT := n2_; clear n0_ n1_ n2_; clear ho0 hb hkp))
                  all_goals
                   go_roundg k1
                   case measure => have := HK1.out; omega
                   case rel => exact ⟨_, _, _, _, _, _, _, _, H', ⟨by have := HK1.out; omega⟩, HX, HY, HT⟩
              · rw [if_neg c5_] at H
                have b6 : (u.f0 == 0) = false := beq_eq_false_iff_ne.mpr c5_
                simp only [Option.bind_some] at H
                clear c5_
                by_cases c6_ : t.f0 = 0
                · rw [if_pos c6_] at H
                  replace H := Option.bind_eq_some_iff.mp H; obtain ⟨q', AQ_, H⟩ := H; (try dsimp only at AQ_ H); have AQ := Aside0.mk AQ_; clear AQ_
                  have b7 : (t.f0 == 0) = true := beq_iff_eq.mpr c6_
                  have H' := Aside0.mk H
                  clear c6_ H
                  go_wp2_with (first | ((with_reducible refine gate_callee (f := 51) rfl ?_); refine goesL_ (some 103) rfl rfl Try.func51 (by kernel_rfl) rfl #[u18, .agg #[.int .i64 u.f0, .int .i64 u.f1, .string u.f2]] rfl (by (try simp only [List.map_toArray, List.map_cons, List.map_nil]); first | done | rfl | (simp only [List.length_drop, List.length_take]; rfl)) ?_; (with_reducible refine (minuetref1_Add.calls k1 _ _ q u.f0 u.f1 u.f2 q' w _ HT.out.hb HT.out.hq AQ.out).mono ?_); rintro e w_ ⟨vQ_, rfl, ho0, hb, hkp⟩; refine ⟨_, rfl, ?_⟩; have n0_ := Aside0.mk (HX.out.kept hkp HT.out.nX.2.2.1); have n1_ := Aside0.mk (HY.out.kept hkp HT.out.nX.2.2.2); have n2_ := Aside0.mk (HT.out.addQ ho0 hb hkp); clear HX HY HT; have HX := n0_; have HY := n1_; have HT := n2_; clear n0_ n1_ n2_; clear ho0 hb hkp))
                  all_goals
                   go_roundg k1
                   case measure => have := HK1.out; omega
                   case rel => exact ⟨_, _, _, _, _, _, _, _, H', ⟨by have := HK1.out; omega⟩, HX, HY, HT⟩
                · rw [if_neg c6_] at H
                  have b7 : (t.f0 == 0) = false := beq_eq_false_iff_ne.mpr c6_
                  simp only [Option.bind_some] at H
                  have H' := Aside0.mk H
                  clear c6_ H
                  go_wp2
                  all_goals
                   go_roundg k1
                   case measure => have := HK1.out; omega
                   case rel => exact ⟨_, _, _, _, _, _, _, _, H', ⟨by have := HK1.out; omega⟩, HX, HY, HT⟩
           · rw [if_neg c4_] at H
             cases H
 · rw [if_neg hok] at h
   simp only [Option.some.injEq, Prod.mk.injEq] at h
   obtain ⟨rfl, rfl, rfl⟩ := h
   by_cases e1 : t3 = 0
   · have a1 : (t3 != 0) = false := bne_eq_false_iff_eq.mpr e1
     by_cases e2 : u3 = 0
     · have a2_ : (u3 != 0) = false := bne_eq_false_iff_eq.mpr e2
       have a3 : (t1 != u1) = true := bne_iff_ne.mpr (fun h_ => hok ⟨e1, e2, h_⟩)
       clear hok e1 e2
       go_enter Try.func15, Try.ntmps15
       go_wp2_with (first | ((with_reducible refine gate_callee (f := 21) rfl ?_); refine goesL_ (some 32) rfl rfl Try.func21 (by kernel_rfl) rfl #[.slice A0 l0.length c0] rfl (by (try simp only [List.map_toArray, List.map_cons, List.map_nil]); first | done | rfl | (simp only [List.length_drop, List.length_take]; rfl)) ?_; (with_reducible refine (minuetref1_Lengths.calls k _ _ l0 t1 t2 t3 _ ?side1 ?side2 AT.out).mono ?_); (case side1 => exact Kd.C_below HR0.out HB.out); (case side2 => exact HC0.out); rintro e w_ ⟨rfl, hb⟩; refine ⟨_, rfl, ?_⟩; have n0_ := Aside0.mk (below_step HB.out hb); clear HB; have HB := n0_; clear n0_; clear hb) | ((with_reducible refine gate_callee (f := 21) rfl ?_); refine goesL_ (some 38) rfl rfl Try.func21 (by kernel_rfl) rfl #[.slice A1 l1.length c1] rfl (by (try simp only [List.map_toArray, List.map_cons, List.map_nil]); first | done | rfl | (simp only [List.length_drop, List.length_take]; rfl)) ?_; (with_reducible refine (minuetref1_Lengths.calls k _ _ l1 u1 u2 u3 _ ?side1 ?side2 AU.out).mono ?_); (case side1 => exact Kd.C_below HR1.out HB.out); (case side2 => exact HC1.out); rintro e w_ ⟨rfl, hb⟩; refine ⟨_, rfl, ?_⟩; have n0_ := Aside0.mk (below_step HB.out hb); clear HB; have HB := n0_; clear n0_; clear hb))
       go_ret3
       exact ⟨_, _, rfl, Kd.R_nil _ _ _ _ _, Kd.R_nil _ _ _ _ _, HB.out⟩
     · have a2_ : (u3 != 0) = true := bne_iff_ne.mpr e2
       clear hok e1 e2
       go_enter Try.func15, Try.ntmps15
       go_wp2_with (first | ((with_reducible refine gate_callee (f := 21) rfl ?_); refine goesL_ (some 32) rfl rfl Try.func21 (by kernel_rfl) rfl #[.slice A0 l0.length c0] rfl (by (try simp only [List.map_toArray, List.map_cons, List.map_nil]); first | done | rfl | (simp only [List.length_drop, List.length_take]; rfl)) ?_; (with_reducible refine (minuetref1_Lengths.calls k _ _ l0 t1 t2 t3 _ ?side1 ?side2 AT.out).mono ?_); (case side1 => exact Kd.C_below HR0.out HB.out); (case side2 => exact HC0.out); rintro e w_ ⟨rfl, hb⟩; refine ⟨_, rfl, ?_⟩; have n0_ := Aside0.mk (below_step HB.out hb); clear HB; have HB := n0_; clear n0_; clear hb) | ((with_reducible refine gate_callee (f := 21) rfl ?_); refine goesL_ (some 38) rfl rfl Try.func21 (by kernel_rfl) rfl #[.slice A1 l1.length c1] rfl (by (try simp only [List.map_toArray, List.map_cons, List.map_nil]); first | done | rfl | (simp only [List.length_drop, List.length_take]; rfl)) ?_; (with_reducible refine (minuetref1_Lengths.calls k _ _ l1 u1 u2 u3 _ ?side1 ?side2 AU.out).mono ?_); (case side1 => exact Kd.C_below HR1.out HB.out); (case side2 => exact HC1.out); rintro e w_ ⟨rfl, hb⟩; refine ⟨_, rfl, ?_⟩; have n0_ := Aside0.mk (below_step HB.out hb); clear HB; have HB := n0_; clear n0_; clear hb))
       go_ret3
       exact ⟨_, _, rfl, Kd.R_nil _ _ _ _ _, Kd.R_nil _ _ _ _ _, HB.out⟩
   · have a1 : (t3 != 0) = true := bne_iff_ne.mpr e1
     clear hok e1
     go_enter Try.func15, Try.ntmps15
     go_wp2_with (first | ((with_reducible refine gate_callee (f := 21) rfl ?_); refine goesL_ (some 32) rfl rfl Try.func21 (by kernel_rfl) rfl #[.slice A0 l0.length c0] rfl (by (try simp only [List.map_toArray, List.map_cons, List.map_nil]); first | done | rfl | (simp only [List.length_drop, List.length_take]; rfl)) ?_; (with_reducible refine (minuetref1_Lengths.calls k _ _ l0 t1 t2 t3 _ ?side1 ?side2 AT.out).mono ?_); (case side1 => exact Kd.C_below HR0.out HB.out); (case side2 => exact HC0.out); rintro e w_ ⟨rfl, hb⟩; refine ⟨_, rfl, ?_⟩; have n0_ := Aside0.mk (below_step HB.out hb); clear HB; have HB := n0_; clear n0_; clear hb) | ((with_reducible refine gate_callee (f := 21) rfl ?_); refine goesL_ (some 38) rfl rfl Try.func21 (by kernel_rfl) rfl #[.slice A1 l1.length c1] rfl (by (try simp only [List.map_toArray, List.map_cons, List.map_nil]); first | done | rfl | (simp only [List.length_drop, List.length_take]; rfl)) ?_; (with_reducible refine (minuetref1_Lengths.calls k _ _ l1 u1 u2 u3 _ ?side1 ?side2 AU.out).mono ?_); (case side1 => exact Kd.C_below HR1.out HB.out); (case side2 => exact HC1.out); rintro e w_ ⟨rfl, hb⟩; refine ⟨_, rfl, ?_⟩; have n0_ := Aside0.mk (below_step HB.out hb); clear HB; have HB := n0_; clear n0_; clear hb))
     go_ret3
     exact ⟨_, _, rfl, Kd.R_nil _ _ _ _ _, Kd.R_nil _ _ _ _ _, HB.out⟩


end Go.Proofs.Ytldaokclpkcmmab.G
