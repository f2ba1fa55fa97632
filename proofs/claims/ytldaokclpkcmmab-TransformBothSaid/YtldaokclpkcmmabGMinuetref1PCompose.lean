-- Laid by this session's own program gprint.py (wip/tools), out of the kit's print and of texts of this session. Lean checks it.
import Derived.Test.YtldaokclpkcmmabGx0
import Derived.Test.YtldaokclpkcmmabGZ1
import Derived.Test.YtldaokclpkcmmabGMinuetref1PAdd
import Derived.Test.YtldaokclpkcmmabGZ2
import Derived.Test.YtldaokclpkcmmabRr
namespace Go.Proofs.Ytldaokclpkcmmab.G
open Go.RowKit Go.Proofs.YtldaokclpkcmmabW.PrintWords Go.Proofs.YtldaokclpkcmmabW.PrintLast Go.Proofs.YtldaokclpkcmmabW.PrintMore
set_option linter.unusedVariables false
set_option linter.unusedSimpArgs false

/-! ### minuetref1_Compose: function 25 -/
def minuetref1_Compose.fin (k : Nat) (out : List (S37)) : Option (List (S37) × Int) := (minuetref1_CompsMay.f k out).bind fun m => if m = true then some (out, 0) else some ([], 400)
def minuetref1_Compose.l0 : Nat → List (S37) → List (S37) → Int → Int → Int → Int → List (S37) → Option (List (S37) × Int)
 | 0, _, _, _, _, _, _, _ => none
 | k + 1, l0, l1, ia, pa, ib, pb, out => (Rr.peek l0 ia pa).bind fun c => (Rr.peek l1 ib pb).bind fun d =>
  if c.2 = false ∧ d.2 = false then minuetref1_Compose.fin k out
  else if c.2 = true ∧ c.1.f0 = 2 then (Rr.take l0 ia pa 4096).bind fun t => (minuetref1_Add.f k out t.1.f0 t.1.f1 t.1.f2).bind fun o => minuetref1_Compose.l0 k l0 l1 t.2.1 t.2.2 ib pb o
  else if d.2 = true ∧ d.1.f0 = 1 then (Rr.take l1 ib pb 4096).bind fun t => (minuetref1_Add.f k out t.1.f0 t.1.f1 t.1.f2).bind fun o => minuetref1_Compose.l0 k l0 l1 ia pa t.2.1 t.2.2 o
  else if c.2 = true ∧ d.2 = true then (minuetref1_size.f c.1.f0 c.1.f1 c.1.f2).bind fun s => (minuetref1_size.f d.1.f0 d.1.f1 d.1.f2).bind fun q =>
   (Rr.take l0 ia pa (Rr.mini s q)).bind fun t => (Rr.take l1 ib pb (Rr.mini s q)).bind fun u =>
   if t.1.f0 = 1 ∧ u.1.f0 = 2 then minuetref1_Compose.l0 k l0 l1 t.2.1 t.2.2 u.2.1 u.2.2 out
   else if t.1.f0 = 1 then (minuetref1_Add.f k out t.1.f0 t.1.f1 t.1.f2).bind fun o => minuetref1_Compose.l0 k l0 l1 t.2.1 t.2.2 u.2.1 u.2.2 o
   else (minuetref1_Add.f k out u.1.f0 u.1.f1 u.1.f2).bind fun o => minuetref1_Compose.l0 k l0 l1 t.2.1 t.2.2 u.2.1 u.2.2 o
  else none
def minuetref1_Compose.f (k : Nat) (l0 l1 : List (S37)) : Option (List (S37) × Int) := (minuetref1_Lengths.f k l0).bind fun t => (minuetref1_Lengths.f k l1).bind fun u => if t.2.2 = 0 ∧ u.2.2 = 0 ∧ t.2.1 = u.1 then minuetref1_Compose.l0 k l0 l1 0 0 0 0 [] else some ([], 400)
theorem minuetref1_Compose.mono_l : ∀ k, (∀ y0 y1 y2 y3 y4 y5 y6, LeO (minuetref1_Compose.l0 k y0 y1 y2 y3 y4 y5 y6) (minuetref1_Compose.l0 (k + 1) y0 y1 y2 y3 y4 y5 y6))
 | 0 => fun _ _ _ _ _ _ _ r h => by simp [minuetref1_Compose.l0] at h
 | k + 1 => by
  have ih := minuetref1_Compose.mono_l k
  intro y0 y1 y2 y3 y4 y5 y6
  unfold minuetref1_Compose.l0
  refine LeO.bind (LeO.refl _) (fun c => LeO.bind (LeO.refl _) (fun d => LeO.ite ?_ (LeO.ite ?_ (LeO.ite ?_ (LeO.ite ?_ (LeO.none _))))))
  · unfold minuetref1_Compose.fin; exact LeO.bind (minuetref1_CompsMay.mono _ _) (fun _ => LeO.refl _)
  · exact LeO.bind (LeO.refl _) (fun t => LeO.bind (minuetref1_Add.mono _ _ _ _ _) (fun o => ih _ _ _ _ _ _ _))
  · exact LeO.bind (LeO.refl _) (fun t => LeO.bind (minuetref1_Add.mono _ _ _ _ _) (fun o => ih _ _ _ _ _ _ _))
  · exact LeO.bind (LeO.refl _) (fun s => LeO.bind (LeO.refl _) (fun q => LeO.bind (LeO.refl _) (fun t => LeO.bind (LeO.refl _) (fun u => LeO.ite (ih _ _ _ _ _ _ _) (LeO.ite (LeO.bind (minuetref1_Add.mono _ _ _ _ _) (fun o => ih _ _ _ _ _ _ _)) (LeO.bind (minuetref1_Add.mono _ _ _ _ _) (fun o => ih _ _ _ _ _ _ _)))))))
theorem minuetref1_Compose.mono : ∀ a0 a1 k, LeO (minuetref1_Compose.f k a0 a1) (minuetref1_Compose.f (k + 1) a0 a1) := by
 intro a0 a1 k; unfold minuetref1_Compose.f
 exact LeO.bind (minuetref1_Lengths.mono _ _) (fun t => LeO.bind (minuetref1_Lengths.mono _ _) (fun u => LeO.ite (minuetref1_Compose.mono_l _ _ _ _ _ _ _ _) (LeO.refl _)))
set_option maxHeartbeats 8000000 in
set_option maxRecDepth 100000 in
theorem minuetref1_Compose.calls (k : Nat) (A0 : Option Addr) (c0 : Nat) (l0 : List (S37)) (A1 : Option Addr) (c1 : Nat) (l1 : List (S37)) (r1 : List (S37)) (r2 : Int) (w : World) (hr0 : Kd.C k37 w A0 l0.length l0) (hc0 : l0.length ≤ c0) (hr1 : Kd.C k37 w A1 l1.length l1) (hc1 : l1.length ≤ c1) (h : minuetref1_Compose.f k l0 l1 = some (r1, r2)) :
 Calls Try.prog 25 #[.slice A0 l0.length c0, .slice A1 l1.length c1] w fun e w' => ∃ v0_ : Value, e = .returned (.tuple #[v0_, .int .i64 r2]) ∧ Kd.R k37 37 w' w.heap.size (fun _ => True) v0_ r1 ∧ Below w.heap.size w w' := by
 have HR0 := Aside0.mk hr0
 have HC0 := Aside0.mk hc0
 have HR1 := Aside0.mk hr1
 have HC1 := Aside0.mk hc1
 clear hr0 hc0 hr1 hc1
 have HB := Aside0.mk (Below.refl w.heap.size w)
 unfold minuetref1_Compose.f at h
 replace h := Option.bind_eq_some_iff.mp h; obtain ⟨⟨t1, t2, t3⟩, AT_, h⟩ := h; have AT := Aside0.mk AT_; clear AT_
 replace h := Option.bind_eq_some_iff.mp h; obtain ⟨⟨u1, u2, u3⟩, AU_, h⟩ := h; have AU := Aside0.mk AU_; clear AU_
 simp only at h
 by_cases hok : t3 = 0 ∧ u3 = 0 ∧ t2 = u1
 · rw [if_pos hok] at h
   have a1 : (t3 != 0) = false := bne_eq_false_iff_eq.mpr hok.1
   have a2 : (u3 != 0) = false := bne_eq_false_iff_eq.mpr hok.2.1
   have a3 : (t2 != u1) = false := bne_eq_false_iff_eq.mpr hok.2.2
   have H' := Aside0.mk h
   clear h hok
   go_enter Try.func25, Try.ntmps25
   go_wp2_with (first | ((with_reducible refine gate_callee (f := 21) rfl ?_); refine goesL_ (some 24) rfl rfl Try.func21 (by kernel_rfl) rfl #[.slice A0 l0.length c0] rfl (by (try simp only [List.map_toArray, List.map_cons, List.map_nil]); first | done | rfl | (simp only [List.length_drop, List.length_take]; rfl)) ?_; (with_reducible refine (minuetref1_Lengths.calls k _ _ l0 t1 t2 t3 _ ?side1 ?side2 AT.out).mono ?_); (case side1 => exact Kd.C_below HR0.out HB.out); (case side2 => exact HC0.out); rintro e w_ ⟨rfl, hb⟩; refine ⟨_, rfl, ?_⟩; have n0_ := Aside0.mk (below_step HB.out hb); clear HB; have HB := n0_; clear n0_; clear hb) | ((with_reducible refine gate_callee (f := 21) rfl ?_); refine goesL_ (some 30) rfl rfl Try.func21 (by kernel_rfl) rfl #[.slice A1 l1.length c1] rfl (by (try simp only [List.map_toArray, List.map_cons, List.map_nil]); first | done | rfl | (simp only [List.length_drop, List.length_take]; rfl)) ?_; (with_reducible refine (minuetref1_Lengths.calls k _ _ l1 u1 u2 u3 _ ?side1 ?side2 AU.out).mono ?_); (case side1 => exact Kd.C_below HR1.out HB.out); (case side2 => exact HC1.out); rintro e w_ ⟨rfl, hb⟩; refine ⟨_, rfl, ?_⟩; have n0_ := Aside0.mk (below_step HB.out hb); clear HB; have HB := n0_; clear n0_; clear hb) | ((with_reducible refine gate_dst (N := 47) rfl ?_); refine box_event ?hg (N := 47) ?hd (cs := #[.slice A0 l0.length c0, .int .i64 0, .int .i64 0]) (t := 89) ?hr ?_; (case hd => rfl); (case hg => rfl); (case hr => first | (go_simp; done) | (go_simp; rfl)); intro gx hg w_ hbox hb; have HX := Aside0.mk (show IsRr w w_ gx l0 0 0 from ⟨_, _, hbox, by rw [hg]; exact HB.out.size, HR0.out⟩); have n0_ := Aside0.mk (below_step HB.out hb); clear HB; have HB := n0_; clear n0_; clear hbox hb hg) | ((with_reducible refine gate_dst (N := 50) rfl ?_); refine box_event ?hg (N := 50) ?hd (cs := #[.slice A1 l1.length c1, .int .i64 0, .int .i64 0]) (t := 89) ?hr ?_; (case hd => rfl); (case hg => rfl); (case hr => first | (go_simp; done) | (go_simp; rfl)); intro gy hg w_ hbox hb; have NXY := Aside0.mk (show gx ≠ gy from fun e_ => by have := (Rr.shape HX.out).2; omega); have HY := Aside0.mk (show IsRr w w_ gy l1 0 0 from ⟨_, _, hbox, by rw [hg]; exact HB.out.size, HR1.out⟩); have n1_ := Aside0.mk (HX.out.below hb); have n0_ := Aside0.mk (below_step HB.out hb); clear HB HX; have HB := n0_; have HX := n1_; clear n0_ n1_; clear hbox hb hg))
   go_loopg [14] k (fun kq v14 w' => ∃ (ia pa ib pb : Int) (out : List (S37)), Aside0 (minuetref1_Compose.l0 kq l0 l1 ia pa ib pb out = some (r1, r2)) ∧ Aside0 (kq ≤ k) ∧ Aside0 (IsRr w w' gx l0 ia pa) ∧ Aside0 (IsRr w w' gy l1 ib pb) ∧ Aside0 (Kd.R k37 37 w' w.heap.size (fun k_ => k_ ≠ gx ∧ k_ ≠ gy) v14 out) ∧ Aside0 (Below w.heap.size w w'))
   case atStart => exact ⟨0, 0, 0, 0, [], H', ⟨Nat.le_refl _⟩, HX, HY, ⟨Kd.R_nil _ _ _ _ _⟩, HB⟩
   case round =>
    clear H' HX HY HB a1 a2 a3
    obtain ⟨ia, pa, ib, pb, out, HA, HK1, HX, HY, HO, HB⟩ := hrel
    cases gk with
    | zero => exact absurd HA.out (by simp [minuetref1_Compose.l0])
    | succ k1 =>
     have H := HA.out
     clear HA
     unfold minuetref1_Compose.l0 at H
     replace H := Option.bind_eq_some_iff.mp H; obtain ⟨⟨c, is⟩, AC_, H⟩ := H; have AC := Aside0.mk AC_; clear AC_
     replace H := Option.bind_eq_some_iff.mp H; obtain ⟨⟨d, are⟩, AD_, H⟩ := H; have AD := Aside0.mk AD_; clear AD_
     simp only at H
     by_cases c1_ : is = false ∧ are = false
     · rw [if_pos c1_] at H
       obtain ⟨rfl, rfl⟩ := c1_
       unfold minuetref1_Compose.fin at H
       replace H := Option.bind_eq_some_iff.mp H; obtain ⟨m, AM_, H⟩ := H; have AM := Aside0.mk AM_; clear AM_
       have HH := Aside0.mk H
       clear H
       go_upto_region 8 with (first | ((with_reducible refine gate_callee (f := 48) rfl ?_); refine goesL_ (some 53) rfl rfl Try.func48 (by kernel_rfl) rfl #[.pointer (some ⟨gx, 0, none⟩)] rfl (by (try simp only [List.map_toArray, List.map_cons, List.map_nil]); first | done | rfl | (simp only [List.length_drop, List.length_take]; rfl)) ?_; (with_reducible refine (Rr.peek_any gx l0 ia pa c false w _ HB.out HX.out AC.out).mono ?_); rintro e w_ ⟨rfl, hb⟩; refine ⟨_, rfl, ?_⟩; have n0_ := Aside0.mk (HX.out.below hb); have n1_ := Aside0.mk (HY.out.below hb); have n2_ := Aside0.mk (Kd.R_below HO.out hb); have n3_ := Aside0.mk (below_step HB.out hb); clear HX HY HO HB; have HX := n0_; have HY := n1_; have HO := n2_; have HB := n3_; clear n0_ n1_ n2_ n3_; clear hb) | ((with_reducible refine gate_dst (N := 15) rfl ?_); refine box_event ?hg (N := 15) ?hd (cs := #[.int .i64 0, .int .i64 0, .string (⟨#[]⟩ : ByteArray)]) (t := 37) ?hr ?_; (case hd => rfl); (case hg => rfl); (case hr => first | (go_simp; done) | (go_simp; rfl)); intro gc hg w_ hbox hb; have BC := Aside0.mk hbox; have Ggc := Aside0.mk ((by rw [hg]; exact HB.out.size) : w.heap.size ≤ gc); have nxgc := Aside0.mk ((by rw [hg]; exact Nat.ne_of_lt (Rr.shape HX.out).2) : gx ≠ gc); have nygc := Aside0.mk ((by rw [hg]; exact Nat.ne_of_lt (Rr.shape HY.out).2) : gy ≠ gc); have m1_ := Aside0.mk (Kd.R_elderB HO.out gc (Nat.le_of_eq hg.symm)); have n0_ := Aside0.mk (HX.out.below hb); have n1_ := Aside0.mk (HY.out.below hb); have n2_ := Aside0.mk (Kd.R_below m1_.out hb); have n3_ := Aside0.mk (below_step HB.out hb); clear HX HY HO HB; have HX := n0_; have HY := n1_; have HO := n2_; have HB := n3_; clear n0_ n1_ n2_ n3_; clear m1_ hb hbox hg; obtain ⟨cz0, cz1, cz2, fz0, fz1, fz2⟩ := Rd.three BC.out))
       have BC1 : Aside0 ((((w_.setCell ⟨gc, 0, none⟩ (.int .i64 c.f0)).setCell ⟨gc, 1, none⟩ (.int .i64 c.f1)).setCell ⟨gc, 2, none⟩ (.string c.f2)).heap[gc]? = some (.cells #[.int .i64 c.f0, .int .i64 c.f1, .string c.f2] 37 (0, 0))) := ⟨Rd.set3 BC.out⟩
       have HX1 : Aside0 (IsRr w (((w_.setCell ⟨gc, 0, none⟩ (.int .i64 c.f0)).setCell ⟨gc, 1, none⟩ (.int .i64 c.f1)).setCell ⟨gc, 2, none⟩ (.string c.f2)) gx l0 _ _) := ⟨((HX.out.far nxgc.out _).far nxgc.out _).far nxgc.out _⟩
       have HY1 : Aside0 (IsRr w (((w_.setCell ⟨gc, 0, none⟩ (.int .i64 c.f0)).setCell ⟨gc, 1, none⟩ (.int .i64 c.f1)).setCell ⟨gc, 2, none⟩ (.string c.f2)) gy l1 _ _) := ⟨((HY.out.far nygc.out _).far nygc.out _).far nygc.out _⟩
       have HB1 : Aside0 (Below w.heap.size w (((w_.setCell ⟨gc, 0, none⟩ (.int .i64 c.f0)).setCell ⟨gc, 1, none⟩ (.int .i64 c.f1)).setCell ⟨gc, 2, none⟩ (.string c.f2))) := ⟨((HB.out.setCell Ggc.out _).setCell Ggc.out _).setCell Ggc.out _⟩
       have HO1 : Aside0 (Kd.R k37 37 (((w_.setCell ⟨gc, 0, none⟩ (.int .i64 c.f0)).setCell ⟨gc, 1, none⟩ (.int .i64 c.f1)).setCell ⟨gc, 2, none⟩ (.string c.f2)) w.heap.size (fun k_ => k_ ≠ gx ∧ k_ ≠ gy) u14 out) := ⟨Kd.R_mono (Kd.R_far (p := ⟨gc, 2, none⟩) (Kd.R_far (p := ⟨gc, 1, none⟩) (Kd.R_far (p := ⟨gc, 0, none⟩) HO.out (fun _ hk => hk.2) _) (fun _ hk => hk.2) _) (fun _ hk => hk.2) _) (fun _ hk => hk.1)⟩
       generalize (((w_.setCell ⟨gc, 0, none⟩ (.int .i64 c.f0)).setCell ⟨gc, 1, none⟩ (.int .i64 c.f1)).setCell ⟨gc, 2, none⟩ (.string c.f2)) = wA at BC1 HX1 HY1 HB1 HO1 ⊢
       clear BC HX HY HB HO cz0 cz1 cz2 fz0 fz1 fz2
       have BC := BC1
       have HX := HX1
       have HY := HY1
       have HB := HB1
       have HO := HO1
       clear BC1 HX1 HY1 HB1 HO1
       go_upto_region 16 with (first | ((with_reducible refine gate_callee (f := 48) rfl ?_); refine goesL_ (some 58) rfl rfl Try.func48 (by kernel_rfl) rfl #[.pointer (some ⟨gy, 0, none⟩)] rfl (by (try simp only [List.map_toArray, List.map_cons, List.map_nil]); first | done | rfl | (simp only [List.length_drop, List.length_take]; rfl)) ?_; (with_reducible refine (Rr.peek_any gy l1 ib pb d false w _ HB.out HY.out AD.out).mono ?_); rintro e w_ ⟨rfl, hb⟩; refine ⟨_, rfl, ?_⟩; have n0_ := Aside0.mk ((hb.block _ (blk_lt BC.out)).trans BC.out); have n1_ := Aside0.mk (HX.out.below hb); have n2_ := Aside0.mk (HY.out.below hb); have n3_ := Aside0.mk (Kd.R_below HO.out hb); have n4_ := Aside0.mk (below_step HB.out hb); clear BC HX HY HO HB; have BC := n0_; have HX := n1_; have HY := n2_; have HO := n3_; have HB := n4_; clear n0_ n1_ n2_ n3_ n4_; clear hb) | ((with_reducible refine gate_dst (N := 17) rfl ?_); refine box_event ?hg (N := 17) ?hd (cs := #[.int .i64 0, .int .i64 0, .string (⟨#[]⟩ : ByteArray)]) (t := 37) ?hr ?_; (case hd => rfl); (case hg => rfl); (case hr => first | (go_simp; done) | (go_simp; rfl)); intro gd hg w_ hbox hb; have BD := Aside0.mk hbox; have Ggd := Aside0.mk ((by rw [hg]; exact HB.out.size) : w.heap.size ≤ gd); have nxgd := Aside0.mk ((by rw [hg]; exact Nat.ne_of_lt (Rr.shape HX.out).2) : gx ≠ gd); have nygd := Aside0.mk ((by rw [hg]; exact Nat.ne_of_lt (Rr.shape HY.out).2) : gy ≠ gd); have ngcgd := Aside0.mk ((by rw [hg]; exact Nat.ne_of_lt (blk_lt BC.out)) : gc ≠ gd); have m1_ := Aside0.mk (Kd.R_elderB HO.out gd (Nat.le_of_eq hg.symm)); have n0_ := Aside0.mk ((hb.block _ (blk_lt BC.out)).trans BC.out); have n1_ := Aside0.mk (HX.out.below hb); have n2_ := Aside0.mk (HY.out.below hb); have n3_ := Aside0.mk (Kd.R_below m1_.out hb); have n4_ := Aside0.mk (below_step HB.out hb); clear BC HX HY HO HB; have BC := n0_; have HX := n1_; have HY := n2_; have HO := n3_; have HB := n4_; clear n0_ n1_ n2_ n3_ n4_; clear m1_ hb hbox hg; obtain ⟨cz0, cz1, cz2, fz0, fz1, fz2⟩ := Rd.three BD.out))
       have BD1 : Aside0 ((((w_.setCell ⟨gd, 0, none⟩ (.int .i64 d.f0)).setCell ⟨gd, 1, none⟩ (.int .i64 d.f1)).setCell ⟨gd, 2, none⟩ (.string d.f2)).heap[gd]? = some (.cells #[.int .i64 d.f0, .int .i64 d.f1, .string d.f2] 37 (0, 0))) := ⟨Rd.set3 BD.out⟩
       have BC1 : Aside0 ((((w_.setCell ⟨gd, 0, none⟩ (.int .i64 d.f0)).setCell ⟨gd, 1, none⟩ (.int .i64 d.f1)).setCell ⟨gd, 2, none⟩ (.string d.f2)).heap[gc]? = _) := ⟨Rd.far3 BC.out ngcgd.out⟩
       have HX1 : Aside0 (IsRr w (((w_.setCell ⟨gd, 0, none⟩ (.int .i64 d.f0)).setCell ⟨gd, 1, none⟩ (.int .i64 d.f1)).setCell ⟨gd, 2, none⟩ (.string d.f2)) gx l0 _ _) := ⟨((HX.out.far nxgd.out _).far nxgd.out _).far nxgd.out _⟩
       have HY1 : Aside0 (IsRr w (((w_.setCell ⟨gd, 0, none⟩ (.int .i64 d.f0)).setCell ⟨gd, 1, none⟩ (.int .i64 d.f1)).setCell ⟨gd, 2, none⟩ (.string d.f2)) gy l1 _ _) := ⟨((HY.out.far nygd.out _).far nygd.out _).far nygd.out _⟩
       have HB1 : Aside0 (Below w.heap.size w (((w_.setCell ⟨gd, 0, none⟩ (.int .i64 d.f0)).setCell ⟨gd, 1, none⟩ (.int .i64 d.f1)).setCell ⟨gd, 2, none⟩ (.string d.f2))) := ⟨((HB.out.setCell Ggd.out _).setCell Ggd.out _).setCell Ggd.out _⟩
       have HO1 : Aside0 (Kd.R k37 37 (((w_.setCell ⟨gd, 0, none⟩ (.int .i64 d.f0)).setCell ⟨gd, 1, none⟩ (.int .i64 d.f1)).setCell ⟨gd, 2, none⟩ (.string d.f2)) w.heap.size (fun k_ => k_ ≠ gx ∧ k_ ≠ gy) u14 out) := ⟨Kd.R_mono (Kd.R_far (p := ⟨gd, 2, none⟩) (Kd.R_far (p := ⟨gd, 1, none⟩) (Kd.R_far (p := ⟨gd, 0, none⟩) HO.out (fun _ hk => hk.2) _) (fun _ hk => hk.2) _) (fun _ hk => hk.2) _) (fun _ hk => hk.1)⟩
       generalize (((w_.setCell ⟨gd, 0, none⟩ (.int .i64 d.f0)).setCell ⟨gd, 1, none⟩ (.int .i64 d.f1)).setCell ⟨gd, 2, none⟩ (.string d.f2)) = wB at BD1 BC1 HX1 HY1 HB1 HO1 ⊢
       clear BD BC HX HY HB HO cz0 cz1 cz2 fz0 fz1 fz2
       have BD := BD1
       have BC := BC1
       have HX := HX1
       have HY := HY1
       have HB := HB1
       have HO := HO1
       clear BD1 BC1 HX1 HY1 HB1 HO1
       have q1_ := ngcgd.out
       have q2_ := Ne.symm ngcgd.out
       obtain ⟨cp0, cp1, cp2, ep0, ep1, ep2⟩ := Rd.three BC.out
       obtain ⟨cq0, cq1, cq2, eq0, eq1, eq2⟩ := Rd.three BD.out
       have H := HH.out
       clear HH
       obtain ⟨Ao, co, eo⟩ := Kd.R_slice HO.out
       subst eo
       cases m with
       | true =>
        rw [if_pos rfl] at H
        simp only [Option.some.injEq, Prod.mk.injEq] at H
        obtain ⟨rfl, rfl⟩ := H
        go_wp2_with (first | ((with_reducible refine gate_callee (f := 53) rfl ?_); refine goesL_ (some 99) rfl rfl Try.func53 (by kernel_rfl) rfl #[.slice Ao out.length co] rfl (by (try simp only [List.map_toArray, List.map_cons, List.map_nil]); first | done | rfl | (simp only [List.length_drop, List.length_take]; rfl)) ?_; (with_reducible refine (minuetref1_CompsMay.calls k1 _ _ out true _ ?side1 ?side2 AM.out).mono ?_); (case side1 => exact (Kd.R_reads' HO.out).2.2); (case side2 => exact (Kd.R_reads' HO.out).2.1); rintro e w_ ⟨rfl, hb⟩; refine ⟨_, rfl, ?_⟩; have n0_ := Aside0.mk (Kd.R_below HO.out hb); have n1_ := Aside0.mk (below_step HB.out hb); clear HO HB; have HO := n0_; have HB := n1_; clear n0_ n1_; clear hb))
        go_ret2
        exact ⟨_, rfl, Kd.R_mono HO.out (fun _ _ => trivial), HB.out⟩
       | false =>
        rw [if_neg (by decide)] at H
        simp only [Option.some.injEq, Prod.mk.injEq] at H
        obtain ⟨rfl, rfl⟩ := H
        go_wp2_with (first | ((with_reducible refine gate_callee (f := 53) rfl ?_); refine goesL_ (some 99) rfl rfl Try.func53 (by kernel_rfl) rfl #[.slice Ao out.length co] rfl (by (try simp only [List.map_toArray, List.map_cons, List.map_nil]); first | done | rfl | (simp only [List.length_drop, List.length_take]; rfl)) ?_; (with_reducible refine (minuetref1_CompsMay.calls k1 _ _ out false _ ?side1 ?side2 AM.out).mono ?_); (case side1 => exact (Kd.R_reads' HO.out).2.2); (case side2 => exact (Kd.R_reads' HO.out).2.1); rintro e w_ ⟨rfl, hb⟩; refine ⟨_, rfl, ?_⟩; have n0_ := Aside0.mk (Kd.R_below HO.out hb); have n1_ := Aside0.mk (below_step HB.out hb); clear HO HB; have HO := n0_; have HB := n1_; clear n0_ n1_; clear hb))
        go_ret2
        exact ⟨_, rfl, Kd.R_nil _ _ _ _ _, HB.out⟩
     · rw [if_neg c1_] at H
       by_cases c2_ : is = true ∧ c.f0 = 2
       · rw [if_pos c2_] at H
         obtain ⟨rfl, c2_⟩ := c2_
         have b1 : (c.f0 == 2) = true := beq_iff_eq.mpr c2_
         clear c1_ c2_
         replace H := Option.bind_eq_some_iff.mp H; obtain ⟨⟨t, i2, p2⟩, AT1_, H⟩ := H; have AT1 := Aside0.mk AT1_; clear AT1_
         replace H := Option.bind_eq_some_iff.mp H; obtain ⟨o, AA_, H⟩ := H; (try dsimp only at AA_ H); have AA := Aside0.mk AA_; clear AA_
         have H' := Aside0.mk H
         clear H
         go_upto_region 8 with (first | ((with_reducible refine gate_callee (f := 48) rfl ?_); refine goesL_ (some 53) rfl rfl Try.func48 (by kernel_rfl) rfl #[.pointer (some ⟨gx, 0, none⟩)] rfl (by (try simp only [List.map_toArray, List.map_cons, List.map_nil]); first | done | rfl | (simp only [List.length_drop, List.length_take]; rfl)) ?_; (with_reducible refine (Rr.peek_any gx l0 ia pa c true w _ HB.out HX.out AC.out).mono ?_); rintro e w_ ⟨rfl, hb⟩; refine ⟨_, rfl, ?_⟩; have n0_ := Aside0.mk (HX.out.below hb); have n1_ := Aside0.mk (HY.out.below hb); have n2_ := Aside0.mk (Kd.R_below HO.out hb); have n3_ := Aside0.mk (below_step HB.out hb); clear HX HY HO HB; have HX := n0_; have HY := n1_; have HO := n2_; have HB := n3_; clear n0_ n1_ n2_ n3_; clear hb) | ((with_reducible refine gate_dst (N := 15) rfl ?_); refine box_event ?hg (N := 15) ?hd (cs := #[.int .i64 0, .int .i64 0, .string (⟨#[]⟩ : ByteArray)]) (t := 37) ?hr ?_; (case hd => rfl); (case hg => rfl); (case hr => first | (go_simp; done) | (go_simp; rfl)); intro gc hg w_ hbox hb; have BC := Aside0.mk hbox; have Ggc := Aside0.mk ((by rw [hg]; exact HB.out.size) : w.heap.size ≤ gc); have nxgc := Aside0.mk ((by rw [hg]; exact Nat.ne_of_lt (Rr.shape HX.out).2) : gx ≠ gc); have nygc := Aside0.mk ((by rw [hg]; exact Nat.ne_of_lt (Rr.shape HY.out).2) : gy ≠ gc); have m1_ := Aside0.mk (Kd.R_elderB HO.out gc (Nat.le_of_eq hg.symm)); have n0_ := Aside0.mk (HX.out.below hb); have n1_ := Aside0.mk (HY.out.below hb); have n2_ := Aside0.mk (Kd.R_below m1_.out hb); have n3_ := Aside0.mk (below_step HB.out hb); clear HX HY HO HB; have HX := n0_; have HY := n1_; have HO := n2_; have HB := n3_; clear n0_ n1_ n2_ n3_; clear m1_ hb hbox hg; obtain ⟨cz0, cz1, cz2, fz0, fz1, fz2⟩ := Rd.three BC.out))
         have BC1 : Aside0 ((((w_.setCell ⟨gc, 0, none⟩ (.int .i64 c.f0)).setCell ⟨gc, 1, none⟩ (.int .i64 c.f1)).setCell ⟨gc, 2, none⟩ (.string c.f2)).heap[gc]? = some (.cells #[.int .i64 c.f0, .int .i64 c.f1, .string c.f2] 37 (0, 0))) := ⟨Rd.set3 BC.out⟩
         have HX1 : Aside0 (IsRr w (((w_.setCell ⟨gc, 0, none⟩ (.int .i64 c.f0)).setCell ⟨gc, 1, none⟩ (.int .i64 c.f1)).setCell ⟨gc, 2, none⟩ (.string c.f2)) gx l0 _ _) := ⟨((HX.out.far nxgc.out _).far nxgc.out _).far nxgc.out _⟩
         have HY1 : Aside0 (IsRr w (((w_.setCell ⟨gc, 0, none⟩ (.int .i64 c.f0)).setCell ⟨gc, 1, none⟩ (.int .i64 c.f1)).setCell ⟨gc, 2, none⟩ (.string c.f2)) gy l1 _ _) := ⟨((HY.out.far nygc.out _).far nygc.out _).far nygc.out _⟩
         have HB1 : Aside0 (Below w.heap.size w (((w_.setCell ⟨gc, 0, none⟩ (.int .i64 c.f0)).setCell ⟨gc, 1, none⟩ (.int .i64 c.f1)).setCell ⟨gc, 2, none⟩ (.string c.f2))) := ⟨((HB.out.setCell Ggc.out _).setCell Ggc.out _).setCell Ggc.out _⟩
         have HO1 : Aside0 (Kd.R k37 37 (((w_.setCell ⟨gc, 0, none⟩ (.int .i64 c.f0)).setCell ⟨gc, 1, none⟩ (.int .i64 c.f1)).setCell ⟨gc, 2, none⟩ (.string c.f2)) w.heap.size (fun k_ => k_ ≠ gx ∧ k_ ≠ gy) u14 out) := ⟨Kd.R_mono (Kd.R_far (p := ⟨gc, 2, none⟩) (Kd.R_far (p := ⟨gc, 1, none⟩) (Kd.R_far (p := ⟨gc, 0, none⟩) HO.out (fun _ hk => hk.2) _) (fun _ hk => hk.2) _) (fun _ hk => hk.2) _) (fun _ hk => hk.1)⟩
         generalize (((w_.setCell ⟨gc, 0, none⟩ (.int .i64 c.f0)).setCell ⟨gc, 1, none⟩ (.int .i64 c.f1)).setCell ⟨gc, 2, none⟩ (.string c.f2)) = wA at BC1 HX1 HY1 HB1 HO1 ⊢
         clear BC HX HY HB HO cz0 cz1 cz2 fz0 fz1 fz2
         have BC := BC1
         have HX := HX1
         have HY := HY1
         have HB := HB1
         have HO := HO1
         clear BC1 HX1 HY1 HB1 HO1
         go_upto_region 16 with (first | ((with_reducible refine gate_callee (f := 48) rfl ?_); refine goesL_ (some 58) rfl rfl Try.func48 (by kernel_rfl) rfl #[.pointer (some ⟨gy, 0, none⟩)] rfl (by (try simp only [List.map_toArray, List.map_cons, List.map_nil]); first | done | rfl | (simp only [List.length_drop, List.length_take]; rfl)) ?_; (with_reducible refine (Rr.peek_any gy l1 ib pb d are w _ HB.out HY.out AD.out).mono ?_); rintro e w_ ⟨rfl, hb⟩; refine ⟨_, rfl, ?_⟩; have n0_ := Aside0.mk ((hb.block _ (blk_lt BC.out)).trans BC.out); have n1_ := Aside0.mk (HX.out.below hb); have n2_ := Aside0.mk (HY.out.below hb); have n3_ := Aside0.mk (Kd.R_below HO.out hb); have n4_ := Aside0.mk (below_step HB.out hb); clear BC HX HY HO HB; have BC := n0_; have HX := n1_; have HY := n2_; have HO := n3_; have HB := n4_; clear n0_ n1_ n2_ n3_ n4_; clear hb) | ((with_reducible refine gate_dst (N := 17) rfl ?_); refine box_event ?hg (N := 17) ?hd (cs := #[.int .i64 0, .int .i64 0, .string (⟨#[]⟩ : ByteArray)]) (t := 37) ?hr ?_; (case hd => rfl); (case hg => rfl); (case hr => first | (go_simp; done) | (go_simp; rfl)); intro gd hg w_ hbox hb; have BD := Aside0.mk hbox; have Ggd := Aside0.mk ((by rw [hg]; exact HB.out.size) : w.heap.size ≤ gd); have nxgd := Aside0.mk ((by rw [hg]; exact Nat.ne_of_lt (Rr.shape HX.out).2) : gx ≠ gd); have nygd := Aside0.mk ((by rw [hg]; exact Nat.ne_of_lt (Rr.shape HY.out).2) : gy ≠ gd); have ngcgd := Aside0.mk ((by rw [hg]; exact Nat.ne_of_lt (blk_lt BC.out)) : gc ≠ gd); have m1_ := Aside0.mk (Kd.R_elderB HO.out gd (Nat.le_of_eq hg.symm)); have n0_ := Aside0.mk ((hb.block _ (blk_lt BC.out)).trans BC.out); have n1_ := Aside0.mk (HX.out.below hb); have n2_ := Aside0.mk (HY.out.below hb); have n3_ := Aside0.mk (Kd.R_below m1_.out hb); have n4_ := Aside0.mk (below_step HB.out hb); clear BC HX HY HO HB; have BC := n0_; have HX := n1_; have HY := n2_; have HO := n3_; have HB := n4_; clear n0_ n1_ n2_ n3_ n4_; clear m1_ hb hbox hg; obtain ⟨cz0, cz1, cz2, fz0, fz1, fz2⟩ := Rd.three BD.out))
         have BD1 : Aside0 ((((w_.setCell ⟨gd, 0, none⟩ (.int .i64 d.f0)).setCell ⟨gd, 1, none⟩ (.int .i64 d.f1)).setCell ⟨gd, 2, none⟩ (.string d.f2)).heap[gd]? = some (.cells #[.int .i64 d.f0, .int .i64 d.f1, .string d.f2] 37 (0, 0))) := ⟨Rd.set3 BD.out⟩
         have BC1 : Aside0 ((((w_.setCell ⟨gd, 0, none⟩ (.int .i64 d.f0)).setCell ⟨gd, 1, none⟩ (.int .i64 d.f1)).setCell ⟨gd, 2, none⟩ (.string d.f2)).heap[gc]? = _) := ⟨Rd.far3 BC.out ngcgd.out⟩
         have HX1 : Aside0 (IsRr w (((w_.setCell ⟨gd, 0, none⟩ (.int .i64 d.f0)).setCell ⟨gd, 1, none⟩ (.int .i64 d.f1)).setCell ⟨gd, 2, none⟩ (.string d.f2)) gx l0 _ _) := ⟨((HX.out.far nxgd.out _).far nxgd.out _).far nxgd.out _⟩
         have HY1 : Aside0 (IsRr w (((w_.setCell ⟨gd, 0, none⟩ (.int .i64 d.f0)).setCell ⟨gd, 1, none⟩ (.int .i64 d.f1)).setCell ⟨gd, 2, none⟩ (.string d.f2)) gy l1 _ _) := ⟨((HY.out.far nygd.out _).far nygd.out _).far nygd.out _⟩
         have HB1 : Aside0 (Below w.heap.size w (((w_.setCell ⟨gd, 0, none⟩ (.int .i64 d.f0)).setCell ⟨gd, 1, none⟩ (.int .i64 d.f1)).setCell ⟨gd, 2, none⟩ (.string d.f2))) := ⟨((HB.out.setCell Ggd.out _).setCell Ggd.out _).setCell Ggd.out _⟩
         have HO1 : Aside0 (Kd.R k37 37 (((w_.setCell ⟨gd, 0, none⟩ (.int .i64 d.f0)).setCell ⟨gd, 1, none⟩ (.int .i64 d.f1)).setCell ⟨gd, 2, none⟩ (.string d.f2)) w.heap.size (fun k_ => k_ ≠ gx ∧ k_ ≠ gy) u14 out) := ⟨Kd.R_mono (Kd.R_far (p := ⟨gd, 2, none⟩) (Kd.R_far (p := ⟨gd, 1, none⟩) (Kd.R_far (p := ⟨gd, 0, none⟩) HO.out (fun _ hk => hk.2) _) (fun _ hk => hk.2) _) (fun _ hk => hk.2) _) (fun _ hk => hk.1)⟩
         generalize (((w_.setCell ⟨gd, 0, none⟩ (.int .i64 d.f0)).setCell ⟨gd, 1, none⟩ (.int .i64 d.f1)).setCell ⟨gd, 2, none⟩ (.string d.f2)) = wB at BD1 BC1 HX1 HY1 HB1 HO1 ⊢
         clear BD BC HX HY HB HO cz0 cz1 cz2 fz0 fz1 fz2
         have BD := BD1
         have BC := BC1
         have HX := HX1
         have HY := HY1
         have HB := HB1
         have HO := HO1
         clear BD1 BC1 HX1 HY1 HB1 HO1
         have q1_ := ngcgd.out
         have q2_ := Ne.symm ngcgd.out
         obtain ⟨cp0, cp1, cp2, ep0, ep1, ep2⟩ := Rd.three BC.out
         obtain ⟨cq0, cq1, cq2, eq0, eq1, eq2⟩ := Rd.three BD.out
         clear BC BD
         go_wp2_with (first | ((with_reducible refine gate_callee (f := 50) rfl ?_); refine goesL_ (some 111) rfl rfl Try.func50 (by kernel_rfl) rfl #[.pointer (some ⟨gx, 0, none⟩), .int .i64 4096] rfl (by (try simp only [List.map_toArray, List.map_cons, List.map_nil]); first | done | rfl | (simp only [List.length_drop, List.length_take]; rfl)) ?_; (with_reducible refine (Rr.take_any gx l0 ia pa 4096 t i2 p2 w _ HB.out HX.out AT1.out).mono ?_); rintro e w_ ⟨rfl, hx, hb, hkp⟩; refine ⟨_, rfl, ?_⟩; have n0_ := Aside0.mk (hb); have n1_ := Aside0.mk (hx); have n2_ := Aside0.mk (HY.out.kept hkp (fun e_ => NXY.out e_.symm)); have n3_ := Aside0.mk (Kd.R_kept HO.out hkp (fun k_ hk e_ => hk.1 e_)); clear HB HX HY HO; have HB := n0_; have HX := n1_; have HY := n2_; have HO := n3_; clear n0_ n1_ n2_ n3_; clear hx hb hkp) | ((with_reducible refine gate_callee (f := 51) rfl ?_); refine goesL_ (some 112) rfl rfl Try.func51 (by kernel_rfl) rfl #[u14, .agg #[.int .i64 t.f0, .int .i64 t.f1, .string t.f2]] rfl (by (try simp only [List.map_toArray, List.map_cons, List.map_nil]); first | done | rfl | (simp only [List.length_drop, List.length_take]; rfl)) ?_; (with_reducible refine (minuetref1_Add.calls k1 (fun k_ => k_ ≠ gx ∧ k_ ≠ gy) u14 out t.f0 t.f1 t.f2 o w _ HB.out HO.out AA.out).mono ?_); rintro e w_ ⟨v_, rfl, ho0, hb, hkp⟩; refine ⟨_, rfl, ?_⟩; have n0_ := Aside0.mk (hb); have n1_ := Aside0.mk (Kd.R_mono (ok' := fun k_ => k_ ≠ gx ∧ k_ ≠ gy) ho0 (fun k_ hk => Or.elim hk id (fun hn => ⟨fun e_ => by have := (Rr.shape HX.out).2; omega, fun e_ => by have := (Rr.shape HY.out).2; omega⟩))); have n2_ := Aside0.mk (HX.out.kept hkp (fun hk => hk.1 rfl)); have n3_ := Aside0.mk (HY.out.kept hkp (fun hk => hk.2 rfl)); clear HB HO HX HY; have HB := n0_; have HO := n1_; have HX := n2_; have HY := n3_; clear n0_ n1_ n2_ n3_; clear ho0 hb hkp))
         go_roundg k1
         case measure => have := HK1.out; omega
         case rel => exact ⟨_, _, _, _, _, H', ⟨by have := HK1.out; omega⟩, HX, HY, HO, HB⟩
       · rw [if_neg c2_] at H
         by_cases c3_ : are = true ∧ d.f0 = 1
         · rw [if_pos c3_] at H
           obtain ⟨rfl, c3_⟩ := c3_
           have b2 : (d.f0 == 1) = true := beq_iff_eq.mpr c3_
           cases is with
           | true =>
            have b1 : (c.f0 == 2) = false := beq_eq_false_iff_ne.mpr (fun h_ => c2_ ⟨rfl, h_⟩)
            clear c1_ c2_ c3_
            replace H := Option.bind_eq_some_iff.mp H; obtain ⟨⟨t, i2, p2⟩, AT1_, H⟩ := H; have AT1 := Aside0.mk AT1_; clear AT1_
            replace H := Option.bind_eq_some_iff.mp H; obtain ⟨o, AA_, H⟩ := H; (try dsimp only at AA_ H); have AA := Aside0.mk AA_; clear AA_
            have H' := Aside0.mk H
            clear H
            go_upto_region 8 with (first | ((with_reducible refine gate_callee (f := 48) rfl ?_); refine goesL_ (some 53) rfl rfl Try.func48 (by kernel_rfl) rfl #[.pointer (some ⟨gx, 0, none⟩)] rfl (by (try simp only [List.map_toArray, List.map_cons, List.map_nil]); first | done | rfl | (simp only [List.length_drop, List.length_take]; rfl)) ?_; (with_reducible refine (Rr.peek_any gx l0 ia pa c true w _ HB.out HX.out AC.out).mono ?_); rintro e w_ ⟨rfl, hb⟩; refine ⟨_, rfl, ?_⟩; have n0_ := Aside0.mk (HX.out.below hb); have n1_ := Aside0.mk (HY.out.below hb); have n2_ := Aside0.mk (Kd.R_below HO.out hb); have n3_ := Aside0.mk (below_step HB.out hb); clear HX HY HO HB; have HX := n0_; have HY := n1_; have HO := n2_; have HB := n3_; clear n0_ n1_ n2_ n3_; clear hb) | ((with_reducible refine gate_dst (N := 15) rfl ?_); refine box_event ?hg (N := 15) ?hd (cs := #[.int .i64 0, .int .i64 0, .string (⟨#[]⟩ : ByteArray)]) (t := 37) ?hr ?_; (case hd => rfl); (case hg => rfl); (case hr => first | (go_simp; done) | (go_simp; rfl)); intro gc hg w_ hbox hb; have BC := Aside0.mk hbox; have Ggc := Aside0.mk ((by rw [hg]; exact HB.out.size) : w.heap.size ≤ gc); have nxgc := Aside0.mk ((by rw [hg]; exact Nat.ne_of_lt (Rr.shape HX.out).2) : gx ≠ gc); have nygc := Aside0.mk ((by rw [hg]; exact Nat.ne_of_lt (Rr.shape HY.out).2) : gy ≠ gc); have m1_ := Aside0.mk (Kd.R_elderB HO.out gc (Nat.le_of_eq hg.symm)); have n0_ := Aside0.mk (HX.out.below hb); have n1_ := Aside0.mk (HY.out.below hb); have n2_ := Aside0.mk (Kd.R_below m1_.out hb); have n3_ := Aside0.mk (below_step HB.out hb); clear HX HY HO HB; have HX := n0_; have HY := n1_; have HO := n2_; have HB := n3_; clear n0_ n1_ n2_ n3_; clear m1_ hb hbox hg; obtain ⟨cz0, cz1, cz2, fz0, fz1, fz2⟩ := Rd.three BC.out))
            have BC1 : Aside0 ((((w_.setCell ⟨gc, 0, none⟩ (.int .i64 c.f0)).setCell ⟨gc, 1, none⟩ (.int .i64 c.f1)).setCell ⟨gc, 2, none⟩ (.string c.f2)).heap[gc]? = some (.cells #[.int .i64 c.f0, .int .i64 c.f1, .string c.f2] 37 (0, 0))) := ⟨Rd.set3 BC.out⟩
            have HX1 : Aside0 (IsRr w (((w_.setCell ⟨gc, 0, none⟩ (.int .i64 c.f0)).setCell ⟨gc, 1, none⟩ (.int .i64 c.f1)).setCell ⟨gc, 2, none⟩ (.string c.f2)) gx l0 _ _) := ⟨((HX.out.far nxgc.out _).far nxgc.out _).far nxgc.out _⟩
            have HY1 : Aside0 (IsRr w (((w_.setCell ⟨gc, 0, none⟩ (.int .i64 c.f0)).setCell ⟨gc, 1, none⟩ (.int .i64 c.f1)).setCell ⟨gc, 2, none⟩ (.string c.f2)) gy l1 _ _) := ⟨((HY.out.far nygc.out _).far nygc.out _).far nygc.out _⟩
            have HB1 : Aside0 (Below w.heap.size w (((w_.setCell ⟨gc, 0, none⟩ (.int .i64 c.f0)).setCell ⟨gc, 1, none⟩ (.int .i64 c.f1)).setCell ⟨gc, 2, none⟩ (.string c.f2))) := ⟨((HB.out.setCell Ggc.out _).setCell Ggc.out _).setCell Ggc.out _⟩
            have HO1 : Aside0 (Kd.R k37 37 (((w_.setCell ⟨gc, 0, none⟩ (.int .i64 c.f0)).setCell ⟨gc, 1, none⟩ (.int .i64 c.f1)).setCell ⟨gc, 2, none⟩ (.string c.f2)) w.heap.size (fun k_ => k_ ≠ gx ∧ k_ ≠ gy) u14 out) := ⟨Kd.R_mono (Kd.R_far (p := ⟨gc, 2, none⟩) (Kd.R_far (p := ⟨gc, 1, none⟩) (Kd.R_far (p := ⟨gc, 0, none⟩) HO.out (fun _ hk => hk.2) _) (fun _ hk => hk.2) _) (fun _ hk => hk.2) _) (fun _ hk => hk.1)⟩
            generalize (((w_.setCell ⟨gc, 0, none⟩ (.int .i64 c.f0)).setCell ⟨gc, 1, none⟩ (.int .i64 c.f1)).setCell ⟨gc, 2, none⟩ (.string c.f2)) = wA at BC1 HX1 HY1 HB1 HO1 ⊢
            clear BC HX HY HB HO cz0 cz1 cz2 fz0 fz1 fz2
            have BC := BC1
            have HX := HX1
            have HY := HY1
            have HB := HB1
            have HO := HO1
            clear BC1 HX1 HY1 HB1 HO1
            go_upto_region 16 with (first | ((with_reducible refine gate_callee (f := 48) rfl ?_); refine goesL_ (some 58) rfl rfl Try.func48 (by kernel_rfl) rfl #[.pointer (some ⟨gy, 0, none⟩)] rfl (by (try simp only [List.map_toArray, List.map_cons, List.map_nil]); first | done | rfl | (simp only [List.length_drop, List.length_take]; rfl)) ?_; (with_reducible refine (Rr.peek_any gy l1 ib pb d true w _ HB.out HY.out AD.out).mono ?_); rintro e w_ ⟨rfl, hb⟩; refine ⟨_, rfl, ?_⟩; have n0_ := Aside0.mk ((hb.block _ (blk_lt BC.out)).trans BC.out); have n1_ := Aside0.mk (HX.out.below hb); have n2_ := Aside0.mk (HY.out.below hb); have n3_ := Aside0.mk (Kd.R_below HO.out hb); have n4_ := Aside0.mk (below_step HB.out hb); clear BC HX HY HO HB; have BC := n0_; have HX := n1_; have HY := n2_; have HO := n3_; have HB := n4_; clear n0_ n1_ n2_ n3_ n4_; clear hb) | ((with_reducible refine gate_dst (N := 17) rfl ?_); refine box_event ?hg (N := 17) ?hd (cs := #[.int .i64 0, .int .i64 0, .string (⟨#[]⟩ : ByteArray)]) (t := 37) ?hr ?_; (case hd => rfl); (case hg => rfl); (case hr => first | (go_simp; done) | (go_simp; rfl)); intro gd hg w_ hbox hb; have BD := Aside0.mk hbox; have Ggd := Aside0.mk ((by rw [hg]; exact HB.out.size) : w.heap.size ≤ gd); have nxgd := Aside0.mk ((by rw [hg]; exact Nat.ne_of_lt (Rr.shape HX.out).2) : gx ≠ gd); have nygd := Aside0.mk ((by rw [hg]; exact Nat.ne_of_lt (Rr.shape HY.out).2) : gy ≠ gd); have ngcgd := Aside0.mk ((by rw [hg]; exact Nat.ne_of_lt (blk_lt BC.out)) : gc ≠ gd); have m1_ := Aside0.mk (Kd.R_elderB HO.out gd (Nat.le_of_eq hg.symm)); have n0_ := Aside0.mk ((hb.block _ (blk_lt BC.out)).trans BC.out); have n1_ := Aside0.mk (HX.out.below hb); have n2_ := Aside0.mk (HY.out.below hb); have n3_ := Aside0.mk (Kd.R_below m1_.out hb); have n4_ := Aside0.mk (below_step HB.out hb); clear BC HX HY HO HB; have BC := n0_; have HX := n1_; have HY := n2_; have HO := n3_; have HB := n4_; clear n0_ n1_ n2_ n3_ n4_; clear m1_ hb hbox hg; obtain ⟨cz0, cz1, cz2, fz0, fz1, fz2⟩ := Rd.three BD.out))
            have BD1 : Aside0 ((((w_.setCell ⟨gd, 0, none⟩ (.int .i64 d.f0)).setCell ⟨gd, 1, none⟩ (.int .i64 d.f1)).setCell ⟨gd, 2, none⟩ (.string d.f2)).heap[gd]? = some (.cells #[.int .i64 d.f0, .int .i64 d.f1, .string d.f2] 37 (0, 0))) := ⟨Rd.set3 BD.out⟩
            have BC1 : Aside0 ((((w_.setCell ⟨gd, 0, none⟩ (.int .i64 d.f0)).setCell ⟨gd, 1, none⟩ (.int .i64 d.f1)).setCell ⟨gd, 2, none⟩ (.string d.f2)).heap[gc]? = _) := ⟨Rd.far3 BC.out ngcgd.out⟩
            have HX1 : Aside0 (IsRr w (((w_.setCell ⟨gd, 0, none⟩ (.int .i64 d.f0)).setCell ⟨gd, 1, none⟩ (.int .i64 d.f1)).setCell ⟨gd, 2, none⟩ (.string d.f2)) gx l0 _ _) := ⟨((HX.out.far nxgd.out _).far nxgd.out _).far nxgd.out _⟩
            have HY1 : Aside0 (IsRr w (((w_.setCell ⟨gd, 0, none⟩ (.int .i64 d.f0)).setCell ⟨gd, 1, none⟩ (.int .i64 d.f1)).setCell ⟨gd, 2, none⟩ (.string d.f2)) gy l1 _ _) := ⟨((HY.out.far nygd.out _).far nygd.out _).far nygd.out _⟩
            have HB1 : Aside0 (Below w.heap.size w (((w_.setCell ⟨gd, 0, none⟩ (.int .i64 d.f0)).setCell ⟨gd, 1, none⟩ (.int .i64 d.f1)).setCell ⟨gd, 2, none⟩ (.string d.f2))) := ⟨((HB.out.setCell Ggd.out _).setCell Ggd.out _).setCell Ggd.out _⟩
            have HO1 : Aside0 (Kd.R k37 37 (((w_.setCell ⟨gd, 0, none⟩ (.int .i64 d.f0)).setCell ⟨gd, 1, none⟩ (.int .i64 d.f1)).setCell ⟨gd, 2, none⟩ (.string d.f2)) w.heap.size (fun k_ => k_ ≠ gx ∧ k_ ≠ gy) u14 out) := ⟨Kd.R_mono (Kd.R_far (p := ⟨gd, 2, none⟩) (Kd.R_far (p := ⟨gd, 1, none⟩) (Kd.R_far (p := ⟨gd, 0, none⟩) HO.out (fun _ hk => hk.2) _) (fun _ hk => hk.2) _) (fun _ hk => hk.2) _) (fun _ hk => hk.1)⟩
            generalize (((w_.setCell ⟨gd, 0, none⟩ (.int .i64 d.f0)).setCell ⟨gd, 1, none⟩ (.int .i64 d.f1)).setCell ⟨gd, 2, none⟩ (.string d.f2)) = wB at BD1 BC1 HX1 HY1 HB1 HO1 ⊢
            clear BD BC HX HY HB HO cz0 cz1 cz2 fz0 fz1 fz2
            have BD := BD1
            have BC := BC1
            have HX := HX1
            have HY := HY1
            have HB := HB1
            have HO := HO1
            clear BD1 BC1 HX1 HY1 HB1 HO1
            have q1_ := ngcgd.out
            have q2_ := Ne.symm ngcgd.out
            obtain ⟨cp0, cp1, cp2, ep0, ep1, ep2⟩ := Rd.three BC.out
            obtain ⟨cq0, cq1, cq2, eq0, eq1, eq2⟩ := Rd.three BD.out
            clear BC BD
            go_wp2_with (first | ((with_reducible refine gate_callee (f := 50) rfl ?_); refine goesL_ (some 122) rfl rfl Try.func50 (by kernel_rfl) rfl #[.pointer (some ⟨gy, 0, none⟩), .int .i64 4096] rfl (by (try simp only [List.map_toArray, List.map_cons, List.map_nil]); first | done | rfl | (simp only [List.length_drop, List.length_take]; rfl)) ?_; (with_reducible refine (Rr.take_any gy l1 ib pb 4096 t i2 p2 w _ HB.out HY.out AT1.out).mono ?_); rintro e w_ ⟨rfl, hx, hb, hkp⟩; refine ⟨_, rfl, ?_⟩; have n0_ := Aside0.mk (hb); have n1_ := Aside0.mk (hx); have n2_ := Aside0.mk (HX.out.kept hkp (fun e_ => NXY.out e_)); have n3_ := Aside0.mk (Kd.R_kept HO.out hkp (fun k_ hk e_ => hk.2 e_)); clear HB HY HX HO; have HB := n0_; have HY := n1_; have HX := n2_; have HO := n3_; clear n0_ n1_ n2_ n3_; clear hx hb hkp) | ((with_reducible refine gate_callee (f := 51) rfl ?_); refine goesL_ (some 123) rfl rfl Try.func51 (by kernel_rfl) rfl #[u14, .agg #[.int .i64 t.f0, .int .i64 t.f1, .string t.f2]] rfl (by (try simp only [List.map_toArray, List.map_cons, List.map_nil]); first | done | rfl | (simp only [List.length_drop, List.length_take]; rfl)) ?_; (with_reducible refine (minuetref1_Add.calls k1 (fun k_ => k_ ≠ gx ∧ k_ ≠ gy) u14 out t.f0 t.f1 t.f2 o w _ HB.out HO.out AA.out).mono ?_); rintro e w_ ⟨v_, rfl, ho0, hb, hkp⟩; refine ⟨_, rfl, ?_⟩; have n0_ := Aside0.mk (hb); have n1_ := Aside0.mk (Kd.R_mono (ok' := fun k_ => k_ ≠ gx ∧ k_ ≠ gy) ho0 (fun k_ hk => Or.elim hk id (fun hn => ⟨fun e_ => by have := (Rr.shape HX.out).2; omega, fun e_ => by have := (Rr.shape HY.out).2; omega⟩))); have n2_ := Aside0.mk (HX.out.kept hkp (fun hk => hk.1 rfl)); have n3_ := Aside0.mk (HY.out.kept hkp (fun hk => hk.2 rfl)); clear HB HO HX HY; have HB := n0_; have HO := n1_; have HX := n2_; have HY := n3_; clear n0_ n1_ n2_ n3_; clear ho0 hb hkp))
            go_roundg k1
            case measure => have := HK1.out; omega
            case rel => exact ⟨_, _, _, _, _, H', ⟨by have := HK1.out; omega⟩, HX, HY, HO, HB⟩
           | false =>
            clear c1_ c2_ c3_
            replace H := Option.bind_eq_some_iff.mp H; obtain ⟨⟨t, i2, p2⟩, AT1_, H⟩ := H; have AT1 := Aside0.mk AT1_; clear AT1_
            replace H := Option.bind_eq_some_iff.mp H; obtain ⟨o, AA_, H⟩ := H; (try dsimp only at AA_ H); have AA := Aside0.mk AA_; clear AA_
            have H' := Aside0.mk H
            clear H
            go_upto_region 8 with (first | ((with_reducible refine gate_callee (f := 48) rfl ?_); refine goesL_ (some 53) rfl rfl Try.func48 (by kernel_rfl) rfl #[.pointer (some ⟨gx, 0, none⟩)] rfl (by (try simp only [List.map_toArray, List.map_cons, List.map_nil]); first | done | rfl | (simp only [List.length_drop, List.length_take]; rfl)) ?_; (with_reducible refine (Rr.peek_any gx l0 ia pa c false w _ HB.out HX.out AC.out).mono ?_); rintro e w_ ⟨rfl, hb⟩; refine ⟨_, rfl, ?_⟩; have n0_ := Aside0.mk (HX.out.below hb); have n1_ := Aside0.mk (HY.out.below hb); have n2_ := Aside0.mk (Kd.R_below HO.out hb); have n3_ := Aside0.mk (below_step HB.out hb); clear HX HY HO HB; have HX := n0_; have HY := n1_; have HO := n2_; have HB := n3_; clear n0_ n1_ n2_ n3_; clear hb) | ((with_reducible refine gate_dst (N := 15) rfl ?_); refine box_event ?hg (N := 15) ?hd (cs := #[.int .i64 0, .int .i64 0, .string (⟨#[]⟩ : ByteArray)]) (t := 37) ?hr ?_; (case hd => rfl); (case hg => rfl); (case hr => first | (go_simp; done) | (go_simp; rfl)); intro gc hg w_ hbox hb; have BC := Aside0.mk hbox; have Ggc := Aside0.mk ((by rw [hg]; exact HB.out.size) : w.heap.size ≤ gc); have nxgc := Aside0.mk ((by rw [hg]; exact Nat.ne_of_lt (Rr.shape HX.out).2) : gx ≠ gc); have nygc := Aside0.mk ((by rw [hg]; exact Nat.ne_of_lt (Rr.shape HY.out).2) : gy ≠ gc); have m1_ := Aside0.mk (Kd.R_elderB HO.out gc (Nat.le_of_eq hg.symm)); have n0_ := Aside0.mk (HX.out.below hb); have n1_ := Aside0.mk (HY.out.below hb); have n2_ := Aside0.mk (Kd.R_below m1_.out hb); have n3_ := Aside0.mk (below_step HB.out hb); clear HX HY HO HB; have HX := n0_; have HY := n1_; have HO := n2_; have HB := n3_; clear n0_ n1_ n2_ n3_; clear m1_ hb hbox hg; obtain ⟨cz0, cz1, cz2, fz0, fz1, fz2⟩ := Rd.three BC.out))
            have BC1 : Aside0 ((((w_.setCell ⟨gc, 0, none⟩ (.int .i64 c.f0)).setCell ⟨gc, 1, none⟩ (.int .i64 c.f1)).setCell ⟨gc, 2, none⟩ (.string c.f2)).heap[gc]? = some (.cells #[.int .i64 c.f0, .int .i64 c.f1, .string c.f2] 37 (0, 0))) := ⟨Rd.set3 BC.out⟩
            have HX1 : Aside0 (IsRr w (((w_.setCell ⟨gc, 0, none⟩ (.int .i64 c.f0)).setCell ⟨gc, 1, none⟩ (.int .i64 c.f1)).setCell ⟨gc, 2, none⟩ (.string c.f2)) gx l0 _ _) := ⟨((HX.out.far nxgc.out _).far nxgc.out _).far nxgc.out _⟩
            have HY1 : Aside0 (IsRr w (((w_.setCell ⟨gc, 0, none⟩ (.int .i64 c.f0)).setCell ⟨gc, 1, none⟩ (.int .i64 c.f1)).setCell ⟨gc, 2, none⟩ (.string c.f2)) gy l1 _ _) := ⟨((HY.out.far nygc.out _).far nygc.out _).far nygc.out _⟩
            have HB1 : Aside0 (Below w.heap.size w (((w_.setCell ⟨gc, 0, none⟩ (.int .i64 c.f0)).setCell ⟨gc, 1, none⟩ (.int .i64 c.f1)).setCell ⟨gc, 2, none⟩ (.string c.f2))) := ⟨((HB.out.setCell Ggc.out _).setCell Ggc.out _).setCell Ggc.out _⟩
            have HO1 : Aside0 (Kd.R k37 37 (((w_.setCell ⟨gc, 0, none⟩ (.int .i64 c.f0)).setCell ⟨gc, 1, none⟩ (.int .i64 c.f1)).setCell ⟨gc, 2, none⟩ (.string c.f2)) w.heap.size (fun k_ => k_ ≠ gx ∧ k_ ≠ gy) u14 out) := ⟨Kd.R_mono (Kd.R_far (p := ⟨gc, 2, none⟩) (Kd.R_far (p := ⟨gc, 1, none⟩) (Kd.R_far (p := ⟨gc, 0, none⟩) HO.out (fun _ hk => hk.2) _) (fun _ hk => hk.2) _) (fun _ hk => hk.2) _) (fun _ hk => hk.1)⟩
            generalize (((w_.setCell ⟨gc, 0, none⟩ (.int .i64 c.f0)).setCell ⟨gc, 1, none⟩ (.int .i64 c.f1)).setCell ⟨gc, 2, none⟩ (.string c.f2)) = wA at BC1 HX1 HY1 HB1 HO1 ⊢
            clear BC HX HY HB HO cz0 cz1 cz2 fz0 fz1 fz2
            have BC := BC1
            have HX := HX1
            have HY := HY1
            have HB := HB1
            have HO := HO1
            clear BC1 HX1 HY1 HB1 HO1
            go_upto_region 16 with (first | ((with_reducible refine gate_callee (f := 48) rfl ?_); refine goesL_ (some 58) rfl rfl Try.func48 (by kernel_rfl) rfl #[.pointer (some ⟨gy, 0, none⟩)] rfl (by (try simp only [List.map_toArray, List.map_cons, List.map_nil]); first | done | rfl | (simp only [List.length_drop, List.length_take]; rfl)) ?_; (with_reducible refine (Rr.peek_any gy l1 ib pb d true w _ HB.out HY.out AD.out).mono ?_); rintro e w_ ⟨rfl, hb⟩; refine ⟨_, rfl, ?_⟩; have n0_ := Aside0.mk ((hb.block _ (blk_lt BC.out)).trans BC.out); have n1_ := Aside0.mk (HX.out.below hb); have n2_ := Aside0.mk (HY.out.below hb); have n3_ := Aside0.mk (Kd.R_below HO.out hb); have n4_ := Aside0.mk (below_step HB.out hb); clear BC HX HY HO HB; have BC := n0_; have HX := n1_; have HY := n2_; have HO := n3_; have HB := n4_; clear n0_ n1_ n2_ n3_ n4_; clear hb) | ((with_reducible refine gate_dst (N := 17) rfl ?_); refine box_event ?hg (N := 17) ?hd (cs := #[.int .i64 0, .int .i64 0, .string (⟨#[]⟩ : ByteArray)]) (t := 37) ?hr ?_; (case hd => rfl); (case hg => rfl); (case hr => first | (go_simp; done) | (go_simp; rfl)); intro gd hg w_ hbox hb; have BD := Aside0.mk hbox; have Ggd := Aside0.mk ((by rw [hg]; exact HB.out.size) : w.heap.size ≤ gd); have nxgd := Aside0.mk ((by rw [hg]; exact Nat.ne_of_lt (Rr.shape HX.out).2) : gx ≠ gd); have nygd := Aside0.mk ((by rw [hg]; exact Nat.ne_of_lt (Rr.shape HY.out).2) : gy ≠ gd); have ngcgd := Aside0.mk ((by rw [hg]; exact Nat.ne_of_lt (blk_lt BC.out)) : gc ≠ gd); have m1_ := Aside0.mk (Kd.R_elderB HO.out gd (Nat.le_of_eq hg.symm)); have n0_ := Aside0.mk ((hb.block _ (blk_lt BC.out)).trans BC.out); have n1_ := Aside0.mk (HX.out.below hb); have n2_ := Aside0.mk (HY.out.below hb); have n3_ := Aside0.mk (Kd.R_below m1_.out hb); have n4_ := Aside0.mk (below_step HB.out hb); clear BC HX HY HO HB; have BC := n0_; have HX := n1_; have HY := n2_; have HO := n3_; have HB := n4_; clear n0_ n1_ n2_ n3_ n4_; clear m1_ hb hbox hg; obtain ⟨cz0, cz1, cz2, fz0, fz1, fz2⟩ := Rd.three BD.out))
            have BD1 : Aside0 ((((w_.setCell ⟨gd, 0, none⟩ (.int .i64 d.f0)).setCell ⟨gd, 1, none⟩ (.int .i64 d.f1)).setCell ⟨gd, 2, none⟩ (.string d.f2)).heap[gd]? = some (.cells #[.int .i64 d.f0, .int .i64 d.f1, .string d.f2] 37 (0, 0))) := ⟨Rd.set3 BD.out⟩
            have BC1 : Aside0 ((((w_.setCell ⟨gd, 0, none⟩ (.int .i64 d.f0)).setCell ⟨gd, 1, none⟩ (.int .i64 d.f1)).setCell ⟨gd, 2, none⟩ (.string d.f2)).heap[gc]? = _) := ⟨Rd.far3 BC.out ngcgd.out⟩
            have HX1 : Aside0 (IsRr w (((w_.setCell ⟨gd, 0, none⟩ (.int .i64 d.f0)).setCell ⟨gd, 1, none⟩ (.int .i64 d.f1)).setCell ⟨gd, 2, none⟩ (.string d.f2)) gx l0 _ _) := ⟨((HX.out.far nxgd.out _).far nxgd.out _).far nxgd.out _⟩
            have HY1 : Aside0 (IsRr w (((w_.setCell ⟨gd, 0, none⟩ (.int .i64 d.f0)).setCell ⟨gd, 1, none⟩ (.int .i64 d.f1)).setCell ⟨gd, 2, none⟩ (.string d.f2)) gy l1 _ _) := ⟨((HY.out.far nygd.out _).far nygd.out _).far nygd.out _⟩
            have HB1 : Aside0 (Below w.heap.size w (((w_.setCell ⟨gd, 0, none⟩ (.int .i64 d.f0)).setCell ⟨gd, 1, none⟩ (.int .i64 d.f1)).setCell ⟨gd, 2, none⟩ (.string d.f2))) := ⟨((HB.out.setCell Ggd.out _).setCell Ggd.out _).setCell Ggd.out _⟩
            have HO1 : Aside0 (Kd.R k37 37 (((w_.setCell ⟨gd, 0, none⟩ (.int .i64 d.f0)).setCell ⟨gd, 1, none⟩ (.int .i64 d.f1)).setCell ⟨gd, 2, none⟩ (.string d.f2)) w.heap.size (fun k_ => k_ ≠ gx ∧ k_ ≠ gy) u14 out) := ⟨Kd.R_mono (Kd.R_far (p := ⟨gd, 2, none⟩) (Kd.R_far (p := ⟨gd, 1, none⟩) (Kd.R_far (p := ⟨gd, 0, none⟩) HO.out (fun _ hk => hk.2) _) (fun _ hk => hk.2) _) (fun _ hk => hk.2) _) (fun _ hk => hk.1)⟩
            generalize (((w_.setCell ⟨gd, 0, none⟩ (.int .i64 d.f0)).setCell ⟨gd, 1, none⟩ (.int .i64 d.f1)).setCell ⟨gd, 2, none⟩ (.string d.f2)) = wB at BD1 BC1 HX1 HY1 HB1 HO1 ⊢
            clear BD BC HX HY HB HO cz0 cz1 cz2 fz0 fz1 fz2
            have BD := BD1
            have BC := BC1
            have HX := HX1
            have HY := HY1
            have HB := HB1
            have HO := HO1
            clear BD1 BC1 HX1 HY1 HB1 HO1
            have q1_ := ngcgd.out
            have q2_ := Ne.symm ngcgd.out
            obtain ⟨cp0, cp1, cp2, ep0, ep1, ep2⟩ := Rd.three BC.out
            obtain ⟨cq0, cq1, cq2, eq0, eq1, eq2⟩ := Rd.three BD.out
            clear BC BD
            go_wp2_with (first | ((with_reducible refine gate_callee (f := 50) rfl ?_); refine goesL_ (some 122) rfl rfl Try.func50 (by kernel_rfl) rfl #[.pointer (some ⟨gy, 0, none⟩), .int .i64 4096] rfl (by (try simp only [List.map_toArray, List.map_cons, List.map_nil]); first | done | rfl | (simp only [List.length_drop, List.length_take]; rfl)) ?_; (with_reducible refine (Rr.take_any gy l1 ib pb 4096 t i2 p2 w _ HB.out HY.out AT1.out).mono ?_); rintro e w_ ⟨rfl, hx, hb, hkp⟩; refine ⟨_, rfl, ?_⟩; have n0_ := Aside0.mk (hb); have n1_ := Aside0.mk (hx); have n2_ := Aside0.mk (HX.out.kept hkp (fun e_ => NXY.out e_)); have n3_ := Aside0.mk (Kd.R_kept HO.out hkp (fun k_ hk e_ => hk.2 e_)); clear HB HY HX HO; have HB := n0_; have HY := n1_; have HX := n2_; have HO := n3_; clear n0_ n1_ n2_ n3_; clear hx hb hkp) | ((with_reducible refine gate_callee (f := 51) rfl ?_); refine goesL_ (some 123) rfl rfl Try.func51 (by kernel_rfl) rfl #[u14, .agg #[.int .i64 t.f0, .int .i64 t.f1, .string t.f2]] rfl (by (try simp only [List.map_toArray, List.map_cons, List.map_nil]); first | done | rfl | (simp only [List.length_drop, List.length_take]; rfl)) ?_; (with_reducible refine (minuetref1_Add.calls k1 (fun k_ => k_ ≠ gx ∧ k_ ≠ gy) u14 out t.f0 t.f1 t.f2 o w _ HB.out HO.out AA.out).mono ?_); rintro e w_ ⟨v_, rfl, ho0, hb, hkp⟩; refine ⟨_, rfl, ?_⟩; have n0_ := Aside0.mk (hb); have n1_ := Aside0.mk (Kd.R_mono (ok' := fun k_ => k_ ≠ gx ∧ k_ ≠ gy) ho0 (fun k_ hk => Or.elim hk id (fun hn => ⟨fun e_ => by have := (Rr.shape HX.out).2; omega, fun e_ => by have := (Rr.shape HY.out).2; omega⟩))); have n2_ := Aside0.mk (HX.out.kept hkp (fun hk => hk.1 rfl)); have n3_ := Aside0.mk (HY.out.kept hkp (fun hk => hk.2 rfl)); clear HB HO HX HY; have HB := n0_; have HO := n1_; have HX := n2_; have HY := n3_; clear n0_ n1_ n2_ n3_; clear ho0 hb hkp))
            go_roundg k1
            case measure => have := HK1.out; omega
            case rel => exact ⟨_, _, _, _, _, H', ⟨by have := HK1.out; omega⟩, HX, HY, HO, HB⟩
         · rw [if_neg c3_] at H
           by_cases c4_ : is = true ∧ are = true
           · rw [if_pos c4_] at H
             obtain ⟨rfl, rfl⟩ := c4_
             have b1 : (c.f0 == 2) = false := beq_eq_false_iff_ne.mpr (fun h_ => c2_ ⟨rfl, h_⟩)
             have b2 : (d.f0 == 1) = false := beq_eq_false_iff_ne.mpr (fun h_ => c3_ ⟨rfl, h_⟩)
             clear c1_ c2_ c3_
             replace H := Option.bind_eq_some_iff.mp H; obtain ⟨s, hs_, H⟩ := H
             replace H := Option.bind_eq_some_iff.mp H; obtain ⟨q, hq_, H⟩ := H
             replace H := Option.bind_eq_some_iff.mp H; obtain ⟨⟨t, i2, p2⟩, AT1_, H⟩ := H; have AT1 := Aside0.mk AT1_; clear AT1_
             replace H := Option.bind_eq_some_iff.mp H; obtain ⟨⟨u, i3, p3⟩, AT2_, H⟩ := H; have AT2 := Aside0.mk AT2_; clear AT2_
             simp only at H
             have HS := Aside0.mk hs_
             have HQ := Aside0.mk hq_
             clear hs_ hq_
             have HH := Aside0.mk H
             clear H
             go_upto_region 8 with (first | ((with_reducible refine gate_callee (f := 48) rfl ?_); refine goesL_ (some 53) rfl rfl Try.func48 (by kernel_rfl) rfl #[.pointer (some ⟨gx, 0, none⟩)] rfl (by (try simp only [List.map_toArray, List.map_cons, List.map_nil]); first | done | rfl | (simp only [List.length_drop, List.length_take]; rfl)) ?_; (with_reducible refine (Rr.peek_any gx l0 ia pa c true w _ HB.out HX.out AC.out).mono ?_); rintro e w_ ⟨rfl, hb⟩; refine ⟨_, rfl, ?_⟩; have n0_ := Aside0.mk (HX.out.below hb); have n1_ := Aside0.mk (HY.out.below hb); have n2_ := Aside0.mk (Kd.R_below HO.out hb); have n3_ := Aside0.mk (below_step HB.out hb); clear HX HY HO HB; have HX := n0_; have HY := n1_; have HO := n2_; have HB := n3_; clear n0_ n1_ n2_ n3_; clear hb) | ((with_reducible refine gate_dst (N := 15) rfl ?_); refine box_event ?hg (N := 15) ?hd (cs := #[.int .i64 0, .int .i64 0, .string (⟨#[]⟩ : ByteArray)]) (t := 37) ?hr ?_; (case hd => rfl); (case hg => rfl); (case hr => first | (go_simp; done) | (go_simp; rfl)); intro gc hg w_ hbox hb; have BC := Aside0.mk hbox; have Ggc := Aside0.mk ((by rw [hg]; exact HB.out.size) : w.heap.size ≤ gc); have nxgc := Aside0.mk ((by rw [hg]; exact Nat.ne_of_lt (Rr.shape HX.out).2) : gx ≠ gc); have nygc := Aside0.mk ((by rw [hg]; exact Nat.ne_of_lt (Rr.shape HY.out).2) : gy ≠ gc); have m1_ := Aside0.mk (Kd.R_elderB HO.out gc (Nat.le_of_eq hg.symm)); have n0_ := Aside0.mk (HX.out.below hb); have n1_ := Aside0.mk (HY.out.below hb); have n2_ := Aside0.mk (Kd.R_below m1_.out hb); have n3_ := Aside0.mk (below_step HB.out hb); clear HX HY HO HB; have HX := n0_; have HY := n1_; have HO := n2_; have HB := n3_; clear n0_ n1_ n2_ n3_; clear m1_ hb hbox hg; obtain ⟨cz0, cz1, cz2, fz0, fz1, fz2⟩ := Rd.three BC.out))
             have BC1 : Aside0 ((((w_.setCell ⟨gc, 0, none⟩ (.int .i64 c.f0)).setCell ⟨gc, 1, none⟩ (.int .i64 c.f1)).setCell ⟨gc, 2, none⟩ (.string c.f2)).heap[gc]? = some (.cells #[.int .i64 c.f0, .int .i64 c.f1, .string c.f2] 37 (0, 0))) := ⟨Rd.set3 BC.out⟩
             have HX1 : Aside0 (IsRr w (((w_.setCell ⟨gc, 0, none⟩ (.int .i64 c.f0)).setCell ⟨gc, 1, none⟩ (.int .i64 c.f1)).setCell ⟨gc, 2, none⟩ (.string c.f2)) gx l0 _ _) := ⟨((HX.out.far nxgc.out _).far nxgc.out _).far nxgc.out _⟩
             have HY1 : Aside0 (IsRr w (((w_.setCell ⟨gc, 0, none⟩ (.int .i64 c.f0)).setCell ⟨gc, 1, none⟩ (.int .i64 c.f1)).setCell ⟨gc, 2, none⟩ (.string c.f2)) gy l1 _ _) := ⟨((HY.out.far nygc.out _).far nygc.out _).far nygc.out _⟩
             have HB1 : Aside0 (Below w.heap.size w (((w_.setCell ⟨gc, 0, none⟩ (.int .i64 c.f0)).setCell ⟨gc, 1, none⟩ (.int .i64 c.f1)).setCell ⟨gc, 2, none⟩ (.string c.f2))) := ⟨((HB.out.setCell Ggc.out _).setCell Ggc.out _).setCell Ggc.out _⟩
             have HO1 : Aside0 (Kd.R k37 37 (((w_.setCell ⟨gc, 0, none⟩ (.int .i64 c.f0)).setCell ⟨gc, 1, none⟩ (.int .i64 c.f1)).setCell ⟨gc, 2, none⟩ (.string c.f2)) w.heap.size (fun k_ => k_ ≠ gx ∧ k_ ≠ gy) u14 out) := ⟨Kd.R_mono (Kd.R_far (p := ⟨gc, 2, none⟩) (Kd.R_far (p := ⟨gc, 1, none⟩) (Kd.R_far (p := ⟨gc, 0, none⟩) HO.out (fun _ hk => hk.2) _) (fun _ hk => hk.2) _) (fun _ hk => hk.2) _) (fun _ hk => hk.1)⟩
             generalize (((w_.setCell ⟨gc, 0, none⟩ (.int .i64 c.f0)).setCell ⟨gc, 1, none⟩ (.int .i64 c.f1)).setCell ⟨gc, 2, none⟩ (.string c.f2)) = wA at BC1 HX1 HY1 HB1 HO1 ⊢
             clear BC HX HY HB HO cz0 cz1 cz2 fz0 fz1 fz2
             have BC := BC1
             have HX := HX1
             have HY := HY1
             have HB := HB1
             have HO := HO1
             clear BC1 HX1 HY1 HB1 HO1
             go_upto_region 16 with (first | ((with_reducible refine gate_callee (f := 48) rfl ?_); refine goesL_ (some 58) rfl rfl Try.func48 (by kernel_rfl) rfl #[.pointer (some ⟨gy, 0, none⟩)] rfl (by (try simp only [List.map_toArray, List.map_cons, List.map_nil]); first | done | rfl | (simp only [List.length_drop, List.length_take]; rfl)) ?_; (with_reducible refine (Rr.peek_any gy l1 ib pb d true w _ HB.out HY.out AD.out).mono ?_); rintro e w_ ⟨rfl, hb⟩; refine ⟨_, rfl, ?_⟩; have n0_ := Aside0.mk ((hb.block _ (blk_lt BC.out)).trans BC.out); have n1_ := Aside0.mk (HX.out.below hb); have n2_ := Aside0.mk (HY.out.below hb); have n3_ := Aside0.mk (Kd.R_below HO.out hb); have n4_ := Aside0.mk (below_step HB.out hb); clear BC HX HY HO HB; have BC := n0_; have HX := n1_; have HY := n2_; have HO := n3_; have HB := n4_; clear n0_ n1_ n2_ n3_ n4_; clear hb) | ((with_reducible refine gate_dst (N := 17) rfl ?_); refine box_event ?hg (N := 17) ?hd (cs := #[.int .i64 0, .int .i64 0, .string (⟨#[]⟩ : ByteArray)]) (t := 37) ?hr ?_; (case hd => rfl); (case hg => rfl); (case hr => first | (go_simp; done) | (go_simp; rfl)); intro gd hg w_ hbox hb; have BD := Aside0.mk hbox; have Ggd := Aside0.mk ((by rw [hg]; exact HB.out.size) : w.heap.size ≤ gd); have nxgd := Aside0.mk ((by rw [hg]; exact Nat.ne_of_lt (Rr.shape HX.out).2) : gx ≠ gd); have nygd := Aside0.mk ((by rw [hg]; exact Nat.ne_of_lt (Rr.shape HY.out).2) : gy ≠ gd); have ngcgd := Aside0.mk ((by rw [hg]; exact Nat.ne_of_lt (blk_lt BC.out)) : gc ≠ gd); have m1_ := Aside0.mk (Kd.R_elderB HO.out gd (Nat.le_of_eq hg.symm)); have n0_ := Aside0.mk ((hb.block _ (blk_lt BC.out)).trans BC.out); have n1_ := Aside0.mk (HX.out.below hb); have n2_ := Aside0.mk (HY.out.below hb); have n3_ := Aside0.mk (Kd.R_below m1_.out hb); have n4_ := Aside0.mk (below_step HB.out hb); clear BC HX HY HO HB; have BC := n0_; have HX := n1_; have HY := n2_; have HO := n3_; have HB := n4_; clear n0_ n1_ n2_ n3_ n4_; clear m1_ hb hbox hg; obtain ⟨cz0, cz1, cz2, fz0, fz1, fz2⟩ := Rd.three BD.out))
             have BD1 : Aside0 ((((w_.setCell ⟨gd, 0, none⟩ (.int .i64 d.f0)).setCell ⟨gd, 1, none⟩ (.int .i64 d.f1)).setCell ⟨gd, 2, none⟩ (.string d.f2)).heap[gd]? = some (.cells #[.int .i64 d.f0, .int .i64 d.f1, .string d.f2] 37 (0, 0))) := ⟨Rd.set3 BD.out⟩
             have BC1 : Aside0 ((((w_.setCell ⟨gd, 0, none⟩ (.int .i64 d.f0)).setCell ⟨gd, 1, none⟩ (.int .i64 d.f1)).setCell ⟨gd, 2, none⟩ (.string d.f2)).heap[gc]? = _) := ⟨Rd.far3 BC.out ngcgd.out⟩
             have HX1 : Aside0 (IsRr w (((w_.setCell ⟨gd, 0, none⟩ (.int .i64 d.f0)).setCell ⟨gd, 1, none⟩ (.int .i64 d.f1)).setCell ⟨gd, 2, none⟩ (.string d.f2)) gx l0 _ _) := ⟨((HX.out.far nxgd.out _).far nxgd.out _).far nxgd.out _⟩
             have HY1 : Aside0 (IsRr w (((w_.setCell ⟨gd, 0, none⟩ (.int .i64 d.f0)).setCell ⟨gd, 1, none⟩ (.int .i64 d.f1)).setCell ⟨gd, 2, none⟩ (.string d.f2)) gy l1 _ _) := ⟨((HY.out.far nygd.out _).far nygd.out _).far nygd.out _⟩
             have HB1 : Aside0 (Below w.heap.size w (((w_.setCell ⟨gd, 0, none⟩ (.int .i64 d.f0)).setCell ⟨gd, 1, none⟩ (.int .i64 d.f1)).setCell ⟨gd, 2, none⟩ (.string d.f2))) := ⟨((HB.out.setCell Ggd.out _).setCell Ggd.out _).setCell Ggd.out _⟩
             have HO1 : Aside0 (Kd.R k37 37 (((w_.setCell ⟨gd, 0, none⟩ (.int .i64 d.f0)).setCell ⟨gd, 1, none⟩ (.int .i64 d.f1)).setCell ⟨gd, 2, none⟩ (.string d.f2)) w.heap.size (fun k_ => k_ ≠ gx ∧ k_ ≠ gy) u14 out) := ⟨Kd.R_mono (Kd.R_far (p := ⟨gd, 2, none⟩) (Kd.R_far (p := ⟨gd, 1, none⟩) (Kd.R_far (p := ⟨gd, 0, none⟩) HO.out (fun _ hk => hk.2) _) (fun _ hk => hk.2) _) (fun _ hk => hk.2) _) (fun _ hk => hk.1)⟩
             generalize (((w_.setCell ⟨gd, 0, none⟩ (.int .i64 d.f0)).setCell ⟨gd, 1, none⟩ (.int .i64 d.f1)).setCell ⟨gd, 2, none⟩ (.string d.f2)) = wB at BD1 BC1 HX1 HY1 HB1 HO1 ⊢
             clear BD BC HX HY HB HO cz0 cz1 cz2 fz0 fz1 fz2
             have BD := BD1
             have BC := BC1
             have HX := HX1
             have HY := HY1
             have HB := HB1
             have HO := HO1
             clear BD1 BC1 HX1 HY1 HB1 HO1
             have q1_ := ngcgd.out
             have q2_ := Ne.symm ngcgd.out
             obtain ⟨cp0, cp1, cp2, ep0, ep1, ep2⟩ := Rd.three BC.out
             obtain ⟨cq0, cq1, cq2, eq0, eq1, eq2⟩ := Rd.three BD.out
             go_upto_region 9 with (fail)
             have hs := HS.out
             have hq := HQ.out
             have HV := Aside0.mk (Below.refl wB.heap.size wB)
             go_region_held3 (fun w' => w'.cell? ⟨gc, 0, none⟩ = some (.int .i64 c.f0) ∧ w'.cell? ⟨gc, 1, none⟩ = some (.int .i64 c.f1) ∧ w'.cell? ⟨gc, 2, none⟩ = some (.string c.f2) ∧ w'.cell? ⟨gd, 0, none⟩ = some (.int .i64 d.f0) ∧ w'.cell? ⟨gd, 1, none⟩ = some (.int .i64 d.f1) ∧ w'.cell? ⟨gd, 2, none⟩ = some (.string d.f2)) (first | (go_keep; done) | ((try dsimp only at *); go_split_ands; exact ⟨pw_cell_below hb (by assumption), pw_cell_below hb (by assumption), pw_cell_below hb (by assumption), pw_cell_below hb (by assumption), pw_cell_below hb (by assumption), pw_cell_below hb (by assumption)⟩)) (first | (go_at_call 52; refine (minuetref1_size.calls _ _ _ _ _ (by assumption)).mono ?_; rintro e w8 ⟨rfl, hb⟩; have HV2 := Aside0.mk (by first | exact below_step HV.out hb | exact below_step HV.out.drew hb : Below wB.heap.size wB w8); clear HV; have HV := HV2; clear HV2))
             all_goals
              have hv := HV.out
              clear HV hs hq
              have hb := hv
              clear hv
              have n0_ := Aside0.mk (HX.out.below hb)
              have n1_ := Aside0.mk (HY.out.below hb)
              have n2_ := Aside0.mk (Kd.R_below HO.out hb)
              have n3_ := Aside0.mk (below_step HB.out hb)
              clear HX HY HO HB
              have HX := n0_
              have HY := n1_
              have HO := n2_
              have HB := n3_
              clear n0_ n1_ n2_ n3_
              clear hb BC BD
              go_upto_region 11 with (first | ((with_reducible refine gate_callee (f := 50) rfl ?_); refine goesL_ (some 68) rfl rfl Try.func50 (by kernel_rfl) rfl #[.pointer (some ⟨gx, 0, none⟩), .int .i64 (Rr.mini s q)] rfl (by (try simp only [List.map_toArray, List.map_cons, List.map_nil]); first | done | rfl | (simp only [List.length_drop, List.length_take]; rfl)) ?_; (with_reducible refine (Rr.take_any gx l0 ia pa (Rr.mini s q) t i2 p2 w _ HB.out HX.out AT1.out).mono ?_); rintro e w_ ⟨rfl, hx, hb, hkp⟩; refine ⟨_, rfl, ?_⟩; have n0_ := Aside0.mk (hb); have n1_ := Aside0.mk (hx); have n2_ := Aside0.mk (HY.out.kept hkp (fun e_ => NXY.out e_.symm)); have n3_ := Aside0.mk (Kd.R_kept HO.out hkp (fun k_ hk e_ => hk.1 e_)); clear HB HX HY HO; have HB := n0_; have HX := n1_; have HY := n2_; have HO := n3_; clear n0_ n1_ n2_ n3_; clear hx hb hkp) | ((with_reducible refine gate_dst (N := 20) rfl ?_); refine box_event ?hg (N := 20) ?hd (cs := #[.int .i64 0, .int .i64 0, .string (⟨#[]⟩ : ByteArray)]) (t := 37) ?hr ?_; (case hd => rfl); (case hg => rfl); (case hr => first | (go_simp; done) | (go_simp; rfl)); intro gt hg w_ hbox hb; have BT := Aside0.mk hbox; have Ggt := Aside0.mk ((by rw [hg]; exact HB.out.size) : w.heap.size ≤ gt); have nxgt := Aside0.mk ((by rw [hg]; exact Nat.ne_of_lt (Rr.shape HX.out).2) : gx ≠ gt); have nygt := Aside0.mk ((by rw [hg]; exact Nat.ne_of_lt (Rr.shape HY.out).2) : gy ≠ gt); have m1_ := Aside0.mk (Kd.R_elderB HO.out gt (Nat.le_of_eq hg.symm)); have n0_ := Aside0.mk (HX.out.below hb); have n1_ := Aside0.mk (HY.out.below hb); have n2_ := Aside0.mk (Kd.R_below m1_.out hb); have n3_ := Aside0.mk (below_step HB.out hb); clear HX HY HO HB; have HX := n0_; have HY := n1_; have HO := n2_; have HB := n3_; clear n0_ n1_ n2_ n3_; clear m1_ hb hbox hg; obtain ⟨cz0, cz1, cz2, fz0, fz1, fz2⟩ := Rd.three BT.out))
              have BT1 : Aside0 ((((w_.setCell ⟨gt, 0, none⟩ (.int .i64 t.f0)).setCell ⟨gt, 1, none⟩ (.int .i64 t.f1)).setCell ⟨gt, 2, none⟩ (.string t.f2)).heap[gt]? = some (.cells #[.int .i64 t.f0, .int .i64 t.f1, .string t.f2] 37 (0, 0))) := ⟨Rd.set3 BT.out⟩
              have HX1 : Aside0 (IsRr w (((w_.setCell ⟨gt, 0, none⟩ (.int .i64 t.f0)).setCell ⟨gt, 1, none⟩ (.int .i64 t.f1)).setCell ⟨gt, 2, none⟩ (.string t.f2)) gx l0 _ _) := ⟨((HX.out.far nxgt.out _).far nxgt.out _).far nxgt.out _⟩
              have HY1 : Aside0 (IsRr w (((w_.setCell ⟨gt, 0, none⟩ (.int .i64 t.f0)).setCell ⟨gt, 1, none⟩ (.int .i64 t.f1)).setCell ⟨gt, 2, none⟩ (.string t.f2)) gy l1 _ _) := ⟨((HY.out.far nygt.out _).far nygt.out _).far nygt.out _⟩
              have HB1 : Aside0 (Below w.heap.size w (((w_.setCell ⟨gt, 0, none⟩ (.int .i64 t.f0)).setCell ⟨gt, 1, none⟩ (.int .i64 t.f1)).setCell ⟨gt, 2, none⟩ (.string t.f2))) := ⟨((HB.out.setCell Ggt.out _).setCell Ggt.out _).setCell Ggt.out _⟩
              have HO1 : Aside0 (Kd.R k37 37 (((w_.setCell ⟨gt, 0, none⟩ (.int .i64 t.f0)).setCell ⟨gt, 1, none⟩ (.int .i64 t.f1)).setCell ⟨gt, 2, none⟩ (.string t.f2)) w.heap.size (fun k_ => k_ ≠ gx ∧ k_ ≠ gy) u14 out) := ⟨Kd.R_mono (Kd.R_far (p := ⟨gt, 2, none⟩) (Kd.R_far (p := ⟨gt, 1, none⟩) (Kd.R_far (p := ⟨gt, 0, none⟩) HO.out (fun _ hk => hk.2) _) (fun _ hk => hk.2) _) (fun _ hk => hk.2) _) (fun _ hk => hk.1)⟩
              generalize (((w_.setCell ⟨gt, 0, none⟩ (.int .i64 t.f0)).setCell ⟨gt, 1, none⟩ (.int .i64 t.f1)).setCell ⟨gt, 2, none⟩ (.string t.f2)) = wC at BT1 HX1 HY1 HB1 HO1 ⊢
              clear BT HX HY HB HO cz0 cz1 cz2 fz0 fz1 fz2
              have BT := BT1
              have HX := HX1
              have HY := HY1
              have HB := HB1
              have HO := HO1
              clear BT1 HX1 HY1 HB1 HO1
              go_upto_region 13 with (first | ((with_reducible refine gate_callee (f := 50) rfl ?_); refine goesL_ (some 71) rfl rfl Try.func50 (by kernel_rfl) rfl #[.pointer (some ⟨gy, 0, none⟩), .int .i64 (Rr.mini s q)] rfl (by (try simp only [List.map_toArray, List.map_cons, List.map_nil]); first | done | rfl | (simp only [List.length_drop, List.length_take]; rfl)) ?_; (with_reducible refine (Rr.take_any gy l1 ib pb (Rr.mini s q) u i3 p3 w _ HB.out HY.out AT2.out).mono ?_); rintro e w_ ⟨rfl, hx, hb, hkp⟩; refine ⟨_, rfl, ?_⟩; have n0_ := Aside0.mk (blk_kept BT.out hkp (fun e_ => nygt.out e_.symm)); have n1_ := Aside0.mk (hb); have n2_ := Aside0.mk (hx); have n3_ := Aside0.mk (HX.out.kept hkp (fun e_ => NXY.out e_)); have n4_ := Aside0.mk (Kd.R_kept HO.out hkp (fun k_ hk e_ => hk.2 e_)); clear BT HB HY HX HO; have BT := n0_; have HB := n1_; have HY := n2_; have HX := n3_; have HO := n4_; clear n0_ n1_ n2_ n3_ n4_; clear hx hb hkp) | ((with_reducible refine gate_dst (N := 21) rfl ?_); refine box_event ?hg (N := 21) ?hd (cs := #[.int .i64 0, .int .i64 0, .string (⟨#[]⟩ : ByteArray)]) (t := 37) ?hr ?_; (case hd => rfl); (case hg => rfl); (case hr => first | (go_simp; done) | (go_simp; rfl)); intro gu hg w_ hbox hb; have BU := Aside0.mk hbox; have Ggu := Aside0.mk ((by rw [hg]; exact HB.out.size) : w.heap.size ≤ gu); have nxgu := Aside0.mk ((by rw [hg]; exact Nat.ne_of_lt (Rr.shape HX.out).2) : gx ≠ gu); have nygu := Aside0.mk ((by rw [hg]; exact Nat.ne_of_lt (Rr.shape HY.out).2) : gy ≠ gu); have ngtgu := Aside0.mk ((by rw [hg]; exact Nat.ne_of_lt (blk_lt BT.out)) : gt ≠ gu); have m1_ := Aside0.mk (Kd.R_elderB HO.out gu (Nat.le_of_eq hg.symm)); have n0_ := Aside0.mk ((hb.block _ (blk_lt BT.out)).trans BT.out); have n1_ := Aside0.mk (HX.out.below hb); have n2_ := Aside0.mk (HY.out.below hb); have n3_ := Aside0.mk (Kd.R_below m1_.out hb); have n4_ := Aside0.mk (below_step HB.out hb); clear BT HX HY HO HB; have BT := n0_; have HX := n1_; have HY := n2_; have HO := n3_; have HB := n4_; clear n0_ n1_ n2_ n3_ n4_; clear m1_ hb hbox hg; obtain ⟨cz0, cz1, cz2, fz0, fz1, fz2⟩ := Rd.three BU.out))
              have BU1 : Aside0 ((((w_.setCell ⟨gu, 0, none⟩ (.int .i64 u.f0)).setCell ⟨gu, 1, none⟩ (.int .i64 u.f1)).setCell ⟨gu, 2, none⟩ (.string u.f2)).heap[gu]? = some (.cells #[.int .i64 u.f0, .int .i64 u.f1, .string u.f2] 37 (0, 0))) := ⟨Rd.set3 BU.out⟩
              have BT1 : Aside0 ((((w_.setCell ⟨gu, 0, none⟩ (.int .i64 u.f0)).setCell ⟨gu, 1, none⟩ (.int .i64 u.f1)).setCell ⟨gu, 2, none⟩ (.string u.f2)).heap[gt]? = _) := ⟨Rd.far3 BT.out ngtgu.out⟩
              have HX1 : Aside0 (IsRr w (((w_.setCell ⟨gu, 0, none⟩ (.int .i64 u.f0)).setCell ⟨gu, 1, none⟩ (.int .i64 u.f1)).setCell ⟨gu, 2, none⟩ (.string u.f2)) gx l0 _ _) := ⟨((HX.out.far nxgu.out _).far nxgu.out _).far nxgu.out _⟩
              have HY1 : Aside0 (IsRr w (((w_.setCell ⟨gu, 0, none⟩ (.int .i64 u.f0)).setCell ⟨gu, 1, none⟩ (.int .i64 u.f1)).setCell ⟨gu, 2, none⟩ (.string u.f2)) gy l1 _ _) := ⟨((HY.out.far nygu.out _).far nygu.out _).far nygu.out _⟩
              have HB1 : Aside0 (Below w.heap.size w (((w_.setCell ⟨gu, 0, none⟩ (.int .i64 u.f0)).setCell ⟨gu, 1, none⟩ (.int .i64 u.f1)).setCell ⟨gu, 2, none⟩ (.string u.f2))) := ⟨((HB.out.setCell Ggu.out _).setCell Ggu.out _).setCell Ggu.out _⟩
              have HO1 : Aside0 (Kd.R k37 37 (((w_.setCell ⟨gu, 0, none⟩ (.int .i64 u.f0)).setCell ⟨gu, 1, none⟩ (.int .i64 u.f1)).setCell ⟨gu, 2, none⟩ (.string u.f2)) w.heap.size (fun k_ => k_ ≠ gx ∧ k_ ≠ gy) u14 out) := ⟨Kd.R_mono (Kd.R_far (p := ⟨gu, 2, none⟩) (Kd.R_far (p := ⟨gu, 1, none⟩) (Kd.R_far (p := ⟨gu, 0, none⟩) HO.out (fun _ hk => hk.2) _) (fun _ hk => hk.2) _) (fun _ hk => hk.2) _) (fun _ hk => hk.1)⟩
              generalize (((w_.setCell ⟨gu, 0, none⟩ (.int .i64 u.f0)).setCell ⟨gu, 1, none⟩ (.int .i64 u.f1)).setCell ⟨gu, 2, none⟩ (.string u.f2)) = wD at BU1 BT1 HX1 HY1 HB1 HO1 ⊢
              clear BU BT HX HY HB HO cz0 cz1 cz2 fz0 fz1 fz2
              have BU := BU1
              have BT := BT1
              have HX := HX1
              have HY := HY1
              have HB := HB1
              have HO := HO1
              clear BU1 BT1 HX1 HY1 HB1 HO1
              have r1_ := ngtgu.out
              have r2_ := Ne.symm ngtgu.out
              obtain ⟨ct0, ct1, ct2, et0, et1, et2⟩ := Rd.three BT.out
              obtain ⟨cu0, cu1, cu2, eu0, eu1, eu2⟩ := Rd.three BU.out
              have H := HH.out
              clear HH
              by_cases c5_ : t.f0 = 1
              · have b5 : (t.f0 == 1) = true := beq_iff_eq.mpr c5_
                by_cases c6_ : u.f0 = 2
                · rw [if_pos ⟨c5_, c6_⟩] at H
                  have b6 : (u.f0 == 2) = true := beq_iff_eq.mpr c6_
                  have H' := Aside0.mk H
                  clear H c5_ c6_
                  go_wp2
                  all_goals
                   go_roundg k1
                   case measure => have := HK1.out; omega
                   case rel => exact ⟨_, _, _, _, _, H', ⟨by have := HK1.out; omega⟩, HX, HY, HO, HB⟩
                · rw [if_neg (fun h_ => c6_ h_.2), if_pos c5_] at H
                  replace H := Option.bind_eq_some_iff.mp H; obtain ⟨o, AA_, H⟩ := H; (try dsimp only at AA_ H); have AA := Aside0.mk AA_; clear AA_
                  have b6 : (u.f0 == 2) = false := beq_eq_false_iff_ne.mpr c6_
                  have H' := Aside0.mk H
                  clear H c5_ c6_
                  go_wp2_with (first | ((with_reducible refine gate_callee (f := 51) rfl ?_); refine goesL_ (some 90) rfl rfl Try.func51 (by kernel_rfl) rfl #[u14, .agg #[.int .i64 t.f0, .int .i64 t.f1, .string t.f2]] rfl (by (try simp only [List.map_toArray, List.map_cons, List.map_nil]); first | done | rfl | (simp only [List.length_drop, List.length_take]; rfl)) ?_; (with_reducible refine (minuetref1_Add.calls k1 (fun k_ => k_ ≠ gx ∧ k_ ≠ gy) u14 out t.f0 t.f1 t.f2 o w _ HB.out HO.out AA.out).mono ?_); rintro e w_ ⟨v_, rfl, ho0, hb, hkp⟩; refine ⟨_, rfl, ?_⟩; have n0_ := Aside0.mk (hb); have n1_ := Aside0.mk (Kd.R_mono (ok' := fun k_ => k_ ≠ gx ∧ k_ ≠ gy) ho0 (fun k_ hk => Or.elim hk id (fun hn => ⟨fun e_ => by have := (Rr.shape HX.out).2; omega, fun e_ => by have := (Rr.shape HY.out).2; omega⟩))); have n2_ := Aside0.mk (HX.out.kept hkp (fun hk => hk.1 rfl)); have n3_ := Aside0.mk (HY.out.kept hkp (fun hk => hk.2 rfl)); clear HB HO HX HY; have HB := n0_; have HO := n1_; have HX := n2_; have HY := n3_; clear n0_ n1_ n2_ n3_; clear ho0 hb hkp))
                  all_goals
                   go_roundg k1
                   case measure => have := HK1.out; omega
                   case rel => exact ⟨_, _, _, _, _, H', ⟨by have := HK1.out; omega⟩, HX, HY, HO, HB⟩
              · rw [if_neg (fun h_ => c5_ h_.1), if_neg c5_] at H
                replace H := Option.bind_eq_some_iff.mp H; obtain ⟨o, AA_, H⟩ := H; (try dsimp only at AA_ H); have AA := Aside0.mk AA_; clear AA_
                have b5 : (t.f0 == 1) = false := beq_eq_false_iff_ne.mpr c5_
                have H' := Aside0.mk H
                clear H c5_
                go_wp2_with (first | ((with_reducible refine gate_callee (f := 51) rfl ?_); refine goesL_ (some 74) rfl rfl Try.func51 (by kernel_rfl) rfl #[u14, .agg #[.int .i64 u.f0, .int .i64 u.f1, .string u.f2]] rfl (by (try simp only [List.map_toArray, List.map_cons, List.map_nil]); first | done | rfl | (simp only [List.length_drop, List.length_take]; rfl)) ?_; (with_reducible refine (minuetref1_Add.calls k1 (fun k_ => k_ ≠ gx ∧ k_ ≠ gy) u14 out u.f0 u.f1 u.f2 o w _ HB.out HO.out AA.out).mono ?_); rintro e w_ ⟨v_, rfl, ho0, hb, hkp⟩; refine ⟨_, rfl, ?_⟩; have n0_ := Aside0.mk (hb); have n1_ := Aside0.mk (Kd.R_mono (ok' := fun k_ => k_ ≠ gx ∧ k_ ≠ gy) ho0 (fun k_ hk => Or.elim hk id (fun hn => ⟨fun e_ => by have := (Rr.shape HX.out).2; omega, fun e_ => by have := (Rr.shape HY.out).2; omega⟩))); have n2_ := Aside0.mk (HX.out.kept hkp (fun hk => hk.1 rfl)); have n3_ := Aside0.mk (HY.out.kept hkp (fun hk => hk.2 rfl)); clear HB HO HX HY; have HB := n0_; have HO := n1_; have HX := n2_; have HY := n3_; clear n0_ n1_ n2_ n3_; clear ho0 hb hkp))
                all_goals
                 go_roundg k1
                 case measure => have := HK1.out; omega
                 case rel => exact ⟨_, _, _, _, _, H', ⟨by have := HK1.out; omega⟩, HX, HY, HO, HB⟩
           · rw [if_neg c4_] at H
             cases H
 · rw [if_neg hok] at h
   simp only [Option.some.injEq, Prod.mk.injEq] at h
   obtain ⟨rfl, rfl⟩ := h
   by_cases e1 : t3 = 0
   · have a1 : (t3 != 0) = false := bne_eq_false_iff_eq.mpr e1
     by_cases e2 : u3 = 0
     · have a2 : (u3 != 0) = false := bne_eq_false_iff_eq.mpr e2
       have a3 : (t2 != u1) = true := bne_iff_ne.mpr (fun h_ => hok ⟨e1, e2, h_⟩)
       clear hok e1 e2
       go_enter Try.func25, Try.ntmps25
       go_wp2_with (first | ((with_reducible refine gate_callee (f := 21) rfl ?_); refine goesL_ (some 24) rfl rfl Try.func21 (by kernel_rfl) rfl #[.slice A0 l0.length c0] rfl (by (try simp only [List.map_toArray, List.map_cons, List.map_nil]); first | done | rfl | (simp only [List.length_drop, List.length_take]; rfl)) ?_; (with_reducible refine (minuetref1_Lengths.calls k _ _ l0 t1 t2 t3 _ ?side1 ?side2 AT.out).mono ?_); (case side1 => exact Kd.C_below HR0.out HB.out); (case side2 => exact HC0.out); rintro e w_ ⟨rfl, hb⟩; refine ⟨_, rfl, ?_⟩; have n0_ := Aside0.mk (below_step HB.out hb); clear HB; have HB := n0_; clear n0_; clear hb) | ((with_reducible refine gate_callee (f := 21) rfl ?_); refine goesL_ (some 30) rfl rfl Try.func21 (by kernel_rfl) rfl #[.slice A1 l1.length c1] rfl (by (try simp only [List.map_toArray, List.map_cons, List.map_nil]); first | done | rfl | (simp only [List.length_drop, List.length_take]; rfl)) ?_; (with_reducible refine (minuetref1_Lengths.calls k _ _ l1 u1 u2 u3 _ ?side1 ?side2 AU.out).mono ?_); (case side1 => exact Kd.C_below HR1.out HB.out); (case side2 => exact HC1.out); rintro e w_ ⟨rfl, hb⟩; refine ⟨_, rfl, ?_⟩; have n0_ := Aside0.mk (below_step HB.out hb); clear HB; have HB := n0_; clear n0_; clear hb))
       go_ret2
       exact ⟨_, rfl, Kd.R_nil _ _ _ _ _, HB.out⟩
     · have a2 : (u3 != 0) = true := bne_iff_ne.mpr e2
       clear hok e1 e2
       go_enter Try.func25, Try.ntmps25
       go_wp2_with (first | ((with_reducible refine gate_callee (f := 21) rfl ?_); refine goesL_ (some 24) rfl rfl Try.func21 (by kernel_rfl) rfl #[.slice A0 l0.length c0] rfl (by (try simp only [List.map_toArray, List.map_cons, List.map_nil]); first | done | rfl | (simp only [List.length_drop, List.length_take]; rfl)) ?_; (with_reducible refine (minuetref1_Lengths.calls k _ _ l0 t1 t2 t3 _ ?side1 ?side2 AT.out).mono ?_); (case side1 => exact Kd.C_below HR0.out HB.out); (case side2 => exact HC0.out); rintro e w_ ⟨rfl, hb⟩; refine ⟨_, rfl, ?_⟩; have n0_ := Aside0.mk (below_step HB.out hb); clear HB; have HB := n0_; clear n0_; clear hb) | ((with_reducible refine gate_callee (f := 21) rfl ?_); refine goesL_ (some 30) rfl rfl Try.func21 (by kernel_rfl) rfl #[.slice A1 l1.length c1] rfl (by (try simp only [List.map_toArray, List.map_cons, List.map_nil]); first | done | rfl | (simp only [List.length_drop, List.length_take]; rfl)) ?_; (with_reducible refine (minuetref1_Lengths.calls k _ _ l1 u1 u2 u3 _ ?side1 ?side2 AU.out).mono ?_); (case side1 => exact Kd.C_below HR1.out HB.out); (case side2 => exact HC1.out); rintro e w_ ⟨rfl, hb⟩; refine ⟨_, rfl, ?_⟩; have n0_ := Aside0.mk (below_step HB.out hb); clear HB; have HB := n0_; clear n0_; clear hb))
       go_ret2
       exact ⟨_, rfl, Kd.R_nil _ _ _ _ _, HB.out⟩
   · have a1 : (t3 != 0) = true := bne_iff_ne.mpr e1
     clear hok e1
     go_enter Try.func25, Try.ntmps25
     go_wp2_with (first | ((with_reducible refine gate_callee (f := 21) rfl ?_); refine goesL_ (some 24) rfl rfl Try.func21 (by kernel_rfl) rfl #[.slice A0 l0.length c0] rfl (by (try simp only [List.map_toArray, List.map_cons, List.map_nil]); first | done | rfl | (simp only [List.length_drop, List.length_take]; rfl)) ?_; (with_reducible refine (minuetref1_Lengths.calls k _ _ l0 t1 t2 t3 _ ?side1 ?side2 AT.out).mono ?_); (case side1 => exact Kd.C_below HR0.out HB.out); (case side2 => exact HC0.out); rintro e w_ ⟨rfl, hb⟩; refine ⟨_, rfl, ?_⟩; have n0_ := Aside0.mk (below_step HB.out hb); clear HB; have HB := n0_; clear n0_; clear hb) | ((with_reducible refine gate_callee (f := 21) rfl ?_); refine goesL_ (some 30) rfl rfl Try.func21 (by kernel_rfl) rfl #[.slice A1 l1.length c1] rfl (by (try simp only [List.map_toArray, List.map_cons, List.map_nil]); first | done | rfl | (simp only [List.length_drop, List.length_take]; rfl)) ?_; (with_reducible refine (minuetref1_Lengths.calls k _ _ l1 u1 u2 u3 _ ?side1 ?side2 AU.out).mono ?_); (case side1 => exact Kd.C_below HR1.out HB.out); (case side2 => exact HC1.out); rintro e w_ ⟨rfl, hb⟩; refine ⟨_, rfl, ?_⟩; have n0_ := Aside0.mk (below_step HB.out hb); clear HB; have HB := n0_; clear n0_; clear hb))
     go_ret2
     exact ⟨_, rfl, Kd.R_nil _ _ _ _ _, HB.out⟩


end Go.Proofs.Ytldaokclpkcmmab.G
