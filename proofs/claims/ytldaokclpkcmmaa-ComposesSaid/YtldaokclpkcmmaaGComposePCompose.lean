-- Laid by this session's own program gprint.py (wip/tools), out of the kit's print and of texts of this session. Lean checks it.
import Derived.Test.YtldaokclpkcmmaaGx0
import Derived.Test.YtldaokclpkcmmaaGCompPAdd
import Derived.Test.YtldaokclpkcmmaaGZ0
import Derived.Test.YtldaokclpkcmmaaRd
namespace Go.Proofs.Ytldaokclpkcmmaa.G
open Go.RowKit Go.Proofs.YtldaokclpkcmmaaW.PrintWords Go.Proofs.YtldaokclpkcmmaaW.PrintLast Go.Proofs.YtldaokclpkcmmaaW.PrintMore
set_option linter.unusedVariables false
set_option linter.unusedSimpArgs false

/-! ### compose_Compose: function 24 -/
def compose_Compose.mini (x y : Int) : Int := if y < x then y else x
theorem compose_Compose.min2_mini (k k' : IntKind) (x y : Int) : Builtin.min2 (.int k x) (.int k' y) = pure (.int k (compose_Compose.mini x y)) := by rw [min2_int]; rfl
attribute [local go_sem] compose_Compose.min2_mini
def compose_Compose.fin (k : Nat) (out : List (S31)) : Option (List (S31) × Int) := (comp_May.f k out).bind fun m => if m = true then some (out, 0) else some ([], 400)
def compose_Compose.l0 : Nat → List (S31) → Int → List (S31) → Int → List (S31) → Option (List (S31) × Int)
 | 0, _, _, _, _, _ => none
 | k + 1, ra, pa, rb, pb, out => (Rd.sz ra pa).bind fun j => (Rd.sz rb pb).bind fun q =>
  if Rd.kd ra < 0 ∧ Rd.kd rb < 0 then compose_Compose.fin k out
  else if Rd.kd ra = 2 then (Rd.take ra pa j).bind fun t => (comp_Add.f k out t.1.f0 t.1.f1 t.1.f2).bind fun o => compose_Compose.l0 k t.2.1 t.2.2 rb pb o
  else if Rd.kd rb = 1 then (Rd.take rb pb q).bind fun t => (comp_Add.f k out t.1.f0 t.1.f1 t.1.f2).bind fun o => compose_Compose.l0 k ra pa t.2.1 t.2.2 o
  else (Rd.take ra pa (compose_Compose.mini j q)).bind fun t => (Rd.take rb pb (compose_Compose.mini j q)).bind fun u =>
   if u.1.f0 = 0 then (comp_Add.f k out t.1.f0 t.1.f1 t.1.f2).bind fun o => compose_Compose.l0 k t.2.1 t.2.2 u.2.1 u.2.2 o
   else if t.1.f0 = 0 then (comp_Add.f k out u.1.f0 u.1.f1 u.1.f2).bind fun o => compose_Compose.l0 k t.2.1 t.2.2 u.2.1 u.2.2 o
   else compose_Compose.l0 k t.2.1 t.2.2 u.2.1 u.2.2 out
def compose_Compose.f (k : Nat) (l0 l1 : List (S31)) : Option (List (S31) × Int) := (comp_Lengths.f k l0).bind fun t => (comp_Lengths.f k l1).bind fun u => if t.2.2 = 0 ∧ u.2.2 = 0 ∧ t.2.1 = u.1 then compose_Compose.l0 k l0 0 l1 0 [] else some ([], 400)
theorem compose_Compose.mono_l : ∀ k, (∀ y0 y1 y2 y3 y4, LeO (compose_Compose.l0 k y0 y1 y2 y3 y4) (compose_Compose.l0 (k + 1) y0 y1 y2 y3 y4))
 | 0 => fun _ _ _ _ _ r h => by simp [compose_Compose.l0] at h
 | k + 1 => by
  have ih := compose_Compose.mono_l k
  intro y0 y1 y2 y3 y4
  unfold compose_Compose.l0
  refine LeO.bind (LeO.refl _) (fun j => LeO.bind (LeO.refl _) (fun q => LeO.ite ?_ (LeO.ite ?_ (LeO.ite ?_ ?_))))
  · unfold compose_Compose.fin; exact LeO.bind (comp_May.mono _ _) (fun _ => LeO.refl _)
  · exact LeO.bind (LeO.refl _) (fun t => LeO.bind (comp_Add.mono _ _ _ _ _) (fun o => ih _ _ _ _ _))
  · exact LeO.bind (LeO.refl _) (fun t => LeO.bind (comp_Add.mono _ _ _ _ _) (fun o => ih _ _ _ _ _))
  · exact LeO.bind (LeO.refl _) (fun t => LeO.bind (LeO.refl _) (fun u => LeO.ite (LeO.bind (comp_Add.mono _ _ _ _ _) (fun o => ih _ _ _ _ _)) (LeO.ite (LeO.bind (comp_Add.mono _ _ _ _ _) (fun o => ih _ _ _ _ _)) (ih _ _ _ _ _))))
theorem compose_Compose.mono : ∀ a0 a1 k, LeO (compose_Compose.f k a0 a1) (compose_Compose.f (k + 1) a0 a1) := by
 intro a0 a1 k; unfold compose_Compose.f
 exact LeO.bind (comp_Lengths.mono _ _) (fun t => LeO.bind (comp_Lengths.mono _ _) (fun u => LeO.ite (compose_Compose.mono_l _ _ _ _ _ _) (LeO.refl _)))
set_option maxHeartbeats 8000000 in
set_option maxRecDepth 100000 in
theorem compose_Compose.calls (k : Nat) (A0 : Option Addr) (c0 : Nat) (l0 : List (S31)) (A1 : Option Addr) (c1 : Nat) (l1 : List (S31)) (r1 : List (S31)) (r2 : Int) (w : World) (hr0 : Kd.C k31 w A0 l0.length l0) (hc0 : l0.length ≤ c0) (hr1 : Kd.C k31 w A1 l1.length l1) (hc1 : l1.length ≤ c1) (h : compose_Compose.f k l0 l1 = some (r1, r2)) :
 Calls Try.prog 24 #[.slice A0 l0.length c0, .slice A1 l1.length c1] w fun e w' => ∃ v0_ : Value, e = .returned (.tuple #[v0_, .int .i64 r2]) ∧ Kd.R k31 31 w' w.heap.size (fun _ => True) v0_ r1 ∧ Below w.heap.size w w' := by
 have HR0 := Aside0.mk hr0
 have HC0 := Aside0.mk hc0
 have HR1 := Aside0.mk hr1
 have HC1 := Aside0.mk hc1
 clear hr0 hc0 hr1 hc1
 have HB := Aside0.mk (Below.refl w.heap.size w)
 unfold compose_Compose.f at h
 replace h := Option.bind_eq_some_iff.mp h; obtain ⟨⟨t1, t2, t3⟩, AT_, h⟩ := h; have AT := Aside0.mk AT_; clear AT_
 replace h := Option.bind_eq_some_iff.mp h; obtain ⟨⟨u1, u2, u3⟩, AU_, h⟩ := h; have AU := Aside0.mk AU_; clear AU_
 simp only at h
 by_cases hok : t3 = 0 ∧ u3 = 0 ∧ t2 = u1
 · rw [if_pos hok] at h
   have a1 : (t3 != 0) = false := bne_eq_false_iff_eq.mpr hok.1
   have a2 : (u3 != 0) = false := bne_eq_false_iff_eq.mpr hok.2.1
   have a3 : (t2 != u1) = false := bne_eq_false_iff_eq.mpr hok.2.2
   have H' := Aside0.mk h
   clear h hok
   go_enter Try.func24, Try.ntmps24
   go_wp2_with (first | ((with_reducible refine gate_callee (f := 39) rfl ?_); refine goesL_ (some 23) rfl rfl Try.func39 (by kernel_rfl) rfl #[.slice A0 l0.length c0] rfl (by (try simp only [List.map_toArray, List.map_cons, List.map_nil]); first | done | rfl | (simp only [List.length_drop, List.length_take]; rfl)) ?_; (with_reducible refine (comp_Lengths.calls k _ _ l0 t1 t2 t3 _ ?side1 ?side2 AT.out).mono ?_); (case side1 => exact Kd.C_below HR0.out HB.out); (case side2 => exact HC0.out); rintro e w_ ⟨rfl, hb⟩; refine ⟨_, rfl, ?_⟩; have n0_ := Aside0.mk (below_step HB.out hb); clear HB; have HB := n0_; clear n0_; clear hb) | ((with_reducible refine gate_callee (f := 39) rfl ?_); refine goesL_ (some 29) rfl rfl Try.func39 (by kernel_rfl) rfl #[.slice A1 l1.length c1] rfl (by (try simp only [List.map_toArray, List.map_cons, List.map_nil]); first | done | rfl | (simp only [List.length_drop, List.length_take]; rfl)) ?_; (with_reducible refine (comp_Lengths.calls k _ _ l1 u1 u2 u3 _ ?side1 ?side2 AU.out).mono ?_); (case side1 => exact Kd.C_below HR1.out HB.out); (case side2 => exact HC1.out); rintro e w_ ⟨rfl, hb⟩; refine ⟨_, rfl, ?_⟩; have n0_ := Aside0.mk (below_step HB.out hb); clear HB; have HB := n0_; clear n0_; clear hb) | ((with_reducible refine gate_callee (f := 47) rfl ?_); refine goesL_ (some 45) rfl rfl Try.func47 (by kernel_rfl) rfl #[.slice A0 l0.length c0] rfl (by (try simp only [List.map_toArray, List.map_cons, List.map_nil]); first | done | rfl | (simp only [List.length_drop, List.length_take]; rfl)) ?_; (with_reducible refine (Rd.read_any _ _ l0 w _ HB.out HR0.out HC0.out).mono ?_); rintro e w_ ⟨gx, rfl, hx, hg, hb⟩; refine ⟨_, rfl, ?_⟩; have HX := Aside0.mk hx; have n0_ := Aside0.mk (below_step HB.out hb); clear HB; have HB := n0_; clear n0_ hb hx hg) | ((with_reducible refine gate_callee (f := 47) rfl ?_); refine goesL_ (some 47) rfl rfl Try.func47 (by kernel_rfl) rfl #[.slice A1 l1.length c1] rfl (by (try simp only [List.map_toArray, List.map_cons, List.map_nil]); first | done | rfl | (simp only [List.length_drop, List.length_take]; rfl)) ?_; (with_reducible refine (Rd.read_any _ _ l1 w _ HB.out HR1.out HC1.out).mono ?_); rintro e w_ ⟨gy, rfl, hx, hg, hb⟩; refine ⟨_, rfl, ?_⟩; have NXY := Aside0.mk (show gx ≠ gy from fun e_ => by have := HX.out.lt; omega); have HY := Aside0.mk hx; have n1_ := Aside0.mk (HX.out.below hb); have n0_ := Aside0.mk (below_step HB.out hb); clear HB HX; have HB := n0_; have HX := n1_; clear n0_ n1_ hb hx hg))
   go_loopg [14] k (fun kq v14 w' => ∃ (ra : List (S31)) (pa : Int) (rb : List (S31)) (pb : Int) (out : List (S31)), Aside0 (compose_Compose.l0 kq ra pa rb pb out = some (r1, r2)) ∧ Aside0 (kq ≤ k) ∧ Aside0 (IsRd w w' gx ra pa) ∧ Aside0 (IsRd w w' gy rb pb) ∧ Aside0 (Kd.R k31 31 w' w.heap.size (fun k_ => k_ ≠ gx ∧ k_ ≠ gy) v14 out) ∧ Aside0 (Below w.heap.size w w'))
   case atStart => exact ⟨l0, 0, l1, 0, [], H', ⟨Nat.le_refl _⟩, HX, HY, ⟨Kd.R_nil _ _ _ _ _⟩, HB⟩
   case round =>
    clear H' HX HY HB a1 a2 a3
    obtain ⟨ra, pa, rb, pb, out, HA, HK1, HX, HY, HO, HB⟩ := hrel
    cases gk with
    | zero => exact absurd HA.out (by simp [compose_Compose.l0])
    | succ k1 =>
     have H := HA.out
     clear HA
     unfold compose_Compose.l0 at H
     replace H := Option.bind_eq_some_iff.mp H; obtain ⟨j, AJ_, H⟩ := H; have AJ := Aside0.mk AJ_; clear AJ_
     replace H := Option.bind_eq_some_iff.mp H; obtain ⟨q, AQ_, H⟩ := H; have AQ := Aside0.mk AQ_; clear AQ_
     generalize hdk : Rd.kd ra = da at H
     generalize hek : Rd.kd rb = db at H
     have HDK := Aside0.mk hdk
     have HEK := Aside0.mk hek
     clear hdk hek
     by_cases c1_ : da < 0 ∧ db < 0
     · rw [if_pos c1_] at H
       have b1 : decide (da < 0) = true := decide_eq_true c1_.1
       have b2 : decide (db < 0) = true := decide_eq_true c1_.2
       clear c1_
       unfold compose_Compose.fin at H
       replace H := Option.bind_eq_some_iff.mp H; obtain ⟨m, AM_, H⟩ := H; have AM := Aside0.mk AM_; clear AM_
       obtain ⟨Ao, co, eo⟩ := Kd.R_slice HO.out
       subst eo
       cases m with
       | true =>
        rw [if_pos rfl] at H
        simp only [Option.some.injEq, Prod.mk.injEq] at H
        obtain ⟨rfl, rfl⟩ := H
        go_wp2_with (first | ((with_reducible refine gate_callee (f := 48) rfl ?_); refine goesL_ (some 50) rfl rfl Try.func48 (by kernel_rfl) rfl #[.pointer (some ⟨gx, 0, none⟩)] rfl (by (try simp only [List.map_toArray, List.map_cons, List.map_nil]); first | done | rfl | (simp only [List.length_drop, List.length_take]; rfl)) ?_; (with_reducible refine (Rd.next_any gx ra pa j w _ HB.out HX.out AJ.out).mono ?_); rintro e w_ ⟨rfl, hb⟩; rw [HDK.out]; refine ⟨_, rfl, ?_⟩; have n0_ := Aside0.mk (HX.out.below hb); have n1_ := Aside0.mk (HY.out.below hb); have n2_ := Aside0.mk (Kd.R_below HO.out hb); have n3_ := Aside0.mk (below_step HB.out hb); clear HX HY HO HB; have HX := n0_; have HY := n1_; have HO := n2_; have HB := n3_; clear n0_ n1_ n2_ n3_; clear hb) | ((with_reducible refine gate_callee (f := 48) rfl ?_); refine goesL_ (some 55) rfl rfl Try.func48 (by kernel_rfl) rfl #[.pointer (some ⟨gy, 0, none⟩)] rfl (by (try simp only [List.map_toArray, List.map_cons, List.map_nil]); first | done | rfl | (simp only [List.length_drop, List.length_take]; rfl)) ?_; (with_reducible refine (Rd.next_any gy rb pb q w _ HB.out HY.out AQ.out).mono ?_); rintro e w_ ⟨rfl, hb⟩; rw [HEK.out]; refine ⟨_, rfl, ?_⟩; have n0_ := Aside0.mk (HX.out.below hb); have n1_ := Aside0.mk (HY.out.below hb); have n2_ := Aside0.mk (Kd.R_below HO.out hb); have n3_ := Aside0.mk (below_step HB.out hb); clear HX HY HO HB; have HX := n0_; have HY := n1_; have HO := n2_; have HB := n3_; clear n0_ n1_ n2_ n3_; clear hb) | ((with_reducible refine gate_callee (f := 17) rfl ?_); refine goesL_ (some 90) rfl rfl Try.func17 (by kernel_rfl) rfl #[.slice Ao out.length co] rfl (by (try simp only [List.map_toArray, List.map_cons, List.map_nil]); first | done | rfl | (simp only [List.length_drop, List.length_take]; rfl)) ?_; (with_reducible refine (comp_May.calls k1 _ _ out true _ ?side1 ?side2 AM.out).mono ?_); (case side1 => exact (Kd.R_reads' HO.out).2.2); (case side2 => exact (Kd.R_reads' HO.out).2.1); rintro e w_ ⟨rfl, hb⟩; refine ⟨_, rfl, ?_⟩; have n0_ := Aside0.mk (Kd.R_below HO.out hb); have n1_ := Aside0.mk (below_step HB.out hb); clear HO HB; have HO := n0_; have HB := n1_; clear n0_ n1_; clear hb))
        go_ret2
        exact ⟨_, rfl, Kd.R_mono HO.out (fun _ _ => trivial), HB.out⟩
       | false =>
        rw [if_neg (by decide)] at H
        simp only [Option.some.injEq, Prod.mk.injEq] at H
        obtain ⟨rfl, rfl⟩ := H
        go_wp2_with (first | ((with_reducible refine gate_callee (f := 48) rfl ?_); refine goesL_ (some 50) rfl rfl Try.func48 (by kernel_rfl) rfl #[.pointer (some ⟨gx, 0, none⟩)] rfl (by (try simp only [List.map_toArray, List.map_cons, List.map_nil]); first | done | rfl | (simp only [List.length_drop, List.length_take]; rfl)) ?_; (with_reducible refine (Rd.next_any gx ra pa j w _ HB.out HX.out AJ.out).mono ?_); rintro e w_ ⟨rfl, hb⟩; rw [HDK.out]; refine ⟨_, rfl, ?_⟩; have n0_ := Aside0.mk (HX.out.below hb); have n1_ := Aside0.mk (HY.out.below hb); have n2_ := Aside0.mk (Kd.R_below HO.out hb); have n3_ := Aside0.mk (below_step HB.out hb); clear HX HY HO HB; have HX := n0_; have HY := n1_; have HO := n2_; have HB := n3_; clear n0_ n1_ n2_ n3_; clear hb) | ((with_reducible refine gate_callee (f := 48) rfl ?_); refine goesL_ (some 55) rfl rfl Try.func48 (by kernel_rfl) rfl #[.pointer (some ⟨gy, 0, none⟩)] rfl (by (try simp only [List.map_toArray, List.map_cons, List.map_nil]); first | done | rfl | (simp only [List.length_drop, List.length_take]; rfl)) ?_; (with_reducible refine (Rd.next_any gy rb pb q w _ HB.out HY.out AQ.out).mono ?_); rintro e w_ ⟨rfl, hb⟩; rw [HEK.out]; refine ⟨_, rfl, ?_⟩; have n0_ := Aside0.mk (HX.out.below hb); have n1_ := Aside0.mk (HY.out.below hb); have n2_ := Aside0.mk (Kd.R_below HO.out hb); have n3_ := Aside0.mk (below_step HB.out hb); clear HX HY HO HB; have HX := n0_; have HY := n1_; have HO := n2_; have HB := n3_; clear n0_ n1_ n2_ n3_; clear hb) | ((with_reducible refine gate_callee (f := 17) rfl ?_); refine goesL_ (some 90) rfl rfl Try.func17 (by kernel_rfl) rfl #[.slice Ao out.length co] rfl (by (try simp only [List.map_toArray, List.map_cons, List.map_nil]); first | done | rfl | (simp only [List.length_drop, List.length_take]; rfl)) ?_; (with_reducible refine (comp_May.calls k1 _ _ out false _ ?side1 ?side2 AM.out).mono ?_); (case side1 => exact (Kd.R_reads' HO.out).2.2); (case side2 => exact (Kd.R_reads' HO.out).2.1); rintro e w_ ⟨rfl, hb⟩; refine ⟨_, rfl, ?_⟩; have n0_ := Aside0.mk (Kd.R_below HO.out hb); have n1_ := Aside0.mk (below_step HB.out hb); clear HO HB; have HO := n0_; have HB := n1_; clear n0_ n1_; clear hb))
        go_ret2
        exact ⟨_, rfl, Kd.R_nil _ _ _ _ _, HB.out⟩
     · rw [if_neg c1_] at H
       by_cases c2_ : da = 2
       · rw [if_pos c2_] at H
         replace H := Option.bind_eq_some_iff.mp H; obtain ⟨⟨x, ra', pa'⟩, AT1_, H⟩ := H; have AT1 := Aside0.mk AT1_; clear AT1_
         replace H := Option.bind_eq_some_iff.mp H; obtain ⟨o, AA_, H⟩ := H; (try dsimp only at AA_ H); have AA := Aside0.mk AA_; clear AA_
         have H' := Aside0.mk H
         have b1 : decide (da < 0) = false := decide_eq_false (by omega)
         have b3 : (da == 2) = true := beq_iff_eq.mpr c2_
         clear c1_ c2_ H
         go_wp2_with (first | ((with_reducible refine gate_callee (f := 48) rfl ?_); refine goesL_ (some 50) rfl rfl Try.func48 (by kernel_rfl) rfl #[.pointer (some ⟨gx, 0, none⟩)] rfl (by (try simp only [List.map_toArray, List.map_cons, List.map_nil]); first | done | rfl | (simp only [List.length_drop, List.length_take]; rfl)) ?_; (with_reducible refine (Rd.next_any gx ra pa j w _ HB.out HX.out AJ.out).mono ?_); rintro e w_ ⟨rfl, hb⟩; rw [HDK.out]; refine ⟨_, rfl, ?_⟩; have n0_ := Aside0.mk (HX.out.below hb); have n1_ := Aside0.mk (HY.out.below hb); have n2_ := Aside0.mk (Kd.R_below HO.out hb); have n3_ := Aside0.mk (below_step HB.out hb); clear HX HY HO HB; have HX := n0_; have HY := n1_; have HO := n2_; have HB := n3_; clear n0_ n1_ n2_ n3_; clear hb) | ((with_reducible refine gate_callee (f := 48) rfl ?_); refine goesL_ (some 55) rfl rfl Try.func48 (by kernel_rfl) rfl #[.pointer (some ⟨gy, 0, none⟩)] rfl (by (try simp only [List.map_toArray, List.map_cons, List.map_nil]); first | done | rfl | (simp only [List.length_drop, List.length_take]; rfl)) ?_; (with_reducible refine (Rd.next_any gy rb pb q w _ HB.out HY.out AQ.out).mono ?_); rintro e w_ ⟨rfl, hb⟩; rw [HEK.out]; refine ⟨_, rfl, ?_⟩; have n0_ := Aside0.mk (HX.out.below hb); have n1_ := Aside0.mk (HY.out.below hb); have n2_ := Aside0.mk (Kd.R_below HO.out hb); have n3_ := Aside0.mk (below_step HB.out hb); clear HX HY HO HB; have HX := n0_; have HY := n1_; have HO := n2_; have HB := n3_; clear n0_ n1_ n2_ n3_; clear hb) | ((with_reducible refine gate_callee (f := 49) rfl ?_); refine goesL_ (some 99) rfl rfl Try.func49 (by kernel_rfl) rfl #[.pointer (some ⟨gx, 0, none⟩), .int .i64 j] rfl (by (try simp only [List.map_toArray, List.map_cons, List.map_nil]); first | done | rfl | (simp only [List.length_drop, List.length_take]; rfl)) ?_; (with_reducible refine (Rd.take_any gx ra pa j x ra' pa' w _ HB.out HX.out AT1.out).mono ?_); rintro e w_ ⟨rfl, hx, hb, hkp⟩; refine ⟨_, rfl, ?_⟩; have n0_ := Aside0.mk (hb); have n1_ := Aside0.mk (hx); have n2_ := Aside0.mk (HY.out.kept hkp (fun e_ => NXY.out e_.symm)); have n3_ := Aside0.mk (Kd.R_kept HO.out hkp (fun k_ hk e_ => hk.1 e_)); clear HB HX HY HO; have HB := n0_; have HX := n1_; have HY := n2_; have HO := n3_; clear n0_ n1_ n2_ n3_; clear hx hb hkp) | ((with_reducible refine gate_callee (f := 41) rfl ?_); refine goesL_ (some 100) rfl rfl Try.func41 (by kernel_rfl) rfl #[u14, .agg #[.int .i64 x.f0, .int .i64 x.f1, .string x.f2]] rfl (by (try simp only [List.map_toArray, List.map_cons, List.map_nil]); first | done | rfl | (simp only [List.length_drop, List.length_take]; rfl)) ?_; (with_reducible refine (comp_Add.calls k1 (fun k_ => k_ ≠ gx ∧ k_ ≠ gy) u14 out x.f0 x.f1 x.f2 o w _ HB.out HO.out AA.out).mono ?_); rintro e w_ ⟨v_, rfl, ho0, hb, hkp⟩; refine ⟨_, rfl, ?_⟩; have n0_ := Aside0.mk (hb); have n1_ := Aside0.mk (Kd.R_mono (ok' := fun k_ => k_ ≠ gx ∧ k_ ≠ gy) ho0 (fun k_ hk => Or.elim hk id (fun hn => ⟨fun e_ => by have := HX.out.lt; omega, fun e_ => by have := HY.out.lt; omega⟩))); have n2_ := Aside0.mk (HX.out.kept hkp (fun hk => hk.1 rfl)); have n3_ := Aside0.mk (HY.out.kept hkp (fun hk => hk.2 rfl)); clear HB HO HX HY; have HB := n0_; have HO := n1_; have HX := n2_; have HY := n3_; clear n0_ n1_ n2_ n3_; clear ho0 hb hkp))
         go_roundg k1
         case measure => have := HK1.out; omega
         case rel => exact ⟨_, _, _, _, _, H', ⟨by have := HK1.out; omega⟩, HX, HY, HO, HB⟩
       · rw [if_neg c2_] at H
         by_cases c3_ : db = 1
         · rw [if_pos c3_] at H
           replace H := Option.bind_eq_some_iff.mp H; obtain ⟨⟨x, rb', pb'⟩, AT1_, H⟩ := H; have AT1 := Aside0.mk AT1_; clear AT1_
           replace H := Option.bind_eq_some_iff.mp H; obtain ⟨o, AA_, H⟩ := H; (try dsimp only at AA_ H); have AA := Aside0.mk AA_; clear AA_
           have H' := Aside0.mk H
           have b2 : decide (db < 0) = false := decide_eq_false (by omega)
           have b3 : (da == 2) = false := beq_eq_false_iff_ne.mpr c2_
           have b4 : (db == 1) = true := beq_iff_eq.mpr c3_
           clear c1_ c2_ c3_ H
           by_cases c4_ : da < 0
           · have b1 : decide (da < 0) = true := decide_eq_true c4_
             clear c4_
             go_wp2_with (first | ((with_reducible refine gate_callee (f := 48) rfl ?_); refine goesL_ (some 50) rfl rfl Try.func48 (by kernel_rfl) rfl #[.pointer (some ⟨gx, 0, none⟩)] rfl (by (try simp only [List.map_toArray, List.map_cons, List.map_nil]); first | done | rfl | (simp only [List.length_drop, List.length_take]; rfl)) ?_; (with_reducible refine (Rd.next_any gx ra pa j w _ HB.out HX.out AJ.out).mono ?_); rintro e w_ ⟨rfl, hb⟩; rw [HDK.out]; refine ⟨_, rfl, ?_⟩; have n0_ := Aside0.mk (HX.out.below hb); have n1_ := Aside0.mk (HY.out.below hb); have n2_ := Aside0.mk (Kd.R_below HO.out hb); have n3_ := Aside0.mk (below_step HB.out hb); clear HX HY HO HB; have HX := n0_; have HY := n1_; have HO := n2_; have HB := n3_; clear n0_ n1_ n2_ n3_; clear hb) | ((with_reducible refine gate_callee (f := 48) rfl ?_); refine goesL_ (some 55) rfl rfl Try.func48 (by kernel_rfl) rfl #[.pointer (some ⟨gy, 0, none⟩)] rfl (by (try simp only [List.map_toArray, List.map_cons, List.map_nil]); first | done | rfl | (simp only [List.length_drop, List.length_take]; rfl)) ?_; (with_reducible refine (Rd.next_any gy rb pb q w _ HB.out HY.out AQ.out).mono ?_); rintro e w_ ⟨rfl, hb⟩; rw [HEK.out]; refine ⟨_, rfl, ?_⟩; have n0_ := Aside0.mk (HX.out.below hb); have n1_ := Aside0.mk (HY.out.below hb); have n2_ := Aside0.mk (Kd.R_below HO.out hb); have n3_ := Aside0.mk (below_step HB.out hb); clear HX HY HO HB; have HX := n0_; have HY := n1_; have HO := n2_; have HB := n3_; clear n0_ n1_ n2_ n3_; clear hb) | ((with_reducible refine gate_callee (f := 49) rfl ?_); refine goesL_ (some 107) rfl rfl Try.func49 (by kernel_rfl) rfl #[.pointer (some ⟨gy, 0, none⟩), .int .i64 q] rfl (by (try simp only [List.map_toArray, List.map_cons, List.map_nil]); first | done | rfl | (simp only [List.length_drop, List.length_take]; rfl)) ?_; (with_reducible refine (Rd.take_any gy rb pb q x rb' pb' w _ HB.out HY.out AT1.out).mono ?_); rintro e w_ ⟨rfl, hx, hb, hkp⟩; refine ⟨_, rfl, ?_⟩; have n0_ := Aside0.mk (hb); have n1_ := Aside0.mk (hx); have n2_ := Aside0.mk (HX.out.kept hkp (fun e_ => NXY.out e_)); have n3_ := Aside0.mk (Kd.R_kept HO.out hkp (fun k_ hk e_ => hk.2 e_)); clear HB HY HX HO; have HB := n0_; have HY := n1_; have HX := n2_; have HO := n3_; clear n0_ n1_ n2_ n3_; clear hx hb hkp) | ((with_reducible refine gate_callee (f := 41) rfl ?_); refine goesL_ (some 108) rfl rfl Try.func41 (by kernel_rfl) rfl #[u14, .agg #[.int .i64 x.f0, .int .i64 x.f1, .string x.f2]] rfl (by (try simp only [List.map_toArray, List.map_cons, List.map_nil]); first | done | rfl | (simp only [List.length_drop, List.length_take]; rfl)) ?_; (with_reducible refine (comp_Add.calls k1 (fun k_ => k_ ≠ gx ∧ k_ ≠ gy) u14 out x.f0 x.f1 x.f2 o w _ HB.out HO.out AA.out).mono ?_); rintro e w_ ⟨v_, rfl, ho0, hb, hkp⟩; refine ⟨_, rfl, ?_⟩; have n0_ := Aside0.mk (hb); have n1_ := Aside0.mk (Kd.R_mono (ok' := fun k_ => k_ ≠ gx ∧ k_ ≠ gy) ho0 (fun k_ hk => Or.elim hk id (fun hn => ⟨fun e_ => by have := HX.out.lt; omega, fun e_ => by have := HY.out.lt; omega⟩))); have n2_ := Aside0.mk (HX.out.kept hkp (fun hk => hk.1 rfl)); have n3_ := Aside0.mk (HY.out.kept hkp (fun hk => hk.2 rfl)); clear HB HO HX HY; have HB := n0_; have HO := n1_; have HX := n2_; have HY := n3_; clear n0_ n1_ n2_ n3_; clear ho0 hb hkp))
             go_roundg k1
             case measure => have := HK1.out; omega
             case rel => exact ⟨_, _, _, _, _, H', ⟨by have := HK1.out; omega⟩, HX, HY, HO, HB⟩
           · have b1 : decide (da < 0) = false := decide_eq_false c4_
             clear c4_
             go_wp2_with (first | ((with_reducible refine gate_callee (f := 48) rfl ?_); refine goesL_ (some 50) rfl rfl Try.func48 (by kernel_rfl) rfl #[.pointer (some ⟨gx, 0, none⟩)] rfl (by (try simp only [List.map_toArray, List.map_cons, List.map_nil]); first | done | rfl | (simp only [List.length_drop, List.length_take]; rfl)) ?_; (with_reducible refine (Rd.next_any gx ra pa j w _ HB.out HX.out AJ.out).mono ?_); rintro e w_ ⟨rfl, hb⟩; rw [HDK.out]; refine ⟨_, rfl, ?_⟩; have n0_ := Aside0.mk (HX.out.below hb); have n1_ := Aside0.mk (HY.out.below hb); have n2_ := Aside0.mk (Kd.R_below HO.out hb); have n3_ := Aside0.mk (below_step HB.out hb); clear HX HY HO HB; have HX := n0_; have HY := n1_; have HO := n2_; have HB := n3_; clear n0_ n1_ n2_ n3_; clear hb) | ((with_reducible refine gate_callee (f := 48) rfl ?_); refine goesL_ (some 55) rfl rfl Try.func48 (by kernel_rfl) rfl #[.pointer (some ⟨gy, 0, none⟩)] rfl (by (try simp only [List.map_toArray, List.map_cons, List.map_nil]); first | done | rfl | (simp only [List.length_drop, List.length_take]; rfl)) ?_; (with_reducible refine (Rd.next_any gy rb pb q w _ HB.out HY.out AQ.out).mono ?_); rintro e w_ ⟨rfl, hb⟩; rw [HEK.out]; refine ⟨_, rfl, ?_⟩; have n0_ := Aside0.mk (HX.out.below hb); have n1_ := Aside0.mk (HY.out.below hb); have n2_ := Aside0.mk (Kd.R_below HO.out hb); have n3_ := Aside0.mk (below_step HB.out hb); clear HX HY HO HB; have HX := n0_; have HY := n1_; have HO := n2_; have HB := n3_; clear n0_ n1_ n2_ n3_; clear hb) | ((with_reducible refine gate_callee (f := 49) rfl ?_); refine goesL_ (some 107) rfl rfl Try.func49 (by kernel_rfl) rfl #[.pointer (some ⟨gy, 0, none⟩), .int .i64 q] rfl (by (try simp only [List.map_toArray, List.map_cons, List.map_nil]); first | done | rfl | (simp only [List.length_drop, List.length_take]; rfl)) ?_; (with_reducible refine (Rd.take_any gy rb pb q x rb' pb' w _ HB.out HY.out AT1.out).mono ?_); rintro e w_ ⟨rfl, hx, hb, hkp⟩; refine ⟨_, rfl, ?_⟩; have n0_ := Aside0.mk (hb); have n1_ := Aside0.mk (hx); have n2_ := Aside0.mk (HX.out.kept hkp (fun e_ => NXY.out e_)); have n3_ := Aside0.mk (Kd.R_kept HO.out hkp (fun k_ hk e_ => hk.2 e_)); clear HB HY HX HO; have HB := n0_; have HY := n1_; have HX := n2_; have HO := n3_; clear n0_ n1_ n2_ n3_; clear hx hb hkp) | ((with_reducible refine gate_callee (f := 41) rfl ?_); refine goesL_ (some 108) rfl rfl Try.func41 (by kernel_rfl) rfl #[u14, .agg #[.int .i64 x.f0, .int .i64 x.f1, .string x.f2]] rfl (by (try simp only [List.map_toArray, List.map_cons, List.map_nil]); first | done | rfl | (simp only [List.length_drop, List.length_take]; rfl)) ?_; (with_reducible refine (comp_Add.calls k1 (fun k_ => k_ ≠ gx ∧ k_ ≠ gy) u14 out x.f0 x.f1 x.f2 o w _ HB.out HO.out AA.out).mono ?_); rintro e w_ ⟨v_, rfl, ho0, hb, hkp⟩; refine ⟨_, rfl, ?_⟩; have n0_ := Aside0.mk (hb); have n1_ := Aside0.mk (Kd.R_mono (ok' := fun k_ => k_ ≠ gx ∧ k_ ≠ gy) ho0 (fun k_ hk => Or.elim hk id (fun hn => ⟨fun e_ => by have := HX.out.lt; omega, fun e_ => by have := HY.out.lt; omega⟩))); have n2_ := Aside0.mk (HX.out.kept hkp (fun hk => hk.1 rfl)); have n3_ := Aside0.mk (HY.out.kept hkp (fun hk => hk.2 rfl)); clear HB HO HX HY; have HB := n0_; have HO := n1_; have HX := n2_; have HY := n3_; clear n0_ n1_ n2_ n3_; clear ho0 hb hkp))
             go_roundg k1
             case measure => have := HK1.out; omega
             case rel => exact ⟨_, _, _, _, _, H', ⟨by have := HK1.out; omega⟩, HX, HY, HO, HB⟩
         · rw [if_neg c3_] at H
           replace H := Option.bind_eq_some_iff.mp H; obtain ⟨⟨x, ra', pa'⟩, AT1_, H⟩ := H; have AT1 := Aside0.mk AT1_; clear AT1_
           replace H := Option.bind_eq_some_iff.mp H; obtain ⟨⟨y, rb', pb'⟩, AT2_, H⟩ := H; have AT2 := Aside0.mk AT2_; clear AT2_
           simp only at H
           have b3 : (da == 2) = false := beq_eq_false_iff_ne.mpr c2_
           have b4 : (db == 1) = false := beq_eq_false_iff_ne.mpr c3_
           have hn_ : ¬ (da < 0 ∧ db < 0) := c1_
           clear c1_ c2_ c3_
           by_cases c4_ : da < 0
           · have b1 : decide (da < 0) = true := decide_eq_true c4_
             have b2 : decide (db < 0) = false := decide_eq_false (fun h_ => hn_ ⟨c4_, h_⟩)
             clear c4_ hn_
             have HH := Aside0.mk H
             clear H
             go_upto_region 10 with (first | ((with_reducible refine gate_callee (f := 48) rfl ?_); refine goesL_ (some 50) rfl rfl Try.func48 (by kernel_rfl) rfl #[.pointer (some ⟨gx, 0, none⟩)] rfl (by (try simp only [List.map_toArray, List.map_cons, List.map_nil]); first | done | rfl | (simp only [List.length_drop, List.length_take]; rfl)) ?_; (with_reducible refine (Rd.next_any gx ra pa j w _ HB.out HX.out AJ.out).mono ?_); rintro e w_ ⟨rfl, hb⟩; rw [HDK.out]; refine ⟨_, rfl, ?_⟩; have n0_ := Aside0.mk (HX.out.below hb); have n1_ := Aside0.mk (HY.out.below hb); have n2_ := Aside0.mk (Kd.R_below HO.out hb); have n3_ := Aside0.mk (below_step HB.out hb); clear HX HY HO HB; have HX := n0_; have HY := n1_; have HO := n2_; have HB := n3_; clear n0_ n1_ n2_ n3_; clear hb) | ((with_reducible refine gate_callee (f := 48) rfl ?_); refine goesL_ (some 55) rfl rfl Try.func48 (by kernel_rfl) rfl #[.pointer (some ⟨gy, 0, none⟩)] rfl (by (try simp only [List.map_toArray, List.map_cons, List.map_nil]); first | done | rfl | (simp only [List.length_drop, List.length_take]; rfl)) ?_; (with_reducible refine (Rd.next_any gy rb pb q w _ HB.out HY.out AQ.out).mono ?_); rintro e w_ ⟨rfl, hb⟩; rw [HEK.out]; refine ⟨_, rfl, ?_⟩; have n0_ := Aside0.mk (HX.out.below hb); have n1_ := Aside0.mk (HY.out.below hb); have n2_ := Aside0.mk (Kd.R_below HO.out hb); have n3_ := Aside0.mk (below_step HB.out hb); clear HX HY HO HB; have HX := n0_; have HY := n1_; have HO := n2_; have HB := n3_; clear n0_ n1_ n2_ n3_; clear hb) | ((with_reducible refine gate_callee (f := 49) rfl ?_); refine goesL_ (some 62) rfl rfl Try.func49 (by kernel_rfl) rfl #[.pointer (some ⟨gx, 0, none⟩), .int .i64 (compose_Compose.mini j q)] rfl (by (try simp only [List.map_toArray, List.map_cons, List.map_nil]); first | done | rfl | (simp only [List.length_drop, List.length_take]; rfl)) ?_; (with_reducible refine (Rd.take_any gx ra pa (compose_Compose.mini j q) x ra' pa' w _ HB.out HX.out AT1.out).mono ?_); rintro e w_ ⟨rfl, hx, hb, hkp⟩; refine ⟨_, rfl, ?_⟩; have n0_ := Aside0.mk (hb); have n1_ := Aside0.mk (hx); have n2_ := Aside0.mk (HY.out.kept hkp (fun e_ => NXY.out e_.symm)); have n3_ := Aside0.mk (Kd.R_kept HO.out hkp (fun k_ hk e_ => hk.1 e_)); clear HB HX HY HO; have HB := n0_; have HX := n1_; have HY := n2_; have HO := n3_; clear n0_ n1_ n2_ n3_; clear hx hb hkp) | ((with_reducible refine gate_callee (f := 49) rfl ?_); refine goesL_ (some 67) rfl rfl Try.func49 (by kernel_rfl) rfl #[.pointer (some ⟨gy, 0, none⟩), .int .i64 (compose_Compose.mini j q)] rfl (by (try simp only [List.map_toArray, List.map_cons, List.map_nil]); first | done | rfl | (simp only [List.length_drop, List.length_take]; rfl)) ?_; (with_reducible refine (Rd.take_any gy rb pb (compose_Compose.mini j q) y rb' pb' w _ HB.out HY.out AT2.out).mono ?_); rintro e w_ ⟨rfl, hx, hb, hkp⟩; refine ⟨_, rfl, ?_⟩; have n0_ := Aside0.mk (hb); have n1_ := Aside0.mk (hx); have n2_ := Aside0.mk (HX.out.kept hkp (fun e_ => NXY.out e_)); have n3_ := Aside0.mk (Kd.R_kept HO.out hkp (fun k_ hk e_ => hk.2 e_)); clear HB HY HX HO; have HB := n0_; have HY := n1_; have HX := n2_; have HO := n3_; clear n0_ n1_ n2_ n3_; clear hx hb hkp) | ((with_reducible refine gate_dst (N := 19) rfl ?_); refine box_event ?hg (N := 19) ?hd (cs := #[.int .i64 0, .int .i64 0, .string (⟨#[]⟩ : ByteArray)]) (t := 31) ?hr ?_; (case hd => rfl); (case hg => rfl); (case hr => first | (go_simp; done) | (go_simp; rfl)); intro gc hg w_ hbox hb; have BC := Aside0.mk hbox; have GC := Aside0.mk ((by rw [hg]; exact below_size HB.out) : w.heap.size ≤ gc); have GX19 := Aside0.mk ((by rw [hg]; exact Nat.ne_of_lt HX.out.lt) : gx ≠ gc); have GY19 := Aside0.mk ((by rw [hg]; exact Nat.ne_of_lt HY.out.lt) : gy ≠ gc); have m1_ := Aside0.mk (Kd.R_elderB HO.out gc (Nat.le_of_eq hg.symm)); clear hbox hg; have n0_ := Aside0.mk (HX.out.below hb); have n1_ := Aside0.mk (HY.out.below hb); have n2_ := Aside0.mk (Kd.R_below m1_.out hb); have n3_ := Aside0.mk (below_step HB.out hb); clear HX HY HO HB; have HX := n0_; have HY := n1_; have HO := n2_; have HB := n3_; clear n0_ n1_ n2_ n3_; clear m1_ hb; obtain ⟨cz190, cz191, cz192, fz190, fz191, fz192⟩ := Rd.three BC.out) | ((with_reducible refine gate_dst (N := 20) rfl ?_); refine box_event ?hg (N := 20) ?hd (cs := #[.int .i64 0, .int .i64 0, .string (⟨#[]⟩ : ByteArray)]) (t := 31) ?hr ?_; (case hd => rfl); (case hg => rfl); (case hr => first | (go_simp; done) | (go_simp; rfl)); intro gd hg w_ hbox hb; have BD := Aside0.mk hbox; have GD := Aside0.mk ((by rw [hg]; exact below_size HB.out) : w.heap.size ≤ gd); have GX20 := Aside0.mk ((by rw [hg]; exact Nat.ne_of_lt HX.out.lt) : gx ≠ gd); have GY20 := Aside0.mk ((by rw [hg]; exact Nat.ne_of_lt HY.out.lt) : gy ≠ gd); have GN := Aside0.mk ((by rw [hg]; exact Nat.ne_of_lt (blk_lt BC.out)) : gc ≠ gd); have gn1_ := GN.out; have gn2_ := Ne.symm GN.out; have m0_ := Aside0.mk ((hb.block gc (blk_lt BC.out)).trans BC.out); clear BC cz190 cz191 cz192 fz190 fz191 fz192; have BC := m0_; clear m0_; obtain ⟨cz190, cz191, cz192, fz190, fz191, fz192⟩ := Rd.three BC.out; have m1_ := Aside0.mk (Kd.R_elderB HO.out gd (Nat.le_of_eq hg.symm)); clear hbox hg; have n0_ := Aside0.mk (HX.out.below hb); have n1_ := Aside0.mk (HY.out.below hb); have n2_ := Aside0.mk (Kd.R_below m1_.out hb); have n3_ := Aside0.mk (below_step HB.out hb); clear HX HY HO HB; have HX := n0_; have HY := n1_; have HO := n2_; have HB := n3_; clear n0_ n1_ n2_ n3_; clear m1_ hb; obtain ⟨cz200, cz201, cz202, fz200, fz201, fz202⟩ := Rd.three BD.out))
             have BC1 : Aside0 (((((((w_.setCell ⟨gc, 0, none⟩ (.int .i64 x.f0)).setCell ⟨gc, 1, none⟩ (.int .i64 x.f1)).setCell ⟨gc, 2, none⟩ (.string x.f2)).setCell ⟨gd, 0, none⟩ (.int .i64 y.f0)).setCell ⟨gd, 1, none⟩ (.int .i64 y.f1)).setCell ⟨gd, 2, none⟩ (.string y.f2)).heap[gc]? = some (.cells #[.int .i64 x.f0, .int .i64 x.f1, .string x.f2] 31 (0, 0))) := ⟨Rd.far3 (Rd.set3 BC.out) GN.out⟩
             have BD1 : Aside0 (((((((w_.setCell ⟨gc, 0, none⟩ (.int .i64 x.f0)).setCell ⟨gc, 1, none⟩ (.int .i64 x.f1)).setCell ⟨gc, 2, none⟩ (.string x.f2)).setCell ⟨gd, 0, none⟩ (.int .i64 y.f0)).setCell ⟨gd, 1, none⟩ (.int .i64 y.f1)).setCell ⟨gd, 2, none⟩ (.string y.f2)).heap[gd]? = some (.cells #[.int .i64 y.f0, .int .i64 y.f1, .string y.f2] 31 (0, 0))) := ⟨Rd.set3 (Rd.far3 BD.out (Ne.symm GN.out))⟩
             have HX1 : Aside0 (IsRd w ((((((w_.setCell ⟨gc, 0, none⟩ (.int .i64 x.f0)).setCell ⟨gc, 1, none⟩ (.int .i64 x.f1)).setCell ⟨gc, 2, none⟩ (.string x.f2)).setCell ⟨gd, 0, none⟩ (.int .i64 y.f0)).setCell ⟨gd, 1, none⟩ (.int .i64 y.f1)).setCell ⟨gd, 2, none⟩ (.string y.f2)) gx ra' pa') := ⟨((((((HX.out.far GX19.out _).far GX19.out _).far GX19.out _).far GX20.out _).far GX20.out _).far GX20.out _)⟩
             have HY1 : Aside0 (IsRd w ((((((w_.setCell ⟨gc, 0, none⟩ (.int .i64 x.f0)).setCell ⟨gc, 1, none⟩ (.int .i64 x.f1)).setCell ⟨gc, 2, none⟩ (.string x.f2)).setCell ⟨gd, 0, none⟩ (.int .i64 y.f0)).setCell ⟨gd, 1, none⟩ (.int .i64 y.f1)).setCell ⟨gd, 2, none⟩ (.string y.f2)) gy rb' pb') := ⟨((((((HY.out.far GY19.out _).far GY19.out _).far GY19.out _).far GY20.out _).far GY20.out _).far GY20.out _)⟩
             have HB1 : Aside0 (Below w.heap.size w ((((((w_.setCell ⟨gc, 0, none⟩ (.int .i64 x.f0)).setCell ⟨gc, 1, none⟩ (.int .i64 x.f1)).setCell ⟨gc, 2, none⟩ (.string x.f2)).setCell ⟨gd, 0, none⟩ (.int .i64 y.f0)).setCell ⟨gd, 1, none⟩ (.int .i64 y.f1)).setCell ⟨gd, 2, none⟩ (.string y.f2))) := ⟨((((((HB.out.setCell GC.out _).setCell GC.out _).setCell GC.out _).setCell GD.out _).setCell GD.out _).setCell GD.out _)⟩
             have HO1 : Aside0 (Kd.R k31 31 ((((((w_.setCell ⟨gc, 0, none⟩ (.int .i64 x.f0)).setCell ⟨gc, 1, none⟩ (.int .i64 x.f1)).setCell ⟨gc, 2, none⟩ (.string x.f2)).setCell ⟨gd, 0, none⟩ (.int .i64 y.f0)).setCell ⟨gd, 1, none⟩ (.int .i64 y.f1)).setCell ⟨gd, 2, none⟩ (.string y.f2)) w.heap.size (fun k_ => ((k_ ≠ gx ∧ k_ ≠ gy) ∧ k_ ≠ gc) ∧ k_ ≠ gd) u14 out) := ⟨Kd.R_far (p := ⟨gd, 2, none⟩) (Kd.R_far (p := ⟨gd, 1, none⟩) (Kd.R_far (p := ⟨gd, 0, none⟩) (Kd.R_far (p := ⟨gc, 2, none⟩) (Kd.R_far (p := ⟨gc, 1, none⟩) (Kd.R_far (p := ⟨gc, 0, none⟩) HO.out (fun _ hk => hk.1.2) _) (fun _ hk => hk.1.2) _) (fun _ hk => hk.1.2) _) (fun _ hk => hk.2) _) (fun _ hk => hk.2) _) (fun _ hk => hk.2) _⟩
             generalize ((((((w_.setCell ⟨gc, 0, none⟩ (.int .i64 x.f0)).setCell ⟨gc, 1, none⟩ (.int .i64 x.f1)).setCell ⟨gc, 2, none⟩ (.string x.f2)).setCell ⟨gd, 0, none⟩ (.int .i64 y.f0)).setCell ⟨gd, 1, none⟩ (.int .i64 y.f1)).setCell ⟨gd, 2, none⟩ (.string y.f2)) = w10 at BC1 BD1 HX1 HY1 HB1 HO1 ⊢
             clear HX HY HB HO BC BD cz190 cz191 cz192 fz190 fz191 fz192 cz200 cz201 cz202 fz200 fz201 fz202
             have HX := HX1
             have HY := HY1
             have HB := HB1
             have HO := Aside0.mk (Kd.R_mono HO1.out (fun _ hk => hk.1.1))
             clear HX1 HY1 HB1 HO1
             obtain ⟨cz190, cz191, cz192, fz190, fz191, fz192⟩ := Rd.three BC1.out
             obtain ⟨cz200, cz201, cz202, fz200, fz201, fz202⟩ := Rd.three BD1.out
             have H := HH.out
             clear HH
             by_cases c5_ : y.f0 = 0
             · rw [if_pos c5_] at H
               replace H := Option.bind_eq_some_iff.mp H; obtain ⟨o, AA_, H⟩ := H; have AA := Aside0.mk AA_; clear AA_
               have H' := Aside0.mk H
               have b5 : (y.f0 == 0) = true := beq_iff_eq.mpr c5_
               clear c5_ H
               go_wp2_with (first | ((with_reducible refine gate_callee (f := 41) rfl ?_); refine goesL_ (some 74) rfl rfl Try.func41 (by kernel_rfl) rfl #[u14, .agg #[.int .i64 x.f0, .int .i64 x.f1, .string x.f2]] rfl (by (try simp only [List.map_toArray, List.map_cons, List.map_nil]); first | done | rfl | (simp only [List.length_drop, List.length_take]; rfl)) ?_; (with_reducible refine (comp_Add.calls k1 (fun k_ => k_ ≠ gx ∧ k_ ≠ gy) u14 out x.f0 x.f1 x.f2 o w _ HB.out HO.out AA.out).mono ?_); rintro e w_ ⟨v_, rfl, ho0, hb, hkp⟩; refine ⟨_, rfl, ?_⟩; have n0_ := Aside0.mk (hb); have n1_ := Aside0.mk (Kd.R_mono (ok' := fun k_ => k_ ≠ gx ∧ k_ ≠ gy) ho0 (fun k_ hk => Or.elim hk id (fun hn => ⟨fun e_ => by have := HX.out.lt; omega, fun e_ => by have := HY.out.lt; omega⟩))); have n2_ := Aside0.mk (HX.out.kept hkp (fun hk => hk.1 rfl)); have n3_ := Aside0.mk (HY.out.kept hkp (fun hk => hk.2 rfl)); clear HB HO HX HY; have HB := n0_; have HO := n1_; have HX := n2_; have HY := n3_; clear n0_ n1_ n2_ n3_; clear ho0 hb hkp))
               all_goals
                go_roundg k1
                case measure => have := HK1.out; omega
                case rel => exact ⟨_, _, _, _, _, H', ⟨by have := HK1.out; omega⟩, HX, HY, HO, HB⟩
             · rw [if_neg c5_] at H
               have b5 : (y.f0 == 0) = false := beq_eq_false_iff_ne.mpr c5_
               clear c5_
               by_cases c6_ : x.f0 = 0
               · rw [if_pos c6_] at H
                 replace H := Option.bind_eq_some_iff.mp H; obtain ⟨o, AA_, H⟩ := H; have AA := Aside0.mk AA_; clear AA_
                 have H' := Aside0.mk H
                 have b6 : (x.f0 == 0) = true := beq_iff_eq.mpr c6_
                 clear c6_ H
                 go_wp2_with (first | ((with_reducible refine gate_callee (f := 41) rfl ?_); refine goesL_ (some 81) rfl rfl Try.func41 (by kernel_rfl) rfl #[u14, .agg #[.int .i64 y.f0, .int .i64 y.f1, .string y.f2]] rfl (by (try simp only [List.map_toArray, List.map_cons, List.map_nil]); first | done | rfl | (simp only [List.length_drop, List.length_take]; rfl)) ?_; (with_reducible refine (comp_Add.calls k1 (fun k_ => k_ ≠ gx ∧ k_ ≠ gy) u14 out y.f0 y.f1 y.f2 o w _ HB.out HO.out AA.out).mono ?_); rintro e w_ ⟨v_, rfl, ho0, hb, hkp⟩; refine ⟨_, rfl, ?_⟩; have n0_ := Aside0.mk (hb); have n1_ := Aside0.mk (Kd.R_mono (ok' := fun k_ => k_ ≠ gx ∧ k_ ≠ gy) ho0 (fun k_ hk => Or.elim hk id (fun hn => ⟨fun e_ => by have := HX.out.lt; omega, fun e_ => by have := HY.out.lt; omega⟩))); have n2_ := Aside0.mk (HX.out.kept hkp (fun hk => hk.1 rfl)); have n3_ := Aside0.mk (HY.out.kept hkp (fun hk => hk.2 rfl)); clear HB HO HX HY; have HB := n0_; have HO := n1_; have HX := n2_; have HY := n3_; clear n0_ n1_ n2_ n3_; clear ho0 hb hkp))
                 all_goals
                  go_roundg k1
                  case measure => have := HK1.out; omega
                  case rel => exact ⟨_, _, _, _, _, H', ⟨by have := HK1.out; omega⟩, HX, HY, HO, HB⟩
               · rw [if_neg c6_] at H
                 have H' := Aside0.mk H
                 have b6 : (x.f0 == 0) = false := beq_eq_false_iff_ne.mpr c6_
                 clear c6_ H
                 go_wp2
                 all_goals
                  go_roundg k1
                  case measure => have := HK1.out; omega
                  case rel => exact ⟨_, _, _, _, _, H', ⟨by have := HK1.out; omega⟩, HX, HY, HO, HB⟩
           · have b1 : decide (da < 0) = false := decide_eq_false c4_
             clear c4_ hn_
             have HH := Aside0.mk H
             clear H
             go_upto_region 10 with (first | ((with_reducible refine gate_callee (f := 48) rfl ?_); refine goesL_ (some 50) rfl rfl Try.func48 (by kernel_rfl) rfl #[.pointer (some ⟨gx, 0, none⟩)] rfl (by (try simp only [List.map_toArray, List.map_cons, List.map_nil]); first | done | rfl | (simp only [List.length_drop, List.length_take]; rfl)) ?_; (with_reducible refine (Rd.next_any gx ra pa j w _ HB.out HX.out AJ.out).mono ?_); rintro e w_ ⟨rfl, hb⟩; rw [HDK.out]; refine ⟨_, rfl, ?_⟩; have n0_ := Aside0.mk (HX.out.below hb); have n1_ := Aside0.mk (HY.out.below hb); have n2_ := Aside0.mk (Kd.R_below HO.out hb); have n3_ := Aside0.mk (below_step HB.out hb); clear HX HY HO HB; have HX := n0_; have HY := n1_; have HO := n2_; have HB := n3_; clear n0_ n1_ n2_ n3_; clear hb) | ((with_reducible refine gate_callee (f := 48) rfl ?_); refine goesL_ (some 55) rfl rfl Try.func48 (by kernel_rfl) rfl #[.pointer (some ⟨gy, 0, none⟩)] rfl (by (try simp only [List.map_toArray, List.map_cons, List.map_nil]); first | done | rfl | (simp only [List.length_drop, List.length_take]; rfl)) ?_; (with_reducible refine (Rd.next_any gy rb pb q w _ HB.out HY.out AQ.out).mono ?_); rintro e w_ ⟨rfl, hb⟩; rw [HEK.out]; refine ⟨_, rfl, ?_⟩; have n0_ := Aside0.mk (HX.out.below hb); have n1_ := Aside0.mk (HY.out.below hb); have n2_ := Aside0.mk (Kd.R_below HO.out hb); have n3_ := Aside0.mk (below_step HB.out hb); clear HX HY HO HB; have HX := n0_; have HY := n1_; have HO := n2_; have HB := n3_; clear n0_ n1_ n2_ n3_; clear hb) | ((with_reducible refine gate_callee (f := 49) rfl ?_); refine goesL_ (some 62) rfl rfl Try.func49 (by kernel_rfl) rfl #[.pointer (some ⟨gx, 0, none⟩), .int .i64 (compose_Compose.mini j q)] rfl (by (try simp only [List.map_toArray, List.map_cons, List.map_nil]); first | done | rfl | (simp only [List.length_drop, List.length_take]; rfl)) ?_; (with_reducible refine (Rd.take_any gx ra pa (compose_Compose.mini j q) x ra' pa' w _ HB.out HX.out AT1.out).mono ?_); rintro e w_ ⟨rfl, hx, hb, hkp⟩; refine ⟨_, rfl, ?_⟩; have n0_ := Aside0.mk (hb); have n1_ := Aside0.mk (hx); have n2_ := Aside0.mk (HY.out.kept hkp (fun e_ => NXY.out e_.symm)); have n3_ := Aside0.mk (Kd.R_kept HO.out hkp (fun k_ hk e_ => hk.1 e_)); clear HB HX HY HO; have HB := n0_; have HX := n1_; have HY := n2_; have HO := n3_; clear n0_ n1_ n2_ n3_; clear hx hb hkp) | ((with_reducible refine gate_callee (f := 49) rfl ?_); refine goesL_ (some 67) rfl rfl Try.func49 (by kernel_rfl) rfl #[.pointer (some ⟨gy, 0, none⟩), .int .i64 (compose_Compose.mini j q)] rfl (by (try simp only [List.map_toArray, List.map_cons, List.map_nil]); first | done | rfl | (simp only [List.length_drop, List.length_take]; rfl)) ?_; (with_reducible refine (Rd.take_any gy rb pb (compose_Compose.mini j q) y rb' pb' w _ HB.out HY.out AT2.out).mono ?_); rintro e w_ ⟨rfl, hx, hb, hkp⟩; refine ⟨_, rfl, ?_⟩; have n0_ := Aside0.mk (hb); have n1_ := Aside0.mk (hx); have n2_ := Aside0.mk (HX.out.kept hkp (fun e_ => NXY.out e_)); have n3_ := Aside0.mk (Kd.R_kept HO.out hkp (fun k_ hk e_ => hk.2 e_)); clear HB HY HX HO; have HB := n0_; have HY := n1_; have HX := n2_; have HO := n3_; clear n0_ n1_ n2_ n3_; clear hx hb hkp) | ((with_reducible refine gate_dst (N := 19) rfl ?_); refine box_event ?hg (N := 19) ?hd (cs := #[.int .i64 0, .int .i64 0, .string (⟨#[]⟩ : ByteArray)]) (t := 31) ?hr ?_; (case hd => rfl); (case hg => rfl); (case hr => first | (go_simp; done) | (go_simp; rfl)); intro gc hg w_ hbox hb; have BC := Aside0.mk hbox; have GC := Aside0.mk ((by rw [hg]; exact below_size HB.out) : w.heap.size ≤ gc); have GX19 := Aside0.mk ((by rw [hg]; exact Nat.ne_of_lt HX.out.lt) : gx ≠ gc); have GY19 := Aside0.mk ((by rw [hg]; exact Nat.ne_of_lt HY.out.lt) : gy ≠ gc); have m1_ := Aside0.mk (Kd.R_elderB HO.out gc (Nat.le_of_eq hg.symm)); clear hbox hg; have n0_ := Aside0.mk (HX.out.below hb); have n1_ := Aside0.mk (HY.out.below hb); have n2_ := Aside0.mk (Kd.R_below m1_.out hb); have n3_ := Aside0.mk (below_step HB.out hb); clear HX HY HO HB; have HX := n0_; have HY := n1_; have HO := n2_; have HB := n3_; clear n0_ n1_ n2_ n3_; clear m1_ hb; obtain ⟨cz190, cz191, cz192, fz190, fz191, fz192⟩ := Rd.three BC.out) | ((with_reducible refine gate_dst (N := 20) rfl ?_); refine box_event ?hg (N := 20) ?hd (cs := #[.int .i64 0, .int .i64 0, .string (⟨#[]⟩ : ByteArray)]) (t := 31) ?hr ?_; (case hd => rfl); (case hg => rfl); (case hr => first | (go_simp; done) | (go_simp; rfl)); intro gd hg w_ hbox hb; have BD := Aside0.mk hbox; have GD := Aside0.mk ((by rw [hg]; exact below_size HB.out) : w.heap.size ≤ gd); have GX20 := Aside0.mk ((by rw [hg]; exact Nat.ne_of_lt HX.out.lt) : gx ≠ gd); have GY20 := Aside0.mk ((by rw [hg]; exact Nat.ne_of_lt HY.out.lt) : gy ≠ gd); have GN := Aside0.mk ((by rw [hg]; exact Nat.ne_of_lt (blk_lt BC.out)) : gc ≠ gd); have gn1_ := GN.out; have gn2_ := Ne.symm GN.out; have m0_ := Aside0.mk ((hb.block gc (blk_lt BC.out)).trans BC.out); clear BC cz190 cz191 cz192 fz190 fz191 fz192; have BC := m0_; clear m0_; obtain ⟨cz190, cz191, cz192, fz190, fz191, fz192⟩ := Rd.three BC.out; have m1_ := Aside0.mk (Kd.R_elderB HO.out gd (Nat.le_of_eq hg.symm)); clear hbox hg; have n0_ := Aside0.mk (HX.out.below hb); have n1_ := Aside0.mk (HY.out.below hb); have n2_ := Aside0.mk (Kd.R_below m1_.out hb); have n3_ := Aside0.mk (below_step HB.out hb); clear HX HY HO HB; have HX := n0_; have HY := n1_; have HO := n2_; have HB := n3_; clear n0_ n1_ n2_ n3_; clear m1_ hb; obtain ⟨cz200, cz201, cz202, fz200, fz201, fz202⟩ := Rd.three BD.out))
             have BC1 : Aside0 (((((((w_.setCell ⟨gc, 0, none⟩ (.int .i64 x.f0)).setCell ⟨gc, 1, none⟩ (.int .i64 x.f1)).setCell ⟨gc, 2, none⟩ (.string x.f2)).setCell ⟨gd, 0, none⟩ (.int .i64 y.f0)).setCell ⟨gd, 1, none⟩ (.int .i64 y.f1)).setCell ⟨gd, 2, none⟩ (.string y.f2)).heap[gc]? = some (.cells #[.int .i64 x.f0, .int .i64 x.f1, .string x.f2] 31 (0, 0))) := ⟨Rd.far3 (Rd.set3 BC.out) GN.out⟩
             have BD1 : Aside0 (((((((w_.setCell ⟨gc, 0, none⟩ (.int .i64 x.f0)).setCell ⟨gc, 1, none⟩ (.int .i64 x.f1)).setCell ⟨gc, 2, none⟩ (.string x.f2)).setCell ⟨gd, 0, none⟩ (.int .i64 y.f0)).setCell ⟨gd, 1, none⟩ (.int .i64 y.f1)).setCell ⟨gd, 2, none⟩ (.string y.f2)).heap[gd]? = some (.cells #[.int .i64 y.f0, .int .i64 y.f1, .string y.f2] 31 (0, 0))) := ⟨Rd.set3 (Rd.far3 BD.out (Ne.symm GN.out))⟩
             have HX1 : Aside0 (IsRd w ((((((w_.setCell ⟨gc, 0, none⟩ (.int .i64 x.f0)).setCell ⟨gc, 1, none⟩ (.int .i64 x.f1)).setCell ⟨gc, 2, none⟩ (.string x.f2)).setCell ⟨gd, 0, none⟩ (.int .i64 y.f0)).setCell ⟨gd, 1, none⟩ (.int .i64 y.f1)).setCell ⟨gd, 2, none⟩ (.string y.f2)) gx ra' pa') := ⟨((((((HX.out.far GX19.out _).far GX19.out _).far GX19.out _).far GX20.out _).far GX20.out _).far GX20.out _)⟩
             have HY1 : Aside0 (IsRd w ((((((w_.setCell ⟨gc, 0, none⟩ (.int .i64 x.f0)).setCell ⟨gc, 1, none⟩ (.int .i64 x.f1)).setCell ⟨gc, 2, none⟩ (.string x.f2)).setCell ⟨gd, 0, none⟩ (.int .i64 y.f0)).setCell ⟨gd, 1, none⟩ (.int .i64 y.f1)).setCell ⟨gd, 2, none⟩ (.string y.f2)) gy rb' pb') := ⟨((((((HY.out.far GY19.out _).far GY19.out _).far GY19.out _).far GY20.out _).far GY20.out _).far GY20.out _)⟩
             have HB1 : Aside0 (Below w.heap.size w ((((((w_.setCell ⟨gc, 0, none⟩ (.int .i64 x.f0)).setCell ⟨gc, 1, none⟩ (.int .i64 x.f1)).setCell ⟨gc, 2, none⟩ (.string x.f2)).setCell ⟨gd, 0, none⟩ (.int .i64 y.f0)).setCell ⟨gd, 1, none⟩ (.int .i64 y.f1)).setCell ⟨gd, 2, none⟩ (.string y.f2))) := ⟨((((((HB.out.setCell GC.out _).setCell GC.out _).setCell GC.out _).setCell GD.out _).setCell GD.out _).setCell GD.out _)⟩
             have HO1 : Aside0 (Kd.R k31 31 ((((((w_.setCell ⟨gc, 0, none⟩ (.int .i64 x.f0)).setCell ⟨gc, 1, none⟩ (.int .i64 x.f1)).setCell ⟨gc, 2, none⟩ (.string x.f2)).setCell ⟨gd, 0, none⟩ (.int .i64 y.f0)).setCell ⟨gd, 1, none⟩ (.int .i64 y.f1)).setCell ⟨gd, 2, none⟩ (.string y.f2)) w.heap.size (fun k_ => ((k_ ≠ gx ∧ k_ ≠ gy) ∧ k_ ≠ gc) ∧ k_ ≠ gd) u14 out) := ⟨Kd.R_far (p := ⟨gd, 2, none⟩) (Kd.R_far (p := ⟨gd, 1, none⟩) (Kd.R_far (p := ⟨gd, 0, none⟩) (Kd.R_far (p := ⟨gc, 2, none⟩) (Kd.R_far (p := ⟨gc, 1, none⟩) (Kd.R_far (p := ⟨gc, 0, none⟩) HO.out (fun _ hk => hk.1.2) _) (fun _ hk => hk.1.2) _) (fun _ hk => hk.1.2) _) (fun _ hk => hk.2) _) (fun _ hk => hk.2) _) (fun _ hk => hk.2) _⟩
             generalize ((((((w_.setCell ⟨gc, 0, none⟩ (.int .i64 x.f0)).setCell ⟨gc, 1, none⟩ (.int .i64 x.f1)).setCell ⟨gc, 2, none⟩ (.string x.f2)).setCell ⟨gd, 0, none⟩ (.int .i64 y.f0)).setCell ⟨gd, 1, none⟩ (.int .i64 y.f1)).setCell ⟨gd, 2, none⟩ (.string y.f2)) = w10 at BC1 BD1 HX1 HY1 HB1 HO1 ⊢
             clear HX HY HB HO BC BD cz190 cz191 cz192 fz190 fz191 fz192 cz200 cz201 cz202 fz200 fz201 fz202
             have HX := HX1
             have HY := HY1
             have HB := HB1
             have HO := Aside0.mk (Kd.R_mono HO1.out (fun _ hk => hk.1.1))
             clear HX1 HY1 HB1 HO1
             obtain ⟨cz190, cz191, cz192, fz190, fz191, fz192⟩ := Rd.three BC1.out
             obtain ⟨cz200, cz201, cz202, fz200, fz201, fz202⟩ := Rd.three BD1.out
             have H := HH.out
             clear HH
             by_cases c5_ : y.f0 = 0
             · rw [if_pos c5_] at H
               replace H := Option.bind_eq_some_iff.mp H; obtain ⟨o, AA_, H⟩ := H; have AA := Aside0.mk AA_; clear AA_
               have H' := Aside0.mk H
               have b5 : (y.f0 == 0) = true := beq_iff_eq.mpr c5_
               clear c5_ H
               go_wp2_with (first | ((with_reducible refine gate_callee (f := 41) rfl ?_); refine goesL_ (some 74) rfl rfl Try.func41 (by kernel_rfl) rfl #[u14, .agg #[.int .i64 x.f0, .int .i64 x.f1, .string x.f2]] rfl (by (try simp only [List.map_toArray, List.map_cons, List.map_nil]); first | done | rfl | (simp only [List.length_drop, List.length_take]; rfl)) ?_; (with_reducible refine (comp_Add.calls k1 (fun k_ => k_ ≠ gx ∧ k_ ≠ gy) u14 out x.f0 x.f1 x.f2 o w _ HB.out HO.out AA.out).mono ?_); rintro e w_ ⟨v_, rfl, ho0, hb, hkp⟩; refine ⟨_, rfl, ?_⟩; have n0_ := Aside0.mk (hb); have n1_ := Aside0.mk (Kd.R_mono (ok' := fun k_ => k_ ≠ gx ∧ k_ ≠ gy) ho0 (fun k_ hk => Or.elim hk id (fun hn => ⟨fun e_ => by have := HX.out.lt; omega, fun e_ => by have := HY.out.lt; omega⟩))); have n2_ := Aside0.mk (HX.out.kept hkp (fun hk => hk.1 rfl)); have n3_ := Aside0.mk (HY.out.kept hkp (fun hk => hk.2 rfl)); clear HB HO HX HY; have HB := n0_; have HO := n1_; have HX := n2_; have HY := n3_; clear n0_ n1_ n2_ n3_; clear ho0 hb hkp))
               all_goals
                go_roundg k1
                case measure => have := HK1.out; omega
                case rel => exact ⟨_, _, _, _, _, H', ⟨by have := HK1.out; omega⟩, HX, HY, HO, HB⟩
             · rw [if_neg c5_] at H
               have b5 : (y.f0 == 0) = false := beq_eq_false_iff_ne.mpr c5_
               clear c5_
               by_cases c6_ : x.f0 = 0
               · rw [if_pos c6_] at H
                 replace H := Option.bind_eq_some_iff.mp H; obtain ⟨o, AA_, H⟩ := H; have AA := Aside0.mk AA_; clear AA_
                 have H' := Aside0.mk H
                 have b6 : (x.f0 == 0) = true := beq_iff_eq.mpr c6_
                 clear c6_ H
                 go_wp2_with (first | ((with_reducible refine gate_callee (f := 41) rfl ?_); refine goesL_ (some 81) rfl rfl Try.func41 (by kernel_rfl) rfl #[u14, .agg #[.int .i64 y.f0, .int .i64 y.f1, .string y.f2]] rfl (by (try simp only [List.map_toArray, List.map_cons, List.map_nil]); first | done | rfl | (simp only [List.length_drop, List.length_take]; rfl)) ?_; (with_reducible refine (comp_Add.calls k1 (fun k_ => k_ ≠ gx ∧ k_ ≠ gy) u14 out y.f0 y.f1 y.f2 o w _ HB.out HO.out AA.out).mono ?_); rintro e w_ ⟨v_, rfl, ho0, hb, hkp⟩; refine ⟨_, rfl, ?_⟩; have n0_ := Aside0.mk (hb); have n1_ := Aside0.mk (Kd.R_mono (ok' := fun k_ => k_ ≠ gx ∧ k_ ≠ gy) ho0 (fun k_ hk => Or.elim hk id (fun hn => ⟨fun e_ => by have := HX.out.lt; omega, fun e_ => by have := HY.out.lt; omega⟩))); have n2_ := Aside0.mk (HX.out.kept hkp (fun hk => hk.1 rfl)); have n3_ := Aside0.mk (HY.out.kept hkp (fun hk => hk.2 rfl)); clear HB HO HX HY; have HB := n0_; have HO := n1_; have HX := n2_; have HY := n3_; clear n0_ n1_ n2_ n3_; clear ho0 hb hkp))
                 all_goals
                  go_roundg k1
                  case measure => have := HK1.out; omega
                  case rel => exact ⟨_, _, _, _, _, H', ⟨by have := HK1.out; omega⟩, HX, HY, HO, HB⟩
               · rw [if_neg c6_] at H
                 have H' := Aside0.mk H
                 have b6 : (x.f0 == 0) = false := beq_eq_false_iff_ne.mpr c6_
                 clear c6_ H
                 go_wp2
                 all_goals
                  go_roundg k1
                  case measure => have := HK1.out; omega
                  case rel => exact ⟨_, _, _, _, _, H', ⟨by have := HK1.out; omega⟩, HX, HY, HO, HB⟩
 · rw [if_neg hok] at h
   simp only [Option.some.injEq, Prod.mk.injEq] at h
   obtain ⟨rfl, rfl⟩ := h
   by_cases e1 : t3 = 0
   · have a1 : (t3 != 0) = false := bne_eq_false_iff_eq.mpr e1
     by_cases e2 : u3 = 0
     · have a2 : (u3 != 0) = false := bne_eq_false_iff_eq.mpr e2
       have a3 : (t2 != u1) = true := bne_iff_ne.mpr (fun h_ => hok ⟨e1, e2, h_⟩)
       clear hok e1 e2
       go_enter Try.func24, Try.ntmps24
       go_wp2_with (first | ((with_reducible refine gate_callee (f := 39) rfl ?_); refine goesL_ (some 23) rfl rfl Try.func39 (by kernel_rfl) rfl #[.slice A0 l0.length c0] rfl (by (try simp only [List.map_toArray, List.map_cons, List.map_nil]); first | done | rfl | (simp only [List.length_drop, List.length_take]; rfl)) ?_; (with_reducible refine (comp_Lengths.calls k _ _ l0 t1 t2 t3 _ ?side1 ?side2 AT.out).mono ?_); (case side1 => exact Kd.C_below HR0.out HB.out); (case side2 => exact HC0.out); rintro e w_ ⟨rfl, hb⟩; refine ⟨_, rfl, ?_⟩; have n0_ := Aside0.mk (below_step HB.out hb); clear HB; have HB := n0_; clear n0_; clear hb) | ((with_reducible refine gate_callee (f := 39) rfl ?_); refine goesL_ (some 29) rfl rfl Try.func39 (by kernel_rfl) rfl #[.slice A1 l1.length c1] rfl (by (try simp only [List.map_toArray, List.map_cons, List.map_nil]); first | done | rfl | (simp only [List.length_drop, List.length_take]; rfl)) ?_; (with_reducible refine (comp_Lengths.calls k _ _ l1 u1 u2 u3 _ ?side1 ?side2 AU.out).mono ?_); (case side1 => exact Kd.C_below HR1.out HB.out); (case side2 => exact HC1.out); rintro e w_ ⟨rfl, hb⟩; refine ⟨_, rfl, ?_⟩; have n0_ := Aside0.mk (below_step HB.out hb); clear HB; have HB := n0_; clear n0_; clear hb))
       go_ret2
       exact ⟨_, rfl, Kd.R_nil _ _ _ _ _, HB.out⟩
     · have a2 : (u3 != 0) = true := bne_iff_ne.mpr e2
       clear hok e1 e2
       go_enter Try.func24, Try.ntmps24
       go_wp2_with (first | ((with_reducible refine gate_callee (f := 39) rfl ?_); refine goesL_ (some 23) rfl rfl Try.func39 (by kernel_rfl) rfl #[.slice A0 l0.length c0] rfl (by (try simp only [List.map_toArray, List.map_cons, List.map_nil]); first | done | rfl | (simp only [List.length_drop, List.length_take]; rfl)) ?_; (with_reducible refine (comp_Lengths.calls k _ _ l0 t1 t2 t3 _ ?side1 ?side2 AT.out).mono ?_); (case side1 => exact Kd.C_below HR0.out HB.out); (case side2 => exact HC0.out); rintro e w_ ⟨rfl, hb⟩; refine ⟨_, rfl, ?_⟩; have n0_ := Aside0.mk (below_step HB.out hb); clear HB; have HB := n0_; clear n0_; clear hb) | ((with_reducible refine gate_callee (f := 39) rfl ?_); refine goesL_ (some 29) rfl rfl Try.func39 (by kernel_rfl) rfl #[.slice A1 l1.length c1] rfl (by (try simp only [List.map_toArray, List.map_cons, List.map_nil]); first | done | rfl | (simp only [List.length_drop, List.length_take]; rfl)) ?_; (with_reducible refine (comp_Lengths.calls k _ _ l1 u1 u2 u3 _ ?side1 ?side2 AU.out).mono ?_); (case side1 => exact Kd.C_below HR1.out HB.out); (case side2 => exact HC1.out); rintro e w_ ⟨rfl, hb⟩; refine ⟨_, rfl, ?_⟩; have n0_ := Aside0.mk (below_step HB.out hb); clear HB; have HB := n0_; clear n0_; clear hb))
       go_ret2
       exact ⟨_, rfl, Kd.R_nil _ _ _ _ _, HB.out⟩
   · have a1 : (t3 != 0) = true := bne_iff_ne.mpr e1
     clear hok e1
     go_enter Try.func24, Try.ntmps24
     go_wp2_with (first | ((with_reducible refine gate_callee (f := 39) rfl ?_); refine goesL_ (some 23) rfl rfl Try.func39 (by kernel_rfl) rfl #[.slice A0 l0.length c0] rfl (by (try simp only [List.map_toArray, List.map_cons, List.map_nil]); first | done | rfl | (simp only [List.length_drop, List.length_take]; rfl)) ?_; (with_reducible refine (comp_Lengths.calls k _ _ l0 t1 t2 t3 _ ?side1 ?side2 AT.out).mono ?_); (case side1 => exact Kd.C_below HR0.out HB.out); (case side2 => exact HC0.out); rintro e w_ ⟨rfl, hb⟩; refine ⟨_, rfl, ?_⟩; have n0_ := Aside0.mk (below_step HB.out hb); clear HB; have HB := n0_; clear n0_; clear hb) | ((with_reducible refine gate_callee (f := 39) rfl ?_); refine goesL_ (some 29) rfl rfl Try.func39 (by kernel_rfl) rfl #[.slice A1 l1.length c1] rfl (by (try simp only [List.map_toArray, List.map_cons, List.map_nil]); first | done | rfl | (simp only [List.length_drop, List.length_take]; rfl)) ?_; (with_reducible refine (comp_Lengths.calls k _ _ l1 u1 u2 u3 _ ?side1 ?side2 AU.out).mono ?_); (case side1 => exact Kd.C_below HR1.out HB.out); (case side2 => exact HC1.out); rintro e w_ ⟨rfl, hb⟩; refine ⟨_, rfl, ?_⟩; have n0_ := Aside0.mk (below_step HB.out hb); clear HB; have HB := n0_; clear n0_; clear hb))
     go_ret2
     exact ⟨_, rfl, Kd.R_nil _ _ _ _ _, HB.out⟩


end Go.Proofs.Ytldaokclpkcmmaa.G
