/- (*parse.parser).put by its contract: a node more, and one more child of its parent. -/
import Derived.Test.YtehojohacombkaaPp1
namespace Go.Proofs.Ytehojohacombkaa.G
open Go.RowKit Go.Proofs.YtehojohacombkaaW.PrintWords Go.Proofs.YtehojohacombkaaW.PrintLast Go.Proofs.YtehojohacombkaaW.PrintMore
open Go.Proofs.Ytehojohacombkaa.Lx (Tk)
open Go.Proofs.Ytehojohacombkaa.Ps (Nd nd rdn withKid withTo kidAdd putN setTo lastKid reachN lackN nextT bgK Wf)
set_option linter.unusedVariables false
set_option linter.unusedSimpArgs false
set_option maxHeartbeats 4000000 in
theorem Ps.put_any (g : Nat) (ts : List Tk) (ns : List Nd) (en p k f t : Int) (hp : 0 ≤ p) (hn : ns.length ≤ 1000000) (hw : Wf ns) (D : Nat → Prop) (w0 w : World) (hB : Below w0.heap.size w0 w) (h : IsP w0 w g D ts ns en) :
    Calls Try.prog 28 #[.pointer (some ⟨g, 0, none⟩), .int .i64 p, .int .i64 k, .int .i64 f, .int .i64 t] w fun e w' => e = .returned (.int .i64 (ns.length : Int)) ∧ IsP w0 w' g D ts (putN ns p k f t) en ∧ PStep w0 w w' g D := by
  obtain ⟨A, c, v, hb, hg, hK, hl, hS, hF, hD⟩ := h
  have HB0 := Aside0.mk hB
  have GL := Aside0.mk (blk_lt hb)
  obtain ⟨x0, x1, x2, x3, x4, x5⟩ := Ps.three hb
  have HX := Aside0.mk hb
  have NE := Aside0.mk (Kd.S_away (g := g) hS (fun k hk e => hD (e ▸ hk)))
  obtain ⟨Av, cv, rfl⟩ := Kd.S_slice hS
  obtain ⟨m, hm⟩ : ∃ m, m = ns.length := ⟨_, rfl⟩
  have HM := Aside0.mk hm
  rw [← hm] at x1 HX NE hS hn
  have HMM := Aside0.mk hn
  have HG := Aside0.mk hg
  have HKK := Aside0.mk hK
  have HLE := Aside0.mk hl
  have HS := Aside0.mk hS
  have HF := Aside0.mk hF
  have HN := Aside0.mk hD
  have HW := Aside0.mk hw
  have HP := Aside0.mk hp
  obtain ⟨ms, hms⟩ : ∃ ms, ns ++ [nd (m : Int) k f t] = ms := ⟨_, rfl⟩
  have HMS := Aside0.mk hms
  obtain ⟨m1, hm1⟩ : ∃ m1, m1 = ms.length := ⟨_, rfl⟩
  have HM1 := Aside0.mk hm1
  clear hb hg hK hl hB hS hF hD hw hp hm hn hms hm1
  go_enter Try.func28, Try.ntmps28
  go_upto_region 3 with (first | ((with_reducible refine gate_builtin (b := .append) (xs := #[.tmp 21, .tmp 27]) rfl ?_); at_builtin; refine Kd.S_append k34 (w0 := w0) w0.heap.size rfl (.tmp 21) (.tmp 27) 26 34 (.agg #[(.int .i64 0), (.int .i64 0), (.int .i64 0), (.int .i64 0), (.slice none 0 0)]) 56 rfl Try.underlying26 info34 rfl (by decide) (by omega) (.slice Av m cv) ns (nd (m : Int) k f t) [.int .i64 (m : Int), .int .i64 k, .int .i64 f, .int .i64 t, .slice none 0 0] D (fun _ => False) rfl rfl ?aP (fun _ hk => hk.elim) HF.out ?aO HB0.out (HB0.out.size) ?aL ?_; (case aP => exact k34_mkM _ _ _ (nd (m : Int) k f t) (Kd.R_nil _ _ _ _ _)); (case aO => exact Kd.S_mono HS.out (fun k_ hk => ⟨hk, fun h => h⟩)); (case aL => have := HMM.out; have := HM.out; omega); intro v9 w9 ho hb hg hat; rw [HMS.out] at ho; obtain ⟨A9, c9, e9_⟩ := Kd.S_slice ho; rw [← HM1.out] at e9_; subst e9_; have y4 : w9.frozen? ⟨g, 1, none⟩ = false := (hg.frozen_far _ GL.out NE.out).trans x4; have y1 : w9.cell? ⟨g, 1, none⟩ = some (.slice Av m cv) := (hg.cell_far _ GL.out NE.out).trans x1; have HO9 := Aside0.mk ho; have HB9 := Aside0.mk hb; have HG9 := Aside0.mk hg; clear ho hb hg hat))
  have HX2 := Aside0.mk ((blk_set (blk_grown HX.out HG9.out NE.out) 1 (.slice A9 m1 c9)).trans rfl)
  have HO2 := Aside0.mk (Kd.S_far (p := ⟨g, 1, none⟩) HO9.out (fun k hk (e : k = g) => HN.out (e ▸ hk)) (.slice A9 m1 c9))
  have HB2 := Aside0.mk (HB9.out.setCell (p := ⟨g, 1, none⟩) HG.out (.slice A9 m1 c9))
  have HK2 := Aside0.mk ((Kept.of_grown HG9.out (Kept.refl w (fun k_ => k_ = g ∨ D k_)) (fun k hk => .inl (.inr ((Kd.S_R HS.out).1 k hk)))).setCell (p := ⟨g, 1, none⟩) (.inl (.inl rfl)) (.slice A9 m1 c9))
  clear HX HO9 HB9 HG9 x0 x1 x2 x3 x4 x5 y1 y4 NE HS
  generalize w9.setCell ⟨g, 1, none⟩ (.slice A9 m1 c9) = W at HX2 HO2 HB2 HK2 ⊢
  have HF2 : Aside0 (∀ k, W.heap.size ≤ k → D k) := ⟨fun k hk => HF.out k (Nat.le_trans HK2.out.1 hk)⟩
  have hm1 : m1 = m + 1 := by have h1_ := HM1.out; have h2_ := HM.out; rw [← HMS.out] at h1_; simp only [List.length_append, List.length_cons, List.length_nil] at h1_; omega
  have HM2 := Aside0.mk hm1
  clear hm1
  by_cases hpp : (m : Int) > p
  · have d0 : decide (p < (m : Int)) = true := decide_eq_true hpp
    have e1 : putN ns p k f t = kidAdd ms p (m : Int) := by unfold putN; rw [← HM.out, if_pos hpp, HMS.out]
    have HE := Aside0.mk e1
    clear e1
    have hl : p < (m1 : Int) := by have := HM2.out; omega
    obtain ⟨gn, cap, e9, hgn, hgl, cn, hcn⟩ := Kd.S_form HO2.out (by have := HM1.out; have := HM2.out; omega)
    injection e9 with e9 e10 e11
    subst e9 e11
    clear e10
    obtain ⟨oki, cc, hcl, hM, hcc, hfr, hoki, hH⟩ := Kd.S_elem HO2.out z34 p HP.out hl
    obtain ⟨vk, rfl, hR⟩ := k34_openM hM
    obtain ⟨Ak, ck, rfl⟩ := Kd.R_slice hR
    have hkl : (rdn ms p).f4.length ≤ 1000001 := by
      have hmm := HM.out; have hmb := HMM.out
      have e : rdn ms p = rdn ns p := by
        rw [← HMS.out]; unfold rdn rd_T34
        rw [List.getD_eq_getElem?_getD, List.getD_eq_getElem?_getD, List.getElem?_append_left (by have := HP.out; omega)]
      rw [e]
      have := (HW.out _ (Ps.rdn_mem HP.out (by omega))).1
      omega
    have er : ms.getD p.toNat z34 = rdn ms p := rfl
    rw [er] at hR hcc hH
    obtain ⟨x, hx⟩ : ∃ x, rdn ms p = x := ⟨_, rfl⟩
    have HXX := Aside0.mk hx
    rw [hx] at hR hcc hH hkl
    have HH := Aside0.mk hH
    have y4 : W.cell? ⟨gn, p.toNat * 5 + 4, none⟩ = some (.slice Ak x.f4.length ck) := hcc 4 _ rfl
    have y5 : W.frozen? ⟨gn, p.toNat * 5 + 4, none⟩ = false := hfr 4
    have NK1 := Aside0.mk (Kd.R_ne hR hcn (by decide))
    have NK2 := Aside0.mk (Kd.R_ne hR HX2.out (by decide))
    have HRR := Aside0.mk hR
    have HOK := Aside0.mk hoki
    have GN := Aside0.mk hgl
    have GB := Aside0.mk hgn
    have GL2 := Aside0.mk (blk_lt HX2.out)
    have KL := Aside0.mk hkl
    obtain ⟨x0, x1, x2, x3, x4, x5⟩ := Ps.three HX2.out
    have q0 := eq_true HP.out
    have q1 := eq_true hl
    have q2 := eq_true (show p.toNat < m1 by have := HP.out; omega)
    have DG := Aside0.mk ((Kd.S_R HO2.out).1 gn (by simp [Value.ownBlock]))
    have NGG := Aside0.mk (Ne.symm (blk_ne hcn HX2.out (by decide)))
    have HLL := Aside0.mk hl
    clear hM hcl hcc hfr hoki hH hR hcn hgl hgn er hx hpp hl hkl
    go_upto_region 4 with (fail)
    have gl2 := GL2.out
    have gn2 := GN.out
    go_region_law
      ((rw [show World.drew (World.alloc W (.cells #[.int .i64 (m : Int)] 3)) = World.alloc (World.drew W) (.cells #[.int .i64 (m : Int)] 3) from rfl]; refine Kd.R_append_step (Kd.int .i64) (w0 := w0) w0.heap.size (by rfl) (.tmp 46) (.tmp 48) 32 3 (.int .i64 0) 8 (by rfl) Try.underlying32 info3 rfl (by decide) (by decide) (.slice Ak x.f4.length ck) x.f4 (m : Int) [.int .i64 (m : Int)] (fun k_ => oki k_ ∨ D k_ ∧ W.heap.size ≤ k_) (fun _ => False) (by rfl) (by rfl) ?aP (fun _ hk => hk.elim) ?aF ?aO ?aB ?aS ?aL ?_; (case aP => exact rfl); (case aF => exact fun k_ hk => .inr ⟨HF2.out k_ hk, hk⟩); (case aO => exact Kd.R_drew (Kd.R_mono HRR.out (fun _ h => .inl h))); (case aB => exact below_drew1 HB2.out); (case aS => exact HB2.out.size); (case aL => have := KL.out; omega); intro v9 w9 ho hb hg hat; obtain ⟨A9, c9, e9_⟩ := Kd.R_slice ho; rw [show (x.f4 ++ [(m : Int)]).length = x.f4.length + 1 from by simp] at e9_; subst e9_; have z5 : w9.frozen? ⟨gn, p.toNat * 5 + 4, none⟩ = false := (hg.frozen_far _ GN.out NK1.out).trans (show (World.drew W).frozen? ⟨gn, p.toNat * 5 + 4, none⟩ = false from y5); have z4 : w9.cell? ⟨gn, p.toNat * 5 + 4, none⟩ = some (.slice Ak x.f4.length ck) := (hg.cell_far _ GN.out NK1.out).trans (show (World.drew W).cell? ⟨gn, p.toNat * 5 + 4, none⟩ = some (.slice Ak x.f4.length ck) from y4); have z1 : w9.cell? ⟨g, 1, none⟩ = _ := (hg.cell_far _ GL2.out NK2.out).trans (show (World.drew W).cell? ⟨g, 1, none⟩ = _ from x1)))
    all_goals
      have HKp := (Kept.of_grown hg HK2.out.drew (fun k hk => .inl (.inr (HOK.out k (HRR.out.1 k hk)).1))).setCell (p := ⟨gn, p.toNat * 5 + 4, none⟩) (.inl (.inr DG.out)) (.slice A9 (x.f4.length + 1) c9)
      have HBp := hb.setCell (p := ⟨gn, p.toNat * 5 + 4, none⟩) GB.out (.slice A9 (x.f4.length + 1) c9)
      have HXp := (Below.heap_setCell w9 ⟨gn, p.toNat * 5 + 4, none⟩ (.slice A9 (x.f4.length + 1) c9) _ NGG.out).trans (blk_grown (w := World.drew W) HX2.out hg NK2.out)
      have HSp := (Kd.H_seg (Kd.H_grown (Kd.H_widen (Kd.H_drew HH.out)) hg (fun k hk => .inl (HRR.out.1 k hk))) HP.out HLL.out (seg := [.slice A9 (x.f4.length + 1) c9]) (j := 4) (Nat.le_refl 5) (fun q hq => by rw [List.mem_singleton.1 hq]; rfl)).1
      have HSq := Kd.H_back HSp (x' := withKid x (m : Int)) (okp := fun k_ => oki k_ ∨ D k_ ∧ W.heap.size ≤ k_) (k34_mkM _ _ _ (withKid x (m : Int)) (v4 := .slice A9 (x.f4.length + 1) c9) (Kd.R_far (p := ⟨gn, p.toNat * 5 + 4, none⟩) ho (fun k hk => hk.elim (fun h => (HOK.out k h).2) (fun h e => by have := GN.out; have := h.2; have e : k = gn := e; omega)) (.slice A9 (x.f4.length + 1) c9))) (fun k hk => hk)
      have HSr : Aside0 (Kd.S k34 34 (w9.setCell ⟨gn, p.toNat * 5 + 4, none⟩ (.slice A9 (x.f4.length + 1) c9)) w0.heap.size D (.slice (some ⟨gn, 0, none⟩) m1 _) (putN ns p k f t)) := ⟨by rw [HE.out]; unfold kidAdd; rw [HXX.out]; exact HSq⟩
      have HX3 := Aside0.mk HXp
      have HB3 := Aside0.mk HBp
      have HK3 := Aside0.mk HKp
      clear HKp HBp HXp HSp HSq ho hb hg hat z1 z4 z5 x0 x1 x2 x3 x4 x5 y4 y5
      generalize w9.setCell ⟨gn, p.toNat * 5 + 4, none⟩ (.slice A9 (x.f4.length + 1) c9) = W3 at HSr HX3 HB3 HK3 ⊢
      go_wp2
      go_ret
      exact ⟨by rw [HM.out]; rfl, ⟨A, c, _, HX3.out, HG.out, HKK.out, HLE.out, HSr.out, fun k hk => HF.out k (Nat.le_trans HK3.out.1 hk), HN.out⟩, ⟨HB3.out, HK3.out⟩⟩
  · have d0 : decide (p < (m : Int)) = false := decide_eq_false hpp
    have e1 : putN ns p k f t = ms := by unfold putN; rw [← HM.out, if_neg hpp, HMS.out]
    have HE := Aside0.mk e1
    clear e1 hpp
    go_wp2
    go_ret
    exact ⟨by rw [HM.out]; rfl, ⟨A, c, .slice A9 m1 c9, HX2.out, HG.out, HKK.out, HLE.out, by rw [HE.out]; exact HO2.out, HF2.out, HN.out⟩, ⟨HB2.out, HK2.out⟩⟩
end Go.Proofs.Ytehojohacombkaa.G
