/- (*parse.parser).reach by its contract. -/
import Derived.Test.YtehojohacombkaaPp2
namespace Go.Proofs.Ytehojohacombkaa.G
open Go.RowKit Go.Proofs.YtehojohacombkaaW.PrintWords Go.Proofs.YtehojohacombkaaW.PrintLast Go.Proofs.YtehojohacombkaaW.PrintMore
open Go.Proofs.Ytehojohacombkaa.Lx (Tk)
open Go.Proofs.Ytehojohacombkaa.Ps (Nd nd rdn withKid withTo kidAdd putN setTo lastKid reachN lackN nextT bgK Wf)
attribute [local go_sem] max2_int max_two
set_option linter.unusedVariables false
set_option linter.unusedSimpArgs false
theorem Ps.setTo_S {W : World} {base gn n cap : Nat} {D : Nat → Prop} {ns : List Nd} (HO : Kd.S k34 34 W base D (.slice (some ⟨gn, 0, none⟩) n cap) ns) (id tz : Int) (h0 : 0 ≤ id) (h1 : id < (n : Int)) :
    Kd.S k34 34 (W.setCell ⟨gn, id.toNat * 5 + 3, none⟩ (.int .i64 tz)) base D (.slice (some ⟨gn, 0, none⟩) n cap) (setTo ns id tz) := by
  obtain ⟨oki, cc, hcl, hM, hcc, hfr, hoki, hH⟩ := Kd.S_elem HO z34 id h0 h1
  obtain ⟨vk, rfl, hR⟩ := k34_openM hM
  have HSp := (Kd.H_seg hH h0 h1 (seg := [.int .i64 tz]) (j := 3) (Nat.le_succ 4) (fun q hq => by rw [List.mem_singleton.1 hq]; rfl)).1
  exact Kd.H_back HSp (x' := withTo (rdn ns id) tz) (okp := oki) (k34_mkM _ _ _ (withTo (rdn ns id) tz) (v4 := vk) (Kd.R_far (p := ⟨gn, id.toNat * 5 + 3, none⟩) hR (fun k hk => (hoki k hk).2) (.int .i64 tz))) (fun k hk => hk)
theorem Ps.node_cells {W : World} {base gn n cap : Nat} {D : Nat → Prop} {ns : List Nd} (HO : Kd.S k34 34 W base D (.slice (some ⟨gn, 0, none⟩) n cap) ns) (id : Int) (h0 : 0 ≤ id) (h1 : id < (n : Int)) :
    W.cell? ⟨gn, id.toNat * 5 + 3, none⟩ = some (.int .i64 (rdn ns id).f3) ∧ W.frozen? ⟨gn, id.toNat * 5 + 3, none⟩ = false ∧
    ∃ Ak ck, W.cell? ⟨gn, id.toNat * 5 + 4, none⟩ = some (.slice Ak (rdn ns id).f4.length ck) ∧ (Kd.int .i64).C W Ak (rdn ns id).f4.length (rdn ns id).f4 := by
  obtain ⟨oki, cc, hcl, hM, hcc, hfr, hoki, hH⟩ := Kd.S_elem HO z34 id h0 h1
  obtain ⟨vk, rfl, hR⟩ := k34_openM hM
  obtain ⟨Ak, ck, rfl, _, hC⟩ := Kd.R_reads hR
  exact ⟨hcc 3 _ rfl, hfr 3, Ak, ck, hcc 4 _ rfl, hC⟩
set_option maxHeartbeats 4000000 in
theorem Ps.reach_any (g : Nat) (ts : List Tk) (ns : List Nd) (en id tz : Int) (h0 : 0 ≤ id) (h1 : id < (ns.length : Int)) (hn : ns.length ≤ 1000010) (hw : Wf ns) (D : Nat → Prop) (w0 w : World) (hB : Below w0.heap.size w0 w) (h : IsP w0 w g D ts ns en) :
    Calls Try.prog 59 #[.pointer (some ⟨g, 0, none⟩), .int .i64 id, .int .i64 tz] w fun e w' => e = .returned (.tuple #[]) ∧ IsP w0 w' g D ts (reachN ns id tz) en ∧ PStep w0 w w' g D := by
  obtain ⟨A, c, v, hb, hg, hK, hl, hS, hF, hD⟩ := h
  have HB0 := Aside0.mk hB
  obtain ⟨Av, cv, rfl⟩ := Kd.S_slice hS
  obtain ⟨gn, cap, e9, hgn, hgl, cn, hcn⟩ := Kd.S_form hS (by omega)
  injection e9 with e9 e10 e11
  subst e9 e11
  clear e10
  have NGG := Aside0.mk (Ne.symm (blk_ne hcn hb (by decide)))
  have DG := Aside0.mk ((Kd.S_R hS).1 gn (by simp [Value.ownBlock]))
  obtain ⟨m, hm⟩ : ∃ m, m = ns.length := ⟨_, rfl⟩
  rw [← hm] at hb hS h1 hn
  obtain ⟨x0, x1, x2, x3, x4, x5⟩ := Ps.three hb
  obtain ⟨y3, y5, -⟩ := Ps.node_cells hS id h0 h1
  have q0 := eq_true h0
  have q1 := eq_true h1
  have q2 := eq_true (show id.toNat < m by omega)
  have HX := Aside0.mk hb
  have HM := Aside0.mk hm
  have HMM := Aside0.mk hn
  have HI := Aside0.mk (And.intro h0 h1)
  have HG := Aside0.mk hg
  have HKK := Aside0.mk hK
  have HLE := Aside0.mk hl
  have HS := Aside0.mk hS
  have HF := Aside0.mk hF
  have HN := Aside0.mk hD
  have HW := Aside0.mk hw
  have GB := Aside0.mk hgn
  clear hb hg hK hl hB hS hF hD hw h0 h1 hm hn hcn hgn hgl
  go_enter Try.func59, Try.ntmps59
  go_upto_region 2 with (fail)
  have HX2 := Aside0.mk ((Below.heap_setCell w ⟨gn, id.toNat * 5 + 3, none⟩ (.int .i64 tz) _ NGG.out).trans HX.out)
  have HO2 := Aside0.mk (Ps.setTo_S HS.out id tz HI.out.1 HI.out.2)
  have HB2 := Aside0.mk (HB0.out.setCell (p := ⟨gn, id.toNat * 5 + 3, none⟩) GB.out (.int .i64 tz))
  have HK2 := Aside0.mk ((Kept.refl w (fun k_ => k_ = g ∨ D k_)).setCell (p := ⟨gn, id.toNat * 5 + 3, none⟩) (.inl (.inr DG.out)) (.int .i64 tz))
  clear HX HS x0 x1 x2 x3 x4 x5 y3 y5
  generalize w.setCell ⟨gn, id.toNat * 5 + 3, none⟩ (.int .i64 tz) = W at HX2 HO2 HB2 HK2 ⊢
  obtain ⟨ms, hms⟩ : ∃ ms, setTo ns id tz = ms := ⟨_, rfl⟩
  have hml : ms.length = m := by rw [← hms, Ps.setTo_len, HM.out]
  have HW2 : Aside0 (Wf ms) := ⟨by rw [← hms]; exact Ps.setTo_wf HW.out id tz HI.out.1 (by have := HI.out.2; rw [← HM.out]; exact this)⟩
  have HE : Aside0 (reachN ns id tz = if 0 < (rdn ms id).f4.length then setTo ms id (max tz (rdn ms (lastKid ms id)).f3) else ms) := ⟨by unfold reachN; rw [hms]⟩
  rw [hms] at HO2
  have HML := Aside0.mk hml
  clear hms hml HW
  have HF2 : Aside0 (∀ k, W.heap.size ≤ k → D k) := ⟨fun k hk => HF.out k (Nat.le_trans HK2.out.1 hk)⟩
  obtain ⟨x0, x1, x2, x3, x4, x5⟩ := Ps.three HX2.out
  obtain ⟨y3, y5, Ak, ck, y4, hC⟩ := Ps.node_cells HO2.out id HI.out.1 HI.out.2
  obtain ⟨x, hx⟩ : ∃ x, rdn ms id = x := ⟨_, rfl⟩
  rw [hx] at y3 y4 hC HE
  have hxm : x ∈ ms := by rw [← hx]; exact Ps.rdn_mem HI.out.1 (by rw [HML.out]; exact HI.out.2)
  obtain ⟨hk1, hk2⟩ := HW2.out x hxm
  rw [HML.out] at hk1 hk2
  by_cases hj : 0 < x.f4.length
  · have e1 := HE.out
    rw [if_pos hj] at e1
    unfold lastKid at e1
    rw [hx] at e1
    obtain ⟨ji, hji⟩ : ∃ ji, ji = (x.f4.length : Int) - 1 := ⟨_, rfl⟩
    rw [← hji] at e1
    have j0 : 0 ≤ ji := by omega
    have j1 : ji < (x.f4.length : Int) := by omega
    obtain ⟨ak, rfl, y6⟩ := Kd.at_int hC ji j0 j1
    obtain ⟨kd, hkd⟩ : ∃ kd, rd x.f4 ji = kd := ⟨_, rfl⟩
    have hkm : kd ∈ x.f4 := by
      rw [← hkd]; unfold rd
      rw [List.getD_eq_getElem?_getD, List.getElem?_eq_getElem (by omega)]
      exact List.getElem_mem _
    obtain ⟨k0, k1⟩ := hk2 kd hkm
    rw [hkd] at y6 e1
    obtain ⟨y7, -, -⟩ := Ps.node_cells HO2.out kd k0 k1
    obtain ⟨y, hy⟩ : ∃ y, (rdn ms kd).f3 = y := ⟨_, rfl⟩
    rw [hy] at y7 e1
    have wj : IntKind.i64.wrap ((x.f4.length : Int) - 1) = ji := by rw [i64_w, hji]; unfold wrap64; have := HMM.out; omega
    obtain ⟨j, hjj⟩ : ∃ j, j = x.f4.length := ⟨_, rfl⟩
    rw [← hjj] at y4 wj j1 hj
    have d0 : decide ((0 : Int) < (j : Int)) = true := decide_eq_true (by omega)
    have d00 := eq_true hj
    have d1 := eq_true j0
    have d2 := eq_true j1
    have d3 := eq_true (show ji.toNat < j by omega)
    have d4 := eq_true k0
    have d5 := eq_true k1
    have d6 := eq_true (show kd.toNat < m by omega)
    have KEY : ∀ z, max tz y = z → reachN ns id tz = setTo ms id z := fun z hz => by rw [e1, hz]
    have HKEY := Aside0.mk KEY
    clear hC hxm hk1 hk2 hkm k0 k1 hkd hy hji j0 j1 hj e1 hx HE hjj KEY
    by_cases hty : tz < y
    · have d7 := eq_true hty
      have HZ := Aside0.mk (HKEY.out y (by omega))
      clear hty HKEY
      go_upto_region 4 with (fail)
      go_region
      have HX3 := Aside0.mk ((Below.heap_setCell W ⟨gn, id.toNat * 5 + 3, none⟩ (.int .i64 y) _ NGG.out).trans HX2.out)
      have HO3 := Aside0.mk (Kd.S_drew (Ps.setTo_S HO2.out id y HI.out.1 HI.out.2))
      have HB3 := Aside0.mk ((HB2.out.setCell (p := ⟨gn, id.toNat * 5 + 3, none⟩) GB.out (.int .i64 y)).drew)
      have HK3 := Aside0.mk (HK2.out.setCell (p := ⟨gn, id.toNat * 5 + 3, none⟩) (.inl (.inr DG.out)) (.int .i64 y))
      (first | go_end0 | ((try simp only [Exit.inBlock, Exit.then]); refine bodyPost_ret (results_none rfl _ _ _) rfl ?_))
      exact ⟨rfl, ⟨A, c, _, HX3.out, HG.out, HKK.out, HLE.out, by rw [HZ.out]; exact HO3.out, fun k hk => HF2.out k (by simpa using hk), HN.out⟩, ⟨HB3.out, HK3.out⟩⟩
    · have d7 := eq_false hty
      have HZ := Aside0.mk (HKEY.out tz (by omega))
      clear hty HKEY
      go_upto_region 4 with (fail)
      go_region
      have HX3 := Aside0.mk ((Below.heap_setCell W ⟨gn, id.toNat * 5 + 3, none⟩ (.int .i64 tz) _ NGG.out).trans HX2.out)
      have HO3 := Aside0.mk (Kd.S_drew (Ps.setTo_S HO2.out id tz HI.out.1 HI.out.2))
      have HB3 := Aside0.mk ((HB2.out.setCell (p := ⟨gn, id.toNat * 5 + 3, none⟩) GB.out (.int .i64 tz)).drew)
      have HK3 := Aside0.mk (HK2.out.setCell (p := ⟨gn, id.toNat * 5 + 3, none⟩) (.inl (.inr DG.out)) (.int .i64 tz))
      (first | go_end0 | ((try simp only [Exit.inBlock, Exit.then]); refine bodyPost_ret (results_none rfl _ _ _) rfl ?_))
      exact ⟨rfl, ⟨A, c, _, HX3.out, HG.out, HKK.out, HLE.out, by rw [HZ.out]; exact HO3.out, fun k hk => HF2.out k (by simpa using hk), HN.out⟩, ⟨HB3.out, HK3.out⟩⟩
  · have HE2 : Aside0 (reachN ns id tz = ms) := ⟨by rw [HE.out, if_neg hj]⟩
    obtain ⟨j, hjj⟩ : ∃ j, j = x.f4.length := ⟨_, rfl⟩
    rw [← hjj] at y4 hj
    have d0 : decide ((0 : Int) < (j : Int)) = false := decide_eq_false (by omega)
    have d00 := eq_false hj
    clear hC hxm hk1 hk2 hj hx HE hjj
    go_wp2
    (first | go_end0 | ((try simp only [Exit.inBlock, Exit.then]); refine bodyPost_ret (results_none rfl _ _ _) rfl ?_))
    exact ⟨rfl, ⟨A, c, _, HX2.out, HG.out, HKK.out, HLE.out, by rw [HE2.out]; exact HO2.out, HF2.out, HN.out⟩, ⟨HB2.out, HK2.out⟩⟩
end Go.Proofs.Ytehojohacombkaa.G
