/- The parser's member by its contract. (Written by mkps5.py of this session.) -/
import Derived.Test.YtehojohacombkaaPp4
namespace Go.Proofs.Ytehojohacombkaa.G
open Go.RowKit Go.Proofs.YtehojohacombkaaW.PrintWords Go.Proofs.YtehojohacombkaaW.PrintLast Go.Proofs.YtehojohacombkaaW.PrintMore
open Go.Proofs.Ytehojohacombkaa.Lx (Tk)
open Go.Proofs.Ytehojohacombkaa.Ps (Nd St One nd rdn withKid withTo kidAdd putN setTo lastKid reachN lackN nextT bgK Wf scal listN wrapN colN pvN pairN memN valN mainN Stp OneOk)
set_option linter.unusedVariables false
set_option linter.unusedSimpArgs false
set_option maxHeartbeats 8000000 in
set_option maxRecDepth 100000 in
theorem Ps.member_any (k : Nat) (g : Nat) (p : Int) (ts : List Tk) (ns : List Nd) (en d : Int) (hV : VCP en k) (D : Nat → Prop) (w0 w : World) (hd : d = 13 - (k : Int)) (hbg : bgK k (nextT en ts) = true) (hp : 0 ≤ p) (hp1 : p < (ns.length : Int)) (hw : Wf ns) (hn : ns.length + 6 * ts.length ≤ 899999) (hB : Below w0.heap.size w0 w) (h : IsP w0 w g D ts ns en) :
    Calls Try.prog 58 #[.pointer (some ⟨g, 0, none⟩), .int .i64 p, .int .i64 d] w (PPost w0 w g D en (memN (valN en k) (bgK k) en p ts ns)) := by
  have HP := Aside0.mk hp
  have HL : Aside0 (ns.length ≤ 1000000) := ⟨by omega⟩
  have HW := Aside0.mk hw
  have HS := Aside0.mk (PStep.refl hB (g := g) (D := D))
  have HR := Aside0.mk h
  have HD := Aside0.mk h.notD
  have HV := Aside0.mk hV
  have HDD := Aside0.mk hd
  have HBG := Aside0.mk hbg
  have HP1 := Aside0.mk hp1
  have HRM := Aside0.mk hn
  unfold Go.Proofs.Ytehojohacombkaa.Ps.memN
  obtain ⟨t, ht⟩ : ∃ t, nextT en ts = t := ⟨_, rfl⟩
  have HTT := Aside0.mk ht
  by_cases h6 : t.f0 = 6
  · have c6 : (t.f0 == 6) = true := beq_iff_eq.mpr h6
    have c7 : (t.f0 != 6) = false := bne_eq_false_iff_eq.mpr h6
    have hts := Ps.bg_some hbg
    rw [ht, if_pos h6]
    obtain ⟨m, hm⟩ : ∃ m : Int, m = (ns.length : Int) := ⟨_, rfl⟩
    have HM := Aside0.mk hm
    have hpl := Ps.putN_len ns p 3 t.f1 t.f2
    have hpw := Ps.putN_wf hw p 3 t.f1 t.f2 hp
    obtain ⟨⟨hv1, hv2, hv3⟩, hv4⟩ := Ps.val_ok en k m ts (putN ns p 3 t.f1 t.f2) hts (by omega) (by omega) hpw
    rw [← hm]
    obtain ⟨a, ha⟩ : ∃ a, valN en k m ts (putN ns p 3 t.f1 t.f2) = a := ⟨_, rfl⟩
    have HA := Aside0.mk ha
    rw [ha] at hv1 hv2 hv3 hv4 ⊢
    have HPW := Aside0.mk hpw
    have HP2 : Aside0 (0 ≤ m ∧ m < ((putN ns p 3 t.f1 t.f2).length : Int)) := ⟨by omega⟩
    have HP3 : Aside0 ((putN ns p 3 t.f1 t.f2).length + 6 * ts.length ≤ 900000) := ⟨by omega⟩
    have HA1 : Aside0 (m < (a.2.length : Int) ∧ a.2.length + 6 * a.1.length ≤ 899996) := ⟨by omega⟩
    have HA2 := Aside0.mk hv3
    obtain ⟨b1, b2, b3, b4⟩ := Ps.col_ok en m t a (by omega) hv3
    obtain ⟨t2, ht2⟩ : ∃ t2, nextT en a.1 = t2 := ⟨_, rfl⟩
    have HT2 := Aside0.mk ht2
    clear hpl hpw hv1 hv2 hv4 ha hm hp hp1 hw hB h hd ht
    by_cases h4 : t2.f0 = 4
    · have c4 : (t2.f0 == 4) = true := beq_iff_eq.mpr h4
      have e1 : colN en m t a = ((a.1.tail, a.2), t2.f2) := by unfold Go.Proofs.Ytehojohacombkaa.Ps.colN; rw [ht2, if_pos h4]
      rw [e1] at b1 b2 b3 b4
      dsimp only at b1 b2 b3 b4
      have HB2 : Aside0 (m < ((a.2).length : Int) ∧ (a.2).length + 6 * (a.1.tail).length ≤ 899997) := ⟨by have := HA1.out; omega⟩
      have HBW : Aside0 (Wf a.2) := ⟨b3⟩
      have hfd := Ps.field2 t2.f0 t2.f1 t2.f2
      have HNE : Aside0 (a.1 ≠ []) := ⟨by rintro e; rw [e] at ht2; rw [← ht2] at h4; cases h4⟩
      obtain ⟨f1, f2, f3, f4⟩ := Ps.pv_ok (m := 0) (Ps.val_ok en k) en m k (a.1.tail, a.2) HP2.out.1 HB2.out.1 b3
      obtain ⟨t3, ht3⟩ : ∃ t3, nextT en a.1.tail = t3 := ⟨_, rfl⟩
      have HT3 := Aside0.mk ht3
      clear b1 b2 b3 b4 h4 ht2
      by_cases hb3 : bgK k t3 = true
      · obtain ⟨c, hc⟩ : ∃ c, valN en k m a.1.tail a.2 = c := ⟨_, rfl⟩
        have HC := Aside0.mk hc
        have HB3 := Aside0.mk hb3
        have e2 : pvN (valN en k) (bgK k) en m (a.1.tail, a.2) = (c.1, c.2) := by unfold Go.Proofs.Ytehojohacombkaa.Ps.pvN; rw [ht3, if_pos hb3, hc]
        have HE : Aside0 (pairN (valN en k) (bgK k) en m t a = (c.1, reachN c.2 m t2.f2)) := ⟨by unfold Go.Proofs.Ytehojohacombkaa.Ps.pairN; rw [e1]; show ((pvN (valN en k) (bgK k) en m (a.1.tail, a.2)).1, reachN (pvN (valN en k) (bgK k) en m (a.1.tail, a.2)).2 m t2.f2) = _; rw [e2]⟩
        rw [e2] at f1 f2 f3 f4
        dsimp only at f1 f2 f3 f4
        have HC1 : Aside0 (m < ((c.2).length : Int) ∧ (c.2).length ≤ 1000010) := ⟨by have := HB2.out; omega⟩
        have HCW : Aside0 (Wf c.2) := ⟨f3⟩
        rw [HE.out]
        clear f1 f2 f3 f4 e1 e2 hb3 ht3 hbg hn hV hts hv3 h6 hc
        go_enter Try.func58, Try.ntmps58
        go_upto_region 1 with (first | (go_at_call 31; (with_reducible refine (Ps.next_any g ts ns en D w0 _ HS.out.below HR.out).mono ?_); rw [HTT.out]; rintro e w9 ⟨rfl, hb_⟩; have n0_ := Aside0.mk (HR.out.below hb_); have n1_ := Aside0.mk (HS.out.more hb_); clear HR HS hb_; have HR := n0_; have HS := n1_; clear n0_ n1_) | ((with_reducible refine gate_dst (N := 6) rfl ?_); refine box_event ?hg (N := 6) ?hd (cs := #[.int .i64 0, .int .i64 0, .int .i64 0]) (t := 46) ?hr ?_; (case hd => rfl); (case hg => rfl); (case hr => first | (go_simp; done) | (go_simp; rfl)); intro b hgr w_ hbox hb; have HX_ := Aside0.mk hbox; have HB_ := Aside0.mk hb; have HG_ := Aside0.mk hgr; obtain ⟨v0, v1, v2, v3, v4, v5⟩ := Ps.three hbox; clear hbox hb hgr))
        obtain ⟨hs1, hr1, hb1, hn1⟩ := Ps.boxed (.int .i64 t.f0) (.int .i64 t.f1) (.int .i64 t.f2) HS.out HR.out HB_.out HX_.out HG_.out
        have HGE : Aside0 (w.heap.size ≤ b) := ⟨by rw [HG_.out]; exact HS.out.kept.1⟩
        have HGE0 : Aside0 (w0.heap.size ≤ b) := ⟨by rw [HG_.out]; exact HS.out.below.size⟩
        clear HS HR HB_ HX_ HG_ v0 v1 v2 v3 v4 v5
        have HS := Aside0.mk hs1
        have HR := Aside0.mk hr1
        have BK := Aside0.mk hb1
        have BG := Aside0.mk hn1
        clear hs1 hr1 hb1 hn1
        generalize (((w_.setCell ⟨b, 0, none⟩ (.int .i64 t.f0)).setCell ⟨b, 1, none⟩ (.int .i64 t.f1)).setCell ⟨b, 2, none⟩ (.int .i64 t.f2)) = W1 at HS HR BK ⊢
        obtain ⟨v0, v1, v2, v3, v4, v5⟩ := Ps.three BK.out
        have BN : Aside0 (¬ (b = g ∨ (D b ∧ b ≠ b))) := ⟨fun h => h.elim BG.out (fun h => h.2 rfl)⟩
        go_upto_region 6 with (first | (go_at_call 28; (with_reducible refine (Ps.put_any g ts ns en p 3 t.f1 t.f2 HP.out HL.out HW.out (fun j => D j ∧ j ≠ b) w0 _ HS.out.below HR.out).mono ?_); rw [← HM.out]; rintro e w9 ⟨rfl, hr_, hs_⟩; have n0_ := Aside0.mk hr_; have n1_ := Aside0.mk (HS.out.trans hs_ (fun _ h => h.1)); have n2_ := Aside0.mk (blk_kept BK.out hs_.kept BN.out); clear HR HS BK hr_ hs_ v0 v1 v2 v3 v4 v5; have HR := n0_; have HS := n1_; have BK := n2_; clear n0_ n1_ n2_; obtain ⟨v0, v1, v2, v3, v4, v5⟩ := Ps.three BK.out) | (go_at_call 29; (with_reducible refine (VCP.at HV.out g m ts (putN ns p 3 t.f1 t.f2) d (fun j => D j ∧ j ≠ b) w0 _ HDD.out HBG.out HP2.out.1 HP2.out.2 HPW.out HP3.out HS.out.below HR.out).mono ?_); rw [HA.out]; rintro e w9 ⟨rfl, hr_, hs_⟩; have n0_ := Aside0.mk hr_; have n1_ := Aside0.mk (HS.out.trans hs_ (fun _ h => h.1)); have n2_ := Aside0.mk (blk_kept BK.out hs_.kept BN.out); clear HR HS BK hr_ hs_ v0 v1 v2 v3 v4 v5; have HR := n0_; have HS := n1_; have BK := n2_; clear n0_ n1_ n2_; obtain ⟨v0, v1, v2, v3, v4, v5⟩ := Ps.three BK.out))
        go_upto_region 7 with (first | (go_at_call 31; (with_reducible refine (Ps.next_any g a.1 a.2 en (fun j => D j ∧ j ≠ b) w0 _ HS.out.below HR.out).mono ?_); rw [HT2.out]; rintro e w9 ⟨rfl, hb_⟩; have n0_ := Aside0.mk (HR.out.below hb_); have n1_ := Aside0.mk (HS.out.more hb_); have n2_ := Aside0.mk (blk_below BK.out hb_); clear HR HS BK hb_ v0 v1 v2 v3 v4 v5; have HR := n0_; have HS := n1_; have BK := n2_; clear n0_ n1_ n2_; obtain ⟨v0, v1, v2, v3, v4, v5⟩ := Ps.three BK.out))
        obtain ⟨hs1, hr1, hb1⟩ := Ps.again (.int .i64 t2.f0) (.int .i64 t2.f1) (.int .i64 t2.f2) HS.out HR.out BK.out HGE.out HGE0.out BG.out
        clear HS HR BK v0 v1 v2 v3 v4 v5
        have HS := Aside0.mk hs1
        have HR := Aside0.mk hr1
        have BK := Aside0.mk hb1
        clear hs1 hr1 hb1
        generalize (((w9.setCell ⟨b, 0, none⟩ (.int .i64 t2.f0)).setCell ⟨b, 1, none⟩ (.int .i64 t2.f1)).setCell ⟨b, 2, none⟩ (.int .i64 t2.f2)) = W2 at HS HR BK ⊢
        obtain ⟨v0, v1, v2, v3, v4, v5⟩ := Ps.three BK.out
        go_upto_region 10 with (first | (go_at_call 55; (with_reducible refine (Ps.take_any g a.1 HNE.out a.2 en (fun j => D j ∧ j ≠ b) w0 _ HS.out.below HR.out).mono ?_); rw [HT2.out]; rintro e w9 ⟨rfl, hr_, hs_⟩; have n0_ := Aside0.mk hr_; have n1_ := Aside0.mk (HS.out.trans hs_ (fun _ h => h.1)); have n2_ := Aside0.mk (blk_kept BK.out hs_.kept BN.out); clear HR HS BK hr_ hs_ v0 v1 v2 v3 v4 v5; have HR := n0_; have HS := n1_; have BK := n2_; clear n0_ n1_ n2_; obtain ⟨v0, v1, v2, v3, v4, v5⟩ := Ps.three BK.out))
        go_upto_region 11 with (first | (go_at_call 31; (with_reducible refine (Ps.next_any g a.1.tail a.2 en (fun j => D j ∧ j ≠ b) w0 _ HS.out.below HR.out).mono ?_); rw [HT3.out]; rintro e w9 ⟨rfl, hb_⟩; have n0_ := Aside0.mk (HR.out.below hb_); have n1_ := Aside0.mk (HS.out.more hb_); have n2_ := Aside0.mk (blk_below BK.out hb_); clear HR HS BK hb_ v0 v1 v2 v3 v4 v5; have HR := n0_; have HS := n1_; have BK := n2_; clear n0_ n1_ n2_; obtain ⟨v0, v1, v2, v3, v4, v5⟩ := Ps.three BK.out))
        obtain ⟨hs1, hr1, hb1⟩ := Ps.again (.int .i64 t3.f0) (.int .i64 t3.f1) (.int .i64 t3.f2) HS.out HR.out BK.out HGE.out HGE0.out BG.out
        clear HS HR BK v0 v1 v2 v3 v4 v5
        have HS := Aside0.mk hs1
        have HR := Aside0.mk hr1
        have BK := Aside0.mk hb1
        clear hs1 hr1 hb1
        generalize (((w9.setCell ⟨b, 0, none⟩ (.int .i64 t3.f0)).setCell ⟨b, 1, none⟩ (.int .i64 t3.f1)).setCell ⟨b, 2, none⟩ (.int .i64 t3.f2)) = W3 at HS HR BK ⊢
        obtain ⟨v0, v1, v2, v3, v4, v5⟩ := Ps.three BK.out
        go_wp2_with (first | (go_at_call 30; (with_reducible refine (Ps.begins_any t3 k d HDD.out _ HB3.out _).mono ?_); rintro e w9 ⟨rfl, hb_⟩; have n0_ := Aside0.mk (HR.out.below hb_); have n1_ := Aside0.mk (HS.out.more hb_); have n2_ := Aside0.mk (blk_below BK.out hb_); clear HR HS BK hb_ v0 v1 v2 v3 v4 v5; have HR := n0_; have HS := n1_; have BK := n2_; clear n0_ n1_ n2_; obtain ⟨v0, v1, v2, v3, v4, v5⟩ := Ps.three BK.out) | (go_at_call 29; (with_reducible refine (VCP.at HV.out g m a.1.tail a.2 d (fun j => D j ∧ j ≠ b) w0 _ HDD.out (by rw [HT3.out]; exact HB3.out) HP2.out.1 HB2.out.1 HBW.out (by have := HB2.out; omega) HS.out.below HR.out).mono ?_); rw [HC.out]; rintro e w9 ⟨rfl, hr_, hs_⟩; have n0_ := Aside0.mk hr_; have n1_ := Aside0.mk (HS.out.trans hs_ (fun _ h => h.1)); have n2_ := Aside0.mk (blk_kept BK.out hs_.kept BN.out); clear HR HS BK hr_ hs_ v0 v1 v2 v3 v4 v5; have HR := n0_; have HS := n1_; have BK := n2_; clear n0_ n1_ n2_; obtain ⟨v0, v1, v2, v3, v4, v5⟩ := Ps.three BK.out) | (go_at_call 59; (with_reducible refine (Ps.reach_any g c.1 c.2 en m t2.f2 HP2.out.1 HC1.out.1 HC1.out.2 HCW.out (fun j => D j ∧ j ≠ b) w0 _ HS.out.below HR.out).mono ?_); rintro e w9 ⟨rfl, hr_, hs_⟩; have n0_ := Aside0.mk hr_; have n1_ := Aside0.mk (HS.out.trans hs_ (fun _ h => h.1)); have n2_ := Aside0.mk (blk_kept BK.out hs_.kept BN.out); clear HR HS BK hr_ hs_ v0 v1 v2 v3 v4 v5; have HR := n0_; have HS := n1_; have BK := n2_; clear n0_ n1_ n2_; obtain ⟨v0, v1, v2, v3, v4, v5⟩ := Ps.three BK.out))
        (first | go_end0 | ((try simp only [Exit.inBlock, Exit.then]); refine bodyPost_ret (results_none rfl _ _ _) rfl ?_))
        exact ⟨rfl, HR.out.mono (fun _ h => h.1) HD.out, HS.out⟩
      · have HB3 : Aside0 (bgK k t3 = false) := ⟨by cases hq : bgK k t3 with | true => exact absurd hq hb3 | false => rfl⟩
        have e2 : pvN (valN en k) (bgK k) en m (a.1.tail, a.2) = (a.1.tail, (lackN a.2 m t3.f1)) := by unfold Go.Proofs.Ytehojohacombkaa.Ps.pvN; rw [ht3, if_neg hb3]
        have HE : Aside0 (pairN (valN en k) (bgK k) en m t a = (a.1.tail, reachN (lackN a.2 m t3.f1) m t2.f2)) := ⟨by unfold Go.Proofs.Ytehojohacombkaa.Ps.pairN; rw [e1]; show ((pvN (valN en k) (bgK k) en m (a.1.tail, a.2)).1, reachN (pvN (valN en k) (bgK k) en m (a.1.tail, a.2)).2 m t2.f2) = _; rw [e2]⟩
        rw [e2] at f1 f2 f3 f4
        dsimp only at f1 f2 f3 f4
        have HC1 : Aside0 (m < (((lackN a.2 m t3.f1)).length : Int) ∧ ((lackN a.2 m t3.f1)).length ≤ 1000010) := ⟨by have := HB2.out; omega⟩
        have HCW : Aside0 (Wf (lackN a.2 m t3.f1)) := ⟨f3⟩
        rw [HE.out]
        clear f1 f2 f3 f4 e1 e2 hb3 ht3 hbg hn hV hts hv3 h6
        go_enter Try.func58, Try.ntmps58
        go_upto_region 1 with (first | (go_at_call 31; (with_reducible refine (Ps.next_any g ts ns en D w0 _ HS.out.below HR.out).mono ?_); rw [HTT.out]; rintro e w9 ⟨rfl, hb_⟩; have n0_ := Aside0.mk (HR.out.below hb_); have n1_ := Aside0.mk (HS.out.more hb_); clear HR HS hb_; have HR := n0_; have HS := n1_; clear n0_ n1_) | ((with_reducible refine gate_dst (N := 6) rfl ?_); refine box_event ?hg (N := 6) ?hd (cs := #[.int .i64 0, .int .i64 0, .int .i64 0]) (t := 46) ?hr ?_; (case hd => rfl); (case hg => rfl); (case hr => first | (go_simp; done) | (go_simp; rfl)); intro b hgr w_ hbox hb; have HX_ := Aside0.mk hbox; have HB_ := Aside0.mk hb; have HG_ := Aside0.mk hgr; obtain ⟨v0, v1, v2, v3, v4, v5⟩ := Ps.three hbox; clear hbox hb hgr))
        obtain ⟨hs1, hr1, hb1, hn1⟩ := Ps.boxed (.int .i64 t.f0) (.int .i64 t.f1) (.int .i64 t.f2) HS.out HR.out HB_.out HX_.out HG_.out
        have HGE : Aside0 (w.heap.size ≤ b) := ⟨by rw [HG_.out]; exact HS.out.kept.1⟩
        have HGE0 : Aside0 (w0.heap.size ≤ b) := ⟨by rw [HG_.out]; exact HS.out.below.size⟩
        clear HS HR HB_ HX_ HG_ v0 v1 v2 v3 v4 v5
        have HS := Aside0.mk hs1
        have HR := Aside0.mk hr1
        have BK := Aside0.mk hb1
        have BG := Aside0.mk hn1
        clear hs1 hr1 hb1 hn1
        generalize (((w_.setCell ⟨b, 0, none⟩ (.int .i64 t.f0)).setCell ⟨b, 1, none⟩ (.int .i64 t.f1)).setCell ⟨b, 2, none⟩ (.int .i64 t.f2)) = W1 at HS HR BK ⊢
        obtain ⟨v0, v1, v2, v3, v4, v5⟩ := Ps.three BK.out
        have BN : Aside0 (¬ (b = g ∨ (D b ∧ b ≠ b))) := ⟨fun h => h.elim BG.out (fun h => h.2 rfl)⟩
        go_upto_region 6 with (first | (go_at_call 28; (with_reducible refine (Ps.put_any g ts ns en p 3 t.f1 t.f2 HP.out HL.out HW.out (fun j => D j ∧ j ≠ b) w0 _ HS.out.below HR.out).mono ?_); rw [← HM.out]; rintro e w9 ⟨rfl, hr_, hs_⟩; have n0_ := Aside0.mk hr_; have n1_ := Aside0.mk (HS.out.trans hs_ (fun _ h => h.1)); have n2_ := Aside0.mk (blk_kept BK.out hs_.kept BN.out); clear HR HS BK hr_ hs_ v0 v1 v2 v3 v4 v5; have HR := n0_; have HS := n1_; have BK := n2_; clear n0_ n1_ n2_; obtain ⟨v0, v1, v2, v3, v4, v5⟩ := Ps.three BK.out) | (go_at_call 29; (with_reducible refine (VCP.at HV.out g m ts (putN ns p 3 t.f1 t.f2) d (fun j => D j ∧ j ≠ b) w0 _ HDD.out HBG.out HP2.out.1 HP2.out.2 HPW.out HP3.out HS.out.below HR.out).mono ?_); rw [HA.out]; rintro e w9 ⟨rfl, hr_, hs_⟩; have n0_ := Aside0.mk hr_; have n1_ := Aside0.mk (HS.out.trans hs_ (fun _ h => h.1)); have n2_ := Aside0.mk (blk_kept BK.out hs_.kept BN.out); clear HR HS BK hr_ hs_ v0 v1 v2 v3 v4 v5; have HR := n0_; have HS := n1_; have BK := n2_; clear n0_ n1_ n2_; obtain ⟨v0, v1, v2, v3, v4, v5⟩ := Ps.three BK.out))
        go_upto_region 7 with (first | (go_at_call 31; (with_reducible refine (Ps.next_any g a.1 a.2 en (fun j => D j ∧ j ≠ b) w0 _ HS.out.below HR.out).mono ?_); rw [HT2.out]; rintro e w9 ⟨rfl, hb_⟩; have n0_ := Aside0.mk (HR.out.below hb_); have n1_ := Aside0.mk (HS.out.more hb_); have n2_ := Aside0.mk (blk_below BK.out hb_); clear HR HS BK hb_ v0 v1 v2 v3 v4 v5; have HR := n0_; have HS := n1_; have BK := n2_; clear n0_ n1_ n2_; obtain ⟨v0, v1, v2, v3, v4, v5⟩ := Ps.three BK.out))
        obtain ⟨hs1, hr1, hb1⟩ := Ps.again (.int .i64 t2.f0) (.int .i64 t2.f1) (.int .i64 t2.f2) HS.out HR.out BK.out HGE.out HGE0.out BG.out
        clear HS HR BK v0 v1 v2 v3 v4 v5
        have HS := Aside0.mk hs1
        have HR := Aside0.mk hr1
        have BK := Aside0.mk hb1
        clear hs1 hr1 hb1
        generalize (((w9.setCell ⟨b, 0, none⟩ (.int .i64 t2.f0)).setCell ⟨b, 1, none⟩ (.int .i64 t2.f1)).setCell ⟨b, 2, none⟩ (.int .i64 t2.f2)) = W2 at HS HR BK ⊢
        obtain ⟨v0, v1, v2, v3, v4, v5⟩ := Ps.three BK.out
        go_upto_region 10 with (first | (go_at_call 55; (with_reducible refine (Ps.take_any g a.1 HNE.out a.2 en (fun j => D j ∧ j ≠ b) w0 _ HS.out.below HR.out).mono ?_); rw [HT2.out]; rintro e w9 ⟨rfl, hr_, hs_⟩; have n0_ := Aside0.mk hr_; have n1_ := Aside0.mk (HS.out.trans hs_ (fun _ h => h.1)); have n2_ := Aside0.mk (blk_kept BK.out hs_.kept BN.out); clear HR HS BK hr_ hs_ v0 v1 v2 v3 v4 v5; have HR := n0_; have HS := n1_; have BK := n2_; clear n0_ n1_ n2_; obtain ⟨v0, v1, v2, v3, v4, v5⟩ := Ps.three BK.out))
        go_upto_region 11 with (first | (go_at_call 31; (with_reducible refine (Ps.next_any g a.1.tail a.2 en (fun j => D j ∧ j ≠ b) w0 _ HS.out.below HR.out).mono ?_); rw [HT3.out]; rintro e w9 ⟨rfl, hb_⟩; have n0_ := Aside0.mk (HR.out.below hb_); have n1_ := Aside0.mk (HS.out.more hb_); have n2_ := Aside0.mk (blk_below BK.out hb_); clear HR HS BK hb_ v0 v1 v2 v3 v4 v5; have HR := n0_; have HS := n1_; have BK := n2_; clear n0_ n1_ n2_; obtain ⟨v0, v1, v2, v3, v4, v5⟩ := Ps.three BK.out))
        obtain ⟨hs1, hr1, hb1⟩ := Ps.again (.int .i64 t3.f0) (.int .i64 t3.f1) (.int .i64 t3.f2) HS.out HR.out BK.out HGE.out HGE0.out BG.out
        clear HS HR BK v0 v1 v2 v3 v4 v5
        have HS := Aside0.mk hs1
        have HR := Aside0.mk hr1
        have BK := Aside0.mk hb1
        clear hs1 hr1 hb1
        generalize (((w9.setCell ⟨b, 0, none⟩ (.int .i64 t3.f0)).setCell ⟨b, 1, none⟩ (.int .i64 t3.f1)).setCell ⟨b, 2, none⟩ (.int .i64 t3.f2)) = W3 at HS HR BK ⊢
        obtain ⟨v0, v1, v2, v3, v4, v5⟩ := Ps.three BK.out
        go_wp2_with (first | (go_at_call 30; (with_reducible refine (Ps.begins_any t3 k d HDD.out _ HB3.out _).mono ?_); rintro e w9 ⟨rfl, hb_⟩; have n0_ := Aside0.mk (HR.out.below hb_); have n1_ := Aside0.mk (HS.out.more hb_); have n2_ := Aside0.mk (blk_below BK.out hb_); clear HR HS BK hb_ v0 v1 v2 v3 v4 v5; have HR := n0_; have HS := n1_; have BK := n2_; clear n0_ n1_ n2_; obtain ⟨v0, v1, v2, v3, v4, v5⟩ := Ps.three BK.out) | (go_at_call 34; (with_reducible refine (Ps.lack_any g a.1.tail a.2 en m t3.f1 HP2.out.1 (by have := HB2.out; omega) HBW.out (fun j => D j ∧ j ≠ b) w0 _ HS.out.below HR.out).mono ?_); rintro e w9 ⟨rfl, hr_, hs_⟩; have n0_ := Aside0.mk hr_; have n1_ := Aside0.mk (HS.out.trans hs_ (fun _ h => h.1)); have n2_ := Aside0.mk (blk_kept BK.out hs_.kept BN.out); clear HR HS BK hr_ hs_ v0 v1 v2 v3 v4 v5; have HR := n0_; have HS := n1_; have BK := n2_; clear n0_ n1_ n2_; obtain ⟨v0, v1, v2, v3, v4, v5⟩ := Ps.three BK.out) | (go_at_call 59; (with_reducible refine (Ps.reach_any g a.1.tail (lackN a.2 m t3.f1) en m t2.f2 HP2.out.1 HC1.out.1 HC1.out.2 HCW.out (fun j => D j ∧ j ≠ b) w0 _ HS.out.below HR.out).mono ?_); rintro e w9 ⟨rfl, hr_, hs_⟩; have n0_ := Aside0.mk hr_; have n1_ := Aside0.mk (HS.out.trans hs_ (fun _ h => h.1)); have n2_ := Aside0.mk (blk_kept BK.out hs_.kept BN.out); clear HR HS BK hr_ hs_ v0 v1 v2 v3 v4 v5; have HR := n0_; have HS := n1_; have BK := n2_; clear n0_ n1_ n2_; obtain ⟨v0, v1, v2, v3, v4, v5⟩ := Ps.three BK.out))
        (first | go_end0 | ((try simp only [Exit.inBlock, Exit.then]); refine bodyPost_ret (results_none rfl _ _ _) rfl ?_))
        exact ⟨rfl, HR.out.mono (fun _ h => h.1) HD.out, HS.out⟩
    · have c4 : (t2.f0 == 4) = false := beq_eq_false_iff_ne.mpr h4
      have e1 : colN en m t a = ((a.1, (lackN a.2 m t2.f1)), t.f2) := by unfold Go.Proofs.Ytehojohacombkaa.Ps.colN; rw [ht2, if_neg h4]
      rw [e1] at b1 b2 b3 b4
      dsimp only at b1 b2 b3 b4
      have HB2 : Aside0 (m < (((lackN a.2 m t2.f1)).length : Int) ∧ ((lackN a.2 m t2.f1)).length + 6 * (a.1).length ≤ 899997) := ⟨by have := HA1.out; omega⟩
      have HBW : Aside0 (Wf (lackN a.2 m t2.f1)) := ⟨b3⟩
      obtain ⟨f1, f2, f3, f4⟩ := Ps.pv_ok (m := 0) (Ps.val_ok en k) en m k (a.1, (lackN a.2 m t2.f1)) HP2.out.1 HB2.out.1 b3
      obtain ⟨t3, ht3⟩ : ∃ t3, nextT en a.1 = t3 := ⟨_, rfl⟩
      have HT3 := Aside0.mk ht3
      clear b1 b2 b3 b4 h4 ht2
      by_cases hb3 : bgK k t3 = true
      · obtain ⟨c, hc⟩ : ∃ c, valN en k m a.1 (lackN a.2 m t2.f1) = c := ⟨_, rfl⟩
        have HC := Aside0.mk hc
        have HB3 := Aside0.mk hb3
        have e2 : pvN (valN en k) (bgK k) en m (a.1, (lackN a.2 m t2.f1)) = (c.1, c.2) := by unfold Go.Proofs.Ytehojohacombkaa.Ps.pvN; rw [ht3, if_pos hb3, hc]
        have HE : Aside0 (pairN (valN en k) (bgK k) en m t a = (c.1, reachN c.2 m t.f2)) := ⟨by unfold Go.Proofs.Ytehojohacombkaa.Ps.pairN; rw [e1]; show ((pvN (valN en k) (bgK k) en m (a.1, (lackN a.2 m t2.f1))).1, reachN (pvN (valN en k) (bgK k) en m (a.1, (lackN a.2 m t2.f1))).2 m t.f2) = _; rw [e2]⟩
        rw [e2] at f1 f2 f3 f4
        dsimp only at f1 f2 f3 f4
        have HC1 : Aside0 (m < ((c.2).length : Int) ∧ (c.2).length ≤ 1000010) := ⟨by have := HB2.out; omega⟩
        have HCW : Aside0 (Wf c.2) := ⟨f3⟩
        rw [HE.out]
        clear f1 f2 f3 f4 e1 e2 hb3 ht3 hbg hn hV hts hv3 h6 hc
        go_enter Try.func58, Try.ntmps58
        go_upto_region 1 with (first | (go_at_call 31; (with_reducible refine (Ps.next_any g ts ns en D w0 _ HS.out.below HR.out).mono ?_); rw [HTT.out]; rintro e w9 ⟨rfl, hb_⟩; have n0_ := Aside0.mk (HR.out.below hb_); have n1_ := Aside0.mk (HS.out.more hb_); clear HR HS hb_; have HR := n0_; have HS := n1_; clear n0_ n1_) | ((with_reducible refine gate_dst (N := 6) rfl ?_); refine box_event ?hg (N := 6) ?hd (cs := #[.int .i64 0, .int .i64 0, .int .i64 0]) (t := 46) ?hr ?_; (case hd => rfl); (case hg => rfl); (case hr => first | (go_simp; done) | (go_simp; rfl)); intro b hgr w_ hbox hb; have HX_ := Aside0.mk hbox; have HB_ := Aside0.mk hb; have HG_ := Aside0.mk hgr; obtain ⟨v0, v1, v2, v3, v4, v5⟩ := Ps.three hbox; clear hbox hb hgr))
        obtain ⟨hs1, hr1, hb1, hn1⟩ := Ps.boxed (.int .i64 t.f0) (.int .i64 t.f1) (.int .i64 t.f2) HS.out HR.out HB_.out HX_.out HG_.out
        have HGE : Aside0 (w.heap.size ≤ b) := ⟨by rw [HG_.out]; exact HS.out.kept.1⟩
        have HGE0 : Aside0 (w0.heap.size ≤ b) := ⟨by rw [HG_.out]; exact HS.out.below.size⟩
        clear HS HR HB_ HX_ HG_ v0 v1 v2 v3 v4 v5
        have HS := Aside0.mk hs1
        have HR := Aside0.mk hr1
        have BK := Aside0.mk hb1
        have BG := Aside0.mk hn1
        clear hs1 hr1 hb1 hn1
        generalize (((w_.setCell ⟨b, 0, none⟩ (.int .i64 t.f0)).setCell ⟨b, 1, none⟩ (.int .i64 t.f1)).setCell ⟨b, 2, none⟩ (.int .i64 t.f2)) = W1 at HS HR BK ⊢
        obtain ⟨v0, v1, v2, v3, v4, v5⟩ := Ps.three BK.out
        have BN : Aside0 (¬ (b = g ∨ (D b ∧ b ≠ b))) := ⟨fun h => h.elim BG.out (fun h => h.2 rfl)⟩
        go_upto_region 6 with (first | (go_at_call 28; (with_reducible refine (Ps.put_any g ts ns en p 3 t.f1 t.f2 HP.out HL.out HW.out (fun j => D j ∧ j ≠ b) w0 _ HS.out.below HR.out).mono ?_); rw [← HM.out]; rintro e w9 ⟨rfl, hr_, hs_⟩; have n0_ := Aside0.mk hr_; have n1_ := Aside0.mk (HS.out.trans hs_ (fun _ h => h.1)); have n2_ := Aside0.mk (blk_kept BK.out hs_.kept BN.out); clear HR HS BK hr_ hs_ v0 v1 v2 v3 v4 v5; have HR := n0_; have HS := n1_; have BK := n2_; clear n0_ n1_ n2_; obtain ⟨v0, v1, v2, v3, v4, v5⟩ := Ps.three BK.out) | (go_at_call 29; (with_reducible refine (VCP.at HV.out g m ts (putN ns p 3 t.f1 t.f2) d (fun j => D j ∧ j ≠ b) w0 _ HDD.out HBG.out HP2.out.1 HP2.out.2 HPW.out HP3.out HS.out.below HR.out).mono ?_); rw [HA.out]; rintro e w9 ⟨rfl, hr_, hs_⟩; have n0_ := Aside0.mk hr_; have n1_ := Aside0.mk (HS.out.trans hs_ (fun _ h => h.1)); have n2_ := Aside0.mk (blk_kept BK.out hs_.kept BN.out); clear HR HS BK hr_ hs_ v0 v1 v2 v3 v4 v5; have HR := n0_; have HS := n1_; have BK := n2_; clear n0_ n1_ n2_; obtain ⟨v0, v1, v2, v3, v4, v5⟩ := Ps.three BK.out))
        go_upto_region 7 with (first | (go_at_call 31; (with_reducible refine (Ps.next_any g a.1 a.2 en (fun j => D j ∧ j ≠ b) w0 _ HS.out.below HR.out).mono ?_); rw [HT2.out]; rintro e w9 ⟨rfl, hb_⟩; have n0_ := Aside0.mk (HR.out.below hb_); have n1_ := Aside0.mk (HS.out.more hb_); have n2_ := Aside0.mk (blk_below BK.out hb_); clear HR HS BK hb_ v0 v1 v2 v3 v4 v5; have HR := n0_; have HS := n1_; have BK := n2_; clear n0_ n1_ n2_; obtain ⟨v0, v1, v2, v3, v4, v5⟩ := Ps.three BK.out))
        obtain ⟨hs1, hr1, hb1⟩ := Ps.again (.int .i64 t2.f0) (.int .i64 t2.f1) (.int .i64 t2.f2) HS.out HR.out BK.out HGE.out HGE0.out BG.out
        clear HS HR BK v0 v1 v2 v3 v4 v5
        have HS := Aside0.mk hs1
        have HR := Aside0.mk hr1
        have BK := Aside0.mk hb1
        clear hs1 hr1 hb1
        generalize (((w9.setCell ⟨b, 0, none⟩ (.int .i64 t2.f0)).setCell ⟨b, 1, none⟩ (.int .i64 t2.f1)).setCell ⟨b, 2, none⟩ (.int .i64 t2.f2)) = W2 at HS HR BK ⊢
        obtain ⟨v0, v1, v2, v3, v4, v5⟩ := Ps.three BK.out
        go_upto_region 10 with (first | (go_at_call 34; (with_reducible refine (Ps.lack_any g a.1 a.2 en m t2.f1 HP2.out.1 (by have := HA1.out; omega) HA2.out (fun j => D j ∧ j ≠ b) w0 _ HS.out.below HR.out).mono ?_); rintro e w9 ⟨rfl, hr_, hs_⟩; have n0_ := Aside0.mk hr_; have n1_ := Aside0.mk (HS.out.trans hs_ (fun _ h => h.1)); have n2_ := Aside0.mk (blk_kept BK.out hs_.kept BN.out); clear HR HS BK hr_ hs_ v0 v1 v2 v3 v4 v5; have HR := n0_; have HS := n1_; have BK := n2_; clear n0_ n1_ n2_; obtain ⟨v0, v1, v2, v3, v4, v5⟩ := Ps.three BK.out))
        go_upto_region 11 with (first | (go_at_call 31; (with_reducible refine (Ps.next_any g a.1 (lackN a.2 m t2.f1) en (fun j => D j ∧ j ≠ b) w0 _ HS.out.below HR.out).mono ?_); rw [HT3.out]; rintro e w9 ⟨rfl, hb_⟩; have n0_ := Aside0.mk (HR.out.below hb_); have n1_ := Aside0.mk (HS.out.more hb_); have n2_ := Aside0.mk (blk_below BK.out hb_); clear HR HS BK hb_ v0 v1 v2 v3 v4 v5; have HR := n0_; have HS := n1_; have BK := n2_; clear n0_ n1_ n2_; obtain ⟨v0, v1, v2, v3, v4, v5⟩ := Ps.three BK.out))
        obtain ⟨hs1, hr1, hb1⟩ := Ps.again (.int .i64 t3.f0) (.int .i64 t3.f1) (.int .i64 t3.f2) HS.out HR.out BK.out HGE.out HGE0.out BG.out
        clear HS HR BK v0 v1 v2 v3 v4 v5
        have HS := Aside0.mk hs1
        have HR := Aside0.mk hr1
        have BK := Aside0.mk hb1
        clear hs1 hr1 hb1
        generalize (((w9.setCell ⟨b, 0, none⟩ (.int .i64 t3.f0)).setCell ⟨b, 1, none⟩ (.int .i64 t3.f1)).setCell ⟨b, 2, none⟩ (.int .i64 t3.f2)) = W3 at HS HR BK ⊢
        obtain ⟨v0, v1, v2, v3, v4, v5⟩ := Ps.three BK.out
        go_wp2_with (first | (go_at_call 30; (with_reducible refine (Ps.begins_any t3 k d HDD.out _ HB3.out _).mono ?_); rintro e w9 ⟨rfl, hb_⟩; have n0_ := Aside0.mk (HR.out.below hb_); have n1_ := Aside0.mk (HS.out.more hb_); have n2_ := Aside0.mk (blk_below BK.out hb_); clear HR HS BK hb_ v0 v1 v2 v3 v4 v5; have HR := n0_; have HS := n1_; have BK := n2_; clear n0_ n1_ n2_; obtain ⟨v0, v1, v2, v3, v4, v5⟩ := Ps.three BK.out) | (go_at_call 29; (with_reducible refine (VCP.at HV.out g m a.1 (lackN a.2 m t2.f1) d (fun j => D j ∧ j ≠ b) w0 _ HDD.out (by rw [HT3.out]; exact HB3.out) HP2.out.1 HB2.out.1 HBW.out (by have := HB2.out; omega) HS.out.below HR.out).mono ?_); rw [HC.out]; rintro e w9 ⟨rfl, hr_, hs_⟩; have n0_ := Aside0.mk hr_; have n1_ := Aside0.mk (HS.out.trans hs_ (fun _ h => h.1)); have n2_ := Aside0.mk (blk_kept BK.out hs_.kept BN.out); clear HR HS BK hr_ hs_ v0 v1 v2 v3 v4 v5; have HR := n0_; have HS := n1_; have BK := n2_; clear n0_ n1_ n2_; obtain ⟨v0, v1, v2, v3, v4, v5⟩ := Ps.three BK.out) | (go_at_call 59; (with_reducible refine (Ps.reach_any g c.1 c.2 en m t.f2 HP2.out.1 HC1.out.1 HC1.out.2 HCW.out (fun j => D j ∧ j ≠ b) w0 _ HS.out.below HR.out).mono ?_); rintro e w9 ⟨rfl, hr_, hs_⟩; have n0_ := Aside0.mk hr_; have n1_ := Aside0.mk (HS.out.trans hs_ (fun _ h => h.1)); have n2_ := Aside0.mk (blk_kept BK.out hs_.kept BN.out); clear HR HS BK hr_ hs_ v0 v1 v2 v3 v4 v5; have HR := n0_; have HS := n1_; have BK := n2_; clear n0_ n1_ n2_; obtain ⟨v0, v1, v2, v3, v4, v5⟩ := Ps.three BK.out))
        (first | go_end0 | ((try simp only [Exit.inBlock, Exit.then]); refine bodyPost_ret (results_none rfl _ _ _) rfl ?_))
        exact ⟨rfl, HR.out.mono (fun _ h => h.1) HD.out, HS.out⟩
      · have HB3 : Aside0 (bgK k t3 = false) := ⟨by cases hq : bgK k t3 with | true => exact absurd hq hb3 | false => rfl⟩
        have e2 : pvN (valN en k) (bgK k) en m (a.1, (lackN a.2 m t2.f1)) = (a.1, (lackN (lackN a.2 m t2.f1) m t3.f1)) := by unfold Go.Proofs.Ytehojohacombkaa.Ps.pvN; rw [ht3, if_neg hb3]
        have HE : Aside0 (pairN (valN en k) (bgK k) en m t a = (a.1, reachN (lackN (lackN a.2 m t2.f1) m t3.f1) m t.f2)) := ⟨by unfold Go.Proofs.Ytehojohacombkaa.Ps.pairN; rw [e1]; show ((pvN (valN en k) (bgK k) en m (a.1, (lackN a.2 m t2.f1))).1, reachN (pvN (valN en k) (bgK k) en m (a.1, (lackN a.2 m t2.f1))).2 m t.f2) = _; rw [e2]⟩
        rw [e2] at f1 f2 f3 f4
        dsimp only at f1 f2 f3 f4
        have HC1 : Aside0 (m < (((lackN (lackN a.2 m t2.f1) m t3.f1)).length : Int) ∧ ((lackN (lackN a.2 m t2.f1) m t3.f1)).length ≤ 1000010) := ⟨by have := HB2.out; omega⟩
        have HCW : Aside0 (Wf (lackN (lackN a.2 m t2.f1) m t3.f1)) := ⟨f3⟩
        rw [HE.out]
        clear f1 f2 f3 f4 e1 e2 hb3 ht3 hbg hn hV hts hv3 h6
        go_enter Try.func58, Try.ntmps58
        go_upto_region 1 with (first | (go_at_call 31; (with_reducible refine (Ps.next_any g ts ns en D w0 _ HS.out.below HR.out).mono ?_); rw [HTT.out]; rintro e w9 ⟨rfl, hb_⟩; have n0_ := Aside0.mk (HR.out.below hb_); have n1_ := Aside0.mk (HS.out.more hb_); clear HR HS hb_; have HR := n0_; have HS := n1_; clear n0_ n1_) | ((with_reducible refine gate_dst (N := 6) rfl ?_); refine box_event ?hg (N := 6) ?hd (cs := #[.int .i64 0, .int .i64 0, .int .i64 0]) (t := 46) ?hr ?_; (case hd => rfl); (case hg => rfl); (case hr => first | (go_simp; done) | (go_simp; rfl)); intro b hgr w_ hbox hb; have HX_ := Aside0.mk hbox; have HB_ := Aside0.mk hb; have HG_ := Aside0.mk hgr; obtain ⟨v0, v1, v2, v3, v4, v5⟩ := Ps.three hbox; clear hbox hb hgr))
        obtain ⟨hs1, hr1, hb1, hn1⟩ := Ps.boxed (.int .i64 t.f0) (.int .i64 t.f1) (.int .i64 t.f2) HS.out HR.out HB_.out HX_.out HG_.out
        have HGE : Aside0 (w.heap.size ≤ b) := ⟨by rw [HG_.out]; exact HS.out.kept.1⟩
        have HGE0 : Aside0 (w0.heap.size ≤ b) := ⟨by rw [HG_.out]; exact HS.out.below.size⟩
        clear HS HR HB_ HX_ HG_ v0 v1 v2 v3 v4 v5
        have HS := Aside0.mk hs1
        have HR := Aside0.mk hr1
        have BK := Aside0.mk hb1
        have BG := Aside0.mk hn1
        clear hs1 hr1 hb1 hn1
        generalize (((w_.setCell ⟨b, 0, none⟩ (.int .i64 t.f0)).setCell ⟨b, 1, none⟩ (.int .i64 t.f1)).setCell ⟨b, 2, none⟩ (.int .i64 t.f2)) = W1 at HS HR BK ⊢
        obtain ⟨v0, v1, v2, v3, v4, v5⟩ := Ps.three BK.out
        have BN : Aside0 (¬ (b = g ∨ (D b ∧ b ≠ b))) := ⟨fun h => h.elim BG.out (fun h => h.2 rfl)⟩
        go_upto_region 6 with (first | (go_at_call 28; (with_reducible refine (Ps.put_any g ts ns en p 3 t.f1 t.f2 HP.out HL.out HW.out (fun j => D j ∧ j ≠ b) w0 _ HS.out.below HR.out).mono ?_); rw [← HM.out]; rintro e w9 ⟨rfl, hr_, hs_⟩; have n0_ := Aside0.mk hr_; have n1_ := Aside0.mk (HS.out.trans hs_ (fun _ h => h.1)); have n2_ := Aside0.mk (blk_kept BK.out hs_.kept BN.out); clear HR HS BK hr_ hs_ v0 v1 v2 v3 v4 v5; have HR := n0_; have HS := n1_; have BK := n2_; clear n0_ n1_ n2_; obtain ⟨v0, v1, v2, v3, v4, v5⟩ := Ps.three BK.out) | (go_at_call 29; (with_reducible refine (VCP.at HV.out g m ts (putN ns p 3 t.f1 t.f2) d (fun j => D j ∧ j ≠ b) w0 _ HDD.out HBG.out HP2.out.1 HP2.out.2 HPW.out HP3.out HS.out.below HR.out).mono ?_); rw [HA.out]; rintro e w9 ⟨rfl, hr_, hs_⟩; have n0_ := Aside0.mk hr_; have n1_ := Aside0.mk (HS.out.trans hs_ (fun _ h => h.1)); have n2_ := Aside0.mk (blk_kept BK.out hs_.kept BN.out); clear HR HS BK hr_ hs_ v0 v1 v2 v3 v4 v5; have HR := n0_; have HS := n1_; have BK := n2_; clear n0_ n1_ n2_; obtain ⟨v0, v1, v2, v3, v4, v5⟩ := Ps.three BK.out))
        go_upto_region 7 with (first | (go_at_call 31; (with_reducible refine (Ps.next_any g a.1 a.2 en (fun j => D j ∧ j ≠ b) w0 _ HS.out.below HR.out).mono ?_); rw [HT2.out]; rintro e w9 ⟨rfl, hb_⟩; have n0_ := Aside0.mk (HR.out.below hb_); have n1_ := Aside0.mk (HS.out.more hb_); have n2_ := Aside0.mk (blk_below BK.out hb_); clear HR HS BK hb_ v0 v1 v2 v3 v4 v5; have HR := n0_; have HS := n1_; have BK := n2_; clear n0_ n1_ n2_; obtain ⟨v0, v1, v2, v3, v4, v5⟩ := Ps.three BK.out))
        obtain ⟨hs1, hr1, hb1⟩ := Ps.again (.int .i64 t2.f0) (.int .i64 t2.f1) (.int .i64 t2.f2) HS.out HR.out BK.out HGE.out HGE0.out BG.out
        clear HS HR BK v0 v1 v2 v3 v4 v5
        have HS := Aside0.mk hs1
        have HR := Aside0.mk hr1
        have BK := Aside0.mk hb1
        clear hs1 hr1 hb1
        generalize (((w9.setCell ⟨b, 0, none⟩ (.int .i64 t2.f0)).setCell ⟨b, 1, none⟩ (.int .i64 t2.f1)).setCell ⟨b, 2, none⟩ (.int .i64 t2.f2)) = W2 at HS HR BK ⊢
        obtain ⟨v0, v1, v2, v3, v4, v5⟩ := Ps.three BK.out
        go_upto_region 10 with (first | (go_at_call 34; (with_reducible refine (Ps.lack_any g a.1 a.2 en m t2.f1 HP2.out.1 (by have := HA1.out; omega) HA2.out (fun j => D j ∧ j ≠ b) w0 _ HS.out.below HR.out).mono ?_); rintro e w9 ⟨rfl, hr_, hs_⟩; have n0_ := Aside0.mk hr_; have n1_ := Aside0.mk (HS.out.trans hs_ (fun _ h => h.1)); have n2_ := Aside0.mk (blk_kept BK.out hs_.kept BN.out); clear HR HS BK hr_ hs_ v0 v1 v2 v3 v4 v5; have HR := n0_; have HS := n1_; have BK := n2_; clear n0_ n1_ n2_; obtain ⟨v0, v1, v2, v3, v4, v5⟩ := Ps.three BK.out))
        go_upto_region 11 with (first | (go_at_call 31; (with_reducible refine (Ps.next_any g a.1 (lackN a.2 m t2.f1) en (fun j => D j ∧ j ≠ b) w0 _ HS.out.below HR.out).mono ?_); rw [HT3.out]; rintro e w9 ⟨rfl, hb_⟩; have n0_ := Aside0.mk (HR.out.below hb_); have n1_ := Aside0.mk (HS.out.more hb_); have n2_ := Aside0.mk (blk_below BK.out hb_); clear HR HS BK hb_ v0 v1 v2 v3 v4 v5; have HR := n0_; have HS := n1_; have BK := n2_; clear n0_ n1_ n2_; obtain ⟨v0, v1, v2, v3, v4, v5⟩ := Ps.three BK.out))
        obtain ⟨hs1, hr1, hb1⟩ := Ps.again (.int .i64 t3.f0) (.int .i64 t3.f1) (.int .i64 t3.f2) HS.out HR.out BK.out HGE.out HGE0.out BG.out
        clear HS HR BK v0 v1 v2 v3 v4 v5
        have HS := Aside0.mk hs1
        have HR := Aside0.mk hr1
        have BK := Aside0.mk hb1
        clear hs1 hr1 hb1
        generalize (((w9.setCell ⟨b, 0, none⟩ (.int .i64 t3.f0)).setCell ⟨b, 1, none⟩ (.int .i64 t3.f1)).setCell ⟨b, 2, none⟩ (.int .i64 t3.f2)) = W3 at HS HR BK ⊢
        obtain ⟨v0, v1, v2, v3, v4, v5⟩ := Ps.three BK.out
        go_wp2_with (first | (go_at_call 30; (with_reducible refine (Ps.begins_any t3 k d HDD.out _ HB3.out _).mono ?_); rintro e w9 ⟨rfl, hb_⟩; have n0_ := Aside0.mk (HR.out.below hb_); have n1_ := Aside0.mk (HS.out.more hb_); have n2_ := Aside0.mk (blk_below BK.out hb_); clear HR HS BK hb_ v0 v1 v2 v3 v4 v5; have HR := n0_; have HS := n1_; have BK := n2_; clear n0_ n1_ n2_; obtain ⟨v0, v1, v2, v3, v4, v5⟩ := Ps.three BK.out) | (go_at_call 34; (with_reducible refine (Ps.lack_any g a.1 (lackN a.2 m t2.f1) en m t3.f1 HP2.out.1 (by have := HB2.out; omega) HBW.out (fun j => D j ∧ j ≠ b) w0 _ HS.out.below HR.out).mono ?_); rintro e w9 ⟨rfl, hr_, hs_⟩; have n0_ := Aside0.mk hr_; have n1_ := Aside0.mk (HS.out.trans hs_ (fun _ h => h.1)); have n2_ := Aside0.mk (blk_kept BK.out hs_.kept BN.out); clear HR HS BK hr_ hs_ v0 v1 v2 v3 v4 v5; have HR := n0_; have HS := n1_; have BK := n2_; clear n0_ n1_ n2_; obtain ⟨v0, v1, v2, v3, v4, v5⟩ := Ps.three BK.out) | (go_at_call 59; (with_reducible refine (Ps.reach_any g a.1 (lackN (lackN a.2 m t2.f1) m t3.f1) en m t.f2 HP2.out.1 HC1.out.1 HC1.out.2 HCW.out (fun j => D j ∧ j ≠ b) w0 _ HS.out.below HR.out).mono ?_); rintro e w9 ⟨rfl, hr_, hs_⟩; have n0_ := Aside0.mk hr_; have n1_ := Aside0.mk (HS.out.trans hs_ (fun _ h => h.1)); have n2_ := Aside0.mk (blk_kept BK.out hs_.kept BN.out); clear HR HS BK hr_ hs_ v0 v1 v2 v3 v4 v5; have HR := n0_; have HS := n1_; have BK := n2_; clear n0_ n1_ n2_; obtain ⟨v0, v1, v2, v3, v4, v5⟩ := Ps.three BK.out))
        (first | go_end0 | ((try simp only [Exit.inBlock, Exit.then]); refine bodyPost_ret (results_none rfl _ _ _) rfl ?_))
        exact ⟨rfl, HR.out.mono (fun _ h => h.1) HD.out, HS.out⟩
  · have c6 : (t.f0 == 6) = false := beq_eq_false_iff_ne.mpr h6
    have c7 : (t.f0 != 6) = true := bne_iff_ne.mpr h6
    rw [ht, if_neg h6]
    clear hp hp1 hw hB h hd ht hn hV hbg h6
    go_enter Try.func58, Try.ntmps58
    go_upto_region 1 with (first | (go_at_call 31; (with_reducible refine (Ps.next_any g ts ns en D w0 _ HS.out.below HR.out).mono ?_); rw [HTT.out]; rintro e w9 ⟨rfl, hb_⟩; have n0_ := Aside0.mk (HR.out.below hb_); have n1_ := Aside0.mk (HS.out.more hb_); clear HR HS hb_; have HR := n0_; have HS := n1_; clear n0_ n1_) | ((with_reducible refine gate_dst (N := 6) rfl ?_); refine box_event ?hg (N := 6) ?hd (cs := #[.int .i64 0, .int .i64 0, .int .i64 0]) (t := 46) ?hr ?_; (case hd => rfl); (case hg => rfl); (case hr => first | (go_simp; done) | (go_simp; rfl)); intro b hgr w_ hbox hb; have HX_ := Aside0.mk hbox; have HB_ := Aside0.mk hb; have HG_ := Aside0.mk hgr; obtain ⟨v0, v1, v2, v3, v4, v5⟩ := Ps.three hbox; clear hbox hb hgr))
    obtain ⟨hs1, hr1, hb1, hn1⟩ := Ps.boxed (.int .i64 t.f0) (.int .i64 t.f1) (.int .i64 t.f2) HS.out HR.out HB_.out HX_.out HG_.out
    have HGE : Aside0 (w.heap.size ≤ b) := ⟨by rw [HG_.out]; exact HS.out.kept.1⟩
    have HGE0 : Aside0 (w0.heap.size ≤ b) := ⟨by rw [HG_.out]; exact HS.out.below.size⟩
    clear HS HR HB_ HX_ HG_ v0 v1 v2 v3 v4 v5
    have HS := Aside0.mk hs1
    have HR := Aside0.mk hr1
    have BK := Aside0.mk hb1
    have BG := Aside0.mk hn1
    clear hs1 hr1 hb1 hn1
    generalize (((w_.setCell ⟨b, 0, none⟩ (.int .i64 t.f0)).setCell ⟨b, 1, none⟩ (.int .i64 t.f1)).setCell ⟨b, 2, none⟩ (.int .i64 t.f2)) = W1 at HS HR BK ⊢
    obtain ⟨v0, v1, v2, v3, v4, v5⟩ := Ps.three BK.out
    have BN : Aside0 (¬ (b = g ∨ (D b ∧ b ≠ b))) := ⟨fun h => h.elim BG.out (fun h => h.2 rfl)⟩
    go_wp2_with (first | (go_at_call 33; (with_reducible refine (Ps.wrapped_any k g p ts ns en d HV.out (fun j => D j ∧ j ≠ b) w0 _ HDD.out HBG.out HP.out HP1.out HW.out HRM.out HS.out.below HR.out).mono ?_); rintro e w9 ⟨rfl, hr_, hs_⟩; have n0_ := Aside0.mk hr_; have n1_ := Aside0.mk (HS.out.trans hs_ (fun _ h => h.1)); have n2_ := Aside0.mk (blk_kept BK.out hs_.kept BN.out); clear HR HS BK hr_ hs_ v0 v1 v2 v3 v4 v5; have HR := n0_; have HS := n1_; have BK := n2_; clear n0_ n1_ n2_; obtain ⟨v0, v1, v2, v3, v4, v5⟩ := Ps.three BK.out))
    (first | go_end0 | ((try simp only [Exit.inBlock, Exit.then]); refine bodyPost_ret (results_none rfl _ _ _) rfl ?_))
    exact ⟨rfl, HR.out.mono (fun _ h => h.1) HD.out, HS.out⟩
end Go.Proofs.Ytehojohacombkaa.G
