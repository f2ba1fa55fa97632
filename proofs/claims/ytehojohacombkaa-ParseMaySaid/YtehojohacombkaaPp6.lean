/- The parser's list by its contract. (Written by mkps6.py of this session.) -/
import Derived.Test.YtehojohacombkaaPp5
namespace Go.Proofs.Ytehojohacombkaa.G
open Go.RowKit Go.Proofs.YtehojohacombkaaW.PrintWords Go.Proofs.YtehojohacombkaaW.PrintLast Go.Proofs.YtehojohacombkaaW.PrintMore
open Go.Proofs.Ytehojohacombkaa.Lx (Tk)
open Go.Proofs.Ytehojohacombkaa.Ps (Nd St One nd rdn withKid withTo kidAdd putN setTo lastKid reachN lackN nextT bgK Wf scal listN wrapN colN pvN pairN memN valN mainN Stp OneOk)
set_option linter.unusedVariables false
set_option linter.unusedSimpArgs false
theorem IsP.cells {w0 W : World} {g : Nat} {D : Nat → Prop} {ts : List Tk} {ns : List Nd} {en : Int} (h : IsP w0 W g D ts ns en) : ∃ A c v, W.cell? ⟨g, 0, none⟩ = some (.slice A ts.length c) ∧ W.cell? ⟨g, 1, none⟩ = some v ∧ W.cell? ⟨g, 2, none⟩ = some (.int .i64 en) := by
  obtain ⟨A, c, v, h1, -⟩ := h
  obtain ⟨x0, x1, x2, -⟩ := Ps.three h1
  exact ⟨A, c, v, x0, x1, x2⟩
set_option maxHeartbeats 16000000 in
set_option maxRecDepth 100000 in
theorem Ps.list_mem (k : Nat) (hk : k ≤ 12) (g : Nat) (c id : Int) (ts : List Tk) (ns : List Nd) (en d : Int) (hV : VCP en k) (D : Nat → Prop) (w0 w : World) (hd : d = 12 - (k : Int)) (h0 : 0 ≤ id) (h1 : id < (ns.length : Int)) (hw : Wf ns) (N : Nat) (hN : ts.length < N) (hn : ns.length + 6 * ts.length ≤ 899998) (hB : Below w0.heap.size w0 w) (h : IsP w0 w g D ts ns en) :
    Calls Try.prog 57 #[.pointer (some ⟨g, 0, none⟩), .int .i64 id, .int .i64 d, .int .i64 c, (.func (.func 58) #[.pointer (some ⟨g, 0, none⟩)] #[])] w (PPost w0 w g D en (listN (memN (valN en k) (bgK k) en) (bgK k) en c id N 0 ts ns)) := by
  have HS := Aside0.mk (PStep.refl hB (g := g) (D := D))
  have HR := Aside0.mk h
  have HD := Aside0.mk h.notD
  have HV := Aside0.mk hV
  have HOK := Aside0.mk (Ps.mem_ok (Ps.val_ok en k) k en : OneOk (memN (valN en k) (bgK k) en) 1)
  obtain ⟨dd, hdd⟩ : ∃ dd, dd = d + 1 := ⟨_, rfl⟩
  have wd : IntKind.i64.wrap (d + 1) = dd := by rw [i64_w, hdd]; unfold wrap64; omega
  have HDD : Aside0 (dd = 13 - (k : Int)) := ⟨by omega⟩
  have HI := Aside0.mk h0
  obtain ⟨R, hR⟩ : ∃ R, listN (memN (valN en k) (bgK k) en) (bgK k) en c id N 0 ts ns = R := ⟨_, rfl⟩
  rw [hR]
  have HRR := Aside0.mk hR
  have HF := Aside0.mk (And.intro h1 (And.intro hw (And.intro hN hn)))
  clear hB h hV hd hdd h0 hR h1 hw hN hn hk
  go_enter Try.func57, Try.ntmps57
  go_upto_region 1 with (fail)
  go_loopg [10] N (fun kq v10 wr => ∃ (us : List Tk) (ms : List Nd) (s : Int) (n : Nat), v10 = .int .i64 s ∧ Aside0 (listN (memN (valN en k) (bgK k) en) (bgK k) en c id n s us ms = R) ∧ Aside0 (us.length < n ∧ n ≤ kq) ∧ Aside0 (PStep w0 w wr g D) ∧ Aside0 (IsP w0 wr g D us ms en) ∧ Aside0 (Wf ms) ∧ Aside0 (id < (ms.length : Int) ∧ ms.length + 6 * us.length ≤ 899998))
  case atStart => exact ⟨ts, ns, 0, N, rfl, HRR, ⟨HF.out.2.2.1, Nat.le_refl _⟩, HS, HR, ⟨HF.out.2.1⟩, ⟨HF.out.1, HF.out.2.2.2⟩⟩
  case round =>
    clear HS HR HRR HF
    obtain ⟨us, ms, s, n, rfl, HRR, HN, HS, HR, HW, HL⟩ := hrel
    cases gk with
    | zero => exact absurd HN.out (by omega)
    | succ k1 =>
      cases n with
      | zero => exact absurd HN.out (by omega)
      | succ n =>
        have hl := HRR.out
        obtain ⟨t, ht⟩ : ∃ t, nextT en us = t := ⟨_, rfl⟩
        have HTT := Aside0.mk ht
        obtain ⟨n0, hn0⟩ : ∃ n0, n0 = us.length := ⟨_, rfl⟩
        clear HRR
        cases us with
        | nil =>
          rw [Go.Proofs.Ytehojohacombkaa.Ps.listN] at hl
          have c0 : ((n0 : Int) == 0) = true := beq_iff_eq.mpr (by rw [hn0]; rfl)
          have HLL := Aside0.mk hl
          have hpl := Ps.putN_len ms id 7 en en
          have HP1 : Aside0 (id < ((lackN ms id en).length : Int) ∧ (lackN ms id en).length ≤ 1000010) := ⟨by have := HL.out; unfold Go.Proofs.Ytehojohacombkaa.Ps.lackN; omega⟩
          have HP2 : Aside0 (Wf (lackN ms id en)) := ⟨Ps.putN_wf HW.out _ _ _ _ HI.out⟩
          clear hl hpl ht
          go_upto_region 3 with (first | (go_at_call 31; (with_reducible refine (Ps.next_any g _ ms en D w0 _ HS.out.below HR.out).mono ?_); rw [HTT.out]; rintro e w9 ⟨rfl, hb_⟩; have n0_ := Aside0.mk (HR.out.below hb_); have n1_ := Aside0.mk (HS.out.more hb_); clear HR HS hb_; have HR := n0_; have HS := n1_; clear n0_ n1_) | ((with_reducible refine gate_dst (N := 11) rfl ?_); refine box_event ?hg (N := 11) ?hd (cs := #[.int .i64 0, .int .i64 0, .int .i64 0]) (t := 46) ?hr ?_; (case hd => rfl); (case hg => rfl); (case hr => first | (go_simp; done) | (go_simp; rfl)); intro b hgr w_ hbox hb; have HX_ := Aside0.mk hbox; have HB_ := Aside0.mk hb; have HG_ := Aside0.mk hgr; obtain ⟨v0, v1, v2, v3, v4, v5⟩ := Ps.three hbox; clear hbox hb hgr))
          obtain ⟨hs1, hr1, hb1, hn1⟩ := Ps.boxed (.int .i64 t.f0) (.int .i64 t.f1) (.int .i64 t.f2) HS.out HR.out HB_.out HX_.out HG_.out
          have HGE : Aside0 (w.heap.size ≤ b) := ⟨by rw [HG_.out]; exact HS.out.kept.1⟩
          have HGE0 : Aside0 (w0.heap.size ≤ b) := ⟨by rw [HG_.out]; exact HS.out.below.size⟩
          clear HS HR HB_ HX_ HG_ v0 v1 v2 v3 v4 v5
          have HS := Aside0.mk hs1
          have HR := Aside0.mk hr1
          have BK := Aside0.mk hb1
          have BG := Aside0.mk hn1
          clear hs1 hr1 hb1 hn1
          generalize (((w_.setCell ⟨b, 0, none⟩ (.int .i64 t.f0)).setCell ⟨b, 1, none⟩ (.int .i64 t.f1)).setCell ⟨b, 2, none⟩ (.int .i64 t.f2)) = W1 at HS HR BK ⊢
          obtain ⟨v0, v1, v2, v3, v4, v5⟩ := Ps.three BK.out
          have BN : Aside0 (¬ (b = g ∨ (D b ∧ b ≠ b))) := ⟨fun h => h.elim BG.out (fun h => h.2 rfl)⟩
          obtain ⟨A_, cc_, vv_, x0, x1, x2⟩ := HR.out.cells
          rw [← hn0] at x0
          clear hn0
          go_wp2_with (first | (go_at_call 34; (with_reducible refine (Ps.lack_any g [] ms en id en HI.out (by have := HL.out; omega) HW.out (fun j => D j ∧ j ≠ b) w0 _ HS.out.below HR.out).mono ?_); rintro e w9 ⟨rfl, hr_, hs_⟩; have n0_ := Aside0.mk hr_; have n1_ := Aside0.mk (HS.out.trans hs_ (fun _ h => h.1)); have n2_ := Aside0.mk (blk_kept BK.out hs_.kept BN.out); clear HR HS BK hr_ hs_ v0 v1 v2 v3 v4 v5; have HR := n0_; have HS := n1_; have BK := n2_; clear n0_ n1_ n2_; obtain ⟨v0, v1, v2, v3, v4, v5⟩ := Ps.three BK.out; clear x0 x1 x2; obtain ⟨A_, cc_, vv_, x0, x1, x2⟩ := HR.out.cells) | (go_at_call 59; (with_reducible refine (Ps.reach_any g [] (lackN ms id en) en id en HI.out HP1.out.1 HP1.out.2 HP2.out (fun j => D j ∧ j ≠ b) w0 _ HS.out.below HR.out).mono ?_); rintro e w9 ⟨rfl, hr_, hs_⟩; have n0_ := Aside0.mk hr_; have n1_ := Aside0.mk (HS.out.trans hs_ (fun _ h => h.1)); have n2_ := Aside0.mk (blk_kept BK.out hs_.kept BN.out); clear HR HS BK hr_ hs_ v0 v1 v2 v3 v4 v5; have HR := n0_; have HS := n1_; have BK := n2_; clear n0_ n1_ n2_; obtain ⟨v0, v1, v2, v3, v4, v5⟩ := Ps.three BK.out; clear x0 x1 x2; obtain ⟨A_, cc_, vv_, x0, x1, x2⟩ := HR.out.cells))
          (first | go_end0 | ((try simp only [Exit.inBlock, Exit.then]); refine bodyPost_ret (results_none rfl _ _ _) rfl ?_))
          rw [← HLL.out]
          exact ⟨rfl, HR.out.mono (fun _ h => h.1) HD.out, HS.out⟩
        | cons t' r =>
          obtain rfl : t' = t := ht
          rw [Go.Proofs.Ytehojohacombkaa.Ps.listN] at hl
          have c0 : ((n0 : Int) == 0) = false := beq_eq_false_iff_ne.mpr (by rw [hn0]; simp only [List.length_cons]; omega)
          have HNE : Aside0 (t' :: r ≠ []) := ⟨by simp⟩
          have HLR : Aside0 (ms.length + 6 * r.length ≤ 899992 ∧ r.length < n) := ⟨by have h1_ := HL.out; have h2_ := HN.out; simp only [List.length_cons] at h1_ h2_; omega⟩
          by_cases hc : t'.f0 = c
          · have cc : (t'.f0 == c) = true := beq_iff_eq.mpr hc
            rw [if_pos hc] at hl
            clear hc
            by_cases hs : s = 2
            · have cs : (s == 2) = true := beq_iff_eq.mpr hs
              rw [if_pos hs] at hl
              have HLL := Aside0.mk hl
              have hpl := Ps.putN_len ms id 7 t'.f1 t'.f1
              have HP1 : Aside0 (id < (((lackN ms id t'.f1)).length : Int) ∧ ((lackN ms id t'.f1)).length ≤ 1000010) := ⟨by have := HL.out; unfold Go.Proofs.Ytehojohacombkaa.Ps.lackN; omega⟩
              have HP2 : Aside0 (Wf (lackN ms id t'.f1)) := ⟨Ps.putN_wf HW.out _ _ _ _ HI.out⟩
              clear hl hpl hs
              go_upto_region 3 with (first | (go_at_call 31; (with_reducible refine (Ps.next_any g _ ms en D w0 _ HS.out.below HR.out).mono ?_); rw [HTT.out]; rintro e w9 ⟨rfl, hb_⟩; have n0_ := Aside0.mk (HR.out.below hb_); have n1_ := Aside0.mk (HS.out.more hb_); clear HR HS hb_; have HR := n0_; have HS := n1_; clear n0_ n1_) | ((with_reducible refine gate_dst (N := 11) rfl ?_); refine box_event ?hg (N := 11) ?hd (cs := #[.int .i64 0, .int .i64 0, .int .i64 0]) (t := 46) ?hr ?_; (case hd => rfl); (case hg => rfl); (case hr => first | (go_simp; done) | (go_simp; rfl)); intro b hgr w_ hbox hb; have HX_ := Aside0.mk hbox; have HB_ := Aside0.mk hb; have HG_ := Aside0.mk hgr; obtain ⟨v0, v1, v2, v3, v4, v5⟩ := Ps.three hbox; clear hbox hb hgr))
              obtain ⟨hs1, hr1, hb1, hn1⟩ := Ps.boxed (.int .i64 t'.f0) (.int .i64 t'.f1) (.int .i64 t'.f2) HS.out HR.out HB_.out HX_.out HG_.out
              have HGE : Aside0 (w.heap.size ≤ b) := ⟨by rw [HG_.out]; exact HS.out.kept.1⟩
              have HGE0 : Aside0 (w0.heap.size ≤ b) := ⟨by rw [HG_.out]; exact HS.out.below.size⟩
              clear HS HR HB_ HX_ HG_ v0 v1 v2 v3 v4 v5
              have HS := Aside0.mk hs1
              have HR := Aside0.mk hr1
              have BK := Aside0.mk hb1
              have BG := Aside0.mk hn1
              clear hs1 hr1 hb1 hn1
              generalize (((w_.setCell ⟨b, 0, none⟩ (.int .i64 t'.f0)).setCell ⟨b, 1, none⟩ (.int .i64 t'.f1)).setCell ⟨b, 2, none⟩ (.int .i64 t'.f2)) = W1 at HS HR BK ⊢
              obtain ⟨v0, v1, v2, v3, v4, v5⟩ := Ps.three BK.out
              have BN : Aside0 (¬ (b = g ∨ (D b ∧ b ≠ b))) := ⟨fun h => h.elim BG.out (fun h => h.2 rfl)⟩
              obtain ⟨A_, cc_, vv_, x0, x1, x2⟩ := HR.out.cells
              rw [← hn0] at x0
              clear hn0
              have hfd := Ps.field2 t'.f0 t'.f1 t'.f2
              go_wp2_with (first | (go_at_call 34; (with_reducible refine (Ps.lack_any g (t' :: r) ms en id t'.f1 HI.out (by have := HL.out; omega) HW.out (fun j => D j ∧ j ≠ b) w0 _ HS.out.below HR.out).mono ?_); rintro e w9 ⟨rfl, hr_, hs_⟩; have n0_ := Aside0.mk hr_; have n1_ := Aside0.mk (HS.out.trans hs_ (fun _ h => h.1)); have n2_ := Aside0.mk (blk_kept BK.out hs_.kept BN.out); clear HR HS BK hr_ hs_ v0 v1 v2 v3 v4 v5; have HR := n0_; have HS := n1_; have BK := n2_; clear n0_ n1_ n2_; obtain ⟨v0, v1, v2, v3, v4, v5⟩ := Ps.three BK.out; clear x0 x1 x2; obtain ⟨A_, cc_, vv_, x0, x1, x2⟩ := HR.out.cells) | (go_at_call 55; (with_reducible refine (Ps.take_any g (t' :: r) HNE.out (lackN ms id t'.f1) en (fun j => D j ∧ j ≠ b) w0 _ HS.out.below HR.out).mono ?_); rw [HTT.out]; rintro e w9 ⟨rfl, hr_, hs_⟩; have n0_ := Aside0.mk hr_; have n1_ := Aside0.mk (HS.out.trans hs_ (fun _ h => h.1)); have n2_ := Aside0.mk (blk_kept BK.out hs_.kept BN.out); clear HR HS BK hr_ hs_ v0 v1 v2 v3 v4 v5; have HR := n0_; have HS := n1_; have BK := n2_; clear n0_ n1_ n2_; obtain ⟨v0, v1, v2, v3, v4, v5⟩ := Ps.three BK.out; clear x0 x1 x2; obtain ⟨A_, cc_, vv_, x0, x1, x2⟩ := HR.out.cells) | (go_at_call 59; (with_reducible refine (Ps.reach_any g _ (lackN ms id t'.f1) en id t'.f2 HI.out HP1.out.1 HP1.out.2 HP2.out (fun j => D j ∧ j ≠ b) w0 _ HS.out.below HR.out).mono ?_); rintro e w9 ⟨rfl, hr_, hs_⟩; have n0_ := Aside0.mk hr_; have n1_ := Aside0.mk (HS.out.trans hs_ (fun _ h => h.1)); have n2_ := Aside0.mk (blk_kept BK.out hs_.kept BN.out); clear HR HS BK hr_ hs_ v0 v1 v2 v3 v4 v5; have HR := n0_; have HS := n1_; have BK := n2_; clear n0_ n1_ n2_; obtain ⟨v0, v1, v2, v3, v4, v5⟩ := Ps.three BK.out; clear x0 x1 x2; obtain ⟨A_, cc_, vv_, x0, x1, x2⟩ := HR.out.cells))
              (first | go_end0 | ((try simp only [Exit.inBlock, Exit.then]); refine bodyPost_ret (results_none rfl _ _ _) rfl ?_))
              rw [← HLL.out]
              exact ⟨rfl, HR.out.mono (fun _ h => h.1) HD.out, HS.out⟩
            · have cs : (s == 2) = false := beq_eq_false_iff_ne.mpr hs
              rw [if_neg hs] at hl
              have HLL := Aside0.mk hl
              have hpl := Ps.putN_len ms id 7 t'.f1 t'.f1
              have HP1 : Aside0 (id < ((ms).length : Int) ∧ (ms).length ≤ 1000010) := ⟨by have := HL.out; omega⟩
              have HP2 : Aside0 (Wf ms) := ⟨HW.out⟩
              clear hl hpl hs
              go_upto_region 3 with (first | (go_at_call 31; (with_reducible refine (Ps.next_any g _ ms en D w0 _ HS.out.below HR.out).mono ?_); rw [HTT.out]; rintro e w9 ⟨rfl, hb_⟩; have n0_ := Aside0.mk (HR.out.below hb_); have n1_ := Aside0.mk (HS.out.more hb_); clear HR HS hb_; have HR := n0_; have HS := n1_; clear n0_ n1_) | ((with_reducible refine gate_dst (N := 11) rfl ?_); refine box_event ?hg (N := 11) ?hd (cs := #[.int .i64 0, .int .i64 0, .int .i64 0]) (t := 46) ?hr ?_; (case hd => rfl); (case hg => rfl); (case hr => first | (go_simp; done) | (go_simp; rfl)); intro b hgr w_ hbox hb; have HX_ := Aside0.mk hbox; have HB_ := Aside0.mk hb; have HG_ := Aside0.mk hgr; obtain ⟨v0, v1, v2, v3, v4, v5⟩ := Ps.three hbox; clear hbox hb hgr))
              obtain ⟨hs1, hr1, hb1, hn1⟩ := Ps.boxed (.int .i64 t'.f0) (.int .i64 t'.f1) (.int .i64 t'.f2) HS.out HR.out HB_.out HX_.out HG_.out
              have HGE : Aside0 (w.heap.size ≤ b) := ⟨by rw [HG_.out]; exact HS.out.kept.1⟩
              have HGE0 : Aside0 (w0.heap.size ≤ b) := ⟨by rw [HG_.out]; exact HS.out.below.size⟩
              clear HS HR HB_ HX_ HG_ v0 v1 v2 v3 v4 v5
              have HS := Aside0.mk hs1
              have HR := Aside0.mk hr1
              have BK := Aside0.mk hb1
              have BG := Aside0.mk hn1
              clear hs1 hr1 hb1 hn1
              generalize (((w_.setCell ⟨b, 0, none⟩ (.int .i64 t'.f0)).setCell ⟨b, 1, none⟩ (.int .i64 t'.f1)).setCell ⟨b, 2, none⟩ (.int .i64 t'.f2)) = W1 at HS HR BK ⊢
              obtain ⟨v0, v1, v2, v3, v4, v5⟩ := Ps.three BK.out
              have BN : Aside0 (¬ (b = g ∨ (D b ∧ b ≠ b))) := ⟨fun h => h.elim BG.out (fun h => h.2 rfl)⟩
              obtain ⟨A_, cc_, vv_, x0, x1, x2⟩ := HR.out.cells
              rw [← hn0] at x0
              clear hn0
              have hfd := Ps.field2 t'.f0 t'.f1 t'.f2
              go_wp2_with (first | (go_at_call 55; (with_reducible refine (Ps.take_any g (t' :: r) HNE.out ms en (fun j => D j ∧ j ≠ b) w0 _ HS.out.below HR.out).mono ?_); rw [HTT.out]; rintro e w9 ⟨rfl, hr_, hs_⟩; have n0_ := Aside0.mk hr_; have n1_ := Aside0.mk (HS.out.trans hs_ (fun _ h => h.1)); have n2_ := Aside0.mk (blk_kept BK.out hs_.kept BN.out); clear HR HS BK hr_ hs_ v0 v1 v2 v3 v4 v5; have HR := n0_; have HS := n1_; have BK := n2_; clear n0_ n1_ n2_; obtain ⟨v0, v1, v2, v3, v4, v5⟩ := Ps.three BK.out; clear x0 x1 x2; obtain ⟨A_, cc_, vv_, x0, x1, x2⟩ := HR.out.cells) | (go_at_call 59; (with_reducible refine (Ps.reach_any g _ ms en id t'.f2 HI.out HP1.out.1 HP1.out.2 HP2.out (fun j => D j ∧ j ≠ b) w0 _ HS.out.below HR.out).mono ?_); rintro e w9 ⟨rfl, hr_, hs_⟩; have n0_ := Aside0.mk hr_; have n1_ := Aside0.mk (HS.out.trans hs_ (fun _ h => h.1)); have n2_ := Aside0.mk (blk_kept BK.out hs_.kept BN.out); clear HR HS BK hr_ hs_ v0 v1 v2 v3 v4 v5; have HR := n0_; have HS := n1_; have BK := n2_; clear n0_ n1_ n2_; obtain ⟨v0, v1, v2, v3, v4, v5⟩ := Ps.three BK.out; clear x0 x1 x2; obtain ⟨A_, cc_, vv_, x0, x1, x2⟩ := HR.out.cells))
              (first | go_end0 | ((try simp only [Exit.inBlock, Exit.then]); refine bodyPost_ret (results_none rfl _ _ _) rfl ?_))
              rw [← HLL.out]
              exact ⟨rfl, HR.out.mono (fun _ h => h.1) HD.out, HS.out⟩
          · have cc : (t'.f0 == c) = false := beq_eq_false_iff_ne.mpr hc
            rw [if_neg hc] at hl
            clear hc
            by_cases h5 : t'.f0 = 5
            · have c5 : (t'.f0 == 5) = true := beq_iff_eq.mpr h5
              have HB5 : Aside0 (bgK k t' = false) := ⟨by unfold Go.Proofs.Ytehojohacombkaa.Ps.bgK; rw [h5]; rfl⟩
              by_cases hs : s = 1
              · have cs : (s == 1) = true := beq_iff_eq.mpr hs
                rw [if_pos ⟨h5, hs⟩] at hl
                have HLL := Aside0.mk hl
                clear hl h5 hs
                go_upto_region 3 with (first | (go_at_call 31; (with_reducible refine (Ps.next_any g _ ms en D w0 _ HS.out.below HR.out).mono ?_); rw [HTT.out]; rintro e w9 ⟨rfl, hb_⟩; have n0_ := Aside0.mk (HR.out.below hb_); have n1_ := Aside0.mk (HS.out.more hb_); clear HR HS hb_; have HR := n0_; have HS := n1_; clear n0_ n1_) | ((with_reducible refine gate_dst (N := 11) rfl ?_); refine box_event ?hg (N := 11) ?hd (cs := #[.int .i64 0, .int .i64 0, .int .i64 0]) (t := 46) ?hr ?_; (case hd => rfl); (case hg => rfl); (case hr => first | (go_simp; done) | (go_simp; rfl)); intro b hgr w_ hbox hb; have HX_ := Aside0.mk hbox; have HB_ := Aside0.mk hb; have HG_ := Aside0.mk hgr; obtain ⟨v0, v1, v2, v3, v4, v5⟩ := Ps.three hbox; clear hbox hb hgr))
                obtain ⟨hs1, hr1, hb1, hn1⟩ := Ps.boxed (.int .i64 t'.f0) (.int .i64 t'.f1) (.int .i64 t'.f2) HS.out HR.out HB_.out HX_.out HG_.out
                have HGE : Aside0 (w.heap.size ≤ b) := ⟨by rw [HG_.out]; exact HS.out.kept.1⟩
                have HGE0 : Aside0 (w0.heap.size ≤ b) := ⟨by rw [HG_.out]; exact HS.out.below.size⟩
                clear HS HR HB_ HX_ HG_ v0 v1 v2 v3 v4 v5
                have HS := Aside0.mk hs1
                have HR := Aside0.mk hr1
                have BK := Aside0.mk hb1
                have BG := Aside0.mk hn1
                clear hs1 hr1 hb1 hn1
                generalize (((w_.setCell ⟨b, 0, none⟩ (.int .i64 t'.f0)).setCell ⟨b, 1, none⟩ (.int .i64 t'.f1)).setCell ⟨b, 2, none⟩ (.int .i64 t'.f2)) = W1 at HS HR BK ⊢
                obtain ⟨v0, v1, v2, v3, v4, v5⟩ := Ps.three BK.out
                have BN : Aside0 (¬ (b = g ∨ (D b ∧ b ≠ b))) := ⟨fun h => h.elim BG.out (fun h => h.2 rfl)⟩
                obtain ⟨A_, cc_, vv_, x0, x1, x2⟩ := HR.out.cells
                rw [← hn0] at x0
                clear hn0
                go_wp2_with (first | (go_at_call 55; (with_reducible refine (Ps.take_any g (t' :: r) HNE.out ms en (fun j => D j ∧ j ≠ b) w0 _ HS.out.below HR.out).mono ?_); rw [HTT.out]; rintro e w9 ⟨rfl, hr_, hs_⟩; have n0_ := Aside0.mk hr_; have n1_ := Aside0.mk (HS.out.trans hs_ (fun _ h => h.1)); have n2_ := Aside0.mk (blk_kept BK.out hs_.kept BN.out); clear HR HS BK hr_ hs_ v0 v1 v2 v3 v4 v5; have HR := n0_; have HS := n1_; have BK := n2_; clear n0_ n1_ n2_; obtain ⟨v0, v1, v2, v3, v4, v5⟩ := Ps.three BK.out; clear x0 x1 x2; obtain ⟨A_, cc_, vv_, x0, x1, x2⟩ := HR.out.cells))
                go_roundg k1
                case measure => have := HN.out; omega
                case rel => exact ⟨r, ms, 2, n, rfl, HLL, ⟨by have := HLR.out; omega, by have := HN.out; omega⟩, HS, ⟨HR.out.mono (fun _ h => h.1) HD.out⟩, ⟨HW.out⟩, ⟨by have h1_ := HLR.out; have h2_ := HL.out; omega⟩⟩
              · have cs : (s == 1) = false := beq_eq_false_iff_ne.mpr hs
                rw [if_neg (fun h => hs h.2)] at hl
                rw [HB5.out, if_neg (by decide)] at hl
                have HLL := Aside0.mk hl
                have hpl := Ps.putN_len ms id 7 t'.f1 t'.f2
                have HP1 : Aside0 ((putN ms id 7 t'.f1 t'.f2).length = ms.length + 1) := ⟨hpl⟩
                clear hl hpl h5 hs
                go_upto_region 3 with (first | (go_at_call 31; (with_reducible refine (Ps.next_any g _ ms en D w0 _ HS.out.below HR.out).mono ?_); rw [HTT.out]; rintro e w9 ⟨rfl, hb_⟩; have n0_ := Aside0.mk (HR.out.below hb_); have n1_ := Aside0.mk (HS.out.more hb_); clear HR HS hb_; have HR := n0_; have HS := n1_; clear n0_ n1_) | ((with_reducible refine gate_dst (N := 11) rfl ?_); refine box_event ?hg (N := 11) ?hd (cs := #[.int .i64 0, .int .i64 0, .int .i64 0]) (t := 46) ?hr ?_; (case hd => rfl); (case hg => rfl); (case hr => first | (go_simp; done) | (go_simp; rfl)); intro b hgr w_ hbox hb; have HX_ := Aside0.mk hbox; have HB_ := Aside0.mk hb; have HG_ := Aside0.mk hgr; obtain ⟨v0, v1, v2, v3, v4, v5⟩ := Ps.three hbox; clear hbox hb hgr))
                obtain ⟨hs1, hr1, hb1, hn1⟩ := Ps.boxed (.int .i64 t'.f0) (.int .i64 t'.f1) (.int .i64 t'.f2) HS.out HR.out HB_.out HX_.out HG_.out
                have HGE : Aside0 (w.heap.size ≤ b) := ⟨by rw [HG_.out]; exact HS.out.kept.1⟩
                have HGE0 : Aside0 (w0.heap.size ≤ b) := ⟨by rw [HG_.out]; exact HS.out.below.size⟩
                clear HS HR HB_ HX_ HG_ v0 v1 v2 v3 v4 v5
                have HS := Aside0.mk hs1
                have HR := Aside0.mk hr1
                have BK := Aside0.mk hb1
                have BG := Aside0.mk hn1
                clear hs1 hr1 hb1 hn1
                generalize (((w_.setCell ⟨b, 0, none⟩ (.int .i64 t'.f0)).setCell ⟨b, 1, none⟩ (.int .i64 t'.f1)).setCell ⟨b, 2, none⟩ (.int .i64 t'.f2)) = W1 at HS HR BK ⊢
                obtain ⟨v0, v1, v2, v3, v4, v5⟩ := Ps.three BK.out
                have BN : Aside0 (¬ (b = g ∨ (D b ∧ b ≠ b))) := ⟨fun h => h.elim BG.out (fun h => h.2 rfl)⟩
                obtain ⟨A_, cc_, vv_, x0, x1, x2⟩ := HR.out.cells
                rw [← hn0] at x0
                clear hn0
                go_wp2_with (first | (go_at_call 30; (with_reducible refine (Ps.begins_any t' k dd HDD.out _ HB5.out _).mono ?_); rintro e w9 ⟨rfl, hb_⟩; have n0_ := Aside0.mk (HR.out.below hb_); have n1_ := Aside0.mk (HS.out.more hb_); have n2_ := Aside0.mk (blk_below BK.out hb_); clear HR HS BK hb_ v0 v1 v2 v3 v4 v5; have HR := n0_; have HS := n1_; have BK := n2_; clear n0_ n1_ n2_; obtain ⟨v0, v1, v2, v3, v4, v5⟩ := Ps.three BK.out; clear x0 x1 x2; obtain ⟨A_, cc_, vv_, x0, x1, x2⟩ := HR.out.cells) | (go_at_call 32; (with_reducible refine (Ps.stray_any g (t' :: r) HNE.out ms en id HI.out (by have := HL.out; omega) HW.out (fun j => D j ∧ j ≠ b) w0 _ HS.out.below HR.out).mono ?_); rw [HTT.out]; rintro e w9 ⟨rfl, hr_, hs_⟩; have n0_ := Aside0.mk hr_; have n1_ := Aside0.mk (HS.out.trans hs_ (fun _ h => h.1)); have n2_ := Aside0.mk (blk_kept BK.out hs_.kept BN.out); clear HR HS BK hr_ hs_ v0 v1 v2 v3 v4 v5; have HR := n0_; have HS := n1_; have BK := n2_; clear n0_ n1_ n2_; obtain ⟨v0, v1, v2, v3, v4, v5⟩ := Ps.three BK.out; clear x0 x1 x2; obtain ⟨A_, cc_, vv_, x0, x1, x2⟩ := HR.out.cells))
                go_roundg k1
                case measure => have := HN.out; omega
                case rel => exact ⟨r, putN ms id 7 t'.f1 t'.f2, s, n, rfl, HLL, ⟨by have := HLR.out; omega, by have := HN.out; omega⟩, HS, ⟨HR.out.mono (fun _ h => h.1) HD.out⟩, ⟨Ps.putN_wf HW.out _ _ _ _ HI.out⟩, ⟨by have h1_ := HLR.out; have h2_ := HL.out; have h3_ := HP1.out; omega⟩⟩
            · have c5 : (t'.f0 == 5) = false := beq_eq_false_iff_ne.mpr h5
              rw [if_neg (fun h => h5 h.1)] at hl
              cases hb : bgK k t' with
              | true =>
                have HB5 := Aside0.mk hb
                rw [hb, if_pos rfl] at hl
                clear hb h5
                by_cases hs : s = 1
                · have cs : (s == 1) = true := beq_iff_eq.mpr hs
                  rw [if_pos hs] at hl
                  have hpl := Ps.putN_len ms id 7 t'.f1 t'.f1
                  have hml : ((lackN ms id t'.f1)).length ≤ ms.length + 1 ∧ ms.length ≤ ((lackN ms id t'.f1)).length := by unfold Go.Proofs.Ytehojohacombkaa.Ps.lackN; omega
                  have hmw : Wf (lackN ms id t'.f1) := Ps.putN_wf HW.out _ _ _ _ HI.out
                  have h2_ := HL.out
                  obtain ⟨⟨o1, o2, o3⟩, o4⟩ := HOK.out id (t' :: r) (lackN ms id t'.f1) HNE.out HI.out (by omega) hmw
                  obtain ⟨a, ha⟩ : ∃ a, (memN (valN en k) (bgK k) en) id (t' :: r) (lackN ms id t'.f1) = a := ⟨_, rfl⟩
                  have HA := Aside0.mk ha
                  rw [ha] at hl o1 o2 o3 o4
                  have HLL := Aside0.mk hl
                  have HP1 : Aside0 (id < (((lackN ms id t'.f1)).length : Int) ∧ ((lackN ms id t'.f1)).length + 6 * (t' :: r).length ≤ 899999) := ⟨by omega⟩
                  have HP5 : Aside0 (((lackN ms id t'.f1)).length + 6 * (t' :: r).length ≤ 900000) := ⟨Nat.le_succ_of_le HP1.out.2⟩
                  have HB6 : Aside0 (bgK k (nextT en (t' :: r)) = true) := ⟨HB5.out⟩
                  have HP2 := Aside0.mk hmw
                  have HP3 : Aside0 (id < (a.2.length : Int) ∧ a.2.length + 6 * a.1.length ≤ 899998 ∧ a.1.length < n) := ⟨by have := HN.out; omega⟩
                  have HP4 := Aside0.mk o3
                  clear hl hpl hml hmw h2_ o1 o2 o3 o4 ha hs
                  go_upto_region 3 with (first | (go_at_call 31; (with_reducible refine (Ps.next_any g _ ms en D w0 _ HS.out.below HR.out).mono ?_); rw [HTT.out]; rintro e w9 ⟨rfl, hb_⟩; have n0_ := Aside0.mk (HR.out.below hb_); have n1_ := Aside0.mk (HS.out.more hb_); clear HR HS hb_; have HR := n0_; have HS := n1_; clear n0_ n1_) | ((with_reducible refine gate_dst (N := 11) rfl ?_); refine box_event ?hg (N := 11) ?hd (cs := #[.int .i64 0, .int .i64 0, .int .i64 0]) (t := 46) ?hr ?_; (case hd => rfl); (case hg => rfl); (case hr => first | (go_simp; done) | (go_simp; rfl)); intro b hgr w_ hbox hb; have HX_ := Aside0.mk hbox; have HB_ := Aside0.mk hb; have HG_ := Aside0.mk hgr; obtain ⟨v0, v1, v2, v3, v4, v5⟩ := Ps.three hbox; clear hbox hb hgr))
                  obtain ⟨hs1, hr1, hb1, hn1⟩ := Ps.boxed (.int .i64 t'.f0) (.int .i64 t'.f1) (.int .i64 t'.f2) HS.out HR.out HB_.out HX_.out HG_.out
                  have HGE : Aside0 (w.heap.size ≤ b) := ⟨by rw [HG_.out]; exact HS.out.kept.1⟩
                  have HGE0 : Aside0 (w0.heap.size ≤ b) := ⟨by rw [HG_.out]; exact HS.out.below.size⟩
                  clear HS HR HB_ HX_ HG_ v0 v1 v2 v3 v4 v5
                  have HS := Aside0.mk hs1
                  have HR := Aside0.mk hr1
                  have BK := Aside0.mk hb1
                  have BG := Aside0.mk hn1
                  clear hs1 hr1 hb1 hn1
                  generalize (((w_.setCell ⟨b, 0, none⟩ (.int .i64 t'.f0)).setCell ⟨b, 1, none⟩ (.int .i64 t'.f1)).setCell ⟨b, 2, none⟩ (.int .i64 t'.f2)) = W1 at HS HR BK ⊢
                  obtain ⟨v0, v1, v2, v3, v4, v5⟩ := Ps.three BK.out
                  have BN : Aside0 (¬ (b = g ∨ (D b ∧ b ≠ b))) := ⟨fun h => h.elim BG.out (fun h => h.2 rfl)⟩
                  obtain ⟨A_, cc_, vv_, x0, x1, x2⟩ := HR.out.cells
                  rw [← hn0] at x0
                  clear hn0
                  go_wp2_with (first | (go_at_call 30; (with_reducible refine (Ps.begins_any t' k dd HDD.out _ HB5.out _).mono ?_); rintro e w9 ⟨rfl, hb_⟩; have n0_ := Aside0.mk (HR.out.below hb_); have n1_ := Aside0.mk (HS.out.more hb_); have n2_ := Aside0.mk (blk_below BK.out hb_); clear HR HS BK hb_ v0 v1 v2 v3 v4 v5; have HR := n0_; have HS := n1_; have BK := n2_; clear n0_ n1_ n2_; obtain ⟨v0, v1, v2, v3, v4, v5⟩ := Ps.three BK.out; clear x0 x1 x2; obtain ⟨A_, cc_, vv_, x0, x1, x2⟩ := HR.out.cells) | (go_at_call 34; (with_reducible refine (Ps.lack_any g (t' :: r) ms en id t'.f1 HI.out (by have := HL.out; omega) HW.out (fun j => D j ∧ j ≠ b) w0 _ HS.out.below HR.out).mono ?_); rintro e w9 ⟨rfl, hr_, hs_⟩; have n0_ := Aside0.mk hr_; have n1_ := Aside0.mk (HS.out.trans hs_ (fun _ h => h.1)); have n2_ := Aside0.mk (blk_kept BK.out hs_.kept BN.out); clear HR HS BK hr_ hs_ v0 v1 v2 v3 v4 v5; have HR := n0_; have HS := n1_; have BK := n2_; clear n0_ n1_ n2_; obtain ⟨v0, v1, v2, v3, v4, v5⟩ := Ps.three BK.out; clear x0 x1 x2; obtain ⟨A_, cc_, vv_, x0, x1, x2⟩ := HR.out.cells) | (go_at_call 58; (with_reducible refine (Ps.member_any k g id (t' :: r) (lackN ms id t'.f1) en dd HV.out (fun j => D j ∧ j ≠ b) w0 _ HDD.out HB6.out HI.out HP1.out.1 HP2.out HP1.out.2 HS.out.below HR.out).mono ?_); rw [HA.out]; rintro e w9 ⟨rfl, hr_, hs_⟩; have n0_ := Aside0.mk hr_; have n1_ := Aside0.mk (HS.out.trans hs_ (fun _ h => h.1)); have n2_ := Aside0.mk (blk_kept BK.out hs_.kept BN.out); clear HR HS BK hr_ hs_ v0 v1 v2 v3 v4 v5; have HR := n0_; have HS := n1_; have BK := n2_; clear n0_ n1_ n2_; obtain ⟨v0, v1, v2, v3, v4, v5⟩ := Ps.three BK.out; clear x0 x1 x2; obtain ⟨A_, cc_, vv_, x0, x1, x2⟩ := HR.out.cells))
                  go_roundg k1
                  case measure => have := HN.out; omega
                  case rel => exact ⟨a.1, a.2, 1, n, rfl, HLL, ⟨by have := HP3.out; omega, by have := HN.out; omega⟩, HS, ⟨HR.out.mono (fun _ h => h.1) HD.out⟩, ⟨HP4.out⟩, ⟨by have := HP3.out; omega⟩⟩
                · have cs : (s == 1) = false := beq_eq_false_iff_ne.mpr hs
                  rw [if_neg hs] at hl
                  have hpl := Ps.putN_len ms id 7 t'.f1 t'.f1
                  have hml : (ms).length ≤ ms.length + 1 ∧ ms.length ≤ (ms).length := by omega
                  have hmw : Wf ms := HW.out
                  have h2_ := HL.out
                  obtain ⟨⟨o1, o2, o3⟩, o4⟩ := HOK.out id (t' :: r) ms HNE.out HI.out (by omega) hmw
                  obtain ⟨a, ha⟩ : ∃ a, (memN (valN en k) (bgK k) en) id (t' :: r) ms = a := ⟨_, rfl⟩
                  have HA := Aside0.mk ha
                  rw [ha] at hl o1 o2 o3 o4
                  have HLL := Aside0.mk hl
                  have HP1 : Aside0 (id < ((ms).length : Int) ∧ (ms).length + 6 * (t' :: r).length ≤ 899999) := ⟨by omega⟩
                  have HP5 : Aside0 ((ms).length + 6 * (t' :: r).length ≤ 900000) := ⟨Nat.le_succ_of_le HP1.out.2⟩
                  have HB6 : Aside0 (bgK k (nextT en (t' :: r)) = true) := ⟨HB5.out⟩
                  have HP2 := Aside0.mk hmw
                  have HP3 : Aside0 (id < (a.2.length : Int) ∧ a.2.length + 6 * a.1.length ≤ 899998 ∧ a.1.length < n) := ⟨by have := HN.out; omega⟩
                  have HP4 := Aside0.mk o3
                  clear hl hpl hml hmw h2_ o1 o2 o3 o4 ha hs
                  go_upto_region 3 with (first | (go_at_call 31; (with_reducible refine (Ps.next_any g _ ms en D w0 _ HS.out.below HR.out).mono ?_); rw [HTT.out]; rintro e w9 ⟨rfl, hb_⟩; have n0_ := Aside0.mk (HR.out.below hb_); have n1_ := Aside0.mk (HS.out.more hb_); clear HR HS hb_; have HR := n0_; have HS := n1_; clear n0_ n1_) | ((with_reducible refine gate_dst (N := 11) rfl ?_); refine box_event ?hg (N := 11) ?hd (cs := #[.int .i64 0, .int .i64 0, .int .i64 0]) (t := 46) ?hr ?_; (case hd => rfl); (case hg => rfl); (case hr => first | (go_simp; done) | (go_simp; rfl)); intro b hgr w_ hbox hb; have HX_ := Aside0.mk hbox; have HB_ := Aside0.mk hb; have HG_ := Aside0.mk hgr; obtain ⟨v0, v1, v2, v3, v4, v5⟩ := Ps.three hbox; clear hbox hb hgr))
                  obtain ⟨hs1, hr1, hb1, hn1⟩ := Ps.boxed (.int .i64 t'.f0) (.int .i64 t'.f1) (.int .i64 t'.f2) HS.out HR.out HB_.out HX_.out HG_.out
                  have HGE : Aside0 (w.heap.size ≤ b) := ⟨by rw [HG_.out]; exact HS.out.kept.1⟩
                  have HGE0 : Aside0 (w0.heap.size ≤ b) := ⟨by rw [HG_.out]; exact HS.out.below.size⟩
                  clear HS HR HB_ HX_ HG_ v0 v1 v2 v3 v4 v5
                  have HS := Aside0.mk hs1
                  have HR := Aside0.mk hr1
                  have BK := Aside0.mk hb1
                  have BG := Aside0.mk hn1
                  clear hs1 hr1 hb1 hn1
                  generalize (((w_.setCell ⟨b, 0, none⟩ (.int .i64 t'.f0)).setCell ⟨b, 1, none⟩ (.int .i64 t'.f1)).setCell ⟨b, 2, none⟩ (.int .i64 t'.f2)) = W1 at HS HR BK ⊢
                  obtain ⟨v0, v1, v2, v3, v4, v5⟩ := Ps.three BK.out
                  have BN : Aside0 (¬ (b = g ∨ (D b ∧ b ≠ b))) := ⟨fun h => h.elim BG.out (fun h => h.2 rfl)⟩
                  obtain ⟨A_, cc_, vv_, x0, x1, x2⟩ := HR.out.cells
                  rw [← hn0] at x0
                  clear hn0
                  go_wp2_with (first | (go_at_call 30; (with_reducible refine (Ps.begins_any t' k dd HDD.out _ HB5.out _).mono ?_); rintro e w9 ⟨rfl, hb_⟩; have n0_ := Aside0.mk (HR.out.below hb_); have n1_ := Aside0.mk (HS.out.more hb_); have n2_ := Aside0.mk (blk_below BK.out hb_); clear HR HS BK hb_ v0 v1 v2 v3 v4 v5; have HR := n0_; have HS := n1_; have BK := n2_; clear n0_ n1_ n2_; obtain ⟨v0, v1, v2, v3, v4, v5⟩ := Ps.three BK.out; clear x0 x1 x2; obtain ⟨A_, cc_, vv_, x0, x1, x2⟩ := HR.out.cells) | (go_at_call 58; (with_reducible refine (Ps.member_any k g id (t' :: r) ms en dd HV.out (fun j => D j ∧ j ≠ b) w0 _ HDD.out HB6.out HI.out HP1.out.1 HP2.out HP1.out.2 HS.out.below HR.out).mono ?_); rw [HA.out]; rintro e w9 ⟨rfl, hr_, hs_⟩; have n0_ := Aside0.mk hr_; have n1_ := Aside0.mk (HS.out.trans hs_ (fun _ h => h.1)); have n2_ := Aside0.mk (blk_kept BK.out hs_.kept BN.out); clear HR HS BK hr_ hs_ v0 v1 v2 v3 v4 v5; have HR := n0_; have HS := n1_; have BK := n2_; clear n0_ n1_ n2_; obtain ⟨v0, v1, v2, v3, v4, v5⟩ := Ps.three BK.out; clear x0 x1 x2; obtain ⟨A_, cc_, vv_, x0, x1, x2⟩ := HR.out.cells))
                  go_roundg k1
                  case measure => have := HN.out; omega
                  case rel => exact ⟨a.1, a.2, 1, n, rfl, HLL, ⟨by have := HP3.out; omega, by have := HN.out; omega⟩, HS, ⟨HR.out.mono (fun _ h => h.1) HD.out⟩, ⟨HP4.out⟩, ⟨by have := HP3.out; omega⟩⟩
              | false =>
                have HB5 := Aside0.mk hb
                clear hb
                by_cases hs : s = 1
                · have cs : (s == 1) = true := beq_iff_eq.mpr hs
                  rw [HB5.out, if_neg (by decide)] at hl
                  have HLL := Aside0.mk hl
                  have hpl := Ps.putN_len ms id 7 t'.f1 t'.f2
                  have HP1 : Aside0 ((putN ms id 7 t'.f1 t'.f2).length = ms.length + 1) := ⟨hpl⟩
                  clear hl hpl h5 hs
                  go_upto_region 3 with (first | (go_at_call 31; (with_reducible refine (Ps.next_any g _ ms en D w0 _ HS.out.below HR.out).mono ?_); rw [HTT.out]; rintro e w9 ⟨rfl, hb_⟩; have n0_ := Aside0.mk (HR.out.below hb_); have n1_ := Aside0.mk (HS.out.more hb_); clear HR HS hb_; have HR := n0_; have HS := n1_; clear n0_ n1_) | ((with_reducible refine gate_dst (N := 11) rfl ?_); refine box_event ?hg (N := 11) ?hd (cs := #[.int .i64 0, .int .i64 0, .int .i64 0]) (t := 46) ?hr ?_; (case hd => rfl); (case hg => rfl); (case hr => first | (go_simp; done) | (go_simp; rfl)); intro b hgr w_ hbox hb; have HX_ := Aside0.mk hbox; have HB_ := Aside0.mk hb; have HG_ := Aside0.mk hgr; obtain ⟨v0, v1, v2, v3, v4, v5⟩ := Ps.three hbox; clear hbox hb hgr))
                  obtain ⟨hs1, hr1, hb1, hn1⟩ := Ps.boxed (.int .i64 t'.f0) (.int .i64 t'.f1) (.int .i64 t'.f2) HS.out HR.out HB_.out HX_.out HG_.out
                  have HGE : Aside0 (w.heap.size ≤ b) := ⟨by rw [HG_.out]; exact HS.out.kept.1⟩
                  have HGE0 : Aside0 (w0.heap.size ≤ b) := ⟨by rw [HG_.out]; exact HS.out.below.size⟩
                  clear HS HR HB_ HX_ HG_ v0 v1 v2 v3 v4 v5
                  have HS := Aside0.mk hs1
                  have HR := Aside0.mk hr1
                  have BK := Aside0.mk hb1
                  have BG := Aside0.mk hn1
                  clear hs1 hr1 hb1 hn1
                  generalize (((w_.setCell ⟨b, 0, none⟩ (.int .i64 t'.f0)).setCell ⟨b, 1, none⟩ (.int .i64 t'.f1)).setCell ⟨b, 2, none⟩ (.int .i64 t'.f2)) = W1 at HS HR BK ⊢
                  obtain ⟨v0, v1, v2, v3, v4, v5⟩ := Ps.three BK.out
                  have BN : Aside0 (¬ (b = g ∨ (D b ∧ b ≠ b))) := ⟨fun h => h.elim BG.out (fun h => h.2 rfl)⟩
                  obtain ⟨A_, cc_, vv_, x0, x1, x2⟩ := HR.out.cells
                  rw [← hn0] at x0
                  clear hn0
                  go_wp2_with (first | (go_at_call 30; (with_reducible refine (Ps.begins_any t' k dd HDD.out _ HB5.out _).mono ?_); rintro e w9 ⟨rfl, hb_⟩; have n0_ := Aside0.mk (HR.out.below hb_); have n1_ := Aside0.mk (HS.out.more hb_); have n2_ := Aside0.mk (blk_below BK.out hb_); clear HR HS BK hb_ v0 v1 v2 v3 v4 v5; have HR := n0_; have HS := n1_; have BK := n2_; clear n0_ n1_ n2_; obtain ⟨v0, v1, v2, v3, v4, v5⟩ := Ps.three BK.out; clear x0 x1 x2; obtain ⟨A_, cc_, vv_, x0, x1, x2⟩ := HR.out.cells) | (go_at_call 32; (with_reducible refine (Ps.stray_any g (t' :: r) HNE.out ms en id HI.out (by have := HL.out; omega) HW.out (fun j => D j ∧ j ≠ b) w0 _ HS.out.below HR.out).mono ?_); rw [HTT.out]; rintro e w9 ⟨rfl, hr_, hs_⟩; have n0_ := Aside0.mk hr_; have n1_ := Aside0.mk (HS.out.trans hs_ (fun _ h => h.1)); have n2_ := Aside0.mk (blk_kept BK.out hs_.kept BN.out); clear HR HS BK hr_ hs_ v0 v1 v2 v3 v4 v5; have HR := n0_; have HS := n1_; have BK := n2_; clear n0_ n1_ n2_; obtain ⟨v0, v1, v2, v3, v4, v5⟩ := Ps.three BK.out; clear x0 x1 x2; obtain ⟨A_, cc_, vv_, x0, x1, x2⟩ := HR.out.cells))
                  go_roundg k1
                  case measure => have := HN.out; omega
                  case rel => exact ⟨r, putN ms id 7 t'.f1 t'.f2, s, n, rfl, HLL, ⟨by have := HLR.out; omega, by have := HN.out; omega⟩, HS, ⟨HR.out.mono (fun _ h => h.1) HD.out⟩, ⟨Ps.putN_wf HW.out _ _ _ _ HI.out⟩, ⟨by have h1_ := HLR.out; have h2_ := HL.out; have h3_ := HP1.out; omega⟩⟩
                · have cs : (s == 1) = false := beq_eq_false_iff_ne.mpr hs
                  rw [HB5.out, if_neg (by decide)] at hl
                  have HLL := Aside0.mk hl
                  have hpl := Ps.putN_len ms id 7 t'.f1 t'.f2
                  have HP1 : Aside0 ((putN ms id 7 t'.f1 t'.f2).length = ms.length + 1) := ⟨hpl⟩
                  clear hl hpl h5 hs
                  go_upto_region 3 with (first | (go_at_call 31; (with_reducible refine (Ps.next_any g _ ms en D w0 _ HS.out.below HR.out).mono ?_); rw [HTT.out]; rintro e w9 ⟨rfl, hb_⟩; have n0_ := Aside0.mk (HR.out.below hb_); have n1_ := Aside0.mk (HS.out.more hb_); clear HR HS hb_; have HR := n0_; have HS := n1_; clear n0_ n1_) | ((with_reducible refine gate_dst (N := 11) rfl ?_); refine box_event ?hg (N := 11) ?hd (cs := #[.int .i64 0, .int .i64 0, .int .i64 0]) (t := 46) ?hr ?_; (case hd => rfl); (case hg => rfl); (case hr => first | (go_simp; done) | (go_simp; rfl)); intro b hgr w_ hbox hb; have HX_ := Aside0.mk hbox; have HB_ := Aside0.mk hb; have HG_ := Aside0.mk hgr; obtain ⟨v0, v1, v2, v3, v4, v5⟩ := Ps.three hbox; clear hbox hb hgr))
                  obtain ⟨hs1, hr1, hb1, hn1⟩ := Ps.boxed (.int .i64 t'.f0) (.int .i64 t'.f1) (.int .i64 t'.f2) HS.out HR.out HB_.out HX_.out HG_.out
                  have HGE : Aside0 (w.heap.size ≤ b) := ⟨by rw [HG_.out]; exact HS.out.kept.1⟩
                  have HGE0 : Aside0 (w0.heap.size ≤ b) := ⟨by rw [HG_.out]; exact HS.out.below.size⟩
                  clear HS HR HB_ HX_ HG_ v0 v1 v2 v3 v4 v5
                  have HS := Aside0.mk hs1
                  have HR := Aside0.mk hr1
                  have BK := Aside0.mk hb1
                  have BG := Aside0.mk hn1
                  clear hs1 hr1 hb1 hn1
                  generalize (((w_.setCell ⟨b, 0, none⟩ (.int .i64 t'.f0)).setCell ⟨b, 1, none⟩ (.int .i64 t'.f1)).setCell ⟨b, 2, none⟩ (.int .i64 t'.f2)) = W1 at HS HR BK ⊢
                  obtain ⟨v0, v1, v2, v3, v4, v5⟩ := Ps.three BK.out
                  have BN : Aside0 (¬ (b = g ∨ (D b ∧ b ≠ b))) := ⟨fun h => h.elim BG.out (fun h => h.2 rfl)⟩
                  obtain ⟨A_, cc_, vv_, x0, x1, x2⟩ := HR.out.cells
                  rw [← hn0] at x0
                  clear hn0
                  go_wp2_with (first | (go_at_call 30; (with_reducible refine (Ps.begins_any t' k dd HDD.out _ HB5.out _).mono ?_); rintro e w9 ⟨rfl, hb_⟩; have n0_ := Aside0.mk (HR.out.below hb_); have n1_ := Aside0.mk (HS.out.more hb_); have n2_ := Aside0.mk (blk_below BK.out hb_); clear HR HS BK hb_ v0 v1 v2 v3 v4 v5; have HR := n0_; have HS := n1_; have BK := n2_; clear n0_ n1_ n2_; obtain ⟨v0, v1, v2, v3, v4, v5⟩ := Ps.three BK.out; clear x0 x1 x2; obtain ⟨A_, cc_, vv_, x0, x1, x2⟩ := HR.out.cells) | (go_at_call 32; (with_reducible refine (Ps.stray_any g (t' :: r) HNE.out ms en id HI.out (by have := HL.out; omega) HW.out (fun j => D j ∧ j ≠ b) w0 _ HS.out.below HR.out).mono ?_); rw [HTT.out]; rintro e w9 ⟨rfl, hr_, hs_⟩; have n0_ := Aside0.mk hr_; have n1_ := Aside0.mk (HS.out.trans hs_ (fun _ h => h.1)); have n2_ := Aside0.mk (blk_kept BK.out hs_.kept BN.out); clear HR HS BK hr_ hs_ v0 v1 v2 v3 v4 v5; have HR := n0_; have HS := n1_; have BK := n2_; clear n0_ n1_ n2_; obtain ⟨v0, v1, v2, v3, v4, v5⟩ := Ps.three BK.out; clear x0 x1 x2; obtain ⟨A_, cc_, vv_, x0, x1, x2⟩ := HR.out.cells))
                  go_roundg k1
                  case measure => have := HN.out; omega
                  case rel => exact ⟨r, putN ms id 7 t'.f1 t'.f2, s, n, rfl, HLL, ⟨by have := HLR.out; omega, by have := HN.out; omega⟩, HS, ⟨HR.out.mono (fun _ h => h.1) HD.out⟩, ⟨Ps.putN_wf HW.out _ _ _ _ HI.out⟩, ⟨by have h1_ := HLR.out; have h2_ := HL.out; have h3_ := HP1.out; omega⟩⟩
set_option maxHeartbeats 16000000 in
set_option maxRecDepth 100000 in
theorem Ps.list_val (k : Nat) (hk : k ≤ 12) (g : Nat) (c id : Int) (ts : List Tk) (ns : List Nd) (en d : Int) (hV : VCP en k) (D : Nat → Prop) (w0 w : World) (hd : d = 12 - (k : Int)) (h0 : 0 ≤ id) (h1 : id < (ns.length : Int)) (hw : Wf ns) (N : Nat) (hN : ts.length < N) (hn : ns.length + 6 * ts.length ≤ 899998) (hB : Below w0.heap.size w0 w) (h : IsP w0 w g D ts ns en) :
    Calls Try.prog 57 #[.pointer (some ⟨g, 0, none⟩), .int .i64 id, .int .i64 d, .int .i64 c, (.func (.func 29) #[.pointer (some ⟨g, 0, none⟩)] #[])] w (PPost w0 w g D en (listN (valN en k) (bgK k) en c id N 0 ts ns)) := by
  have HS := Aside0.mk (PStep.refl hB (g := g) (D := D))
  have HR := Aside0.mk h
  have HD := Aside0.mk h.notD
  have HV := Aside0.mk hV
  have HOK := Aside0.mk (Ps.one_less (Ps.val_ok en k) (by omega) : OneOk (valN en k) 1)
  obtain ⟨dd, hdd⟩ : ∃ dd, dd = d + 1 := ⟨_, rfl⟩
  have wd : IntKind.i64.wrap (d + 1) = dd := by rw [i64_w, hdd]; unfold wrap64; omega
  have HDD : Aside0 (dd = 13 - (k : Int)) := ⟨by omega⟩
  have HI := Aside0.mk h0
  obtain ⟨R, hR⟩ : ∃ R, listN (valN en k) (bgK k) en c id N 0 ts ns = R := ⟨_, rfl⟩
  rw [hR]
  have HRR := Aside0.mk hR
  have HF := Aside0.mk (And.intro h1 (And.intro hw (And.intro hN hn)))
  clear hB h hV hd hdd h0 hR h1 hw hN hn hk
  go_enter Try.func57, Try.ntmps57
  go_upto_region 1 with (fail)
  go_loopg [10] N (fun kq v10 wr => ∃ (us : List Tk) (ms : List Nd) (s : Int) (n : Nat), v10 = .int .i64 s ∧ Aside0 (listN (valN en k) (bgK k) en c id n s us ms = R) ∧ Aside0 (us.length < n ∧ n ≤ kq) ∧ Aside0 (PStep w0 w wr g D) ∧ Aside0 (IsP w0 wr g D us ms en) ∧ Aside0 (Wf ms) ∧ Aside0 (id < (ms.length : Int) ∧ ms.length + 6 * us.length ≤ 899998))
  case atStart => exact ⟨ts, ns, 0, N, rfl, HRR, ⟨HF.out.2.2.1, Nat.le_refl _⟩, HS, HR, ⟨HF.out.2.1⟩, ⟨HF.out.1, HF.out.2.2.2⟩⟩
  case round =>
    clear HS HR HRR HF
    obtain ⟨us, ms, s, n, rfl, HRR, HN, HS, HR, HW, HL⟩ := hrel
    cases gk with
    | zero => exact absurd HN.out (by omega)
    | succ k1 =>
      cases n with
      | zero => exact absurd HN.out (by omega)
      | succ n =>
        have hl := HRR.out
        obtain ⟨t, ht⟩ : ∃ t, nextT en us = t := ⟨_, rfl⟩
        have HTT := Aside0.mk ht
        obtain ⟨n0, hn0⟩ : ∃ n0, n0 = us.length := ⟨_, rfl⟩
        clear HRR
        cases us with
        | nil =>
          rw [Go.Proofs.Ytehojohacombkaa.Ps.listN] at hl
          have c0 : ((n0 : Int) == 0) = true := beq_iff_eq.mpr (by rw [hn0]; rfl)
          have HLL := Aside0.mk hl
          have hpl := Ps.putN_len ms id 7 en en
          have HP1 : Aside0 (id < ((lackN ms id en).length : Int) ∧ (lackN ms id en).length ≤ 1000010) := ⟨by have := HL.out; unfold Go.Proofs.Ytehojohacombkaa.Ps.lackN; omega⟩
          have HP2 : Aside0 (Wf (lackN ms id en)) := ⟨Ps.putN_wf HW.out _ _ _ _ HI.out⟩
          clear hl hpl ht
          go_upto_region 3 with (first | (go_at_call 31; (with_reducible refine (Ps.next_any g _ ms en D w0 _ HS.out.below HR.out).mono ?_); rw [HTT.out]; rintro e w9 ⟨rfl, hb_⟩; have n0_ := Aside0.mk (HR.out.below hb_); have n1_ := Aside0.mk (HS.out.more hb_); clear HR HS hb_; have HR := n0_; have HS := n1_; clear n0_ n1_) | ((with_reducible refine gate_dst (N := 11) rfl ?_); refine box_event ?hg (N := 11) ?hd (cs := #[.int .i64 0, .int .i64 0, .int .i64 0]) (t := 46) ?hr ?_; (case hd => rfl); (case hg => rfl); (case hr => first | (go_simp; done) | (go_simp; rfl)); intro b hgr w_ hbox hb; have HX_ := Aside0.mk hbox; have HB_ := Aside0.mk hb; have HG_ := Aside0.mk hgr; obtain ⟨v0, v1, v2, v3, v4, v5⟩ := Ps.three hbox; clear hbox hb hgr))
          obtain ⟨hs1, hr1, hb1, hn1⟩ := Ps.boxed (.int .i64 t.f0) (.int .i64 t.f1) (.int .i64 t.f2) HS.out HR.out HB_.out HX_.out HG_.out
          have HGE : Aside0 (w.heap.size ≤ b) := ⟨by rw [HG_.out]; exact HS.out.kept.1⟩
          have HGE0 : Aside0 (w0.heap.size ≤ b) := ⟨by rw [HG_.out]; exact HS.out.below.size⟩
          clear HS HR HB_ HX_ HG_ v0 v1 v2 v3 v4 v5
          have HS := Aside0.mk hs1
          have HR := Aside0.mk hr1
          have BK := Aside0.mk hb1
          have BG := Aside0.mk hn1
          clear hs1 hr1 hb1 hn1
          generalize (((w_.setCell ⟨b, 0, none⟩ (.int .i64 t.f0)).setCell ⟨b, 1, none⟩ (.int .i64 t.f1)).setCell ⟨b, 2, none⟩ (.int .i64 t.f2)) = W1 at HS HR BK ⊢
          obtain ⟨v0, v1, v2, v3, v4, v5⟩ := Ps.three BK.out
          have BN : Aside0 (¬ (b = g ∨ (D b ∧ b ≠ b))) := ⟨fun h => h.elim BG.out (fun h => h.2 rfl)⟩
          obtain ⟨A_, cc_, vv_, x0, x1, x2⟩ := HR.out.cells
          rw [← hn0] at x0
          clear hn0
          go_wp2_with (first | (go_at_call 34; (with_reducible refine (Ps.lack_any g [] ms en id en HI.out (by have := HL.out; omega) HW.out (fun j => D j ∧ j ≠ b) w0 _ HS.out.below HR.out).mono ?_); rintro e w9 ⟨rfl, hr_, hs_⟩; have n0_ := Aside0.mk hr_; have n1_ := Aside0.mk (HS.out.trans hs_ (fun _ h => h.1)); have n2_ := Aside0.mk (blk_kept BK.out hs_.kept BN.out); clear HR HS BK hr_ hs_ v0 v1 v2 v3 v4 v5; have HR := n0_; have HS := n1_; have BK := n2_; clear n0_ n1_ n2_; obtain ⟨v0, v1, v2, v3, v4, v5⟩ := Ps.three BK.out; clear x0 x1 x2; obtain ⟨A_, cc_, vv_, x0, x1, x2⟩ := HR.out.cells) | (go_at_call 59; (with_reducible refine (Ps.reach_any g [] (lackN ms id en) en id en HI.out HP1.out.1 HP1.out.2 HP2.out (fun j => D j ∧ j ≠ b) w0 _ HS.out.below HR.out).mono ?_); rintro e w9 ⟨rfl, hr_, hs_⟩; have n0_ := Aside0.mk hr_; have n1_ := Aside0.mk (HS.out.trans hs_ (fun _ h => h.1)); have n2_ := Aside0.mk (blk_kept BK.out hs_.kept BN.out); clear HR HS BK hr_ hs_ v0 v1 v2 v3 v4 v5; have HR := n0_; have HS := n1_; have BK := n2_; clear n0_ n1_ n2_; obtain ⟨v0, v1, v2, v3, v4, v5⟩ := Ps.three BK.out; clear x0 x1 x2; obtain ⟨A_, cc_, vv_, x0, x1, x2⟩ := HR.out.cells))
          (first | go_end0 | ((try simp only [Exit.inBlock, Exit.then]); refine bodyPost_ret (results_none rfl _ _ _) rfl ?_))
          rw [← HLL.out]
          exact ⟨rfl, HR.out.mono (fun _ h => h.1) HD.out, HS.out⟩
        | cons t' r =>
          obtain rfl : t' = t := ht
          rw [Go.Proofs.Ytehojohacombkaa.Ps.listN] at hl
          have c0 : ((n0 : Int) == 0) = false := beq_eq_false_iff_ne.mpr (by rw [hn0]; simp only [List.length_cons]; omega)
          have HNE : Aside0 (t' :: r ≠ []) := ⟨by simp⟩
          have HLR : Aside0 (ms.length + 6 * r.length ≤ 899992 ∧ r.length < n) := ⟨by have h1_ := HL.out; have h2_ := HN.out; simp only [List.length_cons] at h1_ h2_; omega⟩
          by_cases hc : t'.f0 = c
          · have cc : (t'.f0 == c) = true := beq_iff_eq.mpr hc
            rw [if_pos hc] at hl
            clear hc
            by_cases hs : s = 2
            · have cs : (s == 2) = true := beq_iff_eq.mpr hs
              rw [if_pos hs] at hl
              have HLL := Aside0.mk hl
              have hpl := Ps.putN_len ms id 7 t'.f1 t'.f1
              have HP1 : Aside0 (id < (((lackN ms id t'.f1)).length : Int) ∧ ((lackN ms id t'.f1)).length ≤ 1000010) := ⟨by have := HL.out; unfold Go.Proofs.Ytehojohacombkaa.Ps.lackN; omega⟩
              have HP2 : Aside0 (Wf (lackN ms id t'.f1)) := ⟨Ps.putN_wf HW.out _ _ _ _ HI.out⟩
              clear hl hpl hs
              go_upto_region 3 with (first | (go_at_call 31; (with_reducible refine (Ps.next_any g _ ms en D w0 _ HS.out.below HR.out).mono ?_); rw [HTT.out]; rintro e w9 ⟨rfl, hb_⟩; have n0_ := Aside0.mk (HR.out.below hb_); have n1_ := Aside0.mk (HS.out.more hb_); clear HR HS hb_; have HR := n0_; have HS := n1_; clear n0_ n1_) | ((with_reducible refine gate_dst (N := 11) rfl ?_); refine box_event ?hg (N := 11) ?hd (cs := #[.int .i64 0, .int .i64 0, .int .i64 0]) (t := 46) ?hr ?_; (case hd => rfl); (case hg => rfl); (case hr => first | (go_simp; done) | (go_simp; rfl)); intro b hgr w_ hbox hb; have HX_ := Aside0.mk hbox; have HB_ := Aside0.mk hb; have HG_ := Aside0.mk hgr; obtain ⟨v0, v1, v2, v3, v4, v5⟩ := Ps.three hbox; clear hbox hb hgr))
              obtain ⟨hs1, hr1, hb1, hn1⟩ := Ps.boxed (.int .i64 t'.f0) (.int .i64 t'.f1) (.int .i64 t'.f2) HS.out HR.out HB_.out HX_.out HG_.out
              have HGE : Aside0 (w.heap.size ≤ b) := ⟨by rw [HG_.out]; exact HS.out.kept.1⟩
              have HGE0 : Aside0 (w0.heap.size ≤ b) := ⟨by rw [HG_.out]; exact HS.out.below.size⟩
              clear HS HR HB_ HX_ HG_ v0 v1 v2 v3 v4 v5
              have HS := Aside0.mk hs1
              have HR := Aside0.mk hr1
              have BK := Aside0.mk hb1
              have BG := Aside0.mk hn1
              clear hs1 hr1 hb1 hn1
              generalize (((w_.setCell ⟨b, 0, none⟩ (.int .i64 t'.f0)).setCell ⟨b, 1, none⟩ (.int .i64 t'.f1)).setCell ⟨b, 2, none⟩ (.int .i64 t'.f2)) = W1 at HS HR BK ⊢
              obtain ⟨v0, v1, v2, v3, v4, v5⟩ := Ps.three BK.out
              have BN : Aside0 (¬ (b = g ∨ (D b ∧ b ≠ b))) := ⟨fun h => h.elim BG.out (fun h => h.2 rfl)⟩
              obtain ⟨A_, cc_, vv_, x0, x1, x2⟩ := HR.out.cells
              rw [← hn0] at x0
              clear hn0
              have hfd := Ps.field2 t'.f0 t'.f1 t'.f2
              go_wp2_with (first | (go_at_call 34; (with_reducible refine (Ps.lack_any g (t' :: r) ms en id t'.f1 HI.out (by have := HL.out; omega) HW.out (fun j => D j ∧ j ≠ b) w0 _ HS.out.below HR.out).mono ?_); rintro e w9 ⟨rfl, hr_, hs_⟩; have n0_ := Aside0.mk hr_; have n1_ := Aside0.mk (HS.out.trans hs_ (fun _ h => h.1)); have n2_ := Aside0.mk (blk_kept BK.out hs_.kept BN.out); clear HR HS BK hr_ hs_ v0 v1 v2 v3 v4 v5; have HR := n0_; have HS := n1_; have BK := n2_; clear n0_ n1_ n2_; obtain ⟨v0, v1, v2, v3, v4, v5⟩ := Ps.three BK.out; clear x0 x1 x2; obtain ⟨A_, cc_, vv_, x0, x1, x2⟩ := HR.out.cells) | (go_at_call 55; (with_reducible refine (Ps.take_any g (t' :: r) HNE.out (lackN ms id t'.f1) en (fun j => D j ∧ j ≠ b) w0 _ HS.out.below HR.out).mono ?_); rw [HTT.out]; rintro e w9 ⟨rfl, hr_, hs_⟩; have n0_ := Aside0.mk hr_; have n1_ := Aside0.mk (HS.out.trans hs_ (fun _ h => h.1)); have n2_ := Aside0.mk (blk_kept BK.out hs_.kept BN.out); clear HR HS BK hr_ hs_ v0 v1 v2 v3 v4 v5; have HR := n0_; have HS := n1_; have BK := n2_; clear n0_ n1_ n2_; obtain ⟨v0, v1, v2, v3, v4, v5⟩ := Ps.three BK.out; clear x0 x1 x2; obtain ⟨A_, cc_, vv_, x0, x1, x2⟩ := HR.out.cells) | (go_at_call 59; (with_reducible refine (Ps.reach_any g _ (lackN ms id t'.f1) en id t'.f2 HI.out HP1.out.1 HP1.out.2 HP2.out (fun j => D j ∧ j ≠ b) w0 _ HS.out.below HR.out).mono ?_); rintro e w9 ⟨rfl, hr_, hs_⟩; have n0_ := Aside0.mk hr_; have n1_ := Aside0.mk (HS.out.trans hs_ (fun _ h => h.1)); have n2_ := Aside0.mk (blk_kept BK.out hs_.kept BN.out); clear HR HS BK hr_ hs_ v0 v1 v2 v3 v4 v5; have HR := n0_; have HS := n1_; have BK := n2_; clear n0_ n1_ n2_; obtain ⟨v0, v1, v2, v3, v4, v5⟩ := Ps.three BK.out; clear x0 x1 x2; obtain ⟨A_, cc_, vv_, x0, x1, x2⟩ := HR.out.cells))
              (first | go_end0 | ((try simp only [Exit.inBlock, Exit.then]); refine bodyPost_ret (results_none rfl _ _ _) rfl ?_))
              rw [← HLL.out]
              exact ⟨rfl, HR.out.mono (fun _ h => h.1) HD.out, HS.out⟩
            · have cs : (s == 2) = false := beq_eq_false_iff_ne.mpr hs
              rw [if_neg hs] at hl
              have HLL := Aside0.mk hl
              have hpl := Ps.putN_len ms id 7 t'.f1 t'.f1
              have HP1 : Aside0 (id < ((ms).length : Int) ∧ (ms).length ≤ 1000010) := ⟨by have := HL.out; omega⟩
              have HP2 : Aside0 (Wf ms) := ⟨HW.out⟩
              clear hl hpl hs
              go_upto_region 3 with (first | (go_at_call 31; (with_reducible refine (Ps.next_any g _ ms en D w0 _ HS.out.below HR.out).mono ?_); rw [HTT.out]; rintro e w9 ⟨rfl, hb_⟩; have n0_ := Aside0.mk (HR.out.below hb_); have n1_ := Aside0.mk (HS.out.more hb_); clear HR HS hb_; have HR := n0_; have HS := n1_; clear n0_ n1_) | ((with_reducible refine gate_dst (N := 11) rfl ?_); refine box_event ?hg (N := 11) ?hd (cs := #[.int .i64 0, .int .i64 0, .int .i64 0]) (t := 46) ?hr ?_; (case hd => rfl); (case hg => rfl); (case hr => first | (go_simp; done) | (go_simp; rfl)); intro b hgr w_ hbox hb; have HX_ := Aside0.mk hbox; have HB_ := Aside0.mk hb; have HG_ := Aside0.mk hgr; obtain ⟨v0, v1, v2, v3, v4, v5⟩ := Ps.three hbox; clear hbox hb hgr))
              obtain ⟨hs1, hr1, hb1, hn1⟩ := Ps.boxed (.int .i64 t'.f0) (.int .i64 t'.f1) (.int .i64 t'.f2) HS.out HR.out HB_.out HX_.out HG_.out
              have HGE : Aside0 (w.heap.size ≤ b) := ⟨by rw [HG_.out]; exact HS.out.kept.1⟩
              have HGE0 : Aside0 (w0.heap.size ≤ b) := ⟨by rw [HG_.out]; exact HS.out.below.size⟩
              clear HS HR HB_ HX_ HG_ v0 v1 v2 v3 v4 v5
              have HS := Aside0.mk hs1
              have HR := Aside0.mk hr1
              have BK := Aside0.mk hb1
              have BG := Aside0.mk hn1
              clear hs1 hr1 hb1 hn1
              generalize (((w_.setCell ⟨b, 0, none⟩ (.int .i64 t'.f0)).setCell ⟨b, 1, none⟩ (.int .i64 t'.f1)).setCell ⟨b, 2, none⟩ (.int .i64 t'.f2)) = W1 at HS HR BK ⊢
              obtain ⟨v0, v1, v2, v3, v4, v5⟩ := Ps.three BK.out
              have BN : Aside0 (¬ (b = g ∨ (D b ∧ b ≠ b))) := ⟨fun h => h.elim BG.out (fun h => h.2 rfl)⟩
              obtain ⟨A_, cc_, vv_, x0, x1, x2⟩ := HR.out.cells
              rw [← hn0] at x0
              clear hn0
              have hfd := Ps.field2 t'.f0 t'.f1 t'.f2
              go_wp2_with (first | (go_at_call 55; (with_reducible refine (Ps.take_any g (t' :: r) HNE.out ms en (fun j => D j ∧ j ≠ b) w0 _ HS.out.below HR.out).mono ?_); rw [HTT.out]; rintro e w9 ⟨rfl, hr_, hs_⟩; have n0_ := Aside0.mk hr_; have n1_ := Aside0.mk (HS.out.trans hs_ (fun _ h => h.1)); have n2_ := Aside0.mk (blk_kept BK.out hs_.kept BN.out); clear HR HS BK hr_ hs_ v0 v1 v2 v3 v4 v5; have HR := n0_; have HS := n1_; have BK := n2_; clear n0_ n1_ n2_; obtain ⟨v0, v1, v2, v3, v4, v5⟩ := Ps.three BK.out; clear x0 x1 x2; obtain ⟨A_, cc_, vv_, x0, x1, x2⟩ := HR.out.cells) | (go_at_call 59; (with_reducible refine (Ps.reach_any g _ ms en id t'.f2 HI.out HP1.out.1 HP1.out.2 HP2.out (fun j => D j ∧ j ≠ b) w0 _ HS.out.below HR.out).mono ?_); rintro e w9 ⟨rfl, hr_, hs_⟩; have n0_ := Aside0.mk hr_; have n1_ := Aside0.mk (HS.out.trans hs_ (fun _ h => h.1)); have n2_ := Aside0.mk (blk_kept BK.out hs_.kept BN.out); clear HR HS BK hr_ hs_ v0 v1 v2 v3 v4 v5; have HR := n0_; have HS := n1_; have BK := n2_; clear n0_ n1_ n2_; obtain ⟨v0, v1, v2, v3, v4, v5⟩ := Ps.three BK.out; clear x0 x1 x2; obtain ⟨A_, cc_, vv_, x0, x1, x2⟩ := HR.out.cells))
              (first | go_end0 | ((try simp only [Exit.inBlock, Exit.then]); refine bodyPost_ret (results_none rfl _ _ _) rfl ?_))
              rw [← HLL.out]
              exact ⟨rfl, HR.out.mono (fun _ h => h.1) HD.out, HS.out⟩
          · have cc : (t'.f0 == c) = false := beq_eq_false_iff_ne.mpr hc
            rw [if_neg hc] at hl
            clear hc
            by_cases h5 : t'.f0 = 5
            · have c5 : (t'.f0 == 5) = true := beq_iff_eq.mpr h5
              have HB5 : Aside0 (bgK k t' = false) := ⟨by unfold Go.Proofs.Ytehojohacombkaa.Ps.bgK; rw [h5]; rfl⟩
              by_cases hs : s = 1
              · have cs : (s == 1) = true := beq_iff_eq.mpr hs
                rw [if_pos ⟨h5, hs⟩] at hl
                have HLL := Aside0.mk hl
                clear hl h5 hs
                go_upto_region 3 with (first | (go_at_call 31; (with_reducible refine (Ps.next_any g _ ms en D w0 _ HS.out.below HR.out).mono ?_); rw [HTT.out]; rintro e w9 ⟨rfl, hb_⟩; have n0_ := Aside0.mk (HR.out.below hb_); have n1_ := Aside0.mk (HS.out.more hb_); clear HR HS hb_; have HR := n0_; have HS := n1_; clear n0_ n1_) | ((with_reducible refine gate_dst (N := 11) rfl ?_); refine box_event ?hg (N := 11) ?hd (cs := #[.int .i64 0, .int .i64 0, .int .i64 0]) (t := 46) ?hr ?_; (case hd => rfl); (case hg => rfl); (case hr => first | (go_simp; done) | (go_simp; rfl)); intro b hgr w_ hbox hb; have HX_ := Aside0.mk hbox; have HB_ := Aside0.mk hb; have HG_ := Aside0.mk hgr; obtain ⟨v0, v1, v2, v3, v4, v5⟩ := Ps.three hbox; clear hbox hb hgr))
                obtain ⟨hs1, hr1, hb1, hn1⟩ := Ps.boxed (.int .i64 t'.f0) (.int .i64 t'.f1) (.int .i64 t'.f2) HS.out HR.out HB_.out HX_.out HG_.out
                have HGE : Aside0 (w.heap.size ≤ b) := ⟨by rw [HG_.out]; exact HS.out.kept.1⟩
                have HGE0 : Aside0 (w0.heap.size ≤ b) := ⟨by rw [HG_.out]; exact HS.out.below.size⟩
                clear HS HR HB_ HX_ HG_ v0 v1 v2 v3 v4 v5
                have HS := Aside0.mk hs1
                have HR := Aside0.mk hr1
                have BK := Aside0.mk hb1
                have BG := Aside0.mk hn1
                clear hs1 hr1 hb1 hn1
                generalize (((w_.setCell ⟨b, 0, none⟩ (.int .i64 t'.f0)).setCell ⟨b, 1, none⟩ (.int .i64 t'.f1)).setCell ⟨b, 2, none⟩ (.int .i64 t'.f2)) = W1 at HS HR BK ⊢
                obtain ⟨v0, v1, v2, v3, v4, v5⟩ := Ps.three BK.out
                have BN : Aside0 (¬ (b = g ∨ (D b ∧ b ≠ b))) := ⟨fun h => h.elim BG.out (fun h => h.2 rfl)⟩
                obtain ⟨A_, cc_, vv_, x0, x1, x2⟩ := HR.out.cells
                rw [← hn0] at x0
                clear hn0
                go_wp2_with (first | (go_at_call 55; (with_reducible refine (Ps.take_any g (t' :: r) HNE.out ms en (fun j => D j ∧ j ≠ b) w0 _ HS.out.below HR.out).mono ?_); rw [HTT.out]; rintro e w9 ⟨rfl, hr_, hs_⟩; have n0_ := Aside0.mk hr_; have n1_ := Aside0.mk (HS.out.trans hs_ (fun _ h => h.1)); have n2_ := Aside0.mk (blk_kept BK.out hs_.kept BN.out); clear HR HS BK hr_ hs_ v0 v1 v2 v3 v4 v5; have HR := n0_; have HS := n1_; have BK := n2_; clear n0_ n1_ n2_; obtain ⟨v0, v1, v2, v3, v4, v5⟩ := Ps.three BK.out; clear x0 x1 x2; obtain ⟨A_, cc_, vv_, x0, x1, x2⟩ := HR.out.cells))
                go_roundg k1
                case measure => have := HN.out; omega
                case rel => exact ⟨r, ms, 2, n, rfl, HLL, ⟨by have := HLR.out; omega, by have := HN.out; omega⟩, HS, ⟨HR.out.mono (fun _ h => h.1) HD.out⟩, ⟨HW.out⟩, ⟨by have h1_ := HLR.out; have h2_ := HL.out; omega⟩⟩
              · have cs : (s == 1) = false := beq_eq_false_iff_ne.mpr hs
                rw [if_neg (fun h => hs h.2)] at hl
                rw [HB5.out, if_neg (by decide)] at hl
                have HLL := Aside0.mk hl
                have hpl := Ps.putN_len ms id 7 t'.f1 t'.f2
                have HP1 : Aside0 ((putN ms id 7 t'.f1 t'.f2).length = ms.length + 1) := ⟨hpl⟩
                clear hl hpl h5 hs
                go_upto_region 3 with (first | (go_at_call 31; (with_reducible refine (Ps.next_any g _ ms en D w0 _ HS.out.below HR.out).mono ?_); rw [HTT.out]; rintro e w9 ⟨rfl, hb_⟩; have n0_ := Aside0.mk (HR.out.below hb_); have n1_ := Aside0.mk (HS.out.more hb_); clear HR HS hb_; have HR := n0_; have HS := n1_; clear n0_ n1_) | ((with_reducible refine gate_dst (N := 11) rfl ?_); refine box_event ?hg (N := 11) ?hd (cs := #[.int .i64 0, .int .i64 0, .int .i64 0]) (t := 46) ?hr ?_; (case hd => rfl); (case hg => rfl); (case hr => first | (go_simp; done) | (go_simp; rfl)); intro b hgr w_ hbox hb; have HX_ := Aside0.mk hbox; have HB_ := Aside0.mk hb; have HG_ := Aside0.mk hgr; obtain ⟨v0, v1, v2, v3, v4, v5⟩ := Ps.three hbox; clear hbox hb hgr))
                obtain ⟨hs1, hr1, hb1, hn1⟩ := Ps.boxed (.int .i64 t'.f0) (.int .i64 t'.f1) (.int .i64 t'.f2) HS.out HR.out HB_.out HX_.out HG_.out
                have HGE : Aside0 (w.heap.size ≤ b) := ⟨by rw [HG_.out]; exact HS.out.kept.1⟩
                have HGE0 : Aside0 (w0.heap.size ≤ b) := ⟨by rw [HG_.out]; exact HS.out.below.size⟩
                clear HS HR HB_ HX_ HG_ v0 v1 v2 v3 v4 v5
                have HS := Aside0.mk hs1
                have HR := Aside0.mk hr1
                have BK := Aside0.mk hb1
                have BG := Aside0.mk hn1
                clear hs1 hr1 hb1 hn1
                generalize (((w_.setCell ⟨b, 0, none⟩ (.int .i64 t'.f0)).setCell ⟨b, 1, none⟩ (.int .i64 t'.f1)).setCell ⟨b, 2, none⟩ (.int .i64 t'.f2)) = W1 at HS HR BK ⊢
                obtain ⟨v0, v1, v2, v3, v4, v5⟩ := Ps.three BK.out
                have BN : Aside0 (¬ (b = g ∨ (D b ∧ b ≠ b))) := ⟨fun h => h.elim BG.out (fun h => h.2 rfl)⟩
                obtain ⟨A_, cc_, vv_, x0, x1, x2⟩ := HR.out.cells
                rw [← hn0] at x0
                clear hn0
                go_wp2_with (first | (go_at_call 30; (with_reducible refine (Ps.begins_any t' k dd HDD.out _ HB5.out _).mono ?_); rintro e w9 ⟨rfl, hb_⟩; have n0_ := Aside0.mk (HR.out.below hb_); have n1_ := Aside0.mk (HS.out.more hb_); have n2_ := Aside0.mk (blk_below BK.out hb_); clear HR HS BK hb_ v0 v1 v2 v3 v4 v5; have HR := n0_; have HS := n1_; have BK := n2_; clear n0_ n1_ n2_; obtain ⟨v0, v1, v2, v3, v4, v5⟩ := Ps.three BK.out; clear x0 x1 x2; obtain ⟨A_, cc_, vv_, x0, x1, x2⟩ := HR.out.cells) | (go_at_call 32; (with_reducible refine (Ps.stray_any g (t' :: r) HNE.out ms en id HI.out (by have := HL.out; omega) HW.out (fun j => D j ∧ j ≠ b) w0 _ HS.out.below HR.out).mono ?_); rw [HTT.out]; rintro e w9 ⟨rfl, hr_, hs_⟩; have n0_ := Aside0.mk hr_; have n1_ := Aside0.mk (HS.out.trans hs_ (fun _ h => h.1)); have n2_ := Aside0.mk (blk_kept BK.out hs_.kept BN.out); clear HR HS BK hr_ hs_ v0 v1 v2 v3 v4 v5; have HR := n0_; have HS := n1_; have BK := n2_; clear n0_ n1_ n2_; obtain ⟨v0, v1, v2, v3, v4, v5⟩ := Ps.three BK.out; clear x0 x1 x2; obtain ⟨A_, cc_, vv_, x0, x1, x2⟩ := HR.out.cells))
                go_roundg k1
                case measure => have := HN.out; omega
                case rel => exact ⟨r, putN ms id 7 t'.f1 t'.f2, s, n, rfl, HLL, ⟨by have := HLR.out; omega, by have := HN.out; omega⟩, HS, ⟨HR.out.mono (fun _ h => h.1) HD.out⟩, ⟨Ps.putN_wf HW.out _ _ _ _ HI.out⟩, ⟨by have h1_ := HLR.out; have h2_ := HL.out; have h3_ := HP1.out; omega⟩⟩
            · have c5 : (t'.f0 == 5) = false := beq_eq_false_iff_ne.mpr h5
              rw [if_neg (fun h => h5 h.1)] at hl
              cases hb : bgK k t' with
              | true =>
                have HB5 := Aside0.mk hb
                rw [hb, if_pos rfl] at hl
                clear hb h5
                by_cases hs : s = 1
                · have cs : (s == 1) = true := beq_iff_eq.mpr hs
                  rw [if_pos hs] at hl
                  have hpl := Ps.putN_len ms id 7 t'.f1 t'.f1
                  have hml : ((lackN ms id t'.f1)).length ≤ ms.length + 1 ∧ ms.length ≤ ((lackN ms id t'.f1)).length := by unfold Go.Proofs.Ytehojohacombkaa.Ps.lackN; omega
                  have hmw : Wf (lackN ms id t'.f1) := Ps.putN_wf HW.out _ _ _ _ HI.out
                  have h2_ := HL.out
                  obtain ⟨⟨o1, o2, o3⟩, o4⟩ := HOK.out id (t' :: r) (lackN ms id t'.f1) HNE.out HI.out (by omega) hmw
                  obtain ⟨a, ha⟩ : ∃ a, (valN en k) id (t' :: r) (lackN ms id t'.f1) = a := ⟨_, rfl⟩
                  have HA := Aside0.mk ha
                  rw [ha] at hl o1 o2 o3 o4
                  have HLL := Aside0.mk hl
                  have HP1 : Aside0 (id < (((lackN ms id t'.f1)).length : Int) ∧ ((lackN ms id t'.f1)).length + 6 * (t' :: r).length ≤ 899999) := ⟨by omega⟩
                  have HP5 : Aside0 (((lackN ms id t'.f1)).length + 6 * (t' :: r).length ≤ 900000) := ⟨Nat.le_succ_of_le HP1.out.2⟩
                  have HB6 : Aside0 (bgK k (nextT en (t' :: r)) = true) := ⟨HB5.out⟩
                  have HP2 := Aside0.mk hmw
                  have HP3 : Aside0 (id < (a.2.length : Int) ∧ a.2.length + 6 * a.1.length ≤ 899998 ∧ a.1.length < n) := ⟨by have := HN.out; omega⟩
                  have HP4 := Aside0.mk o3
                  clear hl hpl hml hmw h2_ o1 o2 o3 o4 ha hs
                  go_upto_region 3 with (first | (go_at_call 31; (with_reducible refine (Ps.next_any g _ ms en D w0 _ HS.out.below HR.out).mono ?_); rw [HTT.out]; rintro e w9 ⟨rfl, hb_⟩; have n0_ := Aside0.mk (HR.out.below hb_); have n1_ := Aside0.mk (HS.out.more hb_); clear HR HS hb_; have HR := n0_; have HS := n1_; clear n0_ n1_) | ((with_reducible refine gate_dst (N := 11) rfl ?_); refine box_event ?hg (N := 11) ?hd (cs := #[.int .i64 0, .int .i64 0, .int .i64 0]) (t := 46) ?hr ?_; (case hd => rfl); (case hg => rfl); (case hr => first | (go_simp; done) | (go_simp; rfl)); intro b hgr w_ hbox hb; have HX_ := Aside0.mk hbox; have HB_ := Aside0.mk hb; have HG_ := Aside0.mk hgr; obtain ⟨v0, v1, v2, v3, v4, v5⟩ := Ps.three hbox; clear hbox hb hgr))
                  obtain ⟨hs1, hr1, hb1, hn1⟩ := Ps.boxed (.int .i64 t'.f0) (.int .i64 t'.f1) (.int .i64 t'.f2) HS.out HR.out HB_.out HX_.out HG_.out
                  have HGE : Aside0 (w.heap.size ≤ b) := ⟨by rw [HG_.out]; exact HS.out.kept.1⟩
                  have HGE0 : Aside0 (w0.heap.size ≤ b) := ⟨by rw [HG_.out]; exact HS.out.below.size⟩
                  clear HS HR HB_ HX_ HG_ v0 v1 v2 v3 v4 v5
                  have HS := Aside0.mk hs1
                  have HR := Aside0.mk hr1
                  have BK := Aside0.mk hb1
                  have BG := Aside0.mk hn1
                  clear hs1 hr1 hb1 hn1
                  generalize (((w_.setCell ⟨b, 0, none⟩ (.int .i64 t'.f0)).setCell ⟨b, 1, none⟩ (.int .i64 t'.f1)).setCell ⟨b, 2, none⟩ (.int .i64 t'.f2)) = W1 at HS HR BK ⊢
                  obtain ⟨v0, v1, v2, v3, v4, v5⟩ := Ps.three BK.out
                  have BN : Aside0 (¬ (b = g ∨ (D b ∧ b ≠ b))) := ⟨fun h => h.elim BG.out (fun h => h.2 rfl)⟩
                  obtain ⟨A_, cc_, vv_, x0, x1, x2⟩ := HR.out.cells
                  rw [← hn0] at x0
                  clear hn0
                  go_wp2_with (first | (go_at_call 30; (with_reducible refine (Ps.begins_any t' k dd HDD.out _ HB5.out _).mono ?_); rintro e w9 ⟨rfl, hb_⟩; have n0_ := Aside0.mk (HR.out.below hb_); have n1_ := Aside0.mk (HS.out.more hb_); have n2_ := Aside0.mk (blk_below BK.out hb_); clear HR HS BK hb_ v0 v1 v2 v3 v4 v5; have HR := n0_; have HS := n1_; have BK := n2_; clear n0_ n1_ n2_; obtain ⟨v0, v1, v2, v3, v4, v5⟩ := Ps.three BK.out; clear x0 x1 x2; obtain ⟨A_, cc_, vv_, x0, x1, x2⟩ := HR.out.cells) | (go_at_call 34; (with_reducible refine (Ps.lack_any g (t' :: r) ms en id t'.f1 HI.out (by have := HL.out; omega) HW.out (fun j => D j ∧ j ≠ b) w0 _ HS.out.below HR.out).mono ?_); rintro e w9 ⟨rfl, hr_, hs_⟩; have n0_ := Aside0.mk hr_; have n1_ := Aside0.mk (HS.out.trans hs_ (fun _ h => h.1)); have n2_ := Aside0.mk (blk_kept BK.out hs_.kept BN.out); clear HR HS BK hr_ hs_ v0 v1 v2 v3 v4 v5; have HR := n0_; have HS := n1_; have BK := n2_; clear n0_ n1_ n2_; obtain ⟨v0, v1, v2, v3, v4, v5⟩ := Ps.three BK.out; clear x0 x1 x2; obtain ⟨A_, cc_, vv_, x0, x1, x2⟩ := HR.out.cells) | (go_at_call 29; (with_reducible refine (VCP.at HV.out g id (t' :: r) (lackN ms id t'.f1) dd (fun j => D j ∧ j ≠ b) w0 _ HDD.out HB6.out HI.out HP1.out.1 HP2.out HP5.out HS.out.below HR.out).mono ?_); rw [HA.out]; rintro e w9 ⟨rfl, hr_, hs_⟩; have n0_ := Aside0.mk hr_; have n1_ := Aside0.mk (HS.out.trans hs_ (fun _ h => h.1)); have n2_ := Aside0.mk (blk_kept BK.out hs_.kept BN.out); clear HR HS BK hr_ hs_ v0 v1 v2 v3 v4 v5; have HR := n0_; have HS := n1_; have BK := n2_; clear n0_ n1_ n2_; obtain ⟨v0, v1, v2, v3, v4, v5⟩ := Ps.three BK.out; clear x0 x1 x2; obtain ⟨A_, cc_, vv_, x0, x1, x2⟩ := HR.out.cells))
                  go_roundg k1
                  case measure => have := HN.out; omega
                  case rel => exact ⟨a.1, a.2, 1, n, rfl, HLL, ⟨by have := HP3.out; omega, by have := HN.out; omega⟩, HS, ⟨HR.out.mono (fun _ h => h.1) HD.out⟩, ⟨HP4.out⟩, ⟨by have := HP3.out; omega⟩⟩
                · have cs : (s == 1) = false := beq_eq_false_iff_ne.mpr hs
                  rw [if_neg hs] at hl
                  have hpl := Ps.putN_len ms id 7 t'.f1 t'.f1
                  have hml : (ms).length ≤ ms.length + 1 ∧ ms.length ≤ (ms).length := by omega
                  have hmw : Wf ms := HW.out
                  have h2_ := HL.out
                  obtain ⟨⟨o1, o2, o3⟩, o4⟩ := HOK.out id (t' :: r) ms HNE.out HI.out (by omega) hmw
                  obtain ⟨a, ha⟩ : ∃ a, (valN en k) id (t' :: r) ms = a := ⟨_, rfl⟩
                  have HA := Aside0.mk ha
                  rw [ha] at hl o1 o2 o3 o4
                  have HLL := Aside0.mk hl
                  have HP1 : Aside0 (id < ((ms).length : Int) ∧ (ms).length + 6 * (t' :: r).length ≤ 899999) := ⟨by omega⟩
                  have HP5 : Aside0 ((ms).length + 6 * (t' :: r).length ≤ 900000) := ⟨Nat.le_succ_of_le HP1.out.2⟩
                  have HB6 : Aside0 (bgK k (nextT en (t' :: r)) = true) := ⟨HB5.out⟩
                  have HP2 := Aside0.mk hmw
                  have HP3 : Aside0 (id < (a.2.length : Int) ∧ a.2.length + 6 * a.1.length ≤ 899998 ∧ a.1.length < n) := ⟨by have := HN.out; omega⟩
                  have HP4 := Aside0.mk o3
                  clear hl hpl hml hmw h2_ o1 o2 o3 o4 ha hs
                  go_upto_region 3 with (first | (go_at_call 31; (with_reducible refine (Ps.next_any g _ ms en D w0 _ HS.out.below HR.out).mono ?_); rw [HTT.out]; rintro e w9 ⟨rfl, hb_⟩; have n0_ := Aside0.mk (HR.out.below hb_); have n1_ := Aside0.mk (HS.out.more hb_); clear HR HS hb_; have HR := n0_; have HS := n1_; clear n0_ n1_) | ((with_reducible refine gate_dst (N := 11) rfl ?_); refine box_event ?hg (N := 11) ?hd (cs := #[.int .i64 0, .int .i64 0, .int .i64 0]) (t := 46) ?hr ?_; (case hd => rfl); (case hg => rfl); (case hr => first | (go_simp; done) | (go_simp; rfl)); intro b hgr w_ hbox hb; have HX_ := Aside0.mk hbox; have HB_ := Aside0.mk hb; have HG_ := Aside0.mk hgr; obtain ⟨v0, v1, v2, v3, v4, v5⟩ := Ps.three hbox; clear hbox hb hgr))
                  obtain ⟨hs1, hr1, hb1, hn1⟩ := Ps.boxed (.int .i64 t'.f0) (.int .i64 t'.f1) (.int .i64 t'.f2) HS.out HR.out HB_.out HX_.out HG_.out
                  have HGE : Aside0 (w.heap.size ≤ b) := ⟨by rw [HG_.out]; exact HS.out.kept.1⟩
                  have HGE0 : Aside0 (w0.heap.size ≤ b) := ⟨by rw [HG_.out]; exact HS.out.below.size⟩
                  clear HS HR HB_ HX_ HG_ v0 v1 v2 v3 v4 v5
                  have HS := Aside0.mk hs1
                  have HR := Aside0.mk hr1
                  have BK := Aside0.mk hb1
                  have BG := Aside0.mk hn1
                  clear hs1 hr1 hb1 hn1
                  generalize (((w_.setCell ⟨b, 0, none⟩ (.int .i64 t'.f0)).setCell ⟨b, 1, none⟩ (.int .i64 t'.f1)).setCell ⟨b, 2, none⟩ (.int .i64 t'.f2)) = W1 at HS HR BK ⊢
                  obtain ⟨v0, v1, v2, v3, v4, v5⟩ := Ps.three BK.out
                  have BN : Aside0 (¬ (b = g ∨ (D b ∧ b ≠ b))) := ⟨fun h => h.elim BG.out (fun h => h.2 rfl)⟩
                  obtain ⟨A_, cc_, vv_, x0, x1, x2⟩ := HR.out.cells
                  rw [← hn0] at x0
                  clear hn0
                  go_wp2_with (first | (go_at_call 30; (with_reducible refine (Ps.begins_any t' k dd HDD.out _ HB5.out _).mono ?_); rintro e w9 ⟨rfl, hb_⟩; have n0_ := Aside0.mk (HR.out.below hb_); have n1_ := Aside0.mk (HS.out.more hb_); have n2_ := Aside0.mk (blk_below BK.out hb_); clear HR HS BK hb_ v0 v1 v2 v3 v4 v5; have HR := n0_; have HS := n1_; have BK := n2_; clear n0_ n1_ n2_; obtain ⟨v0, v1, v2, v3, v4, v5⟩ := Ps.three BK.out; clear x0 x1 x2; obtain ⟨A_, cc_, vv_, x0, x1, x2⟩ := HR.out.cells) | (go_at_call 29; (with_reducible refine (VCP.at HV.out g id (t' :: r) ms dd (fun j => D j ∧ j ≠ b) w0 _ HDD.out HB6.out HI.out HP1.out.1 HP2.out HP5.out HS.out.below HR.out).mono ?_); rw [HA.out]; rintro e w9 ⟨rfl, hr_, hs_⟩; have n0_ := Aside0.mk hr_; have n1_ := Aside0.mk (HS.out.trans hs_ (fun _ h => h.1)); have n2_ := Aside0.mk (blk_kept BK.out hs_.kept BN.out); clear HR HS BK hr_ hs_ v0 v1 v2 v3 v4 v5; have HR := n0_; have HS := n1_; have BK := n2_; clear n0_ n1_ n2_; obtain ⟨v0, v1, v2, v3, v4, v5⟩ := Ps.three BK.out; clear x0 x1 x2; obtain ⟨A_, cc_, vv_, x0, x1, x2⟩ := HR.out.cells))
                  go_roundg k1
                  case measure => have := HN.out; omega
                  case rel => exact ⟨a.1, a.2, 1, n, rfl, HLL, ⟨by have := HP3.out; omega, by have := HN.out; omega⟩, HS, ⟨HR.out.mono (fun _ h => h.1) HD.out⟩, ⟨HP4.out⟩, ⟨by have := HP3.out; omega⟩⟩
              | false =>
                have HB5 := Aside0.mk hb
                clear hb
                by_cases hs : s = 1
                · have cs : (s == 1) = true := beq_iff_eq.mpr hs
                  rw [HB5.out, if_neg (by decide)] at hl
                  have HLL := Aside0.mk hl
                  have hpl := Ps.putN_len ms id 7 t'.f1 t'.f2
                  have HP1 : Aside0 ((putN ms id 7 t'.f1 t'.f2).length = ms.length + 1) := ⟨hpl⟩
                  clear hl hpl h5 hs
                  go_upto_region 3 with (first | (go_at_call 31; (with_reducible refine (Ps.next_any g _ ms en D w0 _ HS.out.below HR.out).mono ?_); rw [HTT.out]; rintro e w9 ⟨rfl, hb_⟩; have n0_ := Aside0.mk (HR.out.below hb_); have n1_ := Aside0.mk (HS.out.more hb_); clear HR HS hb_; have HR := n0_; have HS := n1_; clear n0_ n1_) | ((with_reducible refine gate_dst (N := 11) rfl ?_); refine box_event ?hg (N := 11) ?hd (cs := #[.int .i64 0, .int .i64 0, .int .i64 0]) (t := 46) ?hr ?_; (case hd => rfl); (case hg => rfl); (case hr => first | (go_simp; done) | (go_simp; rfl)); intro b hgr w_ hbox hb; have HX_ := Aside0.mk hbox; have HB_ := Aside0.mk hb; have HG_ := Aside0.mk hgr; obtain ⟨v0, v1, v2, v3, v4, v5⟩ := Ps.three hbox; clear hbox hb hgr))
                  obtain ⟨hs1, hr1, hb1, hn1⟩ := Ps.boxed (.int .i64 t'.f0) (.int .i64 t'.f1) (.int .i64 t'.f2) HS.out HR.out HB_.out HX_.out HG_.out
                  have HGE : Aside0 (w.heap.size ≤ b) := ⟨by rw [HG_.out]; exact HS.out.kept.1⟩
                  have HGE0 : Aside0 (w0.heap.size ≤ b) := ⟨by rw [HG_.out]; exact HS.out.below.size⟩
                  clear HS HR HB_ HX_ HG_ v0 v1 v2 v3 v4 v5
                  have HS := Aside0.mk hs1
                  have HR := Aside0.mk hr1
                  have BK := Aside0.mk hb1
                  have BG := Aside0.mk hn1
                  clear hs1 hr1 hb1 hn1
                  generalize (((w_.setCell ⟨b, 0, none⟩ (.int .i64 t'.f0)).setCell ⟨b, 1, none⟩ (.int .i64 t'.f1)).setCell ⟨b, 2, none⟩ (.int .i64 t'.f2)) = W1 at HS HR BK ⊢
                  obtain ⟨v0, v1, v2, v3, v4, v5⟩ := Ps.three BK.out
                  have BN : Aside0 (¬ (b = g ∨ (D b ∧ b ≠ b))) := ⟨fun h => h.elim BG.out (fun h => h.2 rfl)⟩
                  obtain ⟨A_, cc_, vv_, x0, x1, x2⟩ := HR.out.cells
                  rw [← hn0] at x0
                  clear hn0
                  go_wp2_with (first | (go_at_call 30; (with_reducible refine (Ps.begins_any t' k dd HDD.out _ HB5.out _).mono ?_); rintro e w9 ⟨rfl, hb_⟩; have n0_ := Aside0.mk (HR.out.below hb_); have n1_ := Aside0.mk (HS.out.more hb_); have n2_ := Aside0.mk (blk_below BK.out hb_); clear HR HS BK hb_ v0 v1 v2 v3 v4 v5; have HR := n0_; have HS := n1_; have BK := n2_; clear n0_ n1_ n2_; obtain ⟨v0, v1, v2, v3, v4, v5⟩ := Ps.three BK.out; clear x0 x1 x2; obtain ⟨A_, cc_, vv_, x0, x1, x2⟩ := HR.out.cells) | (go_at_call 32; (with_reducible refine (Ps.stray_any g (t' :: r) HNE.out ms en id HI.out (by have := HL.out; omega) HW.out (fun j => D j ∧ j ≠ b) w0 _ HS.out.below HR.out).mono ?_); rw [HTT.out]; rintro e w9 ⟨rfl, hr_, hs_⟩; have n0_ := Aside0.mk hr_; have n1_ := Aside0.mk (HS.out.trans hs_ (fun _ h => h.1)); have n2_ := Aside0.mk (blk_kept BK.out hs_.kept BN.out); clear HR HS BK hr_ hs_ v0 v1 v2 v3 v4 v5; have HR := n0_; have HS := n1_; have BK := n2_; clear n0_ n1_ n2_; obtain ⟨v0, v1, v2, v3, v4, v5⟩ := Ps.three BK.out; clear x0 x1 x2; obtain ⟨A_, cc_, vv_, x0, x1, x2⟩ := HR.out.cells))
                  go_roundg k1
                  case measure => have := HN.out; omega
                  case rel => exact ⟨r, putN ms id 7 t'.f1 t'.f2, s, n, rfl, HLL, ⟨by have := HLR.out; omega, by have := HN.out; omega⟩, HS, ⟨HR.out.mono (fun _ h => h.1) HD.out⟩, ⟨Ps.putN_wf HW.out _ _ _ _ HI.out⟩, ⟨by have h1_ := HLR.out; have h2_ := HL.out; have h3_ := HP1.out; omega⟩⟩
                · have cs : (s == 1) = false := beq_eq_false_iff_ne.mpr hs
                  rw [HB5.out, if_neg (by decide)] at hl
                  have HLL := Aside0.mk hl
                  have hpl := Ps.putN_len ms id 7 t'.f1 t'.f2
                  have HP1 : Aside0 ((putN ms id 7 t'.f1 t'.f2).length = ms.length + 1) := ⟨hpl⟩
                  clear hl hpl h5 hs
                  go_upto_region 3 with (first | (go_at_call 31; (with_reducible refine (Ps.next_any g _ ms en D w0 _ HS.out.below HR.out).mono ?_); rw [HTT.out]; rintro e w9 ⟨rfl, hb_⟩; have n0_ := Aside0.mk (HR.out.below hb_); have n1_ := Aside0.mk (HS.out.more hb_); clear HR HS hb_; have HR := n0_; have HS := n1_; clear n0_ n1_) | ((with_reducible refine gate_dst (N := 11) rfl ?_); refine box_event ?hg (N := 11) ?hd (cs := #[.int .i64 0, .int .i64 0, .int .i64 0]) (t := 46) ?hr ?_; (case hd => rfl); (case hg => rfl); (case hr => first | (go_simp; done) | (go_simp; rfl)); intro b hgr w_ hbox hb; have HX_ := Aside0.mk hbox; have HB_ := Aside0.mk hb; have HG_ := Aside0.mk hgr; obtain ⟨v0, v1, v2, v3, v4, v5⟩ := Ps.three hbox; clear hbox hb hgr))
                  obtain ⟨hs1, hr1, hb1, hn1⟩ := Ps.boxed (.int .i64 t'.f0) (.int .i64 t'.f1) (.int .i64 t'.f2) HS.out HR.out HB_.out HX_.out HG_.out
                  have HGE : Aside0 (w.heap.size ≤ b) := ⟨by rw [HG_.out]; exact HS.out.kept.1⟩
                  have HGE0 : Aside0 (w0.heap.size ≤ b) := ⟨by rw [HG_.out]; exact HS.out.below.size⟩
                  clear HS HR HB_ HX_ HG_ v0 v1 v2 v3 v4 v5
                  have HS := Aside0.mk hs1
                  have HR := Aside0.mk hr1
                  have BK := Aside0.mk hb1
                  have BG := Aside0.mk hn1
                  clear hs1 hr1 hb1 hn1
                  generalize (((w_.setCell ⟨b, 0, none⟩ (.int .i64 t'.f0)).setCell ⟨b, 1, none⟩ (.int .i64 t'.f1)).setCell ⟨b, 2, none⟩ (.int .i64 t'.f2)) = W1 at HS HR BK ⊢
                  obtain ⟨v0, v1, v2, v3, v4, v5⟩ := Ps.three BK.out
                  have BN : Aside0 (¬ (b = g ∨ (D b ∧ b ≠ b))) := ⟨fun h => h.elim BG.out (fun h => h.2 rfl)⟩
                  obtain ⟨A_, cc_, vv_, x0, x1, x2⟩ := HR.out.cells
                  rw [← hn0] at x0
                  clear hn0
                  go_wp2_with (first | (go_at_call 30; (with_reducible refine (Ps.begins_any t' k dd HDD.out _ HB5.out _).mono ?_); rintro e w9 ⟨rfl, hb_⟩; have n0_ := Aside0.mk (HR.out.below hb_); have n1_ := Aside0.mk (HS.out.more hb_); have n2_ := Aside0.mk (blk_below BK.out hb_); clear HR HS BK hb_ v0 v1 v2 v3 v4 v5; have HR := n0_; have HS := n1_; have BK := n2_; clear n0_ n1_ n2_; obtain ⟨v0, v1, v2, v3, v4, v5⟩ := Ps.three BK.out; clear x0 x1 x2; obtain ⟨A_, cc_, vv_, x0, x1, x2⟩ := HR.out.cells) | (go_at_call 32; (with_reducible refine (Ps.stray_any g (t' :: r) HNE.out ms en id HI.out (by have := HL.out; omega) HW.out (fun j => D j ∧ j ≠ b) w0 _ HS.out.below HR.out).mono ?_); rw [HTT.out]; rintro e w9 ⟨rfl, hr_, hs_⟩; have n0_ := Aside0.mk hr_; have n1_ := Aside0.mk (HS.out.trans hs_ (fun _ h => h.1)); have n2_ := Aside0.mk (blk_kept BK.out hs_.kept BN.out); clear HR HS BK hr_ hs_ v0 v1 v2 v3 v4 v5; have HR := n0_; have HS := n1_; have BK := n2_; clear n0_ n1_ n2_; obtain ⟨v0, v1, v2, v3, v4, v5⟩ := Ps.three BK.out; clear x0 x1 x2; obtain ⟨A_, cc_, vv_, x0, x1, x2⟩ := HR.out.cells))
                  go_roundg k1
                  case measure => have := HN.out; omega
                  case rel => exact ⟨r, putN ms id 7 t'.f1 t'.f2, s, n, rfl, HLL, ⟨by have := HLR.out; omega, by have := HN.out; omega⟩, HS, ⟨HR.out.mono (fun _ h => h.1) HD.out⟩, ⟨Ps.putN_wf HW.out _ _ _ _ HI.out⟩, ⟨by have h1_ := HLR.out; have h2_ := HL.out; have h3_ := HP1.out; omega⟩⟩
end Go.Proofs.Ytehojohacombkaa.G
