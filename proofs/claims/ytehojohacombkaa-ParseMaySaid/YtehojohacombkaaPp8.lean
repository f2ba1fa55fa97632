/- parse.Parse by its contract. (Written by mkps8.py of this session.) -/
import Derived.Test.YtehojohacombkaaPp7
import Derived.Test.YtehojohacombkaaGd5a
namespace Go.Proofs.Ytehojohacombkaa.G
open Go.RowKit Go.Proofs.YtehojohacombkaaW.PrintWords Go.Proofs.YtehojohacombkaaW.PrintLast Go.Proofs.YtehojohacombkaaW.PrintMore
open Go.Proofs.Ytehojohacombkaa.Lx (Tk)
open Go.Proofs.Ytehojohacombkaa.Ps (Nd St One nd rdn withKid withTo kidAdd putN setTo lastKid reachN lackN nextT bgK Wf scal listN wrapN colN pvN pairN memN valN mainN Stp OneOk nodesN)
open Go.Proofs.Ytehojohacombkaa.Lx (toks)
open Go.Proofs.Ytehojohacombkaa.Gd (solid)
set_option linter.unusedVariables false
set_option linter.unusedSimpArgs false
set_option maxRecDepth 100000 in
set_option maxHeartbeats 8000000 in
theorem Ps.long_any (s : ByteArray) (hs : ¬ s.size ≤ 300) (w : World) (hm : MaxOk w) :
    Calls Try.prog 14 #[.string s] w fun e w' => e = .returned (.tuple #[.agg #[.int .i64 0, .int .i64 0, .slice none 0 0], .int .i64 1100]) ∧ Below w.heap.size w w' := by
  have HV := Aside0.mk (Pl.solid_ev s [] 900 (Pl.tok_big hs) (by simp))
  have HM := Aside0.mk hm
  clear hm
  go_enter Try.func14, Try.ntmps14
  go_wp2_with (first | ((with_reducible refine gate_dst (N := 2) rfl ?_); refine box_event ?hg (N := 2) ?hd (cs := #[.int .i64 0, .int .i64 0, .slice none 0 0]) (t := 28) ?hr ?_; (case hd => rfl); (case hg => rfl); (case hr => first | (go_simp; done) | (go_simp; rfl)); intro gr hgr w_ hbox hb; have HB := Aside0.mk hb; have BR := Aside0.mk hbox; have GR := Aside0.mk ((by rw [hgr]; exact Nat.le_refl _) : w.heap.size ≤ gr); have HM2 : Aside0 (MaxOk w_) := ⟨MaxOk.of HM.out hb⟩; obtain ⟨v0, v1, v2, v3, v4, v5⟩ := Ps.three hbox; clear hb hbox hgr) | (go_at_call 26; (with_reducible refine (Gd.solid_any s _ 900 HV.out _ HM2.out).mono ?_); rintro e w1 ⟨v, rfl, ho_, hb_⟩; have n0_ := Aside0.mk (below_step HB.out hb_); have n1_ := Aside0.mk (blk_below BR.out hb_); have HO := Aside0.mk ho_; clear HB BR hb_ ho_ v0 v1 v2 v3 v4 v5; have HB := n0_; have BR := n1_; clear n0_ n1_; obtain ⟨v0, v1, v2, v3, v4, v5⟩ := Ps.three BR.out))
  refine bodyPost_ret (results_ct rfl _ _ gr 28 #[.int .i64 0, .int .i64 0, .slice none 0 0] (0, 0) _ rfl (Ps.set3 BR.out) Try.underlying28 rfl (by kernel_rfl)) rfl ?_
  exact ⟨rfl, ((HB.out.setCell GR.out _).setCell GR.out _).setCell GR.out _⟩
set_option maxRecDepth 100000 in
set_option maxHeartbeats 16000000 in
theorem Ps.parse_any (s : ByteArray) (hs : s.size ≤ 300) (w : World) (hm : MaxOk w) :
    Calls Try.prog 14 #[.string s] w fun e w' => ∃ v, e = .returned (.tuple #[.agg #[.int .i64 0, .int .i64 ((nodesN (byt s)).length : Int), v], .int .i64 0]) ∧ Kd.S k34 34 w' w.heap.size (fun _ => True) v (nodesN (byt s)) ∧ Below w.heap.size w w' := by
  obtain ⟨T, hT⟩ : ∃ T, solid (toks (byt s)) = T := ⟨_, rfl⟩
  have htl : T.length ≤ 300 := by
    rw [← hT]; have := Pl.toks_len (byt s); rw [byt_len] at this
    have h_ := List.length_filter_le (fun c : Tk => !(c.f0 == 10 || c.f0 == 9)) (toks (byt s))
    unfold Go.Proofs.Ytehojohacombkaa.Gd.solid; omega
  have hv := Pl.solid_ev s (toks (byt s)) 0 (Pl.tok_ev hs) (by have := Pl.toks_len (byt s); rw [byt_len] at this; omega)
  rw [hT] at hv
  have HV := Aside0.mk hv
  have HM := Aside0.mk hm
  have hN : nodesN (byt s) = mainN (valN (s.size : Int) 12) (bgK 12) (s.size : Int) (T.length + 1) false T (putN [] 0 0 0 (s.size : Int)) := by
    unfold Go.Proofs.Ytehojohacombkaa.Ps.nodesN; rw [hT, byt_len]
  obtain ⟨R, hR⟩ : ∃ R, nodesN (byt s) = R := ⟨_, rfl⟩
  rw [hR] at hN ⊢
  have HRR := Aside0.mk hN.symm
  have HVC := Aside0.mk (Ps.value_all (s.size : Int) 12 (by omega))
  have HTL := Aside0.mk htl
  clear hm hv hT hN hR htl
  go_enter Try.func14, Try.ntmps14
  go_upto_region 4 with (first | ((with_reducible refine gate_dst (N := 2) rfl ?_); refine box_event ?hg (N := 2) ?hd (cs := #[.int .i64 0, .int .i64 0, .slice none 0 0]) (t := 28) ?hr ?_; (case hd => rfl); (case hg => rfl); (case hr => first | (go_simp; done) | (go_simp; rfl)); intro gr hgr w_ hbox hb; have HB := Aside0.mk hb; have BR := Aside0.mk hbox; have GR := Aside0.mk ((by rw [hgr]; exact Nat.le_refl _) : w.heap.size ≤ gr); have HM2 : Aside0 (MaxOk w_) := ⟨MaxOk.of HM.out hb⟩; obtain ⟨v0, v1, v2, v3, v4, v5⟩ := Ps.three hbox; clear hb hbox hgr) | (go_at_call 26; (with_reducible refine (Gd.solid_any s _ 0 HV.out _ HM2.out).mono ?_); rintro e w1 ⟨v, rfl, ho_, hb_⟩; have n0_ := Aside0.mk (below_step HB.out hb_); have n1_ := Aside0.mk (blk_below BR.out hb_); have HO := Aside0.mk ho_; clear HB BR hb_ ho_ v0 v1 v2 v3 v4 v5; have HB := n0_; have BR := n1_; clear n0_ n1_; obtain ⟨v0, v1, v2, v3, v4, v5⟩ := Ps.three BR.out))
  obtain ⟨A0, c0, e0⟩ := Kd.R_slice HO.out
  subst e0
  have HK := Aside0.mk (Kd.R_reads' HO.out).2.2
  have HL := Aside0.mk (Kd.R_reads' HO.out).2.1
  have NR0 := Aside0.mk (blk_lt BR.out)
  clear HO v0 v1 v2 v3 v4 v5 HM2
  go_upto_region 5 with (fail)
  have HR : Aside0 (IsP w1 (w1.alloc (.cells #[.slice A0 T.length c0, .slice none 0 0, .int .i64 (s.size : Int)] 62)) w1.heap.size (fun j => w1.heap.size ≤ j ∧ j ≠ w1.heap.size) T [] (s.size : Int)) := ⟨⟨A0, c0, .slice none 0 0, blk_new w1 _, Nat.le_refl _, HK.out, HL.out, Kd.S_nil _ _ _ _ _, fun k hk => by simp only [World.alloc, Array.size_push] at hk; omega, fun h => h.2 rfl⟩⟩
  have HW : Aside0 (Below w1.heap.size w1 (w1.alloc (.cells #[.slice A0 T.length c0, .slice none 0 0, .int .i64 (s.size : Int)] 62))) := ⟨below_alloc (Below.refl _ _) _⟩
  have BR2 := Aside0.mk (blk_below BR.out HW.out)
  obtain ⟨g, eg⟩ : ∃ g, w1.heap.size = g := ⟨_, rfl⟩
  have NR : Aside0 (¬ (gr = g ∨ (w1.heap.size ≤ gr ∧ gr ≠ g))) := ⟨fun h => h.elim (fun h => by have := NR0.out; omega) (fun h => by have := NR0.out; have := h.1; omega)⟩
  have HR2 : Aside0 (IsP w1 (w1.alloc (.cells #[.slice A0 T.length c0, .slice none 0 0, .int .i64 (s.size : Int)] 62)) g (fun j => w1.heap.size ≤ j ∧ j ≠ g) T [] (s.size : Int)) := ⟨by have := HR.out; rw [← eg]; exact this⟩
  clear HR BR HK HL
  have HR := HR2
  have BR := BR2
  clear HR2 BR2
  rw [eg]
  have HS := Aside0.mk (PStep.refl HW.out (g := g) (D := (fun j => w1.heap.size ≤ j ∧ j ≠ g)))
  generalize (w1.alloc (.cells #[.slice A0 T.length c0, .slice none 0 0, .int .i64 (s.size : Int)] 62)) = w2 at HR HS BR HW ⊢
  clear eg HW
  obtain ⟨v0, v1, v2, v3, v4, v5⟩ := Ps.three BR.out
  obtain ⟨A_, cc_, vv_, x0, x1, x2⟩ := HR.out.cells
  have HWR : Aside0 (Wf (putN [] 0 0 0 (s.size : Int))) := ⟨Ps.putN_wf Ps.wf_nil _ _ _ _ (Int.le_refl 0)⟩
  go_upto_region 8 with (first | (go_at_call 28; (with_reducible refine (Ps.put_any g T [] (s.size : Int) 0 0 0 (s.size : Int) (Int.le_refl 0) (by simp) Ps.wf_nil (fun j => w1.heap.size ≤ j ∧ j ≠ g) w1 _ HS.out.below HR.out).mono ?_); rintro e w9 ⟨rfl, hr_, hs_⟩; have n0_ := Aside0.mk hr_; have n1_ := Aside0.mk (HS.out.trans hs_ (fun _ h => h)); have n2_ := Aside0.mk (blk_kept BR.out hs_.kept NR.out); clear HR HS BR hr_ hs_ x0 x1 x2 v0 v1 v2 v3 v4 v5; have HR := n0_; have HS := n1_; have BR := n2_; clear n0_ n1_ n2_; obtain ⟨v0, v1, v2, v3, v4, v5⟩ := Ps.three BR.out; obtain ⟨A_, cc_, vv_, x0, x1, x2⟩ := HR.out.cells))
  go_loopg [8, 9] (T.length + 1) (fun kq v8 v9 wr => ∃ (us : List Tk) (ms : List Nd) (n : Nat) (had : Bool), (v8 = (.func (.func 29) #[.pointer (some ⟨g, 0, none⟩)] #[]) ∧ v9 = .bool false ∧ had = false ∨ v8 = (.func (.func 33) #[.pointer (some ⟨g, 0, none⟩)] #[]) ∧ v9 = .bool true ∧ had = true) ∧ Aside0 (mainN (valN (s.size : Int) 12) (bgK 12) (s.size : Int) n had us ms = R) ∧ Aside0 (us.length < n ∧ n ≤ kq) ∧ Aside0 (PStep w1 w2 wr g (fun j => w1.heap.size ≤ j ∧ j ≠ g)) ∧ Aside0 (IsP w1 wr g (fun j => w1.heap.size ≤ j ∧ j ≠ g) us ms (s.size : Int)) ∧ Aside0 (Wf ms) ∧ Aside0 (0 < ms.length ∧ ms.length + 6 * us.length ≤ 5000) ∧ Aside0 (wr.heap[gr]? = some (.cells #[.int .i64 0, .int .i64 0, .slice none 0 0] 28 (0, 0))))
  case atStart => exact ⟨T, putN [] 0 0 0 (s.size : Int), T.length + 1, false, .inl ⟨rfl, rfl, rfl⟩, HRR, ⟨Nat.lt_succ_self _, Nat.le_refl _⟩, HS, HR, HWR, ⟨by have := HTL.out; rw [Ps.putN_len]; simp only [List.length_nil]; omega⟩, BR⟩
  case round =>
    clear HS HR HRR BR HWR x0 x1 x2 v0 v1 v2 v3 v4 v5
    obtain ⟨us, ms, n, had, hvv, HRR, HN, HS, HR, HW, HL, BR⟩ := hrel
    obtain ⟨v0, v1, v2, v3, v4, v5⟩ := Ps.three BR.out
    obtain ⟨A_, cc_, vv_, x0, x1, x2⟩ := HR.out.cells
    cases gk with
    | zero => exact absurd HN.out (by omega)
    | succ k1 =>
      cases n with
      | zero => exact absurd HN.out (by omega)
      | succ n =>
        have hl := HRR.out
        obtain ⟨n0, hn0⟩ : ∃ n0, n0 = us.length := ⟨_, rfl⟩
        rw [← hn0] at x0
        clear HRR
        cases us with
        | nil =>
          have c0 : decide ((0 : Int) < (n0 : Int)) = false := decide_eq_false (by rw [hn0]; simp)
          have c1 := eq_false (show ¬ 0 < n0 by rw [hn0]; simp)
          clear hn0
          rcases hvv with ⟨rfl, rfl, rfl⟩ | ⟨rfl, rfl, rfl⟩
          · have hl2 : lackN ms 0 (s.size : Int) = R := hl
            have HLL := Aside0.mk hl2
            clear hl hl2
            go_upto_region 15 with (first | (go_at_call 34; (with_reducible refine (Ps.lack_any g _ ms (s.size : Int) 0 (s.size : Int) (Int.le_refl 0) (by have := HL.out; omega) HW.out (fun j => w1.heap.size ≤ j ∧ j ≠ g) w1 _ HS.out.below HR.out).mono ?_); rintro e w9 ⟨rfl, hr_, hs_⟩; have n0_ := Aside0.mk hr_; have n1_ := Aside0.mk (HS.out.trans hs_ (fun _ h => h)); have n2_ := Aside0.mk (blk_kept BR.out hs_.kept NR.out); clear HR HS BR hr_ hs_ x0 x1 x2 v0 v1 v2 v3 v4 v5; have HR := n0_; have HS := n1_; have BR := n2_; clear n0_ n1_ n2_; obtain ⟨v0, v1, v2, v3, v4, v5⟩ := Ps.three BR.out; obtain ⟨A_, cc_, vv_, x0, x1, x2⟩ := HR.out.cells))
            obtain ⟨A1, c1_, v1_, hb1, hb2, hb3, hb4, hb5, hb6, hb7⟩ := HR.out
            obtain ⟨Av, cv, rfl⟩ := Kd.S_slice hb5
            rw [HLL.out] at hb5 hb1
            have HS5 := Aside0.mk hb5
            clear x0 x1 x2
            obtain ⟨x0, x1, x2, -, -, -⟩ := Ps.three hb1
            obtain ⟨m, hm⟩ : ∃ m, m = R.length := ⟨_, rfl⟩
            rw [← hm] at x1 HS5
            have HMM := Aside0.mk hm
            clear hb1 hb2 hb3 hb4 hb5 hb6 hb7 HR hm
            go_region
            have GB := GR.out
            go_wp2
            refine bodyPost_ret (results_ct rfl _ _ gr 28 #[.int .i64 0, .int .i64 (m : Int), .slice Av m cv] (0, 0) _ rfl (Ps.set3 BR.out) Try.underlying28 rfl (by kernel_rfl)) rfl ?_
            have HQ := below_step HB.out HS.out.below
            have hm := HMM.out
            clear HMM
            subst hm
            refine ⟨_, rfl, ?_, ((HQ.drew.setCell GB _).setCell GB _).setCell GB _⟩
            obtain ⟨f_, hf_⟩ := Kd.S_mono (Kd.S_far (p := ⟨gr, 2, none⟩) (Kd.S_far (p := ⟨gr, 1, none⟩) (Kd.S_far (p := ⟨gr, 0, none⟩) HS5.out (fun k hk (e : k = gr) => by have := NR0.out; have := hk.1; omega) _) (fun k hk (e : k = gr) => by have := NR0.out; have := hk.1; omega) _) (fun k hk (e : k = gr) => by have := NR0.out; have := hk.1; omega) _) (ok' := fun _ => True) (fun _ _ => trivial)
            exact ⟨f_, Kd.R_lower hf_ HB.out.size⟩
          · have hl2 : ms = R := hl
            have HLL := Aside0.mk hl2
            clear hl hl2
            go_upto_region 15 with (fail)
            obtain ⟨A1, c1_, v1_, hb1, hb2, hb3, hb4, hb5, hb6, hb7⟩ := HR.out
            obtain ⟨Av, cv, rfl⟩ := Kd.S_slice hb5
            rw [HLL.out] at hb5 hb1
            have HS5 := Aside0.mk hb5
            clear x0 x1 x2
            obtain ⟨x0, x1, x2, -, -, -⟩ := Ps.three hb1
            obtain ⟨m, hm⟩ : ∃ m, m = R.length := ⟨_, rfl⟩
            rw [← hm] at x1 HS5
            have HMM := Aside0.mk hm
            clear hb1 hb2 hb3 hb4 hb5 hb6 hb7 HR hm
            go_region
            have GB := GR.out
            go_wp2
            refine bodyPost_ret (results_ct rfl _ _ gr 28 #[.int .i64 0, .int .i64 (m : Int), .slice Av m cv] (0, 0) _ rfl (Ps.set3 BR.out) Try.underlying28 rfl (by kernel_rfl)) rfl ?_
            have HQ := below_step HB.out HS.out.below
            have hm := HMM.out
            clear HMM
            subst hm
            refine ⟨_, rfl, ?_, ((HQ.drew.setCell GB _).setCell GB _).setCell GB _⟩
            obtain ⟨f_, hf_⟩ := Kd.S_mono (Kd.S_far (p := ⟨gr, 2, none⟩) (Kd.S_far (p := ⟨gr, 1, none⟩) (Kd.S_far (p := ⟨gr, 0, none⟩) HS5.out (fun k hk (e : k = gr) => by have := NR0.out; have := hk.1; omega) _) (fun k hk (e : k = gr) => by have := NR0.out; have := hk.1; omega) _) (fun k hk (e : k = gr) => by have := NR0.out; have := hk.1; omega) _) (ok' := fun _ => True) (fun _ _ => trivial)
            exact ⟨f_, Kd.R_lower hf_ HB.out.size⟩
        | cons t r =>
          have c0 : decide ((0 : Int) < (n0 : Int)) = true := decide_eq_true (by rw [hn0]; simp only [List.length_cons]; omega)
          have c1 := eq_true (show 0 < n0 by rw [hn0]; simp)
          have HNE : Aside0 (t :: r ≠ []) := ⟨by simp⟩
          have HTT : Aside0 (nextT (s.size : Int) (t :: r) = t) := ⟨rfl⟩
          have HLR : Aside0 (ms.length + 6 * r.length + 6 ≤ 5000 ∧ r.length < n) := ⟨by have h1_ := HL.out; have h2_ := HN.out; simp only [List.length_cons] at h1_ h2_; omega⟩
          clear hn0
          rw [Go.Proofs.Ytehojohacombkaa.Ps.mainN] at hl
          cases hb : bgK 12 t with
          | false =>
            have HB5 := Aside0.mk hb
            rw [hb, if_neg (by decide)] at hl
            have HLL := Aside0.mk hl
            have hpl := Ps.putN_len ms 0 7 t.f1 t.f2
            have HP1 : Aside0 ((putN ms 0 7 t.f1 t.f2).length = ms.length + 1) := ⟨hpl⟩
            clear hl hpl hb
            rcases hvv with ⟨rfl, rfl, rfl⟩ | ⟨rfl, rfl, rfl⟩
            · go_wp2_with (first | (go_at_call 31; (with_reducible refine (Ps.next_any g (t :: r) ms (s.size : Int) (fun j => w1.heap.size ≤ j ∧ j ≠ g) w1 _ HS.out.below HR.out).mono ?_); rw [HTT.out]; rintro e w9 ⟨rfl, hb_⟩; have n0_ := Aside0.mk (HR.out.below hb_); have n1_ := Aside0.mk (HS.out.more hb_); have n2_ := Aside0.mk (blk_below BR.out hb_); clear HR HS BR hb_ x0 x1 x2 v0 v1 v2 v3 v4 v5; have HR := n0_; have HS := n1_; have BR := n2_; clear n0_ n1_ n2_; obtain ⟨v0, v1, v2, v3, v4, v5⟩ := Ps.three BR.out; obtain ⟨A_, cc_, vv_, x0, x1, x2⟩ := HR.out.cells) | (go_at_call 30; (with_reducible refine (Ps.begins_any t 12 1 (by decide) _ HB5.out _).mono ?_); rintro e w9 ⟨rfl, hb_⟩; have n0_ := Aside0.mk (HR.out.below hb_); have n1_ := Aside0.mk (HS.out.more hb_); have n2_ := Aside0.mk (blk_below BR.out hb_); clear HR HS BR hb_ x0 x1 x2 v0 v1 v2 v3 v4 v5; have HR := n0_; have HS := n1_; have BR := n2_; clear n0_ n1_ n2_; obtain ⟨v0, v1, v2, v3, v4, v5⟩ := Ps.three BR.out; obtain ⟨A_, cc_, vv_, x0, x1, x2⟩ := HR.out.cells) | (go_at_call 32; (with_reducible refine (Ps.stray_any g (t :: r) HNE.out ms (s.size : Int) 0 (Int.le_refl 0) (by have := HL.out; omega) HW.out (fun j => w1.heap.size ≤ j ∧ j ≠ g) w1 _ HS.out.below HR.out).mono ?_); rw [HTT.out]; rintro e w9 ⟨rfl, hr_, hs_⟩; have n0_ := Aside0.mk hr_; have n1_ := Aside0.mk (HS.out.trans hs_ (fun _ h => h)); have n2_ := Aside0.mk (blk_kept BR.out hs_.kept NR.out); clear HR HS BR hr_ hs_ x0 x1 x2 v0 v1 v2 v3 v4 v5; have HR := n0_; have HS := n1_; have BR := n2_; clear n0_ n1_ n2_; obtain ⟨v0, v1, v2, v3, v4, v5⟩ := Ps.three BR.out; obtain ⟨A_, cc_, vv_, x0, x1, x2⟩ := HR.out.cells))
              go_roundg k1
              case measure => have := HN.out; omega
              case rel => exact ⟨r, putN ms 0 7 t.f1 t.f2, n, false, .inl ⟨rfl, rfl, rfl⟩, HLL, ⟨by have := HLR.out; omega, by have := HN.out; omega⟩, HS, HR, ⟨Ps.putN_wf HW.out _ _ _ _ (Int.le_refl 0)⟩, ⟨by have h1_ := HLR.out; have h2_ := HL.out; have h3_ := HP1.out; omega⟩, BR⟩
            · go_wp2_with (first | (go_at_call 31; (with_reducible refine (Ps.next_any g (t :: r) ms (s.size : Int) (fun j => w1.heap.size ≤ j ∧ j ≠ g) w1 _ HS.out.below HR.out).mono ?_); rw [HTT.out]; rintro e w9 ⟨rfl, hb_⟩; have n0_ := Aside0.mk (HR.out.below hb_); have n1_ := Aside0.mk (HS.out.more hb_); have n2_ := Aside0.mk (blk_below BR.out hb_); clear HR HS BR hb_ x0 x1 x2 v0 v1 v2 v3 v4 v5; have HR := n0_; have HS := n1_; have BR := n2_; clear n0_ n1_ n2_; obtain ⟨v0, v1, v2, v3, v4, v5⟩ := Ps.three BR.out; obtain ⟨A_, cc_, vv_, x0, x1, x2⟩ := HR.out.cells) | (go_at_call 30; (with_reducible refine (Ps.begins_any t 12 1 (by decide) _ HB5.out _).mono ?_); rintro e w9 ⟨rfl, hb_⟩; have n0_ := Aside0.mk (HR.out.below hb_); have n1_ := Aside0.mk (HS.out.more hb_); have n2_ := Aside0.mk (blk_below BR.out hb_); clear HR HS BR hb_ x0 x1 x2 v0 v1 v2 v3 v4 v5; have HR := n0_; have HS := n1_; have BR := n2_; clear n0_ n1_ n2_; obtain ⟨v0, v1, v2, v3, v4, v5⟩ := Ps.three BR.out; obtain ⟨A_, cc_, vv_, x0, x1, x2⟩ := HR.out.cells) | (go_at_call 32; (with_reducible refine (Ps.stray_any g (t :: r) HNE.out ms (s.size : Int) 0 (Int.le_refl 0) (by have := HL.out; omega) HW.out (fun j => w1.heap.size ≤ j ∧ j ≠ g) w1 _ HS.out.below HR.out).mono ?_); rw [HTT.out]; rintro e w9 ⟨rfl, hr_, hs_⟩; have n0_ := Aside0.mk hr_; have n1_ := Aside0.mk (HS.out.trans hs_ (fun _ h => h)); have n2_ := Aside0.mk (blk_kept BR.out hs_.kept NR.out); clear HR HS BR hr_ hs_ x0 x1 x2 v0 v1 v2 v3 v4 v5; have HR := n0_; have HS := n1_; have BR := n2_; clear n0_ n1_ n2_; obtain ⟨v0, v1, v2, v3, v4, v5⟩ := Ps.three BR.out; obtain ⟨A_, cc_, vv_, x0, x1, x2⟩ := HR.out.cells))
              go_roundg k1
              case measure => have := HN.out; omega
              case rel => exact ⟨r, putN ms 0 7 t.f1 t.f2, n, true, .inr ⟨rfl, rfl, rfl⟩, HLL, ⟨by have := HLR.out; omega, by have := HN.out; omega⟩, HS, HR, ⟨Ps.putN_wf HW.out _ _ _ _ (Int.le_refl 0)⟩, ⟨by have h1_ := HLR.out; have h2_ := HL.out; have h3_ := HP1.out; omega⟩, BR⟩
          | true =>
            have HB5 := Aside0.mk hb
            have HB6 : Aside0 (bgK 12 (nextT (s.size : Int) (t :: r)) = true) := ⟨hb⟩
            rw [hb, if_pos rfl] at hl
            have h2_ := HL.out
            clear hb
            rcases hvv with ⟨rfl, rfl, rfl⟩ | ⟨rfl, rfl, rfl⟩
            · rw [if_neg (by decide)] at hl
              obtain ⟨⟨o1, o2, o3⟩, o4⟩ := Ps.val_ok (s.size : Int) 12 0 (t :: r) ms HNE.out (by omega) (by omega) HW.out
              obtain ⟨a, ha⟩ : ∃ a, valN (s.size : Int) 12 0 (t :: r) ms = a := ⟨_, rfl⟩
              have HA := Aside0.mk ha
              rw [ha] at hl o1 o2 o3 o4
              have HLL := Aside0.mk hl
              have HP0 : Aside0 ((0 : Int) < (ms.length : Int)) := ⟨by omega⟩
              have HP3 : Aside0 (0 < a.2.length ∧ a.2.length + 6 * a.1.length ≤ 5000 ∧ a.1.length < n) := ⟨by have := HLR.out; simp only [List.length_cons] at o2 o4 h2_; omega⟩
              have HP4 := Aside0.mk o3
              clear hl o1 o2 o3 o4 ha h2_
              go_wp2_with (first | (go_at_call 31; (with_reducible refine (Ps.next_any g (t :: r) ms (s.size : Int) (fun j => w1.heap.size ≤ j ∧ j ≠ g) w1 _ HS.out.below HR.out).mono ?_); rw [HTT.out]; rintro e w9 ⟨rfl, hb_⟩; have n0_ := Aside0.mk (HR.out.below hb_); have n1_ := Aside0.mk (HS.out.more hb_); have n2_ := Aside0.mk (blk_below BR.out hb_); clear HR HS BR hb_ x0 x1 x2 v0 v1 v2 v3 v4 v5; have HR := n0_; have HS := n1_; have BR := n2_; clear n0_ n1_ n2_; obtain ⟨v0, v1, v2, v3, v4, v5⟩ := Ps.three BR.out; obtain ⟨A_, cc_, vv_, x0, x1, x2⟩ := HR.out.cells) | (go_at_call 30; (with_reducible refine (Ps.begins_any t 12 1 (by decide) _ HB5.out _).mono ?_); rintro e w9 ⟨rfl, hb_⟩; have n0_ := Aside0.mk (HR.out.below hb_); have n1_ := Aside0.mk (HS.out.more hb_); have n2_ := Aside0.mk (blk_below BR.out hb_); clear HR HS BR hb_ x0 x1 x2 v0 v1 v2 v3 v4 v5; have HR := n0_; have HS := n1_; have BR := n2_; clear n0_ n1_ n2_; obtain ⟨v0, v1, v2, v3, v4, v5⟩ := Ps.three BR.out; obtain ⟨A_, cc_, vv_, x0, x1, x2⟩ := HR.out.cells) | (go_at_call 29; (with_reducible refine (VCP.at HVC.out g 0 (t :: r) ms 1 (fun j => w1.heap.size ≤ j ∧ j ≠ g) w1 _ (by decide) HB6.out (Int.le_refl 0) HP0.out HW.out (by have := HL.out; omega) HS.out.below HR.out).mono ?_); rw [HA.out]; rintro e w9 ⟨rfl, hr_, hs_⟩; have n0_ := Aside0.mk hr_; have n1_ := Aside0.mk (HS.out.trans hs_ (fun _ h => h)); have n2_ := Aside0.mk (blk_kept BR.out hs_.kept NR.out); clear HR HS BR hr_ hs_ x0 x1 x2 v0 v1 v2 v3 v4 v5; have HR := n0_; have HS := n1_; have BR := n2_; clear n0_ n1_ n2_; obtain ⟨v0, v1, v2, v3, v4, v5⟩ := Ps.three BR.out; obtain ⟨A_, cc_, vv_, x0, x1, x2⟩ := HR.out.cells))
              go_roundg k1
              case measure => have := HN.out; omega
              case rel => exact ⟨a.1, a.2, n, true, .inr ⟨rfl, rfl, rfl⟩, HLL, ⟨by have := HP3.out; omega, by have := HN.out; omega⟩, HS, HR, HP4, ⟨by have := HP3.out; omega⟩, BR⟩
            · rw [if_pos rfl] at hl
              obtain ⟨⟨o1, o2, o3⟩, o4⟩ := Ps.wrap_ok (Ps.val_ok (s.size : Int) 12) (s.size : Int) 0 (t :: r) ms HNE.out (by omega) (by omega) HW.out
              obtain ⟨a, ha⟩ : ∃ a, wrapN (valN (s.size : Int) 12) (s.size : Int) 0 (t :: r) ms = a := ⟨_, rfl⟩
              have HA := Aside0.mk ha
              rw [ha] at hl o1 o2 o3 o4
              have HLL := Aside0.mk hl
              have HP0 : Aside0 ((0 : Int) < (ms.length : Int)) := ⟨by omega⟩
              have HP3 : Aside0 (0 < a.2.length ∧ a.2.length + 6 * a.1.length ≤ 5000 ∧ a.1.length < n) := ⟨by have := HLR.out; simp only [List.length_cons] at o2 o4 h2_; omega⟩
              have HP4 := Aside0.mk o3
              clear hl o1 o2 o3 o4 ha h2_
              go_wp2_with (first | (go_at_call 31; (with_reducible refine (Ps.next_any g (t :: r) ms (s.size : Int) (fun j => w1.heap.size ≤ j ∧ j ≠ g) w1 _ HS.out.below HR.out).mono ?_); rw [HTT.out]; rintro e w9 ⟨rfl, hb_⟩; have n0_ := Aside0.mk (HR.out.below hb_); have n1_ := Aside0.mk (HS.out.more hb_); have n2_ := Aside0.mk (blk_below BR.out hb_); clear HR HS BR hb_ x0 x1 x2 v0 v1 v2 v3 v4 v5; have HR := n0_; have HS := n1_; have BR := n2_; clear n0_ n1_ n2_; obtain ⟨v0, v1, v2, v3, v4, v5⟩ := Ps.three BR.out; obtain ⟨A_, cc_, vv_, x0, x1, x2⟩ := HR.out.cells) | (go_at_call 30; (with_reducible refine (Ps.begins_any t 12 1 (by decide) _ HB5.out _).mono ?_); rintro e w9 ⟨rfl, hb_⟩; have n0_ := Aside0.mk (HR.out.below hb_); have n1_ := Aside0.mk (HS.out.more hb_); have n2_ := Aside0.mk (blk_below BR.out hb_); clear HR HS BR hb_ x0 x1 x2 v0 v1 v2 v3 v4 v5; have HR := n0_; have HS := n1_; have BR := n2_; clear n0_ n1_ n2_; obtain ⟨v0, v1, v2, v3, v4, v5⟩ := Ps.three BR.out; obtain ⟨A_, cc_, vv_, x0, x1, x2⟩ := HR.out.cells) | (go_at_call 33; (with_reducible refine (Ps.wrapped_any 12 g 0 (t :: r) ms (s.size : Int) 1 HVC.out (fun j => w1.heap.size ≤ j ∧ j ≠ g) w1 _ (by decide) HB6.out (Int.le_refl 0) HP0.out HW.out (by have := HL.out; omega) HS.out.below HR.out).mono ?_); rw [HA.out]; rintro e w9 ⟨rfl, hr_, hs_⟩; have n0_ := Aside0.mk hr_; have n1_ := Aside0.mk (HS.out.trans hs_ (fun _ h => h)); have n2_ := Aside0.mk (blk_kept BR.out hs_.kept NR.out); clear HR HS BR hr_ hs_ x0 x1 x2 v0 v1 v2 v3 v4 v5; have HR := n0_; have HS := n1_; have BR := n2_; clear n0_ n1_ n2_; obtain ⟨v0, v1, v2, v3, v4, v5⟩ := Ps.three BR.out; obtain ⟨A_, cc_, vv_, x0, x1, x2⟩ := HR.out.cells))
              go_roundg k1
              case measure => have := HN.out; omega
              case rel => exact ⟨a.1, a.2, n, true, .inr ⟨rfl, rfl, rfl⟩, HLL, ⟨by have := HP3.out; omega, by have := HN.out; omega⟩, HS, HR, HP4, ⟨by have := HP3.out; omega⟩, BR⟩
end Go.Proofs.Ytehojohacombkaa.G
