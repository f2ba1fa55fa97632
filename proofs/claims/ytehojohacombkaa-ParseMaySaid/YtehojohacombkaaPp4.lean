/- The parser's lack, stray, the closure put, wrapped and member by their contracts. (Written by mkps4.py of this session.) -/
import Derived.Test.YtehojohacombkaaPp3
import Derived.Test.YtehojohacombkaaGParseqbegins
namespace Go.Proofs.Ytehojohacombkaa.G
open Go.RowKit Go.Proofs.YtehojohacombkaaW.PrintWords Go.Proofs.YtehojohacombkaaW.PrintLast Go.Proofs.YtehojohacombkaaW.PrintMore
open Go.Proofs.Ytehojohacombkaa.Lx (Tk)
open Go.Proofs.Ytehojohacombkaa.Ps (Nd St One nd rdn withKid withTo kidAdd putN setTo lastKid reachN lackN nextT bgK Wf scal listN wrapN colN pvN pairN memN valN mainN Stp OneOk)
set_option linter.unusedVariables false
set_option linter.unusedSimpArgs false
theorem Ps.begins_ev (t : Tk) (k : Nat) (d : Int) (hd : d = 13 - (k : Int)) : ∃ q, parse_begins.f q t.f0 t.f1 t.f2 d = some (bgK k t) := by
  have e : decide (d ≤ 12) = decide (1 ≤ k) := by rw [Bool.eq_iff_iff]; simp only [decide_eq_true_eq]; omega
  refine ⟨1, ?_⟩
  unfold parse_begins.f bgK
  by_cases h6 : t.f0 = 6
  · simp [h6, parse_begins.j0]
  · by_cases h7 : t.f0 = 7
    · simp [h6, h7, parse_begins.j0]
    · by_cases h8 : t.f0 = 8
      · simp [h6, h7, h8, parse_begins.j0]
      · have b6 : (t.f0 == 6) = false := beq_eq_false_iff_ne.mpr h6
        have b7 : (t.f0 == 7) = false := beq_eq_false_iff_ne.mpr h7
        have b8 : (t.f0 == 8) = false := beq_eq_false_iff_ne.mpr h8
        rw [if_neg h6, if_neg h7, b6, b7, b8, parse_begins.j0]
        simp only [Bool.false_eq_true, if_false, Bool.false_or]
        by_cases h0 : t.f0 = 0
        · simp [h0, e]
        · by_cases h2 : t.f0 = 2
          · simp [h2, e]
          · simp [h0, h2]
theorem Ps.begins_any (t : Tk) (k : Nat) (d : Int) (hd : d = 13 - (k : Int)) (B : Bool) (hB : bgK k t = B) (w : World) : Calls Try.prog 30 #[.agg #[.int .i64 t.f0, .int .i64 t.f1, .int .i64 t.f2], .int .i64 d] w fun e w' => e = .returned (.bool B) ∧ Below w.heap.size w w' := by
  obtain ⟨q, hq⟩ := Ps.begins_ev t k d hd
  rw [hB] at hq
  exact parse_begins.calls q t.f0 t.f1 t.f2 d B w hq
theorem Ps.next_any (g : Nat) (ts : List Tk) (ns : List Nd) (en : Int) (D : Nat → Prop) (w0 w : World) (hB : Below w0.heap.size w0 w) (h : IsP w0 w g D ts ns en) :
    Calls Try.prog 31 #[.pointer (some ⟨g, 0, none⟩)] w fun e w' => e = .returned (.agg #[.int .i64 (nextT en ts).f0, .int .i64 (nextT en ts).f1, .int .i64 (nextT en ts).f2]) ∧ Below w.heap.size w w' := by
  cases ts with
  | nil => exact Ps.next_nil g ns en D w0 w hB h
  | cons t r => exact Ps.next_cons g t r ns en D w0 w hB h
theorem Ps.take_any (g : Nat) (ts : List Tk) (hn : ts ≠ []) (ns : List Nd) (en : Int) (D : Nat → Prop) (w0 w : World) (hB : Below w0.heap.size w0 w) (h : IsP w0 w g D ts ns en) :
    Calls Try.prog 55 #[.pointer (some ⟨g, 0, none⟩)] w fun e w' => e = .returned (.agg #[.int .i64 (nextT en ts).f0, .int .i64 (nextT en ts).f1, .int .i64 (nextT en ts).f2]) ∧ IsP w0 w' g D ts.tail ns en ∧ PStep w0 w w' g D := by
  cases ts with
  | nil => exact absurd rfl hn
  | cons t r => exact Ps.take_cons g t r ns en D w0 w hB h
theorem IsP.kept {w0 W W2 : World} {g : Nat} {D S : Nat → Prop} {ts : List Tk} {ns : List Nd} {en : Int} (h : IsP w0 W g D ts ns en) (k : Kept W W2 S) (hg : ¬ S g) (hD : ∀ j, D j → ¬ S j) : IsP w0 W2 g D ts ns en := by
  obtain ⟨A, c, v, h1, h2, h3, h4, h5, h6, h7⟩ := h
  exact ⟨A, c, v, blk_kept h1 k hg, h2, h3, h4, Kd.S_step h5 (fun j hj hlt => k.2 j hlt (hD j hj)), fun j hj => h6 j (Nat.le_trans k.1 hj), h7⟩
/-- A block of one's own, made and not written. -/
theorem Ps.box1 {w0 w W W2 : World} {g : Nat} {D D1 : Nat → Prop} {ts : List Tk} {ns : List Nd} {en : Int} {b : Nat} {o : Obj} (HS : PStep w0 w W g D) (HR : IsP w0 W g D1 ts ns en) (hb : Below W.heap.size W W2) (hbox : W2.heap[b]? = some o) (hgr : b = W.heap.size) :
    PStep w0 w W2 g D ∧ IsP w0 W2 g (fun j => D1 j ∧ j ≠ b) ts ns en ∧ b ≠ g :=
  ⟨HS.more hb, HR.own b (Nat.le_of_eq hgr.symm) (blk_lt hbox) hb, by have := HR.lt; omega⟩
/-- A token's block of one's own, made and written. -/
theorem Ps.boxed {w0 w W W2 : World} {g : Nat} {D D1 : Nat → Prop} {ts : List Tk} {ns : List Nd} {en : Int} {b : Nat} {a0 a1 a2 : Value} (x y z : Value) (HS : PStep w0 w W g D) (HR : IsP w0 W g D1 ts ns en) (hb : Below W.heap.size W W2) (hbox : W2.heap[b]? = some (.cells #[a0, a1, a2] 46 (0, 0))) (hgr : b = W.heap.size) :
    PStep w0 w (((W2.setCell ⟨b, 0, none⟩ x).setCell ⟨b, 1, none⟩ y).setCell ⟨b, 2, none⟩ z) g D ∧ IsP w0 (((W2.setCell ⟨b, 0, none⟩ x).setCell ⟨b, 1, none⟩ y).setCell ⟨b, 2, none⟩ z) g (fun j => D1 j ∧ j ≠ b) ts ns en ∧
    (((W2.setCell ⟨b, 0, none⟩ x).setCell ⟨b, 1, none⟩ y).setCell ⟨b, 2, none⟩ z).heap[b]? = some (.cells #[x, y, z] 46 (0, 0)) ∧ b ≠ g := by
  obtain ⟨h1, h2, h3⟩ := Ps.box1 HS HR hb hbox hgr
  have hw := HS.kept.1
  have hw0 : w0.heap.size ≤ b := by have := HS.below.size; omega
  have hwb : w.heap.size ≤ b := by omega
  have kk : Kept W2 (((W2.setCell ⟨b, 0, none⟩ x).setCell ⟨b, 1, none⟩ y).setCell ⟨b, 2, none⟩ z) (fun j => j = b) := (((Kept.refl W2 (fun j => j = b)).setCell (p := ⟨b, 0, none⟩) (.inl rfl) x).setCell (p := ⟨b, 1, none⟩) (.inl rfl) y).setCell (p := ⟨b, 2, none⟩) (.inl rfl) z
  exact ⟨⟨((h1.below.setCell (p := ⟨b, 0, none⟩) hw0 x).setCell (p := ⟨b, 1, none⟩) hw0 y).setCell (p := ⟨b, 2, none⟩) hw0 z, ((h1.kept.setCell (p := ⟨b, 0, none⟩) (.inr hwb) x).setCell (p := ⟨b, 1, none⟩) (.inr hwb) y).setCell (p := ⟨b, 2, none⟩) (.inr hwb) z⟩,
    h2.kept kk (fun e => h3 e.symm) (fun j hj e => hj.2 e), Ps.set3 hbox, h3⟩
/-- The token's block written anew. -/
theorem Ps.again {w0 w W : World} {g : Nat} {D D1 : Nat → Prop} {ts : List Tk} {ns : List Nd} {en : Int} {b : Nat} {a0 a1 a2 : Value} (x y z : Value) (HS : PStep w0 w W g D) (HR : IsP w0 W g (fun j => D1 j ∧ j ≠ b) ts ns en) (hbox : W.heap[b]? = some (.cells #[a0, a1, a2] 46 (0, 0))) (hge : w.heap.size ≤ b) (hw0 : w0.heap.size ≤ b) (hbg : b ≠ g) :
    PStep w0 w (((W.setCell ⟨b, 0, none⟩ x).setCell ⟨b, 1, none⟩ y).setCell ⟨b, 2, none⟩ z) g D ∧ IsP w0 (((W.setCell ⟨b, 0, none⟩ x).setCell ⟨b, 1, none⟩ y).setCell ⟨b, 2, none⟩ z) g (fun j => D1 j ∧ j ≠ b) ts ns en ∧
    (((W.setCell ⟨b, 0, none⟩ x).setCell ⟨b, 1, none⟩ y).setCell ⟨b, 2, none⟩ z).heap[b]? = some (.cells #[x, y, z] 46 (0, 0)) := by
  have kk : Kept W (((W.setCell ⟨b, 0, none⟩ x).setCell ⟨b, 1, none⟩ y).setCell ⟨b, 2, none⟩ z) (fun j => j = b) := (((Kept.refl W (fun j => j = b)).setCell (p := ⟨b, 0, none⟩) (.inl rfl) x).setCell (p := ⟨b, 1, none⟩) (.inl rfl) y).setCell (p := ⟨b, 2, none⟩) (.inl rfl) z
  exact ⟨⟨((HS.below.setCell (p := ⟨b, 0, none⟩) hw0 x).setCell (p := ⟨b, 1, none⟩) hw0 y).setCell (p := ⟨b, 2, none⟩) hw0 z, ((HS.kept.setCell (p := ⟨b, 0, none⟩) (.inr hge) x).setCell (p := ⟨b, 1, none⟩) (.inr hge) y).setCell (p := ⟨b, 2, none⟩) (.inr hge) z⟩,
    HR.kept kk (fun e => hbg e.symm) (fun j hj e => hj.2 e), Ps.set3 hbox⟩
theorem Ps.field2 (a b c : Int) : ∀ W : World, (Instr.field 46 (.agg #[.int .i64 a, .int .i64 b, .int .i64 c]) 2).run Try.prog W = .ok (.int .i64 c) W := fun _ => by kernel_rfl
/-- What a call of the parser ends in. -/
def PPost (w0 w : World) (g : Nat) (D : Nat → Prop) (en : Int) (r : St) (e : Ending) (w' : World) : Prop := e = .returned (.tuple #[]) ∧ IsP w0 w' g D r.1 r.2 en ∧ PStep w0 w w' g D
set_option maxHeartbeats 4000000 in
theorem Ps.lack_any (g : Nat) (ts : List Tk) (ns : List Nd) (en p a : Int) (hp : 0 ≤ p) (hn : ns.length ≤ 1000000) (hw : Wf ns) (D : Nat → Prop) (w0 w : World) (hB : Below w0.heap.size w0 w) (h : IsP w0 w g D ts ns en) :
    Calls Try.prog 34 #[.pointer (some ⟨g, 0, none⟩), .int .i64 p, .int .i64 a] w (PPost w0 w g D en (ts, lackN ns p a)) := by
  have HP := Aside0.mk hp
  have HL := Aside0.mk hn
  have HW := Aside0.mk hw
  have HB := Aside0.mk hB
  have HR := Aside0.mk h
  clear hp hn hw hB h
  go_enter Try.func34, Try.ntmps34
  go_wp2_with (first | (go_at_call 28; (with_reducible refine (Ps.put_any g ts ns en p 7 a a HP.out HL.out HW.out D w0 _ HB.out HR.out).mono ?_); rintro e w9 ⟨rfl, hr_, hs_⟩; have HR9 := Aside0.mk hr_; have HS9 := Aside0.mk hs_; clear hr_ hs_))
  (first | go_end0 | ((try simp only [Exit.inBlock, Exit.then]); refine bodyPost_ret (results_none rfl _ _ _) rfl ?_))
  exact ⟨rfl, HR9.out, HS9.out⟩
set_option maxHeartbeats 4000000 in
theorem Ps.stray_any (g : Nat) (ts : List Tk) (hts : ts ≠ []) (ns : List Nd) (en p : Int) (hp : 0 ≤ p) (hn : ns.length ≤ 1000000) (hw : Wf ns) (D : Nat → Prop) (w0 w : World) (hB : Below w0.heap.size w0 w) (h : IsP w0 w g D ts ns en) :
    Calls Try.prog 32 #[.pointer (some ⟨g, 0, none⟩), .int .i64 p] w (PPost w0 w g D en (ts.tail, putN ns p 7 (nextT en ts).f1 (nextT en ts).f2)) := by
  have HP := Aside0.mk hp
  have HL := Aside0.mk hn
  have HW := Aside0.mk hw
  have HS := Aside0.mk (PStep.refl hB (g := g) (D := D))
  have HR := Aside0.mk h
  have HT := Aside0.mk hts
  have HD := Aside0.mk h.notD
  obtain ⟨t, ht⟩ : ∃ t, nextT en ts = t := ⟨_, rfl⟩
  have HTT := Aside0.mk ht
  rw [ht]
  clear hp hn hw hB h hts ht
  go_enter Try.func32, Try.ntmps32
  go_upto_region 1 with (first | (go_at_call 55; (with_reducible refine (Ps.take_any g ts HT.out ns en D w0 _ HS.out.below HR.out).mono ?_); rw [HTT.out]; rintro e w9 ⟨rfl, hr_, hs_⟩; have n0_ := Aside0.mk hr_; have n1_ := Aside0.mk (HS.out.trans hs_ (fun _ h => h)); clear HR HS hr_ hs_; have HR := n0_; have HS := n1_; clear n0_ n1_) | ((with_reducible refine gate_dst (N := 4) rfl ?_); refine box_event ?hg (N := 4) ?hd (cs := #[.int .i64 0, .int .i64 0, .int .i64 0]) (t := 46) ?hr ?_; (case hd => rfl); (case hg => rfl); (case hr => first | (go_simp; done) | (go_simp; rfl)); intro b hgr w_ hbox hb; have HX_ := Aside0.mk hbox; have HB_ := Aside0.mk hb; have HG_ := Aside0.mk hgr; obtain ⟨v0, v1, v2, v3, v4, v5⟩ := Ps.three hbox; clear hbox hb hgr))
  obtain ⟨hs1, hr1, hb1, hn1⟩ := Ps.boxed (.int .i64 t.f0) (.int .i64 t.f1) (.int .i64 t.f2) HS.out HR.out HB_.out HX_.out HG_.out
  have HGE : Aside0 (w.heap.size ≤ b) := ⟨by rw [HG_.out]; exact HS.out.kept.1⟩
  have HGE0 : Aside0 (w0.heap.size ≤ b) := ⟨by rw [HG_.out]; exact HS.out.below.size⟩
  clear HS HR HB_ HX_ HG_ v0 v1 v2 v3 v4 v5
  have HS := Aside0.mk hs1
  have HR := Aside0.mk hr1
  have BK := Aside0.mk hb1
  have BG := Aside0.mk hn1
  clear hs1 hr1 hb1 hn1
  generalize (((w_.setCell ⟨b, 0, none⟩ (.int .i64 t.f0)).setCell ⟨b, 1, none⟩ (.int .i64 t.f1)).setCell ⟨b, 2, none⟩ (.int .i64 t.f2)) = W1 at HS HR BK ⊢
  obtain ⟨v0, v1, v2, v3, v4, v5⟩ := Ps.three BK.out
  have BN : Aside0 (¬ (b = g ∨ (D b ∧ b ≠ b))) := ⟨fun h => h.elim BG.out (fun h => h.2 rfl)⟩
  go_wp2_with (first | (go_at_call 28; (with_reducible refine (Ps.put_any g ts.tail ns en p 7 t.f1 t.f2 HP.out HL.out HW.out (fun j => D j ∧ j ≠ b) w0 _ HS.out.below HR.out).mono ?_); rintro e w9 ⟨rfl, hr_, hs_⟩; have n0_ := Aside0.mk hr_; have n1_ := Aside0.mk (HS.out.trans hs_ (fun _ h => h.1)); have n2_ := Aside0.mk (blk_kept BK.out hs_.kept BN.out); clear HR HS BK hr_ hs_ v0 v1 v2 v3 v4 v5; have HR := n0_; have HS := n1_; have BK := n2_; clear n0_ n1_ n2_; obtain ⟨v0, v1, v2, v3, v4, v5⟩ := Ps.three BK.out))
  (first | go_end0 | ((try simp only [Exit.inBlock, Exit.then]); refine bodyPost_ret (results_none rfl _ _ _) rfl ?_))
  exact ⟨rfl, HR.out.mono (fun _ h => h.1) HD.out, HS.out⟩
/-- A value's contract, so many levels below it at most. -/
def VCP (en : Int) (k : Nat) : Prop := ∀ (g : Nat) (p : Int) (ts : List Tk) (ns : List Nd) (d : Int) (D : Nat → Prop) (w0 w : World), d = 13 - (k : Int) → bgK k (nextT en ts) = true → 0 ≤ p → p < (ns.length : Int) → Wf ns → ns.length + 6 * ts.length ≤ 900000 → Below w0.heap.size w0 w → IsP w0 w g D ts ns en →
  Calls Try.prog 29 #[.pointer (some ⟨g, 0, none⟩), .int .i64 p, .int .i64 d] w (PPost w0 w g D en (valN en k p ts ns))
theorem VCP.at {en : Int} {k : Nat} (h : VCP en k) (g : Nat) (p : Int) (ts : List Tk) (ns : List Nd) (d : Int) (D : Nat → Prop) (w0 w : World) (h1 : d = 13 - (k : Int)) (h2 : bgK k (nextT en ts) = true) (h3 : 0 ≤ p) (h4 : p < (ns.length : Int)) (h5 : Wf ns) (h6 : ns.length + 6 * ts.length ≤ 900000) (h7 : Below w0.heap.size w0 w) (h8 : IsP w0 w g D ts ns en) :
    Calls Try.prog 29 #[.pointer (some ⟨g, 0, none⟩), .int .i64 p, .int .i64 d] w (PPost w0 w g D en (valN en k p ts ns)) := h g p ts ns d D w0 w h1 h2 h3 h4 h5 h6 h7 h8
set_option maxHeartbeats 4000000 in
theorem Ps.wrapped_any (k : Nat) (g : Nat) (p : Int) (ts : List Tk) (ns : List Nd) (en d : Int) (hV : VCP en k) (D : Nat → Prop) (w0 w : World) (hd : d = 13 - (k : Int)) (hbg : bgK k (nextT en ts) = true) (hp : 0 ≤ p) (hp1 : p < (ns.length : Int)) (hw : Wf ns) (hn : ns.length + 6 * ts.length ≤ 899999) (hB : Below w0.heap.size w0 w) (h : IsP w0 w g D ts ns en) :
    Calls Try.prog 33 #[.pointer (some ⟨g, 0, none⟩), .int .i64 p, .int .i64 d] w (PPost w0 w g D en (wrapN (valN en k) en p ts ns)) := by
  have HP := Aside0.mk hp
  have HL : Aside0 (ns.length ≤ 1000000) := ⟨by omega⟩
  have HW := Aside0.mk hw
  have HS := Aside0.mk (PStep.refl hB (g := g) (D := D))
  have HR := Aside0.mk h
  have HD := Aside0.mk h.notD
  have HV := Aside0.mk hV
  have HDD := Aside0.mk hd
  have HBG := Aside0.mk hbg
  have hpl := Ps.putN_len ns p 7 (nextT en ts).f1 (nextT en ts).f2
  have hpw := Ps.putN_wf hw p 7 (nextT en ts).f1 (nextT en ts).f2 hp
  have hts := Ps.bg_some hbg
  obtain ⟨⟨hv1, hv2, hv3⟩, hv4⟩ := Ps.val_ok en k ns.length ts (putN ns p 7 (nextT en ts).f1 (nextT en ts).f2) hts (by omega) (by omega) hpw
  unfold Go.Proofs.Ytehojohacombkaa.Ps.wrapN
  obtain ⟨t, ht⟩ : ∃ t, nextT en ts = t := ⟨_, rfl⟩
  have HTT := Aside0.mk ht
  rw [ht] at hpl hpw hv1 hv2 hv3 hv4 ⊢
  obtain ⟨m, hm⟩ : ∃ m : Int, m = (ns.length : Int) := ⟨_, rfl⟩
  have HM := Aside0.mk hm
  rw [← hm] at hv1 hv2 hv3 hv4 ⊢
  obtain ⟨a, ha⟩ : ∃ a, valN en k m ts (putN ns p 7 t.f1 t.f2) = a := ⟨_, rfl⟩
  have HA := Aside0.mk ha
  rw [ha] at hv1 hv2 hv3 hv4 ⊢
  have HPW := Aside0.mk hpw
  have HP1 : Aside0 (0 ≤ m ∧ m < ((putN ns p 7 t.f1 t.f2).length : Int)) := ⟨by omega⟩
  have HP2 : Aside0 ((putN ns p 7 t.f1 t.f2).length + 6 * ts.length ≤ 900000) := ⟨by omega⟩
  have HA1 : Aside0 (m < (a.2.length : Int) ∧ a.2.length ≤ 1000010) := ⟨by omega⟩
  have HA2 := Aside0.mk hv3
  clear hp hp1 hn hw hB h hts hV hd hbg hpl hpw hv1 hv2 hv3 hv4 ha ht hm
  go_enter Try.func33, Try.ntmps33
  go_upto_region 1 with (first | (go_at_call 31; (with_reducible refine (Ps.next_any g ts ns en D w0 _ HS.out.below HR.out).mono ?_); rw [HTT.out]; rintro e w9 ⟨rfl, hb_⟩; have n0_ := Aside0.mk (HR.out.below hb_); have n1_ := Aside0.mk (HS.out.more hb_); clear HR HS hb_; have HR := n0_; have HS := n1_; clear n0_ n1_) | ((with_reducible refine gate_dst (N := 6) rfl ?_); refine box_event ?hg (N := 6) ?hd (cs := #[.int .i64 0, .int .i64 0, .int .i64 0]) (t := 46) ?hr ?_; (case hd => rfl); (case hg => rfl); (case hr => first | (go_simp; done) | (go_simp; rfl)); intro b hgr w_ hbox hb; have HX_ := Aside0.mk hbox; have HB_ := Aside0.mk hb; have HG_ := Aside0.mk hgr; obtain ⟨v0, v1, v2, v3, v4, v5⟩ := Ps.three hbox; clear hbox hb hgr))
  obtain ⟨hs1, hr1, hb1, hn1⟩ := Ps.boxed (.int .i64 t.f0) (.int .i64 t.f1) (.int .i64 t.f2) HS.out HR.out HB_.out HX_.out HG_.out
  have HGE : Aside0 (w.heap.size ≤ b) := ⟨by rw [HG_.out]; exact HS.out.kept.1⟩
  have HGE0 : Aside0 (w0.heap.size ≤ b) := ⟨by rw [HG_.out]; exact HS.out.below.size⟩
  clear HS HR HB_ HX_ HG_ v0 v1 v2 v3 v4 v5
  have HS := Aside0.mk hs1
  have HR := Aside0.mk hr1
  have BK := Aside0.mk hb1
  have BG := Aside0.mk hn1
  clear hs1 hr1 hb1 hn1
  generalize (((w_.setCell ⟨b, 0, none⟩ (.int .i64 t.f0)).setCell ⟨b, 1, none⟩ (.int .i64 t.f1)).setCell ⟨b, 2, none⟩ (.int .i64 t.f2)) = W1 at HS HR BK ⊢
  obtain ⟨v0, v1, v2, v3, v4, v5⟩ := Ps.three BK.out
  have BN : Aside0 (¬ (b = g ∨ (D b ∧ b ≠ b))) := ⟨fun h => h.elim BG.out (fun h => h.2 rfl)⟩
  go_wp2_with (first | (go_at_call 28; (with_reducible refine (Ps.put_any g ts ns en p 7 t.f1 t.f2 HP.out HL.out HW.out (fun j => D j ∧ j ≠ b) w0 _ HS.out.below HR.out).mono ?_); rw [← HM.out]; rintro e w9 ⟨rfl, hr_, hs_⟩; have n0_ := Aside0.mk hr_; have n1_ := Aside0.mk (HS.out.trans hs_ (fun _ h => h.1)); have n2_ := Aside0.mk (blk_kept BK.out hs_.kept BN.out); clear HR HS BK hr_ hs_ v0 v1 v2 v3 v4 v5; have HR := n0_; have HS := n1_; have BK := n2_; clear n0_ n1_ n2_; obtain ⟨v0, v1, v2, v3, v4, v5⟩ := Ps.three BK.out) | (go_at_call 29; (with_reducible refine (VCP.at HV.out g m ts (putN ns p 7 t.f1 t.f2) d (fun j => D j ∧ j ≠ b) w0 _ HDD.out HBG.out HP1.out.1 HP1.out.2 HPW.out HP2.out HS.out.below HR.out).mono ?_); rw [HA.out]; rintro e w9 ⟨rfl, hr_, hs_⟩; have n0_ := Aside0.mk hr_; have n1_ := Aside0.mk (HS.out.trans hs_ (fun _ h => h.1)); have n2_ := Aside0.mk (blk_kept BK.out hs_.kept BN.out); clear HR HS BK hr_ hs_ v0 v1 v2 v3 v4 v5; have HR := n0_; have HS := n1_; have BK := n2_; clear n0_ n1_ n2_; obtain ⟨v0, v1, v2, v3, v4, v5⟩ := Ps.three BK.out) | (go_at_call 59; (with_reducible refine (Ps.reach_any g a.1 a.2 en m t.f2 HP1.out.1 HA1.out.1 HA1.out.2 HA2.out (fun j => D j ∧ j ≠ b) w0 _ HS.out.below HR.out).mono ?_); rintro e w9 ⟨rfl, hr_, hs_⟩; have n0_ := Aside0.mk hr_; have n1_ := Aside0.mk (HS.out.trans hs_ (fun _ h => h.1)); have n2_ := Aside0.mk (blk_kept BK.out hs_.kept BN.out); clear HR HS BK hr_ hs_ v0 v1 v2 v3 v4 v5; have HR := n0_; have HS := n1_; have BK := n2_; clear n0_ n1_ n2_; obtain ⟨v0, v1, v2, v3, v4, v5⟩ := Ps.three BK.out))
  (first | go_end0 | ((try simp only [Exit.inBlock, Exit.then]); refine bodyPost_ret (results_none rfl _ _ _) rfl ?_))
  exact ⟨rfl, HR.out.mono (fun _ h => h.1) HD.out, HS.out⟩
end Go.Proofs.Ytehojohacombkaa.G
