/- The parser's value by its contract, level over level. (Written by mkps7.py of this session.) -/
import Derived.Test.YtehojohacombkaaPp6
namespace Go.Proofs.Ytehojohacombkaa.G
open Go.RowKit Go.Proofs.YtehojohacombkaaW.PrintWords Go.Proofs.YtehojohacombkaaW.PrintLast Go.Proofs.YtehojohacombkaaW.PrintMore
open Go.Proofs.Ytehojohacombkaa.Lx (Tk)
open Go.Proofs.Ytehojohacombkaa.Ps (Nd St One nd rdn withKid withTo kidAdd putN setTo lastKid reachN lackN nextT bgK Wf scal listN wrapN colN pvN pairN memN valN mainN Stp OneOk)
set_option linter.unusedVariables false
set_option linter.unusedSimpArgs false
/-- What the closure put holds: the parser, the parent, the token. -/
structure Caps3 (W : World) (g : Nat) (p : Int) (b3 b4 b6 : Nat) (t : Tk) : Prop where
  h3 : W.heap[b3]? = some (.cells #[.pointer (some ⟨g, 0, none⟩)] 60 (0, 0))
  h4 : W.heap[b4]? = some (.cells #[.int .i64 p] 3 (0, 0))
  h6 : W.heap[b6]? = some (.cells #[.int .i64 t.f0, .int .i64 t.f1, .int .i64 t.f2] 46 (0, 0))
theorem Caps3.kept {W W2 : World} {g b3 b4 b6 : Nat} {p : Int} {t : Tk} {S : Nat → Prop} (h : Caps3 W g p b3 b4 b6 t) (k : Kept W W2 S) (n3 : ¬ S b3) (n4 : ¬ S b4) (n6 : ¬ S b6) : Caps3 W2 g p b3 b4 b6 t := ⟨blk_kept h.h3 k n3, blk_kept h.h4 k n4, blk_kept h.h6 k n6⟩
theorem Caps3.cells {W : World} {g b3 b4 b6 : Nat} {p : Int} {t : Tk} (h : Caps3 W g p b3 b4 b6 t) : W.cell? ⟨b3, 0, none⟩ = some (.pointer (some ⟨g, 0, none⟩)) ∧ W.cell? ⟨b4, 0, none⟩ = some (.int .i64 p) ∧ W.cell? ⟨b6, 0, none⟩ = some (.int .i64 t.f0) ∧ W.cell? ⟨b6, 1, none⟩ = some (.int .i64 t.f1) ∧ W.cell? ⟨b6, 2, none⟩ = some (.int .i64 t.f2) :=
  ⟨(blk_cell h.h3 0).trans rfl, (blk_cell h.h4 0).trans rfl, (blk_cell h.h6 0).trans rfl, (blk_cell h.h6 1).trans rfl, (blk_cell h.h6 2).trans rfl⟩
set_option maxHeartbeats 4000000 in
theorem Ps.put1_any (g : Nat) (ts : List Tk) (ns : List Nd) (en p kd : Int) (b3 b4 b6 : Nat) (t : Tk) (hp : 0 ≤ p) (hn : ns.length ≤ 1000000) (hw : Wf ns) (D : Nat → Prop) (w0 w : World) (hc : Caps3 w g p b3 b4 b6 t) (hB : Below w0.heap.size w0 w) (h : IsP w0 w g D ts ns en) :
    Calls Try.prog 56 #[.int .i64 kd, .pointer (some ⟨b3, 0, none⟩), .pointer (some ⟨b4, 0, none⟩), .pointer (some ⟨b6, 0, none⟩)] w fun e w' => e = .returned (.int .i64 (ns.length : Int)) ∧ IsP w0 w' g D ts (putN ns p kd t.f1 t.f2) en ∧ PStep w0 w w' g D := by
  have HP := Aside0.mk hp
  have HL := Aside0.mk hn
  have HW := Aside0.mk hw
  have HB := Aside0.mk hB
  have HR := Aside0.mk h
  obtain ⟨x0, x1, x2, x3, x4⟩ := hc.cells
  clear hp hn hw hB h hc
  go_enter Try.func56, Try.ntmps56
  go_wp2_with (first | (go_at_call 28; (with_reducible refine (Ps.put_any g ts ns en p kd t.f1 t.f2 HP.out HL.out HW.out D w0 _ HB.out HR.out).mono ?_); rintro e w9 ⟨rfl, hr_, hs_⟩; have HR9 := Aside0.mk hr_; have HS9 := Aside0.mk hs_; clear hr_ hs_ x0 x1 x2 x3 x4))
  go_ret
  exact ⟨rfl, HR9.out, HS9.out⟩
set_option maxHeartbeats 8000000 in
set_option maxRecDepth 100000 in
theorem Ps.value_scal (g : Nat) (p : Int) (ts : List Tk) (ns : List Nd) (en d : Int) (D : Nat → Prop) (w0 w : World) (hp : 0 ≤ p) (hw : Wf ns) (hn : ns.length + 6 * ts.length ≤ 900000) (hbg : ts ≠ []) (hB : Below w0.heap.size w0 w) (h : IsP w0 w g D ts ns en) (hs : (nextT en ts).f0 = 6 ∨ (nextT en ts).f0 = 7 ∨ (nextT en ts).f0 = 8) :
    Calls Try.prog 29 #[.pointer (some ⟨g, 0, none⟩), .int .i64 p, .int .i64 d] w (PPost w0 w g D en (ts.tail, scal p (nextT en ts) ns)) := by
  have HP := Aside0.mk hp
  have HL : Aside0 (ns.length ≤ 1000000) := ⟨by omega⟩
  have HW := Aside0.mk hw
  have HS := Aside0.mk (PStep.refl hB (g := g) (D := D))
  have HR := Aside0.mk h
  have HD := Aside0.mk h.notD
  have HT := Aside0.mk (hbg)
  obtain ⟨t, ht⟩ : ∃ t, nextT en ts = t := ⟨_, rfl⟩
  have HTT := Aside0.mk ht
  rw [ht] at hs ⊢
  rcases hs with hk | hk | hk
  · have HE : Aside0 (scal p t ns = putN ns p 4 t.f1 t.f2) := ⟨by unfold Go.Proofs.Ytehojohacombkaa.Ps.scal; simp [hk]⟩
    rw [HE.out]
    have k6 : (t.f0 == 6) = true := by rw [hk]; rfl
    have k7 : (t.f0 == 7) = false := by rw [hk]; rfl
    have k8 : (t.f0 == 8) = false := by rw [hk]; rfl
    have k0 : (t.f0 == 0) = false := by rw [hk]; rfl
    have k2 : (t.f0 == 2) = false := by rw [hk]; rfl
    clear hp hw hn hbg hB h ht hk
    go_enter Try.func29, Try.ntmps29
    go_upto_region 1 with (first | ((with_reducible refine gate_dst (N := 3) rfl ?_); refine box_event ?hg (N := 3) ?hd (cs := #[.pointer (some ⟨g, 0, none⟩)]) (t := 60) ?hr ?_; (case hd => rfl); (case hg => rfl); (case hr => first | (go_simp; done) | (go_simp; rfl)); intro b3 hgr w_ hbox hb; obtain ⟨hs_, hr_, hn_⟩ := Ps.box1 HS.out HR.out hb hbox hgr; have G3 : Aside0 (w.heap.size ≤ b3) := ⟨by rw [hgr]; exact HS.out.kept.1⟩; clear HS HR; have HS := Aside0.mk hs_; have HR := Aside0.mk hr_; have N3 := Aside0.mk hn_; have B3 := Aside0.mk hbox; obtain y3 : w_.cell? ⟨b3, 0, none⟩ = some (.pointer (some ⟨g, 0, none⟩)) := (blk_cell hbox 0).trans rfl; clear hs_ hr_ hn_ hb hbox hgr) | ((with_reducible refine gate_dst (N := 4) rfl ?_); refine box_event ?hg (N := 4) ?hd (cs := #[.int .i64 p]) (t := 3) ?hr ?_; (case hd => rfl); (case hg => rfl); (case hr => first | (go_simp; done) | (go_simp; rfl)); intro b4 hgr w_ hbox hb; obtain ⟨hs_, hr_, hn_⟩ := Ps.box1 HS.out HR.out hb hbox hgr; have b3_ := Aside0.mk (blk_below B3.out hb); have N34 : Aside0 (b3 ≠ b4) := ⟨by have := blk_lt B3.out; omega⟩; clear HS HR B3 y3; have HS := Aside0.mk hs_; have HR := Aside0.mk hr_; have N4 := Aside0.mk hn_; have B3 := b3_; have B4 := Aside0.mk hbox; have y3 : w_.cell? ⟨b3, 0, none⟩ = some (.pointer (some ⟨g, 0, none⟩)) := (blk_cell B3.out 0).trans rfl; clear hs_ hr_ hn_ hb hbox hgr b3_))
    go_upto_region 2 with (first | (go_at_call 55; (with_reducible refine (Ps.take_any g ts HT.out ns en (fun j => (D j ∧ j ≠ b3) ∧ j ≠ b4) w0 _ HS.out.below HR.out).mono ?_); rw [HTT.out]; rintro e w9 ⟨rfl, hr_, hs_⟩; have n0_ := Aside0.mk hr_; have n1_ := Aside0.mk (HS.out.trans hs_ (fun _ h => h.1.1)); have n3_ := Aside0.mk (blk_kept B3.out hs_.kept (fun h => h.elim N3.out (fun h => h.1.2 rfl))); have n4_ := Aside0.mk (blk_kept B4.out hs_.kept (fun h => h.elim N4.out (fun h => h.2 rfl))); clear HR HS B3 B4 y3 hr_ hs_; have HR := n0_; have HS := n1_; have B3 := n3_; have B4 := n4_; clear n0_ n1_ n3_ n4_) | ((with_reducible refine gate_dst (N := 6) rfl ?_); refine box_event ?hg (N := 6) ?hd (cs := #[.int .i64 0, .int .i64 0, .int .i64 0]) (t := 46) ?hr ?_; (case hd => rfl); (case hg => rfl); (case hr => first | (go_simp; done) | (go_simp; rfl)); intro b6 hgr w_ hbox hb; have HX_ := Aside0.mk hbox; have HB_ := Aside0.mk hb; have HG_ := Aside0.mk hgr; obtain ⟨v0, v1, v2, v3, v4, v5⟩ := Ps.three hbox; clear hbox hb hgr))
    obtain ⟨hs1, hr1, hb1, hn1⟩ := Ps.boxed (.int .i64 t.f0) (.int .i64 t.f1) (.int .i64 t.f2) HS.out HR.out HB_.out HX_.out HG_.out
    have hb3 := Ps.far3 (g := b6) (x := .int .i64 t.f0) (y := .int .i64 t.f1) (z := .int .i64 t.f2) (blk_below B3.out HB_.out) (by have := blk_lt B3.out; have := HG_.out; omega)
    have hb4 := Ps.far3 (g := b6) (x := .int .i64 t.f0) (y := .int .i64 t.f1) (z := .int .i64 t.f2) (blk_below B4.out HB_.out) (by have := blk_lt B4.out; have := HG_.out; omega)
    have N6 := Aside0.mk hn1
    clear HS HR HB_ HX_ HG_ v0 v1 v2 v3 v4 v5 B3 B4
    have HS := Aside0.mk hs1
    have HR := Aside0.mk hr1
    have HC : Aside0 (Caps3 (((w_.setCell ⟨b6, 0, none⟩ (.int .i64 t.f0)).setCell ⟨b6, 1, none⟩ (.int .i64 t.f1)).setCell ⟨b6, 2, none⟩ (.int .i64 t.f2)) g p b3 b4 b6 t) := ⟨⟨hb3, hb4, hb1⟩⟩
    clear hs1 hr1 hb1 hn1 hb3 hb4
    generalize ((w_.setCell ⟨b6, 0, none⟩ (.int .i64 t.f0)).setCell ⟨b6, 1, none⟩ (.int .i64 t.f1)).setCell ⟨b6, 2, none⟩ (.int .i64 t.f2) = W1 at HS HR HC ⊢
    obtain ⟨x0, x1, x2, x3, x4⟩ := HC.out.cells
    have M3 : Aside0 (¬ (b3 = g ∨ (fun j => ((D j ∧ j ≠ b3) ∧ j ≠ b4) ∧ j ≠ b6) b3)) := ⟨fun h => h.elim N3.out (fun h => h.1.1.2 rfl)⟩
    have M4 : Aside0 (¬ (b4 = g ∨ (fun j => ((D j ∧ j ≠ b3) ∧ j ≠ b4) ∧ j ≠ b6) b4)) := ⟨fun h => h.elim N4.out (fun h => h.1.2 rfl)⟩
    have M6 : Aside0 (¬ (b6 = g ∨ (fun j => ((D j ∧ j ≠ b3) ∧ j ≠ b4) ∧ j ≠ b6) b6)) := ⟨fun h => h.elim N6.out (fun h => h.2 rfl)⟩
    go_wp2_with (first | (go_at_call 56; (with_reducible refine (Ps.put1_any g ts.tail ns en p 4 b3 b4 b6 t HP.out HL.out HW.out (fun j => ((D j ∧ j ≠ b3) ∧ j ≠ b4) ∧ j ≠ b6) w0 _ HC.out HS.out.below HR.out).mono ?_); rintro e w9 ⟨rfl, hr_, hs_⟩; have n0_ := Aside0.mk hr_; have n1_ := Aside0.mk (HS.out.trans hs_ (fun _ h => h.1.1.1)); have n2_ := Aside0.mk (HC.out.kept hs_.kept M3.out M4.out M6.out); clear HR HS HC hr_ hs_ x0 x1 x2 x3 x4; have HR := n0_; have HS := n1_; have HC := n2_; clear n0_ n1_ n2_; obtain ⟨x0, x1, x2, x3, x4⟩ := HC.out.cells))
    (first | go_end0 | ((try simp only [Exit.inBlock, Exit.then]); refine bodyPost_ret (results_none rfl _ _ _) rfl ?_))
    exact ⟨rfl, HR.out.mono (fun _ h => h.1.1.1) HD.out, HS.out⟩
  · have HE : Aside0 (scal p t ns = putN ns p 5 t.f1 t.f2) := ⟨by unfold Go.Proofs.Ytehojohacombkaa.Ps.scal; simp [hk]⟩
    rw [HE.out]
    have k6 : (t.f0 == 6) = false := by rw [hk]; rfl
    have k7 : (t.f0 == 7) = true := by rw [hk]; rfl
    have k8 : (t.f0 == 8) = false := by rw [hk]; rfl
    have k0 : (t.f0 == 0) = false := by rw [hk]; rfl
    have k2 : (t.f0 == 2) = false := by rw [hk]; rfl
    clear hp hw hn hbg hB h ht hk
    go_enter Try.func29, Try.ntmps29
    go_upto_region 1 with (first | ((with_reducible refine gate_dst (N := 3) rfl ?_); refine box_event ?hg (N := 3) ?hd (cs := #[.pointer (some ⟨g, 0, none⟩)]) (t := 60) ?hr ?_; (case hd => rfl); (case hg => rfl); (case hr => first | (go_simp; done) | (go_simp; rfl)); intro b3 hgr w_ hbox hb; obtain ⟨hs_, hr_, hn_⟩ := Ps.box1 HS.out HR.out hb hbox hgr; have G3 : Aside0 (w.heap.size ≤ b3) := ⟨by rw [hgr]; exact HS.out.kept.1⟩; clear HS HR; have HS := Aside0.mk hs_; have HR := Aside0.mk hr_; have N3 := Aside0.mk hn_; have B3 := Aside0.mk hbox; obtain y3 : w_.cell? ⟨b3, 0, none⟩ = some (.pointer (some ⟨g, 0, none⟩)) := (blk_cell hbox 0).trans rfl; clear hs_ hr_ hn_ hb hbox hgr) | ((with_reducible refine gate_dst (N := 4) rfl ?_); refine box_event ?hg (N := 4) ?hd (cs := #[.int .i64 p]) (t := 3) ?hr ?_; (case hd => rfl); (case hg => rfl); (case hr => first | (go_simp; done) | (go_simp; rfl)); intro b4 hgr w_ hbox hb; obtain ⟨hs_, hr_, hn_⟩ := Ps.box1 HS.out HR.out hb hbox hgr; have b3_ := Aside0.mk (blk_below B3.out hb); have N34 : Aside0 (b3 ≠ b4) := ⟨by have := blk_lt B3.out; omega⟩; clear HS HR B3 y3; have HS := Aside0.mk hs_; have HR := Aside0.mk hr_; have N4 := Aside0.mk hn_; have B3 := b3_; have B4 := Aside0.mk hbox; have y3 : w_.cell? ⟨b3, 0, none⟩ = some (.pointer (some ⟨g, 0, none⟩)) := (blk_cell B3.out 0).trans rfl; clear hs_ hr_ hn_ hb hbox hgr b3_))
    go_upto_region 2 with (first | (go_at_call 55; (with_reducible refine (Ps.take_any g ts HT.out ns en (fun j => (D j ∧ j ≠ b3) ∧ j ≠ b4) w0 _ HS.out.below HR.out).mono ?_); rw [HTT.out]; rintro e w9 ⟨rfl, hr_, hs_⟩; have n0_ := Aside0.mk hr_; have n1_ := Aside0.mk (HS.out.trans hs_ (fun _ h => h.1.1)); have n3_ := Aside0.mk (blk_kept B3.out hs_.kept (fun h => h.elim N3.out (fun h => h.1.2 rfl))); have n4_ := Aside0.mk (blk_kept B4.out hs_.kept (fun h => h.elim N4.out (fun h => h.2 rfl))); clear HR HS B3 B4 y3 hr_ hs_; have HR := n0_; have HS := n1_; have B3 := n3_; have B4 := n4_; clear n0_ n1_ n3_ n4_) | ((with_reducible refine gate_dst (N := 6) rfl ?_); refine box_event ?hg (N := 6) ?hd (cs := #[.int .i64 0, .int .i64 0, .int .i64 0]) (t := 46) ?hr ?_; (case hd => rfl); (case hg => rfl); (case hr => first | (go_simp; done) | (go_simp; rfl)); intro b6 hgr w_ hbox hb; have HX_ := Aside0.mk hbox; have HB_ := Aside0.mk hb; have HG_ := Aside0.mk hgr; obtain ⟨v0, v1, v2, v3, v4, v5⟩ := Ps.three hbox; clear hbox hb hgr))
    obtain ⟨hs1, hr1, hb1, hn1⟩ := Ps.boxed (.int .i64 t.f0) (.int .i64 t.f1) (.int .i64 t.f2) HS.out HR.out HB_.out HX_.out HG_.out
    have hb3 := Ps.far3 (g := b6) (x := .int .i64 t.f0) (y := .int .i64 t.f1) (z := .int .i64 t.f2) (blk_below B3.out HB_.out) (by have := blk_lt B3.out; have := HG_.out; omega)
    have hb4 := Ps.far3 (g := b6) (x := .int .i64 t.f0) (y := .int .i64 t.f1) (z := .int .i64 t.f2) (blk_below B4.out HB_.out) (by have := blk_lt B4.out; have := HG_.out; omega)
    have N6 := Aside0.mk hn1
    clear HS HR HB_ HX_ HG_ v0 v1 v2 v3 v4 v5 B3 B4
    have HS := Aside0.mk hs1
    have HR := Aside0.mk hr1
    have HC : Aside0 (Caps3 (((w_.setCell ⟨b6, 0, none⟩ (.int .i64 t.f0)).setCell ⟨b6, 1, none⟩ (.int .i64 t.f1)).setCell ⟨b6, 2, none⟩ (.int .i64 t.f2)) g p b3 b4 b6 t) := ⟨⟨hb3, hb4, hb1⟩⟩
    clear hs1 hr1 hb1 hn1 hb3 hb4
    generalize ((w_.setCell ⟨b6, 0, none⟩ (.int .i64 t.f0)).setCell ⟨b6, 1, none⟩ (.int .i64 t.f1)).setCell ⟨b6, 2, none⟩ (.int .i64 t.f2) = W1 at HS HR HC ⊢
    obtain ⟨x0, x1, x2, x3, x4⟩ := HC.out.cells
    have M3 : Aside0 (¬ (b3 = g ∨ (fun j => ((D j ∧ j ≠ b3) ∧ j ≠ b4) ∧ j ≠ b6) b3)) := ⟨fun h => h.elim N3.out (fun h => h.1.1.2 rfl)⟩
    have M4 : Aside0 (¬ (b4 = g ∨ (fun j => ((D j ∧ j ≠ b3) ∧ j ≠ b4) ∧ j ≠ b6) b4)) := ⟨fun h => h.elim N4.out (fun h => h.1.2 rfl)⟩
    have M6 : Aside0 (¬ (b6 = g ∨ (fun j => ((D j ∧ j ≠ b3) ∧ j ≠ b4) ∧ j ≠ b6) b6)) := ⟨fun h => h.elim N6.out (fun h => h.2 rfl)⟩
    go_wp2_with (first | (go_at_call 56; (with_reducible refine (Ps.put1_any g ts.tail ns en p 5 b3 b4 b6 t HP.out HL.out HW.out (fun j => ((D j ∧ j ≠ b3) ∧ j ≠ b4) ∧ j ≠ b6) w0 _ HC.out HS.out.below HR.out).mono ?_); rintro e w9 ⟨rfl, hr_, hs_⟩; have n0_ := Aside0.mk hr_; have n1_ := Aside0.mk (HS.out.trans hs_ (fun _ h => h.1.1.1)); have n2_ := Aside0.mk (HC.out.kept hs_.kept M3.out M4.out M6.out); clear HR HS HC hr_ hs_ x0 x1 x2 x3 x4; have HR := n0_; have HS := n1_; have HC := n2_; clear n0_ n1_ n2_; obtain ⟨x0, x1, x2, x3, x4⟩ := HC.out.cells))
    (first | go_end0 | ((try simp only [Exit.inBlock, Exit.then]); refine bodyPost_ret (results_none rfl _ _ _) rfl ?_))
    exact ⟨rfl, HR.out.mono (fun _ h => h.1.1.1) HD.out, HS.out⟩
  · have HE : Aside0 (scal p t ns = putN ns p 6 t.f1 t.f2) := ⟨by unfold Go.Proofs.Ytehojohacombkaa.Ps.scal; simp [hk]⟩
    rw [HE.out]
    have k6 : (t.f0 == 6) = false := by rw [hk]; rfl
    have k7 : (t.f0 == 7) = false := by rw [hk]; rfl
    have k8 : (t.f0 == 8) = true := by rw [hk]; rfl
    have k0 : (t.f0 == 0) = false := by rw [hk]; rfl
    have k2 : (t.f0 == 2) = false := by rw [hk]; rfl
    clear hp hw hn hbg hB h ht hk
    go_enter Try.func29, Try.ntmps29
    go_upto_region 1 with (first | ((with_reducible refine gate_dst (N := 3) rfl ?_); refine box_event ?hg (N := 3) ?hd (cs := #[.pointer (some ⟨g, 0, none⟩)]) (t := 60) ?hr ?_; (case hd => rfl); (case hg => rfl); (case hr => first | (go_simp; done) | (go_simp; rfl)); intro b3 hgr w_ hbox hb; obtain ⟨hs_, hr_, hn_⟩ := Ps.box1 HS.out HR.out hb hbox hgr; have G3 : Aside0 (w.heap.size ≤ b3) := ⟨by rw [hgr]; exact HS.out.kept.1⟩; clear HS HR; have HS := Aside0.mk hs_; have HR := Aside0.mk hr_; have N3 := Aside0.mk hn_; have B3 := Aside0.mk hbox; obtain y3 : w_.cell? ⟨b3, 0, none⟩ = some (.pointer (some ⟨g, 0, none⟩)) := (blk_cell hbox 0).trans rfl; clear hs_ hr_ hn_ hb hbox hgr) | ((with_reducible refine gate_dst (N := 4) rfl ?_); refine box_event ?hg (N := 4) ?hd (cs := #[.int .i64 p]) (t := 3) ?hr ?_; (case hd => rfl); (case hg => rfl); (case hr => first | (go_simp; done) | (go_simp; rfl)); intro b4 hgr w_ hbox hb; obtain ⟨hs_, hr_, hn_⟩ := Ps.box1 HS.out HR.out hb hbox hgr; have b3_ := Aside0.mk (blk_below B3.out hb); have N34 : Aside0 (b3 ≠ b4) := ⟨by have := blk_lt B3.out; omega⟩; clear HS HR B3 y3; have HS := Aside0.mk hs_; have HR := Aside0.mk hr_; have N4 := Aside0.mk hn_; have B3 := b3_; have B4 := Aside0.mk hbox; have y3 : w_.cell? ⟨b3, 0, none⟩ = some (.pointer (some ⟨g, 0, none⟩)) := (blk_cell B3.out 0).trans rfl; clear hs_ hr_ hn_ hb hbox hgr b3_))
    go_upto_region 2 with (first | (go_at_call 55; (with_reducible refine (Ps.take_any g ts HT.out ns en (fun j => (D j ∧ j ≠ b3) ∧ j ≠ b4) w0 _ HS.out.below HR.out).mono ?_); rw [HTT.out]; rintro e w9 ⟨rfl, hr_, hs_⟩; have n0_ := Aside0.mk hr_; have n1_ := Aside0.mk (HS.out.trans hs_ (fun _ h => h.1.1)); have n3_ := Aside0.mk (blk_kept B3.out hs_.kept (fun h => h.elim N3.out (fun h => h.1.2 rfl))); have n4_ := Aside0.mk (blk_kept B4.out hs_.kept (fun h => h.elim N4.out (fun h => h.2 rfl))); clear HR HS B3 B4 y3 hr_ hs_; have HR := n0_; have HS := n1_; have B3 := n3_; have B4 := n4_; clear n0_ n1_ n3_ n4_) | ((with_reducible refine gate_dst (N := 6) rfl ?_); refine box_event ?hg (N := 6) ?hd (cs := #[.int .i64 0, .int .i64 0, .int .i64 0]) (t := 46) ?hr ?_; (case hd => rfl); (case hg => rfl); (case hr => first | (go_simp; done) | (go_simp; rfl)); intro b6 hgr w_ hbox hb; have HX_ := Aside0.mk hbox; have HB_ := Aside0.mk hb; have HG_ := Aside0.mk hgr; obtain ⟨v0, v1, v2, v3, v4, v5⟩ := Ps.three hbox; clear hbox hb hgr))
    obtain ⟨hs1, hr1, hb1, hn1⟩ := Ps.boxed (.int .i64 t.f0) (.int .i64 t.f1) (.int .i64 t.f2) HS.out HR.out HB_.out HX_.out HG_.out
    have hb3 := Ps.far3 (g := b6) (x := .int .i64 t.f0) (y := .int .i64 t.f1) (z := .int .i64 t.f2) (blk_below B3.out HB_.out) (by have := blk_lt B3.out; have := HG_.out; omega)
    have hb4 := Ps.far3 (g := b6) (x := .int .i64 t.f0) (y := .int .i64 t.f1) (z := .int .i64 t.f2) (blk_below B4.out HB_.out) (by have := blk_lt B4.out; have := HG_.out; omega)
    have N6 := Aside0.mk hn1
    clear HS HR HB_ HX_ HG_ v0 v1 v2 v3 v4 v5 B3 B4
    have HS := Aside0.mk hs1
    have HR := Aside0.mk hr1
    have HC : Aside0 (Caps3 (((w_.setCell ⟨b6, 0, none⟩ (.int .i64 t.f0)).setCell ⟨b6, 1, none⟩ (.int .i64 t.f1)).setCell ⟨b6, 2, none⟩ (.int .i64 t.f2)) g p b3 b4 b6 t) := ⟨⟨hb3, hb4, hb1⟩⟩
    clear hs1 hr1 hb1 hn1 hb3 hb4
    generalize ((w_.setCell ⟨b6, 0, none⟩ (.int .i64 t.f0)).setCell ⟨b6, 1, none⟩ (.int .i64 t.f1)).setCell ⟨b6, 2, none⟩ (.int .i64 t.f2) = W1 at HS HR HC ⊢
    obtain ⟨x0, x1, x2, x3, x4⟩ := HC.out.cells
    have M3 : Aside0 (¬ (b3 = g ∨ (fun j => ((D j ∧ j ≠ b3) ∧ j ≠ b4) ∧ j ≠ b6) b3)) := ⟨fun h => h.elim N3.out (fun h => h.1.1.2 rfl)⟩
    have M4 : Aside0 (¬ (b4 = g ∨ (fun j => ((D j ∧ j ≠ b3) ∧ j ≠ b4) ∧ j ≠ b6) b4)) := ⟨fun h => h.elim N4.out (fun h => h.1.2 rfl)⟩
    have M6 : Aside0 (¬ (b6 = g ∨ (fun j => ((D j ∧ j ≠ b3) ∧ j ≠ b4) ∧ j ≠ b6) b6)) := ⟨fun h => h.elim N6.out (fun h => h.2 rfl)⟩
    go_wp2_with (first | (go_at_call 56; (with_reducible refine (Ps.put1_any g ts.tail ns en p 6 b3 b4 b6 t HP.out HL.out HW.out (fun j => ((D j ∧ j ≠ b3) ∧ j ≠ b4) ∧ j ≠ b6) w0 _ HC.out HS.out.below HR.out).mono ?_); rintro e w9 ⟨rfl, hr_, hs_⟩; have n0_ := Aside0.mk hr_; have n1_ := Aside0.mk (HS.out.trans hs_ (fun _ h => h.1.1.1)); have n2_ := Aside0.mk (HC.out.kept hs_.kept M3.out M4.out M6.out); clear HR HS HC hr_ hs_ x0 x1 x2 x3 x4; have HR := n0_; have HS := n1_; have HC := n2_; clear n0_ n1_ n2_; obtain ⟨x0, x1, x2, x3, x4⟩ := HC.out.cells))
    (first | go_end0 | ((try simp only [Exit.inBlock, Exit.then]); refine bodyPost_ret (results_none rfl _ _ _) rfl ?_))
    exact ⟨rfl, HR.out.mono (fun _ h => h.1.1.1) HD.out, HS.out⟩
theorem Ps.value_zero (en : Int) : VCP en 0 := by
  intro g p ts ns d D w0 w hd hbg hp hp1 hw hn hB h
  refine Ps.value_scal g p ts ns en d D w0 w hp hw hn (Ps.bg_some hbg) hB h ?_
  unfold Go.Proofs.Ytehojohacombkaa.Ps.bgK at hbg
  simp only [Bool.or_eq_true, Bool.and_eq_true, beq_iff_eq, decide_eq_true_eq] at hbg
  omega
set_option maxHeartbeats 16000000 in
set_option maxRecDepth 100000 in
theorem Ps.value_obj (k : Nat) (hk12 : k ≤ 12) (en : Int) (hV : VCP en k) (g : Nat) (p : Int) (ts : List Tk) (ns : List Nd) (d : Int) (D : Nat → Prop) (w0 w : World) (hd : d = 12 - (k : Int)) (hp : 0 ≤ p) (hw : Wf ns) (hn : ns.length + 6 * ts.length ≤ 900000) (hbg : ts ≠ []) (hB : Below w0.heap.size w0 w) (h : IsP w0 w g D ts ns en) (hk : (nextT en ts).f0 = 0) :
    Calls Try.prog 29 #[.pointer (some ⟨g, 0, none⟩), .int .i64 p, .int .i64 d] w (PPost w0 w g D en (listN (memN (valN en k) (bgK k) en) (bgK k) en 1 ns.length (ts.length + 1) 0 ts.tail (putN ns p 1 (nextT en ts).f1 (nextT en ts).f2))) := by
  have HP := Aside0.mk hp
  have HL : Aside0 (ns.length ≤ 1000000) := ⟨by omega⟩
  have HW := Aside0.mk hw
  have HS := Aside0.mk (PStep.refl hB (g := g) (D := D))
  have HR := Aside0.mk h
  have HD := Aside0.mk h.notD
  have HT := Aside0.mk (hbg)
  obtain ⟨t, ht⟩ : ∃ t, nextT en ts = t := ⟨_, rfl⟩
  have HTT := Aside0.mk ht
  have HV := Aside0.mk hV
  have HDD := Aside0.mk hd
  have HK12 := Aside0.mk hk12
  rw [ht] at hk ⊢
  have k6 : (t.f0 == 6) = false := by rw [hk]; rfl
  have k7 : (t.f0 == 7) = false := by rw [hk]; rfl
  have k8 : (t.f0 == 8) = false := by rw [hk]; rfl
  have k0 : (t.f0 == 0) = true := by rw [hk]; rfl
  have k2 : (t.f0 == 2) = false := by rw [hk]; rfl
  obtain ⟨m, hm⟩ : ∃ m : Int, m = (ns.length : Int) := ⟨_, rfl⟩
  have HM := Aside0.mk hm
  have hpl := Ps.putN_len ns p 1 t.f1 t.f2
  have hpw := Ps.putN_wf hw p 1 t.f1 t.f2 hp
  rw [← hm]
  obtain ⟨ms, hms⟩ : ∃ ms, putN ns p 1 t.f1 t.f2 = ms := ⟨_, rfl⟩
  have HMS := Aside0.mk hms
  rw [hms] at hpl hpw ⊢
  have htl := Ps.next_tail hbg
  have HQ1 : Aside0 (0 ≤ m ∧ m < (ms.length : Int)) := ⟨by omega⟩
  have HQ2 : Aside0 (ts.tail.length < ts.length + 1 ∧ ms.length + 6 * ts.tail.length ≤ 899998) := ⟨by omega⟩
  have HQ3 := Aside0.mk hpw
  clear hp hw hn hbg hB h ht hk hV hd hk12 hm hpl hpw hms htl
  go_enter Try.func29, Try.ntmps29
  go_upto_region 1 with (first | ((with_reducible refine gate_dst (N := 3) rfl ?_); refine box_event ?hg (N := 3) ?hd (cs := #[.pointer (some ⟨g, 0, none⟩)]) (t := 60) ?hr ?_; (case hd => rfl); (case hg => rfl); (case hr => first | (go_simp; done) | (go_simp; rfl)); intro b3 hgr w_ hbox hb; obtain ⟨hs_, hr_, hn_⟩ := Ps.box1 HS.out HR.out hb hbox hgr; have G3 : Aside0 (w.heap.size ≤ b3) := ⟨by rw [hgr]; exact HS.out.kept.1⟩; clear HS HR; have HS := Aside0.mk hs_; have HR := Aside0.mk hr_; have N3 := Aside0.mk hn_; have B3 := Aside0.mk hbox; obtain y3 : w_.cell? ⟨b3, 0, none⟩ = some (.pointer (some ⟨g, 0, none⟩)) := (blk_cell hbox 0).trans rfl; clear hs_ hr_ hn_ hb hbox hgr) | ((with_reducible refine gate_dst (N := 4) rfl ?_); refine box_event ?hg (N := 4) ?hd (cs := #[.int .i64 p]) (t := 3) ?hr ?_; (case hd => rfl); (case hg => rfl); (case hr => first | (go_simp; done) | (go_simp; rfl)); intro b4 hgr w_ hbox hb; obtain ⟨hs_, hr_, hn_⟩ := Ps.box1 HS.out HR.out hb hbox hgr; have b3_ := Aside0.mk (blk_below B3.out hb); have N34 : Aside0 (b3 ≠ b4) := ⟨by have := blk_lt B3.out; omega⟩; clear HS HR B3 y3; have HS := Aside0.mk hs_; have HR := Aside0.mk hr_; have N4 := Aside0.mk hn_; have B3 := b3_; have B4 := Aside0.mk hbox; have y3 : w_.cell? ⟨b3, 0, none⟩ = some (.pointer (some ⟨g, 0, none⟩)) := (blk_cell B3.out 0).trans rfl; clear hs_ hr_ hn_ hb hbox hgr b3_))
  go_upto_region 2 with (first | (go_at_call 55; (with_reducible refine (Ps.take_any g ts HT.out ns en (fun j => (D j ∧ j ≠ b3) ∧ j ≠ b4) w0 _ HS.out.below HR.out).mono ?_); rw [HTT.out]; rintro e w9 ⟨rfl, hr_, hs_⟩; have n0_ := Aside0.mk hr_; have n1_ := Aside0.mk (HS.out.trans hs_ (fun _ h => h.1.1)); have n3_ := Aside0.mk (blk_kept B3.out hs_.kept (fun h => h.elim N3.out (fun h => h.1.2 rfl))); have n4_ := Aside0.mk (blk_kept B4.out hs_.kept (fun h => h.elim N4.out (fun h => h.2 rfl))); clear HR HS B3 B4 y3 hr_ hs_; have HR := n0_; have HS := n1_; have B3 := n3_; have B4 := n4_; clear n0_ n1_ n3_ n4_) | ((with_reducible refine gate_dst (N := 6) rfl ?_); refine box_event ?hg (N := 6) ?hd (cs := #[.int .i64 0, .int .i64 0, .int .i64 0]) (t := 46) ?hr ?_; (case hd => rfl); (case hg => rfl); (case hr => first | (go_simp; done) | (go_simp; rfl)); intro b6 hgr w_ hbox hb; have HX_ := Aside0.mk hbox; have HB_ := Aside0.mk hb; have HG_ := Aside0.mk hgr; obtain ⟨v0, v1, v2, v3, v4, v5⟩ := Ps.three hbox; clear hbox hb hgr))
  obtain ⟨hs1, hr1, hb1, hn1⟩ := Ps.boxed (.int .i64 t.f0) (.int .i64 t.f1) (.int .i64 t.f2) HS.out HR.out HB_.out HX_.out HG_.out
  have hb3 := Ps.far3 (g := b6) (x := .int .i64 t.f0) (y := .int .i64 t.f1) (z := .int .i64 t.f2) (blk_below B3.out HB_.out) (by have := blk_lt B3.out; have := HG_.out; omega)
  have hb4 := Ps.far3 (g := b6) (x := .int .i64 t.f0) (y := .int .i64 t.f1) (z := .int .i64 t.f2) (blk_below B4.out HB_.out) (by have := blk_lt B4.out; have := HG_.out; omega)
  have N6 := Aside0.mk hn1
  clear HS HR HB_ HX_ HG_ v0 v1 v2 v3 v4 v5 B3 B4
  have HS := Aside0.mk hs1
  have HR := Aside0.mk hr1
  have HC : Aside0 (Caps3 (((w_.setCell ⟨b6, 0, none⟩ (.int .i64 t.f0)).setCell ⟨b6, 1, none⟩ (.int .i64 t.f1)).setCell ⟨b6, 2, none⟩ (.int .i64 t.f2)) g p b3 b4 b6 t) := ⟨⟨hb3, hb4, hb1⟩⟩
  clear hs1 hr1 hb1 hn1 hb3 hb4
  generalize ((w_.setCell ⟨b6, 0, none⟩ (.int .i64 t.f0)).setCell ⟨b6, 1, none⟩ (.int .i64 t.f1)).setCell ⟨b6, 2, none⟩ (.int .i64 t.f2) = W1 at HS HR HC ⊢
  obtain ⟨x0, x1, x2, x3, x4⟩ := HC.out.cells
  have M3 : Aside0 (¬ (b3 = g ∨ (fun j => ((D j ∧ j ≠ b3) ∧ j ≠ b4) ∧ j ≠ b6) b3)) := ⟨fun h => h.elim N3.out (fun h => h.1.1.2 rfl)⟩
  have M4 : Aside0 (¬ (b4 = g ∨ (fun j => ((D j ∧ j ≠ b3) ∧ j ≠ b4) ∧ j ≠ b6) b4)) := ⟨fun h => h.elim N4.out (fun h => h.1.2 rfl)⟩
  have M6 : Aside0 (¬ (b6 = g ∨ (fun j => ((D j ∧ j ≠ b3) ∧ j ≠ b4) ∧ j ≠ b6) b6)) := ⟨fun h => h.elim N6.out (fun h => h.2 rfl)⟩
  go_upto_region 11 with (fail)
  have hr1 := HR.out.below (below_drew (Below.refl W1.heap.size W1))
  have hs1 := HS.out.more (below_drew (Below.refl W1.heap.size W1))
  have hc1 : Caps3 W1.drew g p b3 b4 b6 t := ⟨HC.out.h3, HC.out.h4, HC.out.h6⟩
  clear HR HS HC x0 x1 x2 x3 x4
  have HR := Aside0.mk hr1
  have HS := Aside0.mk hs1
  have HC := Aside0.mk hc1
  clear hr1 hs1 hc1
  obtain ⟨x0, x1, x2, x3, x4⟩ := HC.out.cells
  go_region_with (first | (go_at_call 56; (with_reducible refine (Ps.put1_any g ts.tail ns en p 1 b3 b4 b6 t HP.out HL.out HW.out (fun j => ((D j ∧ j ≠ b3) ∧ j ≠ b4) ∧ j ≠ b6) w0 _ HC.out HS.out.below HR.out).mono ?_); rw [← HM.out, HMS.out]; rintro e w9 ⟨rfl, hr_, hs_⟩; have n0_ := Aside0.mk hr_; have n1_ := Aside0.mk (HS.out.trans hs_ (fun _ h => h.1.1.1)); have n2_ := Aside0.mk (HC.out.kept hs_.kept M3.out M4.out M6.out); clear HR HS HC hr_ hs_ x0 x1 x2 x3 x4; have HR := n0_; have HS := n1_; have HC := n2_; clear n0_ n1_ n2_; obtain ⟨x0, x1, x2, x3, x4⟩ := HC.out.cells) | (go_at_call 57; (with_reducible refine (Ps.list_mem k HK12.out g 1 m ts.tail ms en d HV.out (fun j => ((D j ∧ j ≠ b3) ∧ j ≠ b4) ∧ j ≠ b6) w0 _ HDD.out HQ1.out.1 HQ1.out.2 HQ3.out (ts.length + 1) HQ2.out.1 HQ2.out.2 HS.out.below HR.out).mono ?_); rintro e w9 ⟨rfl, hr_, hs_⟩; have n0_ := Aside0.mk hr_; have n1_ := Aside0.mk (HS.out.trans hs_ (fun _ h => h.1.1.1)); have n2_ := Aside0.mk (HC.out.kept hs_.kept M3.out M4.out M6.out); clear HR HS HC hr_ hs_ x0 x1 x2 x3 x4; have HR := n0_; have HS := n1_; have HC := n2_; clear n0_ n1_ n2_; obtain ⟨x0, x1, x2, x3, x4⟩ := HC.out.cells))
  all_goals
    (first | go_end0 | ((try simp only [Exit.inBlock, Exit.then]); refine bodyPost_ret (results_none rfl _ _ _) rfl ?_))
    exact ⟨rfl, HR.out.mono (fun _ h => h.1.1.1) HD.out, HS.out⟩
set_option maxHeartbeats 16000000 in
set_option maxRecDepth 100000 in
theorem Ps.value_arr (k : Nat) (hk12 : k ≤ 12) (en : Int) (hV : VCP en k) (g : Nat) (p : Int) (ts : List Tk) (ns : List Nd) (d : Int) (D : Nat → Prop) (w0 w : World) (hd : d = 12 - (k : Int)) (hp : 0 ≤ p) (hw : Wf ns) (hn : ns.length + 6 * ts.length ≤ 900000) (hbg : ts ≠ []) (hB : Below w0.heap.size w0 w) (h : IsP w0 w g D ts ns en) (hk : (nextT en ts).f0 = 2) :
    Calls Try.prog 29 #[.pointer (some ⟨g, 0, none⟩), .int .i64 p, .int .i64 d] w (PPost w0 w g D en (listN (valN en k) (bgK k) en 3 ns.length (ts.length + 1) 0 ts.tail (putN ns p 2 (nextT en ts).f1 (nextT en ts).f2))) := by
  have HP := Aside0.mk hp
  have HL : Aside0 (ns.length ≤ 1000000) := ⟨by omega⟩
  have HW := Aside0.mk hw
  have HS := Aside0.mk (PStep.refl hB (g := g) (D := D))
  have HR := Aside0.mk h
  have HD := Aside0.mk h.notD
  have HT := Aside0.mk (hbg)
  obtain ⟨t, ht⟩ : ∃ t, nextT en ts = t := ⟨_, rfl⟩
  have HTT := Aside0.mk ht
  have HV := Aside0.mk hV
  have HDD := Aside0.mk hd
  have HK12 := Aside0.mk hk12
  rw [ht] at hk ⊢
  have k6 : (t.f0 == 6) = false := by rw [hk]; rfl
  have k7 : (t.f0 == 7) = false := by rw [hk]; rfl
  have k8 : (t.f0 == 8) = false := by rw [hk]; rfl
  have k0 : (t.f0 == 0) = false := by rw [hk]; rfl
  have k2 : (t.f0 == 2) = true := by rw [hk]; rfl
  obtain ⟨m, hm⟩ : ∃ m : Int, m = (ns.length : Int) := ⟨_, rfl⟩
  have HM := Aside0.mk hm
  have hpl := Ps.putN_len ns p 2 t.f1 t.f2
  have hpw := Ps.putN_wf hw p 2 t.f1 t.f2 hp
  rw [← hm]
  obtain ⟨ms, hms⟩ : ∃ ms, putN ns p 2 t.f1 t.f2 = ms := ⟨_, rfl⟩
  have HMS := Aside0.mk hms
  rw [hms] at hpl hpw ⊢
  have htl := Ps.next_tail hbg
  have HQ1 : Aside0 (0 ≤ m ∧ m < (ms.length : Int)) := ⟨by omega⟩
  have HQ2 : Aside0 (ts.tail.length < ts.length + 1 ∧ ms.length + 6 * ts.tail.length ≤ 899998) := ⟨by omega⟩
  have HQ3 := Aside0.mk hpw
  clear hp hw hn hbg hB h ht hk hV hd hk12 hm hpl hpw hms htl
  go_enter Try.func29, Try.ntmps29
  go_upto_region 1 with (first | ((with_reducible refine gate_dst (N := 3) rfl ?_); refine box_event ?hg (N := 3) ?hd (cs := #[.pointer (some ⟨g, 0, none⟩)]) (t := 60) ?hr ?_; (case hd => rfl); (case hg => rfl); (case hr => first | (go_simp; done) | (go_simp; rfl)); intro b3 hgr w_ hbox hb; obtain ⟨hs_, hr_, hn_⟩ := Ps.box1 HS.out HR.out hb hbox hgr; have G3 : Aside0 (w.heap.size ≤ b3) := ⟨by rw [hgr]; exact HS.out.kept.1⟩; clear HS HR; have HS := Aside0.mk hs_; have HR := Aside0.mk hr_; have N3 := Aside0.mk hn_; have B3 := Aside0.mk hbox; obtain y3 : w_.cell? ⟨b3, 0, none⟩ = some (.pointer (some ⟨g, 0, none⟩)) := (blk_cell hbox 0).trans rfl; clear hs_ hr_ hn_ hb hbox hgr) | ((with_reducible refine gate_dst (N := 4) rfl ?_); refine box_event ?hg (N := 4) ?hd (cs := #[.int .i64 p]) (t := 3) ?hr ?_; (case hd => rfl); (case hg => rfl); (case hr => first | (go_simp; done) | (go_simp; rfl)); intro b4 hgr w_ hbox hb; obtain ⟨hs_, hr_, hn_⟩ := Ps.box1 HS.out HR.out hb hbox hgr; have b3_ := Aside0.mk (blk_below B3.out hb); have N34 : Aside0 (b3 ≠ b4) := ⟨by have := blk_lt B3.out; omega⟩; clear HS HR B3 y3; have HS := Aside0.mk hs_; have HR := Aside0.mk hr_; have N4 := Aside0.mk hn_; have B3 := b3_; have B4 := Aside0.mk hbox; have y3 : w_.cell? ⟨b3, 0, none⟩ = some (.pointer (some ⟨g, 0, none⟩)) := (blk_cell B3.out 0).trans rfl; clear hs_ hr_ hn_ hb hbox hgr b3_))
  go_upto_region 2 with (first | (go_at_call 55; (with_reducible refine (Ps.take_any g ts HT.out ns en (fun j => (D j ∧ j ≠ b3) ∧ j ≠ b4) w0 _ HS.out.below HR.out).mono ?_); rw [HTT.out]; rintro e w9 ⟨rfl, hr_, hs_⟩; have n0_ := Aside0.mk hr_; have n1_ := Aside0.mk (HS.out.trans hs_ (fun _ h => h.1.1)); have n3_ := Aside0.mk (blk_kept B3.out hs_.kept (fun h => h.elim N3.out (fun h => h.1.2 rfl))); have n4_ := Aside0.mk (blk_kept B4.out hs_.kept (fun h => h.elim N4.out (fun h => h.2 rfl))); clear HR HS B3 B4 y3 hr_ hs_; have HR := n0_; have HS := n1_; have B3 := n3_; have B4 := n4_; clear n0_ n1_ n3_ n4_) | ((with_reducible refine gate_dst (N := 6) rfl ?_); refine box_event ?hg (N := 6) ?hd (cs := #[.int .i64 0, .int .i64 0, .int .i64 0]) (t := 46) ?hr ?_; (case hd => rfl); (case hg => rfl); (case hr => first | (go_simp; done) | (go_simp; rfl)); intro b6 hgr w_ hbox hb; have HX_ := Aside0.mk hbox; have HB_ := Aside0.mk hb; have HG_ := Aside0.mk hgr; obtain ⟨v0, v1, v2, v3, v4, v5⟩ := Ps.three hbox; clear hbox hb hgr))
  obtain ⟨hs1, hr1, hb1, hn1⟩ := Ps.boxed (.int .i64 t.f0) (.int .i64 t.f1) (.int .i64 t.f2) HS.out HR.out HB_.out HX_.out HG_.out
  have hb3 := Ps.far3 (g := b6) (x := .int .i64 t.f0) (y := .int .i64 t.f1) (z := .int .i64 t.f2) (blk_below B3.out HB_.out) (by have := blk_lt B3.out; have := HG_.out; omega)
  have hb4 := Ps.far3 (g := b6) (x := .int .i64 t.f0) (y := .int .i64 t.f1) (z := .int .i64 t.f2) (blk_below B4.out HB_.out) (by have := blk_lt B4.out; have := HG_.out; omega)
  have N6 := Aside0.mk hn1
  clear HS HR HB_ HX_ HG_ v0 v1 v2 v3 v4 v5 B3 B4
  have HS := Aside0.mk hs1
  have HR := Aside0.mk hr1
  have HC : Aside0 (Caps3 (((w_.setCell ⟨b6, 0, none⟩ (.int .i64 t.f0)).setCell ⟨b6, 1, none⟩ (.int .i64 t.f1)).setCell ⟨b6, 2, none⟩ (.int .i64 t.f2)) g p b3 b4 b6 t) := ⟨⟨hb3, hb4, hb1⟩⟩
  clear hs1 hr1 hb1 hn1 hb3 hb4
  generalize ((w_.setCell ⟨b6, 0, none⟩ (.int .i64 t.f0)).setCell ⟨b6, 1, none⟩ (.int .i64 t.f1)).setCell ⟨b6, 2, none⟩ (.int .i64 t.f2) = W1 at HS HR HC ⊢
  obtain ⟨x0, x1, x2, x3, x4⟩ := HC.out.cells
  have M3 : Aside0 (¬ (b3 = g ∨ (fun j => ((D j ∧ j ≠ b3) ∧ j ≠ b4) ∧ j ≠ b6) b3)) := ⟨fun h => h.elim N3.out (fun h => h.1.1.2 rfl)⟩
  have M4 : Aside0 (¬ (b4 = g ∨ (fun j => ((D j ∧ j ≠ b3) ∧ j ≠ b4) ∧ j ≠ b6) b4)) := ⟨fun h => h.elim N4.out (fun h => h.1.2 rfl)⟩
  have M6 : Aside0 (¬ (b6 = g ∨ (fun j => ((D j ∧ j ≠ b3) ∧ j ≠ b4) ∧ j ≠ b6) b6)) := ⟨fun h => h.elim N6.out (fun h => h.2 rfl)⟩
  go_upto_region 13 with (fail)
  have hr1 := HR.out.below (below_drew (Below.refl W1.heap.size W1))
  have hs1 := HS.out.more (below_drew (Below.refl W1.heap.size W1))
  have hc1 : Caps3 W1.drew g p b3 b4 b6 t := ⟨HC.out.h3, HC.out.h4, HC.out.h6⟩
  clear HR HS HC x0 x1 x2 x3 x4
  have HR := Aside0.mk hr1
  have HS := Aside0.mk hs1
  have HC := Aside0.mk hc1
  clear hr1 hs1 hc1
  obtain ⟨x0, x1, x2, x3, x4⟩ := HC.out.cells
  go_region_with (first | (go_at_call 56; (with_reducible refine (Ps.put1_any g ts.tail ns en p 2 b3 b4 b6 t HP.out HL.out HW.out (fun j => ((D j ∧ j ≠ b3) ∧ j ≠ b4) ∧ j ≠ b6) w0 _ HC.out HS.out.below HR.out).mono ?_); rw [← HM.out, HMS.out]; rintro e w9 ⟨rfl, hr_, hs_⟩; have n0_ := Aside0.mk hr_; have n1_ := Aside0.mk (HS.out.trans hs_ (fun _ h => h.1.1.1)); have n2_ := Aside0.mk (HC.out.kept hs_.kept M3.out M4.out M6.out); clear HR HS HC hr_ hs_ x0 x1 x2 x3 x4; have HR := n0_; have HS := n1_; have HC := n2_; clear n0_ n1_ n2_; obtain ⟨x0, x1, x2, x3, x4⟩ := HC.out.cells) | (go_at_call 57; (with_reducible refine (Ps.list_val k HK12.out g 3 m ts.tail ms en d HV.out (fun j => ((D j ∧ j ≠ b3) ∧ j ≠ b4) ∧ j ≠ b6) w0 _ HDD.out HQ1.out.1 HQ1.out.2 HQ3.out (ts.length + 1) HQ2.out.1 HQ2.out.2 HS.out.below HR.out).mono ?_); rintro e w9 ⟨rfl, hr_, hs_⟩; have n0_ := Aside0.mk hr_; have n1_ := Aside0.mk (HS.out.trans hs_ (fun _ h => h.1.1.1)); have n2_ := Aside0.mk (HC.out.kept hs_.kept M3.out M4.out M6.out); clear HR HS HC hr_ hs_ x0 x1 x2 x3 x4; have HR := n0_; have HS := n1_; have HC := n2_; clear n0_ n1_ n2_; obtain ⟨x0, x1, x2, x3, x4⟩ := HC.out.cells))
  all_goals
    (first | go_end0 | ((try simp only [Exit.inBlock, Exit.then]); refine bodyPost_ret (results_none rfl _ _ _) rfl ?_))
    exact ⟨rfl, HR.out.mono (fun _ h => h.1.1.1) HD.out, HS.out⟩
theorem Ps.value_succ (en : Int) (k : Nat) (hk : k ≤ 12) (hV : VCP en k) : VCP en (k + 1) := by
  intro g p ts ns d D w0 w hd hbg hp hp1 hw hn hB h
  have hd' : d = 12 - (k : Int) := by omega
  unfold Go.Proofs.Ytehojohacombkaa.Ps.valN
  by_cases h0 : (nextT en ts).f0 = 0
  · rw [if_pos h0]
    exact Ps.value_obj k hk en hV g p ts ns d D w0 w hd' hp hw hn (Ps.bg_some hbg) hB h h0
  · rw [if_neg h0]
    by_cases h2 : (nextT en ts).f0 = 2
    · rw [if_pos h2]
      exact Ps.value_arr k hk en hV g p ts ns d D w0 w hd' hp hw hn (Ps.bg_some hbg) hB h h2
    · rw [if_neg h2]
      refine Ps.value_scal g p ts ns en d D w0 w hp hw hn (Ps.bg_some hbg) hB h ?_
      unfold Go.Proofs.Ytehojohacombkaa.Ps.bgK at hbg
      simp only [Bool.or_eq_true, Bool.and_eq_true, beq_iff_eq, decide_eq_true_eq] at hbg
      omega
theorem Ps.value_all (en : Int) : ∀ k, k ≤ 13 → VCP en k := by
  intro k
  induction k with
  | zero => intro _; exact Ps.value_zero en
  | succ k ih => intro h; exact Ps.value_succ en k (by omega) (ih (by omega))
end Go.Proofs.Ytehojohacombkaa.G
