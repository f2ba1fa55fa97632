/- The parser's state: a row of tokens, a row of nodes with rows of children; next and take by their contracts. -/
import Derived.Test.YtehojohacombkaaPm1
import Derived.Test.YtehojohacombkaaLc8
import Derived.RegionTactic
import Derived.Tactics2
import Derived.Deep.RegionWith
import Derived.Deep.QuietTactic
namespace Go.Proofs.Ytehojohacombkaa.G
open Go.RowKit Go.Proofs.YtehojohacombkaaW.PrintWords Go.Proofs.YtehojohacombkaaW.PrintLast Go.Proofs.YtehojohacombkaaW.PrintMore
open Go.Proofs.Ytehojohacombkaa.Lx (Tk)
open Go.Proofs.Ytehojohacombkaa.Ps (Nd nd rdn withKid withTo kidAdd putN setTo lastKid reachN lackN nextT bgK Wf)
set_option linter.unusedVariables false
set_option linter.unusedSimpArgs false
theorem Ps.three {W : World} {g t : Nat} {a b c : Value} (hb : W.heap[g]? = some (.cells #[a, b, c] t (0, 0))) :
    W.cell? ⟨g, 0, none⟩ = some a ∧ W.cell? ⟨g, 1, none⟩ = some b ∧ W.cell? ⟨g, 2, none⟩ = some c ∧ W.frozen? ⟨g, 0, none⟩ = false ∧ W.frozen? ⟨g, 1, none⟩ = false ∧ W.frozen? ⟨g, 2, none⟩ = false :=
  ⟨(blk_cell hb 0).trans rfl, (blk_cell hb 1).trans rfl, (blk_cell hb 2).trans rfl, blk_frozen hb 0, blk_frozen hb 1, blk_frozen hb 2⟩
theorem Ps.set3 {w : World} {g t : Nat} {a b c x y z : Value} (h : w.heap[g]? = some (.cells #[a, b, c] t (0, 0))) :
    (((w.setCell ⟨g, 0, none⟩ x).setCell ⟨g, 1, none⟩ y).setCell ⟨g, 2, none⟩ z).heap[g]? = some (.cells #[x, y, z] t (0, 0)) :=
  (blk_set (blk_set (blk_set h 0 x) 1 y) 2 z).trans rfl
theorem Ps.far3 {w : World} {g g' : Nat} {o : Obj} {x y z : Value} (h : w.heap[g']? = some o) (hne : g' ≠ g) :
    (((w.setCell ⟨g, 0, none⟩ x).setCell ⟨g, 1, none⟩ y).setCell ⟨g, 2, none⟩ z).heap[g']? = some o := by
  rw [Below.heap_setCell _ _ _ _ hne, Below.heap_setCell _ _ _ _ hne, Below.heap_setCell _ _ _ _ hne]; exact h
-- words of the print that later texts use: S_form S_elem S_lend S_borrow H_seg H_back H_widen H_grown H_drew H_drewN H_alloc H_below H_step H_mono H_far H_other S_reads S_bound S_grown S_keep S_set S_kept S_get S_at R_kept S_V S_N S_F R_at V_at N_at
/-- The parser at block g of W: its tokens lie in what came in by w0, its nodes and their children in blocks of D, all made since. -/
def IsP (w0 W : World) (g : Nat) (D : Nat → Prop) (ts : List Tk) (ns : List Nd) (en : Int) : Prop :=
  ∃ A c v, W.heap[g]? = some (.cells #[.slice A ts.length c, v, .int .i64 en] 62 (0, 0)) ∧ w0.heap.size ≤ g ∧ Kd.C k46 w0 A ts.length ts ∧ ts.length ≤ c ∧
    Kd.S k34 34 W w0.heap.size D v ns ∧ (∀ k, W.heap.size ≤ k → D k) ∧ ¬ D g
structure PStep (w0 w w' : World) (g : Nat) (D : Nat → Prop) : Prop where
  below : Below w0.heap.size w0 w'
  kept : Kept w w' (fun k_ => k_ = g ∨ D k_)
theorem PStep.refl {w0 w : World} {g : Nat} {D : Nat → Prop} (h : Below w0.heap.size w0 w) : PStep w0 w w g D := ⟨h, Kept.refl _ _⟩
theorem PStep.trans {w0 w w1 w2 : World} {g : Nat} {D D' : Nat → Prop} (h : PStep w0 w w1 g D) (k : PStep w0 w1 w2 g D') (hD : ∀ k, D' k → D k) : PStep w0 w w2 g D :=
  ⟨k.below, h.kept.then_ k.kept (fun _ hk => .inl (hk.elim .inl (fun h => .inr (hD _ h))))⟩
theorem PStep.more {w0 w w1 w2 : World} {g : Nat} {D : Nat → Prop} (h : PStep w0 w w1 g D) (k : Below w1.heap.size w1 w2) : PStep w0 w w2 g D := ⟨below_step h.below k, h.kept.below k⟩
theorem PStep.mono {w0 w w1 : World} {g : Nat} {D D' : Nat → Prop} (h : PStep w0 w w1 g D') (hD : ∀ k, D' k → D k) : PStep w0 w w1 g D := ⟨h.below, h.kept.mono (fun _ hk => hk.elim .inl (fun h => .inr (hD _ h)))⟩
theorem IsP.lt {w0 W : World} {g : Nat} {D : Nat → Prop} {ts : List Tk} {ns : List Nd} {en : Int} (h : IsP w0 W g D ts ns en) : g < W.heap.size := by obtain ⟨_, _, _, h, _⟩ := h; exact blk_lt h
theorem IsP.below {w0 W W2 : World} {g : Nat} {D : Nat → Prop} {ts : List Tk} {ns : List Nd} {en : Int} (h : IsP w0 W g D ts ns en) (k : Below W.heap.size W W2) : IsP w0 W2 g D ts ns en := by
  obtain ⟨A, c, v, h1, h2, h3, h4, h5, h6, h7⟩ := h
  exact ⟨A, c, v, blk_below h1 k, h2, h3, h4, Kd.S_below h5 k, fun j hj => h6 j (Nat.le_trans k.size hj), h7⟩
/-- A block of one's own, made since: no node may come to lie there. -/
theorem IsP.own {w0 W : World} {g : Nat} {D : Nat → Prop} {ts : List Tk} {ns : List Nd} {en : Int} (h : IsP w0 W g D ts ns en) {W2 : World} (b : Nat) (hb : W.heap.size ≤ b) (h2 : b < W2.heap.size) (k : Below W.heap.size W W2) : IsP w0 W2 g (fun j => D j ∧ j ≠ b) ts ns en := by
  obtain ⟨A, c, v, h1, h2', h3, h4, h5, h6, h7⟩ := h
  refine ⟨A, c, v, blk_below h1 k, h2', h3, h4, Kd.S_below (Kd.S_mono (Kd.S_bound h5) (fun j hj => ⟨hj.1, by have := hj.2.2.1; omega⟩)) k, fun j hj => ⟨h6 j (Nat.le_trans k.size hj), by omega⟩, fun h => h7 h.1⟩
theorem IsP.mono {w0 W : World} {g : Nat} {D D' : Nat → Prop} {ts : List Tk} {ns : List Nd} {en : Int} (h : IsP w0 W g D' ts ns en) (hD : ∀ k, D' k → D k) (hg : ¬ D g) : IsP w0 W g D ts ns en := by
  obtain ⟨A, c, v, h1, h2', h3, h4, h5, h6, h7⟩ := h
  exact ⟨A, c, v, h1, h2', h3, h4, Kd.S_mono h5 hD, fun j hj => hD j (h6 j hj), hg⟩
theorem IsP.notD {w0 W : World} {g : Nat} {D : Nat → Prop} {ts : List Tk} {ns : List Nd} {en : Int} (h : IsP w0 W g D ts ns en) : ¬ D g := by
  obtain ⟨A, c, v, h1, h2', h3, h4, h5, h6, h7⟩ := h; exact h7
theorem IsP.base {w0 W : World} {g : Nat} {D : Nat → Prop} {ts : List Tk} {ns : List Nd} {en : Int} (h : IsP w0 W g D ts ns en) : w0.heap.size ≤ g := by
  obtain ⟨A, c, v, h1, h2', h3, h4, h5, h6, h7⟩ := h; exact h2'
theorem IsP.fresh {w0 W : World} {g : Nat} {D : Nat → Prop} {ts : List Tk} {ns : List Nd} {en : Int} (h : IsP w0 W g D ts ns en) : ∀ k, W.heap.size ≤ k → D k := by
  obtain ⟨A, c, v, h1, h2', h3, h4, h5, h6, h7⟩ := h; exact h6
theorem Ps.cells {w0 W : World} (hB : Below w0.heap.size w0 W) {A : Option Addr} {c : Tk} {r : List Tk} (h : Kd.C k46 w0 A (c :: r).length (c :: r)) :
    ∃ ad, A = some ad ∧ W.cell? ad = some (.int .i64 c.f0) ∧ W.cell? ⟨ad.block, ad.off + 1, none⟩ = some (.int .i64 c.f1) ∧ W.cell? ⟨ad.block, ad.off + 2, none⟩ = some (.int .i64 c.f2) := by
  obtain ⟨ad, e, x0, x1, x2⟩ := at_T46 h 0 (by omega) (by simp only [List.length_cons]; omega)
  have e0 : ad.add ((0 : Int).toNat * 3) = ad := by simp [Addr.add]
  have e1 : rd_T46 (c :: r) 0 = c := rfl
  rw [e0, e1] at x0 x1 x2
  exact ⟨ad, e, (hB.cell (World.block_lt_of_cell? _ _ x0)).trans x0, (hB.cell (World.block_lt_of_cell? _ _ x1)).trans x1, (hB.cell (World.block_lt_of_cell? _ _ x2)).trans x2⟩
theorem Ps.cut {P : Program} (t e : TypeId) {i : TypeInfo} (ht : P.underlying t = some (.slice e)) (hi : P.info? e = some i) (size : Nat) (hsz : i.size = size) (A : Option Addr) (n c : Nat) (h1 : 1 ≤ n) :
    ∀ W : World, (Instr.slice t (.slice A n c) (some (.int .i64 1)) none none).run P W = .ok (.slice (if c = 1 then A else A.map (·.add (1 * size))) (n - 1) (c - 1)) W := by
  intro W
  have hel : P.elem t = e := by simp [Program.elem, ht]
  have hu : P.underlying t = some (.slice (P.elem t)) := by rw [hel]; exact ht
  rw [run_slice_l W t A n c hu .i64 1 (by omega) (by omega), hel]
  simp [sizeOf, typeInfo, hi, hsz, sliced, Result.andThen]
set_option maxHeartbeats 4000000 in
theorem Ps.next_nil (g : Nat) (ns : List Nd) (en : Int) (D : Nat → Prop) (w0 w : World) (hB : Below w0.heap.size w0 w) (h : IsP w0 w g D [] ns en) :
    Calls Try.prog 31 #[.pointer (some ⟨g, 0, none⟩)] w fun e w' => e = .returned (.agg #[.int .i64 (-1), .int .i64 en, .int .i64 en]) ∧ Below w.heap.size w w' := by
  obtain ⟨A, c, v, hb, hg, hK, hl, -⟩ := h
  have HL := Aside0.mk (blk_lt hb)
  have HX := Aside0.mk hb
  have HB := Aside0.mk (Below.refl w.heap.size w)
  clear hb hK hB hl
  go_enter Try.func31, Try.ntmps31
  go_wp2_with (first | ((with_reducible refine gate_dst (N := 2) rfl ?_); refine box_event ?hg (N := 2) ?hd (cs := #[.int .i64 0, .int .i64 0, .int .i64 0]) (t := 46) ?hr ?_; (case hd => rfl); (case hg => rfl); (case hr => first | (go_simp; done) | (go_simp; rfl)); intro gr hgr w2 hbox hb; have n0_ := Aside0.mk (below_step HB.out hb); have n1_ := Aside0.mk hbox; have n2_ := Aside0.mk ((hb.block g HL.out).trans HX.out); have n3_ := Aside0.mk ((by rw [hgr]; exact Nat.le_refl _) : w.heap.size ≤ gr); clear HB HX; have HB := n0_; have BR := n1_; have HX := n2_; have GR := n3_; have NRG := Aside0.mk ((fun e_ => by have h1_ := HL.out; have h2_ := GR.out; omega) : gr ≠ g); obtain ⟨x0, x1, x2, -, -, -⟩ := Ps.three HX.out; obtain ⟨v0, v1, v2, v3, v4, v5⟩ := Ps.three BR.out; clear n0_ n1_ n2_ n3_ hb hbox hgr))
  go_region
  go_wp2
  refine bodyPost_ret (results_cell_row rfl _ _ gr 46 #[.int .i64 (-1), .int .i64 en, .int .i64 en] (0, 0) _ rfl (Ps.set3 BR.out) Try.underlying46 rfl (by kernel_rfl)) rfl ?_
  exact ⟨rfl, ((HB.out.drew.setCell GR.out _).setCell GR.out _).setCell GR.out _⟩
theorem Ps.keepS {w W : World} {base g : Nat} {D : Nat → Prop} {v : Value} {ns : List Nd} (h : Kd.S k34 34 w base D v ns) (hk : Kept w W (fun k_ => k_ = g)) (hN : ¬ D g) : Kd.S k34 34 W base D v ns :=
  Kd.S_step h (fun k hd hlt => hk.2 k hlt (fun e => hN (e ▸ hd)))
theorem Ps.first {w0 W : World} (hB : Below w0.heap.size w0 W) {ad : Addr} {c : Tk} {r : List Tk} (h : Kd.C k46 w0 (some ad) (c :: r).length (c :: r)) :
    W.cell? ad = some (.int .i64 c.f0) ∧ W.cell? ⟨ad.block, ad.off + 1, none⟩ = some (.int .i64 c.f1) ∧ W.cell? ⟨ad.block, ad.off + 2, none⟩ = some (.int .i64 c.f2) := by
  obtain ⟨ad', e, x0, x1, x2⟩ := Ps.cells hB h
  cases e
  exact ⟨x0, x1, x2⟩
set_option maxHeartbeats 4000000 in
theorem Ps.next_cons (g : Nat) (t : Tk) (r : List Tk) (ns : List Nd) (en : Int) (D : Nat → Prop) (w0 w : World) (hB : Below w0.heap.size w0 w) (h : IsP w0 w g D (t :: r) ns en) :
    Calls Try.prog 31 #[.pointer (some ⟨g, 0, none⟩)] w fun e w' => e = .returned (.agg #[.int .i64 t.f0, .int .i64 t.f1, .int .i64 t.f2]) ∧ Below w.heap.size w w' := by
  obtain ⟨A, c, v, hb, hg, hK, hl, -⟩ := h
  have HL := Aside0.mk (blk_lt hb)
  have HB := Aside0.mk (Below.refl w.heap.size w)
  have HB0 := Aside0.mk hB
  obtain ⟨ad, rfl, -⟩ := Ps.cells hB hK
  have HK := Aside0.mk hK
  obtain ⟨n, hn⟩ : ∃ n, n = (t :: r).length := ⟨_, rfl⟩
  rw [← hn] at hb
  have HX := Aside0.mk hb
  have q0 := eq_true (show (0 : Int) < (n : Int) by rw [hn]; simp only [List.length_cons]; omega)
  have q3 := eq_true (show 0 < n by rw [hn]; simp)
  have q1 : ((n : Int) == 0) = false := beq_eq_false_iff_ne.mpr (by rw [hn]; simp only [List.length_cons]; omega)
  clear hb hK hB hl hn
  go_enter Try.func31, Try.ntmps31
  go_wp2_with (first | ((with_reducible refine gate_dst (N := 2) rfl ?_); refine box_event ?hg (N := 2) ?hd (cs := #[.int .i64 0, .int .i64 0, .int .i64 0]) (t := 46) ?hr ?_; (case hd => rfl); (case hg => rfl); (case hr => first | (go_simp; done) | (go_simp; rfl)); intro gr hgr w_ hbox hb; have n0_ := Aside0.mk (below_step HB.out hb); have n1_ := Aside0.mk hbox; have n2_ := Aside0.mk ((hb.block g HL.out).trans HX.out); have n3_ := Aside0.mk ((by rw [hgr]; exact Nat.le_refl _) : w.heap.size ≤ gr); clear HB HX; have HB := n0_; have BR := n1_; have HX := n2_; have GR := n3_; have NRG := Aside0.mk ((fun e_ => by have h1_ := HL.out; have h2_ := GR.out; omega) : gr ≠ g); obtain ⟨x0, x1, x2, -, -, -⟩ := Ps.three HX.out; obtain ⟨v0, v1, v2, v3, v4, v5⟩ := Ps.three BR.out; obtain ⟨y0, y1, y2⟩ := Ps.first (below_step HB0.out HB.out) HK.out; clear n0_ n1_ n2_ n3_ hb hbox hgr))
  refine bodyPost_ret (results_cell_row rfl _ _ gr 46 #[.int .i64 t.f0, .int .i64 t.f1, .int .i64 t.f2] (0, 0) _ rfl (Ps.set3 BR.out) Try.underlying46 rfl (by kernel_rfl)) rfl ?_
  exact ⟨rfl, ((HB.out.setCell GR.out _).setCell GR.out _).setCell GR.out _⟩
set_option maxHeartbeats 4000000 in
theorem Ps.take_cons (g : Nat) (t : Tk) (r : List Tk) (ns : List Nd) (en : Int) (D : Nat → Prop) (w0 w : World) (hB : Below w0.heap.size w0 w) (h : IsP w0 w g D (t :: r) ns en) :
    Calls Try.prog 55 #[.pointer (some ⟨g, 0, none⟩)] w fun e w' => e = .returned (.agg #[.int .i64 t.f0, .int .i64 t.f1, .int .i64 t.f2]) ∧ IsP w0 w' g D r ns en ∧ PStep w0 w w' g D := by
  obtain ⟨A, c, v, hb, hg, hK, hl, hS, hF, hD⟩ := h
  have HL := Aside0.mk (blk_lt hb)
  have HB := Aside0.mk (Below.refl w.heap.size w)
  have HB0 := Aside0.mk hB
  obtain ⟨ad, rfl, -⟩ := Ps.cells hB hK
  have HK := Aside0.mk hK
  have hdrop := Kd.C_drop (m := 1) hK (by simp only [List.length_cons]; omega) hl
  obtain ⟨i0, hi0, _, hsz0, _⟩ := info_parts info46
  obtain ⟨n, hn⟩ : ∃ n, n = (t :: r).length := ⟨_, rfl⟩
  have hcut := Ps.cut (P := Try.prog) 42 46 Try.underlying42 hi0 3 hsz0 (some ad) n c (by rw [hn]; simp)
  have ez : k46.sz = 3 := rfl
  rw [ez] at hdrop
  obtain ⟨B, hBe⟩ : ∃ B, B = (if c = 1 then some ad else (some ad).map (·.add (1 * 3))) := ⟨_, rfl⟩
  rw [← hBe] at hcut hdrop
  have er : n - 1 = r.length := by rw [hn]; simp
  rw [er] at hcut
  rw [← hn] at hb
  have HX := Aside0.mk hb
  have q0 := eq_true (show (0 : Int) < (n : Int) by rw [hn]; simp only [List.length_cons]; omega)
  have q3 := eq_true (show 0 < n by rw [hn]; simp)
  have HG := Aside0.mk hg
  have HD := Aside0.mk hdrop
  have HLE : Aside0 (r.length ≤ c - 1) := ⟨by simp only [List.length_cons] at hl; omega⟩
  have HS := Aside0.mk hS
  have HF := Aside0.mk hF
  have HN := Aside0.mk hD
  clear hb hg hK hl hB hi0 hsz0 hdrop hBe ez hn er hS hF hD
  go_enter Try.func55, Try.ntmps55
  go_upto_region 2 with (first | ((with_reducible refine gate_dst (N := 2) rfl ?_); refine box_event ?hg (N := 2) ?hd (cs := #[.int .i64 0, .int .i64 0, .int .i64 0]) (t := 46) ?hr ?_; (case hd => rfl); (case hg => rfl); (case hr => first | (go_simp; done) | (go_simp; rfl)); intro gr hgr w_ hbox hb; have n0_ := Aside0.mk (below_step HB.out hb); have n1_ := Aside0.mk hbox; have n2_ := Aside0.mk ((hb.block g HL.out).trans HX.out); have n3_ := Aside0.mk ((by rw [hgr]; exact Nat.le_refl _) : w.heap.size ≤ gr); clear HB HX; have HB := n0_; have BR := n1_; have HX := n2_; have GR := n3_; have NRG := Aside0.mk ((fun e_ => by have h1_ := HL.out; have h2_ := GR.out; omega) : gr ≠ g); obtain ⟨x0, x1, x2, -, -, -⟩ := Ps.three HX.out; obtain ⟨v0, v1, v2, v3, v4, v5⟩ := Ps.three BR.out; obtain ⟨y0, y1, y2⟩ := Ps.first (below_step HB0.out HB.out) HK.out; clear n0_ n1_ n2_ n3_ hb hbox hgr) | ((with_reducible refine gate_dst (N := 3) rfl ?_); refine box_event ?hg (N := 3) ?hd (cs := #[.int .i64 0, .int .i64 0, .int .i64 0]) (t := 46) ?hr ?_; (case hd => rfl); (case hg => rfl); (case hr => first | (go_simp; done) | (go_simp; rfl)); intro gc hgr w_ hbox hb; have n0_ := Aside0.mk (below_step HB.out hb); have n1_ := Aside0.mk hbox; have n2_ := Aside0.mk (blk_below HX.out hb); have n3_ := Aside0.mk ((by rw [hgr]; exact HB.out.size) : w.heap.size ≤ gc); have n4_ := Aside0.mk (blk_below BR.out hb); have n5_ := Aside0.mk ((by rw [hgr]; exact Nat.ne_of_lt (blk_lt HX.out)) : g ≠ gc); have n6_ := Aside0.mk ((by rw [hgr]; exact Nat.ne_of_lt (blk_lt BR.out)) : gr ≠ gc); clear HB HX BR x0 x1 x2 v0 v1 v2 v3 v4 v5 y0 y1 y2; have HB := n0_; have BC := n1_; have HX := n2_; have GC := n3_; have BR := n4_; have NG := n5_; have NR := n6_; obtain ⟨z0, z1, z2, z3, z4, z5⟩ := Ps.three BC.out; clear n0_ n1_ n2_ n3_ n4_ n5_ n6_ hb hbox hgr))
  have BC4 := Aside0.mk (Ps.set3 (x := .int .i64 t.f0) (y := .int .i64 t.f1) (z := .int .i64 t.f2) BC.out)
  have BR4 := Aside0.mk (Ps.far3 (x := .int .i64 t.f0) (y := .int .i64 t.f1) (z := .int .i64 t.f2) BR.out NR.out)
  have HX4 := Aside0.mk (Ps.far3 (x := .int .i64 t.f0) (y := .int .i64 t.f1) (z := .int .i64 t.f2) HX.out NG.out)
  have HB4 := Aside0.mk (((HB.out.setCell (p := ⟨gc, 0, none⟩) GC.out (.int .i64 t.f0)).setCell (p := ⟨gc, 1, none⟩) GC.out (.int .i64 t.f1)).setCell (p := ⟨gc, 2, none⟩) GC.out (.int .i64 t.f2))
  clear BC BR HX HB z0 z1 z2 z3 z4 z5
  generalize (((w_.setCell ⟨gc, 0, none⟩ (.int .i64 t.f0)).setCell ⟨gc, 1, none⟩ (.int .i64 t.f1)).setCell ⟨gc, 2, none⟩ (.int .i64 t.f2)) = w4 at BC4 BR4 HX4 HB4 ⊢
  have HK4 := Aside0.mk (Kept.of_below HB4.out (fun k_ => k_ = g))
  obtain ⟨x0, x1, x2, x3, x4, x5⟩ := Ps.three HX4.out
  go_upto_region 3 with (fail)
  have HX5 := Aside0.mk ((blk_set HX4.out 0 (.slice B r.length (c - 1))).trans rfl)
  have BC5 := Aside0.mk ((Below.heap_setCell w4 ⟨g, 0, none⟩ (.slice B r.length (c - 1)) _ (Ne.symm NG.out)).trans BC4.out)
  have BR5 := Aside0.mk ((Below.heap_setCell w4 ⟨g, 0, none⟩ (.slice B r.length (c - 1)) _ NRG.out).trans BR4.out)
  have HK5 := Aside0.mk (HK4.out.setCell (p := ⟨g, 0, none⟩) (.inl rfl) (.slice B r.length (c - 1)))
  have HB5 := Aside0.mk ((below_step HB0.out HB4.out).setCell (p := ⟨g, 0, none⟩) HG.out (.slice B r.length (c - 1)))
  clear HX4 BC4 BR4 HB4 HK4 x0 x1 x2 x3 x4 x5
  generalize w4.setCell ⟨g, 0, none⟩ (.slice B r.length (c - 1)) = w5 at HX5 BC5 BR5 HK5 HB5 ⊢
  obtain ⟨z0, z1, z2, z3, z4, z5⟩ := Ps.three BC5.out
  obtain ⟨v0, v1, v2, v3, v4, v5⟩ := Ps.three BR5.out
  go_wp2
  refine bodyPost_ret (results_cell_row rfl _ _ gr 46 #[.int .i64 t.f0, .int .i64 t.f1, .int .i64 t.f2] (0, 0) _ rfl (Ps.set3 BR5.out) Try.underlying46 rfl (by kernel_rfl)) rfl ?_
  have HK6 := ((HK5.out.setCell (p := ⟨gr, 0, none⟩) (.inr GR.out) (.int .i64 t.f0)).setCell (p := ⟨gr, 1, none⟩) (.inr GR.out) (.int .i64 t.f1)).setCell (p := ⟨gr, 2, none⟩) (.inr GR.out) (.int .i64 t.f2)
  have GB := Nat.le_trans HB0.out.size GR.out
  exact ⟨rfl, ⟨B, c - 1, v, Ps.far3 HX5.out (Ne.symm NRG.out), HG.out, HD.out, HLE.out, Ps.keepS HS.out HK6 HN.out, fun k hk => HF.out k (Nat.le_trans HK6.1 hk), HN.out⟩, ⟨((HB5.out.setCell (p := ⟨gr, 0, none⟩) GB _).setCell (p := ⟨gr, 1, none⟩) GB _).setCell (p := ⟨gr, 2, none⟩) GB _, HK6.mono (fun _ hk => .inl hk)⟩⟩
end Go.Proofs.Ytehojohacombkaa.G
