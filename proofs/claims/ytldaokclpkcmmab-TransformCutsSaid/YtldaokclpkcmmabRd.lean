/- The reader of pieces (package comp): Read, Next, Take by contracts over its two cells. -/
import Derived.Test.YtldaokclpkcmmabGZ0
namespace Go.Proofs.Ytldaokclpkcmmab.G
open Go.RowKit Go.Proofs.YtldaokclpkcmmabW.PrintWords Go.Proofs.YtldaokclpkcmmabW.PrintLast Go.Proofs.YtldaokclpkcmmabW.PrintMore
set_option linter.unusedVariables false
set_option linter.unusedSimpArgs false
/-- A reader at block g of W: its rest lies in what came in by w0. -/
def IsRd (w0 W : World) (g : Nat) (rest : List (S37)) (part : Int) : Prop :=
  ∃ A c, W.heap[g]? = some (.cells #[.slice A rest.length c, .int .i64 part] 111 (0, 0)) ∧ w0.heap.size ≤ g ∧ Kd.C k37 w0 A rest.length rest ∧ rest.length ≤ c
theorem Rd.cells {w0 W : World} (hB : Below w0.heap.size w0 W) {A : Option Addr} {c : S37} {r : List (S37)} (h : Kd.C k37 w0 A (c :: r).length (c :: r)) :
    ∃ ad, A = some ad ∧ W.cell? ad = some (.int .i64 c.f0) ∧ W.cell? ⟨ad.block, ad.off + 1, none⟩ = some (.int .i64 c.f1) ∧ W.cell? ⟨ad.block, ad.off + 2, none⟩ = some (.string c.f2) := by
  obtain ⟨ad, e, x0, x1, x2⟩ := at_T37 h 0 (by omega) (by simp only [List.length_cons]; omega)
  have e0 : ad.add ((0 : Int).toNat * 3) = ad := by simp [Addr.add]
  have e1 : rd_T37 (c :: r) 0 = c := rfl
  rw [e0, e1] at x0 x1 x2
  exact ⟨ad, e, (hB.cell (World.block_lt_of_cell? _ _ x0)).trans x0, (hB.cell (World.block_lt_of_cell? _ _ x1)).trans x1, (hB.cell (World.block_lt_of_cell? _ _ x2)).trans x2⟩
theorem Rd.next_nil (g : Nat) (part : Int) (w0 w : World) (h : IsRd w0 w g [] part) :
    Calls Try.prog 43 #[.pointer (some ⟨g, 0, none⟩)] w fun e w' => e = .returned (.tuple #[.int .i64 (-1), .int .i64 0]) ∧ w = w' := by
  obtain ⟨A, c, hb, _, _, _⟩ := h
  have x0 : w.cell? ⟨g, 0, none⟩ = some (.slice A 0 c) := (blk_cell hb 0).trans rfl
  go_enter Try.func43, Try.ntmps43
  go_wp2
  go_ret2
  exact ⟨rfl, rfl⟩
set_option maxHeartbeats 4000000 in
theorem Rd.next_cons (g : Nat) (part : Int) (d : S37) (r : List (S37)) (s : Int) (w0 w : World) (hB : Below w0.heap.size w0 w) (h : IsRd w0 w g (d :: r) part) (hs : comp_Size.f d.f0 d.f1 d.f2 = some s) :
    Calls Try.prog 43 #[.pointer (some ⟨g, 0, none⟩)] w fun e w' => e = .returned (.tuple #[.int .i64 d.f0, .int .i64 (wrap64 (s - part))]) ∧ Below w.heap.size w w' := by
  obtain ⟨A, c, hb, hg, hK, hl⟩ := h
  have hlt := blk_lt hb
  have x0 : w.cell? ⟨g, 0, none⟩ = some (.slice A (d :: r).length c) := (blk_cell hb 0).trans rfl
  have x1 : w.cell? ⟨g, 1, none⟩ = some (.int .i64 part) := (blk_cell hb 1).trans rfl
  obtain ⟨ad, rfl, y0, y1, y2⟩ := Rd.cells hB hK
  have z0 := World.block_lt_of_cell? _ _ y0
  have p0 : (0 : Int) < ((d :: r).length : Int) := by simp only [List.length_cons]; omega
  have p1 : (((d :: r).length : Int) == 0) = false := beq_eq_false_iff_ne.mpr (by omega)
  have q0 := eq_true p0
  have q1 := eq_true (show 0 < (d :: r).length by simp)
  generalize (d :: r).length = n at *
  have HW := Aside0.mk (Below.refl w.heap.size w)
  clear hB hK hl hb
  go_enter Try.func43, Try.ntmps43
  go_wp2
  go_region_held3 (fun w' => w'.cell? ⟨g, 0, none⟩ = some (.slice (some ad) n c) ∧ w'.cell? ⟨g, 1, none⟩ = some (.int .i64 part) ∧ w'.cell? ad = some (.int .i64 d.f0) ∧ w'.cell? ⟨ad.block, ad.off + 1, none⟩ = some (.int .i64 d.f1) ∧ w'.cell? ⟨ad.block, ad.off + 2, none⟩ = some (.string d.f2)) (first | (go_keep; done) | ((try dsimp only at *); go_split_ands; exact ⟨pw_cell_below hb (by assumption), pw_cell_below hb (by assumption), pw_cell_below hb (by assumption), pw_cell_below hb (by assumption), pw_cell_below hb (by assumption)⟩))
    (first | (go_at_call 65; refine (comp_Size.calls _ _ _ s _ hs).mono ?_; rintro e w' ⟨rfl, hb⟩))
  go_wp2
  go_ret2
  exact ⟨by simp [i64_w], below_step (Below.refl w.heap.size w).drew hb⟩
theorem Rd.facts {w0 W : World} {g : Nat} {A : Addr} {n c : Nat} {part : Int} {d : S37} {r : List (S37)} (hn : n = (d :: r).length) (hB : Below w0.heap.size w0 W) (hb : W.heap[g]? = some (.cells #[.slice (some A) n c, .int .i64 part] 111 (0, 0))) (hK : Kd.C k37 w0 (some A) (d :: r).length (d :: r)) :
    W.cell? ⟨g, 0, none⟩ = some (.slice (some A) n c) ∧ W.cell? ⟨g, 1, none⟩ = some (.int .i64 part) ∧ W.frozen? ⟨g, 0, none⟩ = false ∧ W.frozen? ⟨g, 1, none⟩ = false ∧ W.cell? A = some (.int .i64 d.f0) ∧ W.cell? ⟨A.block, A.off + 1, none⟩ = some (.int .i64 d.f1) ∧ W.cell? ⟨A.block, A.off + 2, none⟩ = some (.string d.f2) := by
  obtain ⟨ad, e, y0, y1, y2⟩ := Rd.cells hB hK
  cases e
  exact ⟨(blk_cell hb 0).trans rfl, (blk_cell hb 1).trans rfl, blk_frozen hb 0, blk_frozen hb 1, y0, y1, y2⟩
theorem Rd.three {W : World} {g t : Nat} {a b c : Value} (hb : W.heap[g]? = some (.cells #[a, b, c] t (0, 0))) :
    W.cell? ⟨g, 0, none⟩ = some a ∧ W.cell? ⟨g, 1, none⟩ = some b ∧ W.cell? ⟨g, 2, none⟩ = some c ∧ W.frozen? ⟨g, 0, none⟩ = false ∧ W.frozen? ⟨g, 1, none⟩ = false ∧ W.frozen? ⟨g, 2, none⟩ = false :=
  ⟨(blk_cell hb 0).trans rfl, (blk_cell hb 1).trans rfl, (blk_cell hb 2).trans rfl, blk_frozen hb 0, blk_frozen hb 1, blk_frozen hb 2⟩
theorem Rd.set3 {w : World} {g t : Nat} {a b c x y z : Value} (h : w.heap[g]? = some (.cells #[a, b, c] t (0, 0))) :
    (((w.setCell ⟨g, 0, none⟩ x).setCell ⟨g, 1, none⟩ y).setCell ⟨g, 2, none⟩ z).heap[g]? = some (.cells #[x, y, z] t (0, 0)) :=
  (blk_set (blk_set (blk_set h 0 x) 1 y) 2 z).trans rfl
theorem Rd.far3 {w : World} {g g' : Nat} {o : Obj} {x y z : Value} (h : w.heap[g']? = some o) (hne : g' ≠ g) :
    (((w.setCell ⟨g, 0, none⟩ x).setCell ⟨g, 1, none⟩ y).setCell ⟨g, 2, none⟩ z).heap[g']? = some o := by
  rw [Below.heap_setCell _ _ _ _ hne, Below.heap_setCell _ _ _ _ hne, Below.heap_setCell _ _ _ _ hne]; exact h
theorem Rd.cut_rest {P : Program} (t e : TypeId) {i : TypeInfo} (ht : P.underlying t = some (.slice e)) (hi : P.info? e = some i) (size : Nat) (hsz : i.size = size) (A : Option Addr) (n c : Nat) (h1 : 1 ≤ n) :
    ∀ W : World, (Instr.slice t (.slice A n c) (some (.int .i64 1)) none none).run P W = .ok (.slice (if c = 1 then A else A.map (·.add (1 * size))) (n - 1) (c - 1)) W := by
  intro W
  have hel : P.elem t = e := by simp [Program.elem, ht]
  have hu : P.underlying t = some (.slice (P.elem t)) := by rw [hel]; exact ht
  rw [run_slice_l W t A n c hu .i64 1 (by omega) (by omega), hel]
  simp [sizeOf, typeInfo, hi, hsz, sliced, Result.andThen]
theorem Rd.set2 {w : World} {g t : Nat} {a b x y : Value} (h : w.heap[g]? = some (.cells #[a, b] t (0, 0))) :
    ((w.setCell ⟨g, 0, none⟩ x).setCell ⟨g, 1, none⟩ y).heap[g]? = some (.cells #[x, y] t (0, 0)) :=
  (blk_set (blk_set h 0 x) 1 y).trans rfl
set_option maxHeartbeats 4000000 in
theorem Rd.take_put (g : Nat) (part k : Int) (d : S37) (r : List (S37)) (s : Int) (w0 w : World) (hB : Below w0.heap.size w0 w) (h : IsRd w0 w g (d :: r) part) (hs : comp_Size.f d.f0 d.f1 d.f2 = some s)
    (hk : d.f0 = 1) (h0 : 0 ≤ part) (h1 : 0 ≤ k) (h2 : part + k ≤ d.f2.size) (h3 : d.f2.size ≤ 4096) (he : part + k = s) :
    Calls Try.prog 46 #[.pointer (some ⟨g, 0, none⟩), .int .i64 k] w fun e w' => e = .returned (.agg #[.int .i64 d.f0, .int .i64 d.f1, .string (d.f2.extract part.toNat (part + k).toNat)]) ∧ IsRd w0 w' g r 0 ∧ Below w0.heap.size w0 w' ∧ Kept w w' (fun k_ => k_ = g) := by
  obtain ⟨A, c, hb, hg, hK, hl⟩ := h
  have hlt := blk_lt hb
  obtain ⟨ad, rfl, -⟩ := Rd.cells hB hK
  obtain ⟨n, hn⟩ : ∃ n, n = (d :: r).length := ⟨_, rfl⟩
  have p0 : (0 : Int) < (n : Int) := by rw [hn]; simp only [List.length_cons]; omega
  have q0 := eq_true p0
  have q1 := eq_true (show 0 < n by omega)
  have q2 : (d.f0 == 1) = true := beq_iff_eq.mpr hk
  have q3 : (part + k == s) = true := beq_iff_eq.mpr he
  have e0 : wrap64 (part + k) = part + k := by unfold wrap64; omega
  have e1 : IntKind.i64.wrap (part + k) = part + k := (i64_w _).trans e0
  have r1 : decide (0 ≤ part) = true := decide_eq_true h0
  have r4 := eq_true h0
  have r5 := eq_true h1
  have r6 := eq_true h2
  have r7 := eq_true (show part ≤ part + k by omega)
  have r2 : decide (part ≤ part + k) = true := decide_eq_true (by omega)
  have r3 : decide (part + k ≤ (d.f2.size : Int)) = true := decide_eq_true h2
  obtain ⟨i0, hi0, _, hsz0, _⟩ := info_parts info37
  have hdrop := Kd.C_drop (m := 1) hK (by simp only [List.length_cons]; omega) hl
  have hcut := Rd.cut_rest (P := Try.prog) 22 37 Try.underlying22 hi0 3 hsz0 (some ad) n c (by omega)
  have ez : k37.sz = 3 := rfl
  rw [ez] at hdrop
  obtain ⟨B, hBe⟩ : ∃ B, B = (if c = 1 then some ad else (some ad).map (·.add (1 * 3))) := ⟨_, rfl⟩
  rw [← hBe] at hcut hdrop
  have er : n - 1 = r.length := by rw [hn]; simp
  rw [er] at hcut
  have HD := Aside0.mk hdrop
  clear hi0 hsz0 hdrop hBe ez
  have HK := Aside0.mk hK
  have HN := Aside0.mk hn
  have HB := Aside0.mk (Below.refl w.heap.size w)
  have HB0 := Aside0.mk hB
  rw [← hn] at hb
  have HX := Aside0.mk hb
  have HL := Aside0.mk hlt
  have HE := Aside0.mk he
  have HK1 := Aside0.mk hk
  have ER := Aside0.mk er
  clear er
  clear hK hb hB hn hk he
  go_enter Try.func46, Try.ntmps46
  go_wp2_with (first | ((with_reducible refine gate_dst (N := 4) rfl ?_); refine box_event ?hg (N := 4) ?hd (cs := #[.int .i64 0, .int .i64 0, .string (⟨#[]⟩ : ByteArray)]) (t := 37) ?hr ?_; (case hd => rfl); (case hg => rfl); (case hr => first | (go_simp; done) | (go_simp; rfl)); intro gr hgr w2 hbox hb; have n0_ := Aside0.mk (below_step HB.out hb); have n1_ := Aside0.mk hbox; have n2_ := Aside0.mk ((hb.block g HL.out).trans HX.out); have n3_ := Aside0.mk ((by rw [hgr]; exact Nat.le_refl _) : w.heap.size ≤ gr); have n4_ := Rd.facts HN.out (below_step HB0.out hb) n2_.out HK.out; clear HB HX; have HB := n0_; have BR := n1_; have HX := n2_; have GR := n3_; obtain ⟨x0, x1, f0, f1, y0, y1, y2⟩ := n4_; clear n0_ n1_ n2_ n3_ hb hbox hgr) | ((with_reducible refine gate_dst (N := 5) rfl ?_); refine box_event ?hg (N := 5) ?hd (cs := #[.int .i64 0, .int .i64 0, .string (⟨#[]⟩ : ByteArray)]) (t := 37) ?hr ?_; (case hd => rfl); (case hg => rfl); (case hr => first | (go_simp; done) | (go_simp; rfl)); intro gc hgc w3 hbox hb; have n0_ := Aside0.mk (below_step HB.out hb); have n1_ := Aside0.mk hbox; have n2_ := Aside0.mk ((hb.block g (Nat.lt_of_lt_of_le HL.out HB.out.size)).trans HX.out); have n3_ := Aside0.mk ((by rw [hgc]; exact HB.out.size) : w.heap.size ≤ gc); have n5_ := Aside0.mk ((hb.block gr (blk_lt BR.out)).trans BR.out); have n6_ := Aside0.mk ((by rw [hgc]; exact Nat.ne_of_lt (blk_lt BR.out)) : gr ≠ gc); clear HB HX BR x0 x1 f0 f1 y0 y1 y2; have HB := n0_; have BC := n1_; have HX := n2_; have GC := n3_; have BR := n5_; have NE := n6_; clear n0_ n1_ n2_ n3_ n5_ n6_ hb hbox hgc; obtain ⟨z0, z1, z2, z3, z4, z5⟩ := Rd.three BC.out))
  have NG : g ≠ gc := Nat.ne_of_lt (Nat.lt_of_lt_of_le HL.out GC.out)
  have NR : g ≠ gr := Nat.ne_of_lt (Nat.lt_of_lt_of_le HL.out GR.out)
  have BC4 := Aside0.mk (Rd.set3 (x := .int .i64 d.f0) (y := .int .i64 d.f1) (z := .string d.f2) BC.out)
  have BR4 := Aside0.mk (Rd.far3 (x := .int .i64 d.f0) (y := .int .i64 d.f1) (z := .string d.f2) BR.out NE.out)
  have HX4 := Aside0.mk (Rd.far3 (x := .int .i64 d.f0) (y := .int .i64 d.f1) (z := .string d.f2) HX.out NG)
  have HB4 := Aside0.mk (((HB.out.setCell (p := ⟨gc, 0, none⟩) GC.out (.int .i64 d.f0)).setCell (p := ⟨gc, 1, none⟩) GC.out (.int .i64 d.f1)).setCell (p := ⟨gc, 2, none⟩) GC.out (.string d.f2))
  generalize (((w3.setCell ⟨gc, 0, none⟩ (.int .i64 d.f0)).setCell ⟨gc, 1, none⟩ (.int .i64 d.f1)).setCell ⟨gc, 2, none⟩ (.string d.f2)) = w4 at BC4 BR4 HX4 HB4 ⊢
  clear HB BC BR HX z0 z1 z2 z3 z4 z5
  obtain ⟨z0, z1, z2, z3, z4, z5⟩ := Rd.three BC4.out
  obtain ⟨x0, x1, f0, f1, y0, y1, y2⟩ := Rd.facts HN.out (below_step HB0.out HB4.out) HX4.out HK.out
  go_region
  have BC5 : Aside0 (((w4.setCell ⟨gc, 2, none⟩ (.string (d.f2.extract part.toNat (part + k).toNat))).drew).heap[gc]? = some (.cells #[.int .i64 d.f0, .int .i64 d.f1, .string (d.f2.extract part.toNat (part + k).toNat)] 37 (0, 0))) := ⟨(blk_set BC4.out 2 (.string (d.f2.extract part.toNat (part + k).toNat))).trans rfl⟩
  have BR5 : Aside0 (((w4.setCell ⟨gc, 2, none⟩ (.string (d.f2.extract part.toNat (part + k).toNat))).drew).heap[gr]? = _) := ⟨(Below.heap_setCell _ _ _ _ NE.out).trans BR4.out⟩
  have HX5 : Aside0 (((w4.setCell ⟨gc, 2, none⟩ (.string (d.f2.extract part.toNat (part + k).toNat))).drew).heap[g]? = _) := ⟨(Below.heap_setCell _ _ _ _ NG).trans HX4.out⟩
  have HB5 : Aside0 (Below w.heap.size w ((w4.setCell ⟨gc, 2, none⟩ (.string (d.f2.extract part.toNat (part + k).toNat))).drew)) := ⟨(HB4.out.setCell (p := ⟨gc, 2, none⟩) GC.out (.string (d.f2.extract part.toNat (part + k).toNat))).drew⟩
  generalize ((w4.setCell ⟨gc, 2, none⟩ (.string (d.f2.extract part.toNat (part + k).toNat))).drew) = w5 at BC5 BR5 HX5 HB5 ⊢
  clear BC4 BR4 HX4 HB4 z0 z1 z2 z3 z4 z5 x0 x1 f0 f1 y0 y1 y2
  obtain ⟨z0, z1, z2, z3, z4, z5⟩ := Rd.three BC5.out
  obtain ⟨x0, x1, f0, f1, y0, y1, y2⟩ := Rd.facts HN.out (below_step HB0.out HB5.out) HX5.out HK.out
  go_upto_region 6 with (fail)
  have BC6 : Aside0 ((w5.setCell ⟨g, 1, none⟩ (.int .i64 (part + k))).heap[gc]? = _) := ⟨(Below.heap_setCell _ _ _ _ (Ne.symm NG)).trans BC5.out⟩
  have BR6 : Aside0 ((w5.setCell ⟨g, 1, none⟩ (.int .i64 (part + k))).heap[gr]? = _) := ⟨(Below.heap_setCell _ _ _ _ (Ne.symm NR)).trans BR5.out⟩
  have HX6 : Aside0 ((w5.setCell ⟨g, 1, none⟩ (.int .i64 (part + k))).heap[g]? = some (.cells #[.slice (some ad) n c, .int .i64 (part + k)] 111 (0, 0))) := ⟨(blk_set HX5.out 1 (.int .i64 (part + k))).trans rfl⟩
  have HB6 : Aside0 (Below w0.heap.size w0 (w5.setCell ⟨g, 1, none⟩ (.int .i64 (part + k)))) := ⟨(below_step HB0.out HB5.out).setCell hg _⟩
  have HQ6 : Aside0 (Kept w (w5.setCell ⟨g, 1, none⟩ (.int .i64 (part + k))) (fun k_ => k_ = g)) := ⟨(Kept.of_below HB5.out (fun k_ => k_ = g)).setCell (p := ⟨g, 1, none⟩) (.inl rfl) _⟩
  generalize (w5.setCell ⟨g, 1, none⟩ (.int .i64 (part + k))) = w6 at BC6 BR6 HX6 HB6 HQ6 ⊢
  clear BC5 BR5 HX5 HB5 z0 z1 z2 z3 z4 z5 x0 x1 f0 f1 y0 y1 y2
  obtain ⟨x0, x1, f0, f1, y0, y1, y2⟩ := Rd.facts HN.out HB6.out HX6.out HK.out
  go_region_held3 (fun w' => w'.cell? ⟨g, 0, none⟩ = some (.slice (some ad) n c) ∧ w'.cell? ⟨g, 1, none⟩ = some (.int .i64 (part + k)) ∧ w'.cell? ad = some (.int .i64 d.f0) ∧ w'.cell? ⟨ad.block, ad.off + 1, none⟩ = some (.int .i64 d.f1) ∧ w'.cell? ⟨ad.block, ad.off + 2, none⟩ = some (.string d.f2)) (first | (go_keep; done) | ((try dsimp only at *); go_split_ands; exact ⟨pw_cell_below hb (by assumption), pw_cell_below hb (by assumption), pw_cell_below hb (by assumption), pw_cell_below hb (by assumption), pw_cell_below hb (by assumption)⟩)) (first | (go_at_call 65; refine (comp_Size.calls _ _ _ s _ hs).mono ?_; rintro e w7 ⟨rfl, hb⟩))
  have hb7 : Below w6.heap.size w6 w7 := below_step (Below.refl w6.heap.size w6).drew hb
  have BC7 := Aside0.mk ((hb7.block gc (blk_lt BC6.out)).trans BC6.out)
  have BR7 := Aside0.mk ((hb7.block gr (blk_lt BR6.out)).trans BR6.out)
  have HX7 := Aside0.mk ((hb7.block g (blk_lt HX6.out)).trans HX6.out)
  have HB7 := Aside0.mk (below_step HB6.out hb7)
  have HQ7 := Aside0.mk (HQ6.out.below hb7)
  clear BC6 BR6 HX6 HB6 HQ6 x0 x1 f0 f1 y0 y1 y2 hb hb7
  obtain ⟨z0, z1, z2, z3, z4, z5⟩ := Rd.three BC7.out
  obtain ⟨x0, x1, f0, f1, y0, y1, y2⟩ := Rd.facts HN.out HB7.out HX7.out HK.out
  obtain ⟨v0, v1, v2, v3, v4, v5⟩ := Rd.three BR7.out
  go_upto_region 8 with (fail)
  have BC8 : Aside0 (((w7.setCell ⟨g, 0, none⟩ (.slice B r.length (c - 1))).setCell ⟨g, 1, none⟩ (.int .i64 0)).heap[gc]? = _) := ⟨((Below.heap_setCell _ _ _ _ (Ne.symm NG)).trans (Below.heap_setCell _ _ _ _ (Ne.symm NG))).trans BC7.out⟩
  have BR8 : Aside0 (((w7.setCell ⟨g, 0, none⟩ (.slice B r.length (c - 1))).setCell ⟨g, 1, none⟩ (.int .i64 0)).heap[gr]? = _) := ⟨((Below.heap_setCell _ _ _ _ (Ne.symm NR)).trans (Below.heap_setCell _ _ _ _ (Ne.symm NR))).trans BR7.out⟩
  have HX8 : Aside0 (((w7.setCell ⟨g, 0, none⟩ (.slice B r.length (c - 1))).setCell ⟨g, 1, none⟩ (.int .i64 0)).heap[g]? = some (.cells #[.slice B r.length (c - 1), .int .i64 0] 111 (0, 0))) := ⟨Rd.set2 HX7.out⟩
  have HB8 : Aside0 (Below w0.heap.size w0 ((w7.setCell ⟨g, 0, none⟩ (.slice B r.length (c - 1))).setCell ⟨g, 1, none⟩ (.int .i64 0))) := ⟨(HB7.out.setCell hg _).setCell hg _⟩
  have HQ8 : Aside0 (Kept w ((w7.setCell ⟨g, 0, none⟩ (.slice B r.length (c - 1))).setCell ⟨g, 1, none⟩ (.int .i64 0)) (fun k_ => k_ = g)) := ⟨(HQ7.out.setCell (p := ⟨g, 0, none⟩) (.inl rfl) _).setCell (p := ⟨g, 1, none⟩) (.inl rfl) _⟩
  generalize ((w7.setCell ⟨g, 0, none⟩ (.slice B r.length (c - 1))).setCell ⟨g, 1, none⟩ (.int .i64 0)) = w8 at BC8 BR8 HX8 HB8 HQ8 ⊢
  clear BC7 BR7 HX7 HB7 HQ7 z0 z1 z2 z3 z4 z5 x0 x1 f0 f1 y0 y1 y2 v0 v1 v2 v3 v4 v5
  obtain ⟨z0, z1, z2, z3, z4, z5⟩ := Rd.three BC8.out
  obtain ⟨v0, v1, v2, v3, v4, v5⟩ := Rd.three BR8.out
  go_wp2
  have GW : w0.heap.size ≤ gr := Nat.le_trans HB0.out.size GR.out
  refine bodyPost_ret (results_cell_row rfl _ _ gr 37 #[.int .i64 d.f0, .int .i64 d.f1, .string (d.f2.extract part.toNat (part + k).toNat)] (0, 0) _ rfl (Rd.set3 BR8.out) Try.underlying37 rfl (by kernel_rfl)) rfl ?_
  refine ⟨rfl, ⟨B, c - 1, Rd.far3 HX8.out NR, hg, ?_, ?_⟩, ((HB8.out.setCell GW _).setCell GW _).setCell GW _, ((HQ8.out.setCell (.inr GR.out) _).setCell (.inr GR.out) _).setCell (.inr GR.out) _⟩
  · exact HD.out
  · have := ER.out; have := HN.out; simp only [List.length_cons] at this hl; omega
set_option maxHeartbeats 4000000 in
theorem Rd.take_put_part (g : Nat) (part k : Int) (d : S37) (r : List (S37)) (s : Int) (w0 w : World) (hB : Below w0.heap.size w0 w) (h : IsRd w0 w g (d :: r) part) (hs : comp_Size.f d.f0 d.f1 d.f2 = some s)
    (hk : d.f0 = 1) (h0 : 0 ≤ part) (h1 : 0 ≤ k) (h2 : part + k ≤ d.f2.size) (h3 : d.f2.size ≤ 4096) (he : part + k ≠ s) :
    Calls Try.prog 46 #[.pointer (some ⟨g, 0, none⟩), .int .i64 k] w fun e w' => e = .returned (.agg #[.int .i64 d.f0, .int .i64 d.f1, .string (d.f2.extract part.toNat (part + k).toNat)]) ∧ IsRd w0 w' g (d :: r) (part + k) ∧ Below w0.heap.size w0 w' ∧ Kept w w' (fun k_ => k_ = g) := by
  obtain ⟨A, c, hb, hg, hK, hl⟩ := h
  have hlt := blk_lt hb
  obtain ⟨ad, rfl, -⟩ := Rd.cells hB hK
  obtain ⟨n, hn⟩ : ∃ n, n = (d :: r).length := ⟨_, rfl⟩
  have p0 : (0 : Int) < (n : Int) := by rw [hn]; simp only [List.length_cons]; omega
  have q0 := eq_true p0
  have q1 := eq_true (show 0 < n by omega)
  have q2 : (d.f0 == 1) = true := beq_iff_eq.mpr hk
  have q3 : (part + k == s) = false := beq_eq_false_iff_ne.mpr he
  have e0 : wrap64 (part + k) = part + k := by unfold wrap64; omega
  have e1 : IntKind.i64.wrap (part + k) = part + k := (i64_w _).trans e0
  have r1 : decide (0 ≤ part) = true := decide_eq_true h0
  have r4 := eq_true h0
  have r5 := eq_true h1
  have r6 := eq_true h2
  have r7 := eq_true (show part ≤ part + k by omega)
  have r2 : decide (part ≤ part + k) = true := decide_eq_true (by omega)
  have r3 : decide (part + k ≤ (d.f2.size : Int)) = true := decide_eq_true h2
  have HK := Aside0.mk hK
  have HN := Aside0.mk hn
  have HB := Aside0.mk (Below.refl w.heap.size w)
  have HB0 := Aside0.mk hB
  rw [← hn] at hb
  have HX := Aside0.mk hb
  have HL := Aside0.mk hlt
  have HE := Aside0.mk he
  have HK1 := Aside0.mk hk
  clear hK hb hB hn hk he
  go_enter Try.func46, Try.ntmps46
  go_wp2_with (first | ((with_reducible refine gate_dst (N := 4) rfl ?_); refine box_event ?hg (N := 4) ?hd (cs := #[.int .i64 0, .int .i64 0, .string (⟨#[]⟩ : ByteArray)]) (t := 37) ?hr ?_; (case hd => rfl); (case hg => rfl); (case hr => first | (go_simp; done) | (go_simp; rfl)); intro gr hgr w2 hbox hb; have n0_ := Aside0.mk (below_step HB.out hb); have n1_ := Aside0.mk hbox; have n2_ := Aside0.mk ((hb.block g HL.out).trans HX.out); have n3_ := Aside0.mk ((by rw [hgr]; exact Nat.le_refl _) : w.heap.size ≤ gr); have n4_ := Rd.facts HN.out (below_step HB0.out hb) n2_.out HK.out; clear HB HX; have HB := n0_; have BR := n1_; have HX := n2_; have GR := n3_; obtain ⟨x0, x1, f0, f1, y0, y1, y2⟩ := n4_; clear n0_ n1_ n2_ n3_ hb hbox hgr) | ((with_reducible refine gate_dst (N := 5) rfl ?_); refine box_event ?hg (N := 5) ?hd (cs := #[.int .i64 0, .int .i64 0, .string (⟨#[]⟩ : ByteArray)]) (t := 37) ?hr ?_; (case hd => rfl); (case hg => rfl); (case hr => first | (go_simp; done) | (go_simp; rfl)); intro gc hgc w3 hbox hb; have n0_ := Aside0.mk (below_step HB.out hb); have n1_ := Aside0.mk hbox; have n2_ := Aside0.mk ((hb.block g (Nat.lt_of_lt_of_le HL.out HB.out.size)).trans HX.out); have n3_ := Aside0.mk ((by rw [hgc]; exact HB.out.size) : w.heap.size ≤ gc); have n5_ := Aside0.mk ((hb.block gr (blk_lt BR.out)).trans BR.out); have n6_ := Aside0.mk ((by rw [hgc]; exact Nat.ne_of_lt (blk_lt BR.out)) : gr ≠ gc); clear HB HX BR x0 x1 f0 f1 y0 y1 y2; have HB := n0_; have BC := n1_; have HX := n2_; have GC := n3_; have BR := n5_; have NE := n6_; clear n0_ n1_ n2_ n3_ n5_ n6_ hb hbox hgc; obtain ⟨z0, z1, z2, z3, z4, z5⟩ := Rd.three BC.out))
  have NG : g ≠ gc := Nat.ne_of_lt (Nat.lt_of_lt_of_le HL.out GC.out)
  have NR : g ≠ gr := Nat.ne_of_lt (Nat.lt_of_lt_of_le HL.out GR.out)
  have BC4 := Aside0.mk (Rd.set3 (x := .int .i64 d.f0) (y := .int .i64 d.f1) (z := .string d.f2) BC.out)
  have BR4 := Aside0.mk (Rd.far3 (x := .int .i64 d.f0) (y := .int .i64 d.f1) (z := .string d.f2) BR.out NE.out)
  have HX4 := Aside0.mk (Rd.far3 (x := .int .i64 d.f0) (y := .int .i64 d.f1) (z := .string d.f2) HX.out NG)
  have HB4 := Aside0.mk (((HB.out.setCell (p := ⟨gc, 0, none⟩) GC.out (.int .i64 d.f0)).setCell (p := ⟨gc, 1, none⟩) GC.out (.int .i64 d.f1)).setCell (p := ⟨gc, 2, none⟩) GC.out (.string d.f2))
  generalize (((w3.setCell ⟨gc, 0, none⟩ (.int .i64 d.f0)).setCell ⟨gc, 1, none⟩ (.int .i64 d.f1)).setCell ⟨gc, 2, none⟩ (.string d.f2)) = w4 at BC4 BR4 HX4 HB4 ⊢
  clear HB BC BR HX z0 z1 z2 z3 z4 z5
  obtain ⟨z0, z1, z2, z3, z4, z5⟩ := Rd.three BC4.out
  obtain ⟨x0, x1, f0, f1, y0, y1, y2⟩ := Rd.facts HN.out (below_step HB0.out HB4.out) HX4.out HK.out
  go_region
  have BC5 : Aside0 (((w4.setCell ⟨gc, 2, none⟩ (.string (d.f2.extract part.toNat (part + k).toNat))).drew).heap[gc]? = some (.cells #[.int .i64 d.f0, .int .i64 d.f1, .string (d.f2.extract part.toNat (part + k).toNat)] 37 (0, 0))) := ⟨(blk_set BC4.out 2 (.string (d.f2.extract part.toNat (part + k).toNat))).trans rfl⟩
  have BR5 : Aside0 (((w4.setCell ⟨gc, 2, none⟩ (.string (d.f2.extract part.toNat (part + k).toNat))).drew).heap[gr]? = _) := ⟨(Below.heap_setCell _ _ _ _ NE.out).trans BR4.out⟩
  have HX5 : Aside0 (((w4.setCell ⟨gc, 2, none⟩ (.string (d.f2.extract part.toNat (part + k).toNat))).drew).heap[g]? = _) := ⟨(Below.heap_setCell _ _ _ _ NG).trans HX4.out⟩
  have HB5 : Aside0 (Below w.heap.size w ((w4.setCell ⟨gc, 2, none⟩ (.string (d.f2.extract part.toNat (part + k).toNat))).drew)) := ⟨(HB4.out.setCell (p := ⟨gc, 2, none⟩) GC.out (.string (d.f2.extract part.toNat (part + k).toNat))).drew⟩
  generalize ((w4.setCell ⟨gc, 2, none⟩ (.string (d.f2.extract part.toNat (part + k).toNat))).drew) = w5 at BC5 BR5 HX5 HB5 ⊢
  clear BC4 BR4 HX4 HB4 z0 z1 z2 z3 z4 z5 x0 x1 f0 f1 y0 y1 y2
  obtain ⟨z0, z1, z2, z3, z4, z5⟩ := Rd.three BC5.out
  obtain ⟨x0, x1, f0, f1, y0, y1, y2⟩ := Rd.facts HN.out (below_step HB0.out HB5.out) HX5.out HK.out
  go_upto_region 6 with (fail)
  have BC6 : Aside0 ((w5.setCell ⟨g, 1, none⟩ (.int .i64 (part + k))).heap[gc]? = _) := ⟨(Below.heap_setCell _ _ _ _ (Ne.symm NG)).trans BC5.out⟩
  have BR6 : Aside0 ((w5.setCell ⟨g, 1, none⟩ (.int .i64 (part + k))).heap[gr]? = _) := ⟨(Below.heap_setCell _ _ _ _ (Ne.symm NR)).trans BR5.out⟩
  have HX6 : Aside0 ((w5.setCell ⟨g, 1, none⟩ (.int .i64 (part + k))).heap[g]? = some (.cells #[.slice (some ad) n c, .int .i64 (part + k)] 111 (0, 0))) := ⟨(blk_set HX5.out 1 (.int .i64 (part + k))).trans rfl⟩
  have HB6 : Aside0 (Below w0.heap.size w0 (w5.setCell ⟨g, 1, none⟩ (.int .i64 (part + k)))) := ⟨(below_step HB0.out HB5.out).setCell hg _⟩
  have HQ6 : Aside0 (Kept w (w5.setCell ⟨g, 1, none⟩ (.int .i64 (part + k))) (fun k_ => k_ = g)) := ⟨(Kept.of_below HB5.out (fun k_ => k_ = g)).setCell (p := ⟨g, 1, none⟩) (.inl rfl) _⟩
  generalize (w5.setCell ⟨g, 1, none⟩ (.int .i64 (part + k))) = w6 at BC6 BR6 HX6 HB6 HQ6 ⊢
  clear BC5 BR5 HX5 HB5 z0 z1 z2 z3 z4 z5 x0 x1 f0 f1 y0 y1 y2
  obtain ⟨x0, x1, f0, f1, y0, y1, y2⟩ := Rd.facts HN.out HB6.out HX6.out HK.out
  go_region_held3 (fun w' => w'.cell? ⟨g, 0, none⟩ = some (.slice (some ad) n c) ∧ w'.cell? ⟨g, 1, none⟩ = some (.int .i64 (part + k)) ∧ w'.cell? ad = some (.int .i64 d.f0) ∧ w'.cell? ⟨ad.block, ad.off + 1, none⟩ = some (.int .i64 d.f1) ∧ w'.cell? ⟨ad.block, ad.off + 2, none⟩ = some (.string d.f2)) (first | (go_keep; done) | ((try dsimp only at *); go_split_ands; exact ⟨pw_cell_below hb (by assumption), pw_cell_below hb (by assumption), pw_cell_below hb (by assumption), pw_cell_below hb (by assumption), pw_cell_below hb (by assumption)⟩)) (first | (go_at_call 65; refine (comp_Size.calls _ _ _ s _ hs).mono ?_; rintro e w7 ⟨rfl, hb⟩))
  have hb7 : Below w6.heap.size w6 w7 := below_step (Below.refl w6.heap.size w6).drew hb
  have BC7 := Aside0.mk ((hb7.block gc (blk_lt BC6.out)).trans BC6.out)
  have BR7 := Aside0.mk ((hb7.block gr (blk_lt BR6.out)).trans BR6.out)
  have HX7 := Aside0.mk ((hb7.block g (blk_lt HX6.out)).trans HX6.out)
  have HB7 := Aside0.mk (below_step HB6.out hb7)
  have HQ7 := Aside0.mk (HQ6.out.below hb7)
  clear BC6 BR6 HX6 HB6 HQ6 x0 x1 f0 f1 y0 y1 y2 hb hb7
  obtain ⟨z0, z1, z2, z3, z4, z5⟩ := Rd.three BC7.out
  obtain ⟨x0, x1, f0, f1, y0, y1, y2⟩ := Rd.facts HN.out HB7.out HX7.out HK.out
  obtain ⟨v0, v1, v2, v3, v4, v5⟩ := Rd.three BR7.out
  go_wp2
  have GW : w0.heap.size ≤ gr := Nat.le_trans HB0.out.size GR.out
  refine bodyPost_ret (results_cell_row rfl _ _ gr 37 #[.int .i64 d.f0, .int .i64 d.f1, .string (d.f2.extract part.toNat (part + k).toNat)] (0, 0) _ rfl (Rd.set3 BR7.out) Try.underlying37 rfl (by kernel_rfl)) rfl ?_
  refine ⟨rfl, ⟨some ad, c, ?_, hg, HK.out, hl⟩, ((HB7.out.setCell GW _).setCell GW _).setCell GW _, ((HQ7.out.setCell (.inr GR.out) _).setCell (.inr GR.out) _).setCell (.inr GR.out) _⟩
  · rw [← HN.out]; exact Rd.far3 HX7.out NR
set_option maxHeartbeats 4000000 in
theorem Rd.take_num (g : Nat) (part k : Int) (d : S37) (r : List (S37)) (s : Int) (w0 w : World) (hB : Below w0.heap.size w0 w) (h : IsRd w0 w g (d :: r) part) (hs : comp_Size.f d.f0 d.f1 d.f2 = some s)
    (hk : d.f0 ≠ 1) (h0 : 0 ≤ part) (h1 : 0 ≤ k) (h2 : part + k ≤ 4096) (he : part + k = s) :
    Calls Try.prog 46 #[.pointer (some ⟨g, 0, none⟩), .int .i64 k] w fun e w' => e = .returned (.agg #[.int .i64 d.f0, .int .i64 k, .string d.f2]) ∧ IsRd w0 w' g r 0 ∧ Below w0.heap.size w0 w' ∧ Kept w w' (fun k_ => k_ = g) := by
  obtain ⟨A, c, hb, hg, hK, hl⟩ := h
  have hlt := blk_lt hb
  obtain ⟨ad, rfl, -⟩ := Rd.cells hB hK
  obtain ⟨n, hn⟩ : ∃ n, n = (d :: r).length := ⟨_, rfl⟩
  have p0 : (0 : Int) < (n : Int) := by rw [hn]; simp only [List.length_cons]; omega
  have q0 := eq_true p0
  have q1 := eq_true (show 0 < n by omega)
  have q2 : (d.f0 == 1) = false := beq_eq_false_iff_ne.mpr hk
  have q3 : (part + k == s) = true := beq_iff_eq.mpr he
  have e0 : wrap64 (part + k) = part + k := by unfold wrap64; omega
  have e1 : IntKind.i64.wrap (part + k) = part + k := (i64_w _).trans e0
  obtain ⟨i0, hi0, _, hsz0, _⟩ := info_parts info37
  have hdrop := Kd.C_drop (m := 1) hK (by simp only [List.length_cons]; omega) hl
  have hcut := Rd.cut_rest (P := Try.prog) 22 37 Try.underlying22 hi0 3 hsz0 (some ad) n c (by omega)
  have ez : k37.sz = 3 := rfl
  rw [ez] at hdrop
  obtain ⟨B, hBe⟩ : ∃ B, B = (if c = 1 then some ad else (some ad).map (·.add (1 * 3))) := ⟨_, rfl⟩
  rw [← hBe] at hcut hdrop
  have er : n - 1 = r.length := by rw [hn]; simp
  rw [er] at hcut
  have HD := Aside0.mk hdrop
  clear hi0 hsz0 hdrop hBe ez
  have HK := Aside0.mk hK
  have HN := Aside0.mk hn
  have HB := Aside0.mk (Below.refl w.heap.size w)
  have HB0 := Aside0.mk hB
  rw [← hn] at hb
  have HX := Aside0.mk hb
  have HL := Aside0.mk hlt
  have HE := Aside0.mk he
  have HK1 := Aside0.mk hk
  have ER := Aside0.mk er
  clear er
  clear hK hb hB hn hk he
  go_enter Try.func46, Try.ntmps46
  go_upto_region 5 with (first | ((with_reducible refine gate_dst (N := 4) rfl ?_); refine box_event ?hg (N := 4) ?hd (cs := #[.int .i64 0, .int .i64 0, .string (⟨#[]⟩ : ByteArray)]) (t := 37) ?hr ?_; (case hd => rfl); (case hg => rfl); (case hr => first | (go_simp; done) | (go_simp; rfl)); intro gr hgr w2 hbox hb; have n0_ := Aside0.mk (below_step HB.out hb); have n1_ := Aside0.mk hbox; have n2_ := Aside0.mk ((hb.block g HL.out).trans HX.out); have n3_ := Aside0.mk ((by rw [hgr]; exact Nat.le_refl _) : w.heap.size ≤ gr); have n4_ := Rd.facts HN.out (below_step HB0.out hb) n2_.out HK.out; clear HB HX; have HB := n0_; have BR := n1_; have HX := n2_; have GR := n3_; obtain ⟨x0, x1, f0, f1, y0, y1, y2⟩ := n4_; clear n0_ n1_ n2_ n3_ hb hbox hgr) | ((with_reducible refine gate_dst (N := 5) rfl ?_); refine box_event ?hg (N := 5) ?hd (cs := #[.int .i64 0, .int .i64 0, .string (⟨#[]⟩ : ByteArray)]) (t := 37) ?hr ?_; (case hd => rfl); (case hg => rfl); (case hr => first | (go_simp; done) | (go_simp; rfl)); intro gc hgc w3 hbox hb; have n0_ := Aside0.mk (below_step HB.out hb); have n1_ := Aside0.mk hbox; have n2_ := Aside0.mk ((hb.block g (Nat.lt_of_lt_of_le HL.out HB.out.size)).trans HX.out); have n3_ := Aside0.mk ((by rw [hgc]; exact HB.out.size) : w.heap.size ≤ gc); have n5_ := Aside0.mk ((hb.block gr (blk_lt BR.out)).trans BR.out); have n6_ := Aside0.mk ((by rw [hgc]; exact Nat.ne_of_lt (blk_lt BR.out)) : gr ≠ gc); clear HB HX BR x0 x1 f0 f1 y0 y1 y2; have HB := n0_; have BC := n1_; have HX := n2_; have GC := n3_; have BR := n5_; have NE := n6_; clear n0_ n1_ n2_ n3_ n5_ n6_ hb hbox hgc; obtain ⟨z0, z1, z2, z3, z4, z5⟩ := Rd.three BC.out))
  have NG : g ≠ gc := Nat.ne_of_lt (Nat.lt_of_lt_of_le HL.out GC.out)
  have NR : g ≠ gr := Nat.ne_of_lt (Nat.lt_of_lt_of_le HL.out GR.out)
  have BC4 := Aside0.mk (Rd.set3 (x := .int .i64 d.f0) (y := .int .i64 d.f1) (z := .string d.f2) BC.out)
  have BR4 := Aside0.mk (Rd.far3 (x := .int .i64 d.f0) (y := .int .i64 d.f1) (z := .string d.f2) BR.out NE.out)
  have HX4 := Aside0.mk (Rd.far3 (x := .int .i64 d.f0) (y := .int .i64 d.f1) (z := .string d.f2) HX.out NG)
  have HB4 := Aside0.mk (((HB.out.setCell (p := ⟨gc, 0, none⟩) GC.out (.int .i64 d.f0)).setCell (p := ⟨gc, 1, none⟩) GC.out (.int .i64 d.f1)).setCell (p := ⟨gc, 2, none⟩) GC.out (.string d.f2))
  have BC5 : Aside0 (((((w3.setCell ⟨gc, 0, none⟩ (.int .i64 d.f0)).setCell ⟨gc, 1, none⟩ (.int .i64 d.f1)).setCell ⟨gc, 2, none⟩ (.string d.f2)).setCell ⟨gc, 1, none⟩ (.int .i64 k)).heap[gc]? = some (.cells #[.int .i64 d.f0, .int .i64 k, .string d.f2] 37 (0, 0))) := ⟨(blk_set BC4.out 1 (.int .i64 k)).trans rfl⟩
  have BR5 : Aside0 (((((w3.setCell ⟨gc, 0, none⟩ (.int .i64 d.f0)).setCell ⟨gc, 1, none⟩ (.int .i64 d.f1)).setCell ⟨gc, 2, none⟩ (.string d.f2)).setCell ⟨gc, 1, none⟩ (.int .i64 k)).heap[gr]? = _) := ⟨(Below.heap_setCell _ _ _ _ NE.out).trans BR4.out⟩
  have HX5 : Aside0 (((((w3.setCell ⟨gc, 0, none⟩ (.int .i64 d.f0)).setCell ⟨gc, 1, none⟩ (.int .i64 d.f1)).setCell ⟨gc, 2, none⟩ (.string d.f2)).setCell ⟨gc, 1, none⟩ (.int .i64 k)).heap[g]? = _) := ⟨(Below.heap_setCell _ _ _ _ NG).trans HX4.out⟩
  have HB5 : Aside0 (Below w.heap.size w ((((w3.setCell ⟨gc, 0, none⟩ (.int .i64 d.f0)).setCell ⟨gc, 1, none⟩ (.int .i64 d.f1)).setCell ⟨gc, 2, none⟩ (.string d.f2)).setCell ⟨gc, 1, none⟩ (.int .i64 k))) := ⟨(HB4.out.setCell (p := ⟨gc, 1, none⟩) GC.out (.int .i64 k))⟩
  generalize ((((w3.setCell ⟨gc, 0, none⟩ (.int .i64 d.f0)).setCell ⟨gc, 1, none⟩ (.int .i64 d.f1)).setCell ⟨gc, 2, none⟩ (.string d.f2)).setCell ⟨gc, 1, none⟩ (.int .i64 k)) = w5 at BC5 BR5 HX5 HB5 ⊢
  clear BC4 BR4 HX4 HB4 HB BC BR HX z0 z1 z2 z3 z4 z5
  obtain ⟨z0, z1, z2, z3, z4, z5⟩ := Rd.three BC5.out
  obtain ⟨x0, x1, f0, f1, y0, y1, y2⟩ := Rd.facts HN.out (below_step HB0.out HB5.out) HX5.out HK.out
  go_upto_region 6 with (fail)
  have BC6 : Aside0 ((w5.setCell ⟨g, 1, none⟩ (.int .i64 (part + k))).heap[gc]? = _) := ⟨(Below.heap_setCell _ _ _ _ (Ne.symm NG)).trans BC5.out⟩
  have BR6 : Aside0 ((w5.setCell ⟨g, 1, none⟩ (.int .i64 (part + k))).heap[gr]? = _) := ⟨(Below.heap_setCell _ _ _ _ (Ne.symm NR)).trans BR5.out⟩
  have HX6 : Aside0 ((w5.setCell ⟨g, 1, none⟩ (.int .i64 (part + k))).heap[g]? = some (.cells #[.slice (some ad) n c, .int .i64 (part + k)] 111 (0, 0))) := ⟨(blk_set HX5.out 1 (.int .i64 (part + k))).trans rfl⟩
  have HB6 : Aside0 (Below w0.heap.size w0 (w5.setCell ⟨g, 1, none⟩ (.int .i64 (part + k)))) := ⟨(below_step HB0.out HB5.out).setCell hg _⟩
  have HQ6 : Aside0 (Kept w (w5.setCell ⟨g, 1, none⟩ (.int .i64 (part + k))) (fun k_ => k_ = g)) := ⟨(Kept.of_below HB5.out (fun k_ => k_ = g)).setCell (p := ⟨g, 1, none⟩) (.inl rfl) _⟩
  generalize (w5.setCell ⟨g, 1, none⟩ (.int .i64 (part + k))) = w6 at BC6 BR6 HX6 HB6 HQ6 ⊢
  clear BC5 BR5 HX5 HB5 z0 z1 z2 z3 z4 z5 x0 x1 f0 f1 y0 y1 y2
  obtain ⟨x0, x1, f0, f1, y0, y1, y2⟩ := Rd.facts HN.out HB6.out HX6.out HK.out
  go_region_held3 (fun w' => w'.cell? ⟨g, 0, none⟩ = some (.slice (some ad) n c) ∧ w'.cell? ⟨g, 1, none⟩ = some (.int .i64 (part + k)) ∧ w'.cell? ad = some (.int .i64 d.f0) ∧ w'.cell? ⟨ad.block, ad.off + 1, none⟩ = some (.int .i64 d.f1) ∧ w'.cell? ⟨ad.block, ad.off + 2, none⟩ = some (.string d.f2)) (first | (go_keep; done) | ((try dsimp only at *); go_split_ands; exact ⟨pw_cell_below hb (by assumption), pw_cell_below hb (by assumption), pw_cell_below hb (by assumption), pw_cell_below hb (by assumption), pw_cell_below hb (by assumption)⟩)) (first | (go_at_call 65; refine (comp_Size.calls _ _ _ s _ hs).mono ?_; rintro e w7 ⟨rfl, hb⟩))
  have hb7 : Below w6.heap.size w6 w7 := below_step (Below.refl w6.heap.size w6).drew hb
  have BC7 := Aside0.mk ((hb7.block gc (blk_lt BC6.out)).trans BC6.out)
  have BR7 := Aside0.mk ((hb7.block gr (blk_lt BR6.out)).trans BR6.out)
  have HX7 := Aside0.mk ((hb7.block g (blk_lt HX6.out)).trans HX6.out)
  have HB7 := Aside0.mk (below_step HB6.out hb7)
  have HQ7 := Aside0.mk (HQ6.out.below hb7)
  clear BC6 BR6 HX6 HB6 HQ6 x0 x1 f0 f1 y0 y1 y2 hb hb7
  obtain ⟨z0, z1, z2, z3, z4, z5⟩ := Rd.three BC7.out
  obtain ⟨x0, x1, f0, f1, y0, y1, y2⟩ := Rd.facts HN.out HB7.out HX7.out HK.out
  obtain ⟨v0, v1, v2, v3, v4, v5⟩ := Rd.three BR7.out
  go_upto_region 8 with (fail)
  have BC8 : Aside0 (((w7.setCell ⟨g, 0, none⟩ (.slice B r.length (c - 1))).setCell ⟨g, 1, none⟩ (.int .i64 0)).heap[gc]? = _) := ⟨((Below.heap_setCell _ _ _ _ (Ne.symm NG)).trans (Below.heap_setCell _ _ _ _ (Ne.symm NG))).trans BC7.out⟩
  have BR8 : Aside0 (((w7.setCell ⟨g, 0, none⟩ (.slice B r.length (c - 1))).setCell ⟨g, 1, none⟩ (.int .i64 0)).heap[gr]? = _) := ⟨((Below.heap_setCell _ _ _ _ (Ne.symm NR)).trans (Below.heap_setCell _ _ _ _ (Ne.symm NR))).trans BR7.out⟩
  have HX8 : Aside0 (((w7.setCell ⟨g, 0, none⟩ (.slice B r.length (c - 1))).setCell ⟨g, 1, none⟩ (.int .i64 0)).heap[g]? = some (.cells #[.slice B r.length (c - 1), .int .i64 0] 111 (0, 0))) := ⟨Rd.set2 HX7.out⟩
  have HB8 : Aside0 (Below w0.heap.size w0 ((w7.setCell ⟨g, 0, none⟩ (.slice B r.length (c - 1))).setCell ⟨g, 1, none⟩ (.int .i64 0))) := ⟨(HB7.out.setCell hg _).setCell hg _⟩
  have HQ8 : Aside0 (Kept w ((w7.setCell ⟨g, 0, none⟩ (.slice B r.length (c - 1))).setCell ⟨g, 1, none⟩ (.int .i64 0)) (fun k_ => k_ = g)) := ⟨(HQ7.out.setCell (p := ⟨g, 0, none⟩) (.inl rfl) _).setCell (p := ⟨g, 1, none⟩) (.inl rfl) _⟩
  generalize ((w7.setCell ⟨g, 0, none⟩ (.slice B r.length (c - 1))).setCell ⟨g, 1, none⟩ (.int .i64 0)) = w8 at BC8 BR8 HX8 HB8 HQ8 ⊢
  clear BC7 BR7 HX7 HB7 HQ7 z0 z1 z2 z3 z4 z5 x0 x1 f0 f1 y0 y1 y2 v0 v1 v2 v3 v4 v5
  obtain ⟨z0, z1, z2, z3, z4, z5⟩ := Rd.three BC8.out
  obtain ⟨v0, v1, v2, v3, v4, v5⟩ := Rd.three BR8.out
  go_wp2
  have GW : w0.heap.size ≤ gr := Nat.le_trans HB0.out.size GR.out
  refine bodyPost_ret (results_cell_row rfl _ _ gr 37 #[.int .i64 d.f0, .int .i64 k, .string d.f2] (0, 0) _ rfl (Rd.set3 BR8.out) Try.underlying37 rfl (by kernel_rfl)) rfl ?_
  refine ⟨rfl, ⟨B, c - 1, Rd.far3 HX8.out NR, hg, ?_, ?_⟩, ((HB8.out.setCell GW _).setCell GW _).setCell GW _, ((HQ8.out.setCell (.inr GR.out) _).setCell (.inr GR.out) _).setCell (.inr GR.out) _⟩
  · exact HD.out
  · have := ER.out; have := HN.out; simp only [List.length_cons] at this hl; omega
set_option maxHeartbeats 4000000 in
theorem Rd.take_num_part (g : Nat) (part k : Int) (d : S37) (r : List (S37)) (s : Int) (w0 w : World) (hB : Below w0.heap.size w0 w) (h : IsRd w0 w g (d :: r) part) (hs : comp_Size.f d.f0 d.f1 d.f2 = some s)
    (hk : d.f0 ≠ 1) (h0 : 0 ≤ part) (h1 : 0 ≤ k) (h2 : part + k ≤ 4096) (he : part + k ≠ s) :
    Calls Try.prog 46 #[.pointer (some ⟨g, 0, none⟩), .int .i64 k] w fun e w' => e = .returned (.agg #[.int .i64 d.f0, .int .i64 k, .string d.f2]) ∧ IsRd w0 w' g (d :: r) (part + k) ∧ Below w0.heap.size w0 w' ∧ Kept w w' (fun k_ => k_ = g) := by
  obtain ⟨A, c, hb, hg, hK, hl⟩ := h
  have hlt := blk_lt hb
  obtain ⟨ad, rfl, -⟩ := Rd.cells hB hK
  obtain ⟨n, hn⟩ : ∃ n, n = (d :: r).length := ⟨_, rfl⟩
  have p0 : (0 : Int) < (n : Int) := by rw [hn]; simp only [List.length_cons]; omega
  have q0 := eq_true p0
  have q1 := eq_true (show 0 < n by omega)
  have q2 : (d.f0 == 1) = false := beq_eq_false_iff_ne.mpr hk
  have q3 : (part + k == s) = false := beq_eq_false_iff_ne.mpr he
  have e0 : wrap64 (part + k) = part + k := by unfold wrap64; omega
  have e1 : IntKind.i64.wrap (part + k) = part + k := (i64_w _).trans e0
  have HK := Aside0.mk hK
  have HN := Aside0.mk hn
  have HB := Aside0.mk (Below.refl w.heap.size w)
  have HB0 := Aside0.mk hB
  rw [← hn] at hb
  have HX := Aside0.mk hb
  have HL := Aside0.mk hlt
  have HE := Aside0.mk he
  have HK1 := Aside0.mk hk
  clear hK hb hB hn hk he
  go_enter Try.func46, Try.ntmps46
  go_upto_region 5 with (first | ((with_reducible refine gate_dst (N := 4) rfl ?_); refine box_event ?hg (N := 4) ?hd (cs := #[.int .i64 0, .int .i64 0, .string (⟨#[]⟩ : ByteArray)]) (t := 37) ?hr ?_; (case hd => rfl); (case hg => rfl); (case hr => first | (go_simp; done) | (go_simp; rfl)); intro gr hgr w2 hbox hb; have n0_ := Aside0.mk (below_step HB.out hb); have n1_ := Aside0.mk hbox; have n2_ := Aside0.mk ((hb.block g HL.out).trans HX.out); have n3_ := Aside0.mk ((by rw [hgr]; exact Nat.le_refl _) : w.heap.size ≤ gr); have n4_ := Rd.facts HN.out (below_step HB0.out hb) n2_.out HK.out; clear HB HX; have HB := n0_; have BR := n1_; have HX := n2_; have GR := n3_; obtain ⟨x0, x1, f0, f1, y0, y1, y2⟩ := n4_; clear n0_ n1_ n2_ n3_ hb hbox hgr) | ((with_reducible refine gate_dst (N := 5) rfl ?_); refine box_event ?hg (N := 5) ?hd (cs := #[.int .i64 0, .int .i64 0, .string (⟨#[]⟩ : ByteArray)]) (t := 37) ?hr ?_; (case hd => rfl); (case hg => rfl); (case hr => first | (go_simp; done) | (go_simp; rfl)); intro gc hgc w3 hbox hb; have n0_ := Aside0.mk (below_step HB.out hb); have n1_ := Aside0.mk hbox; have n2_ := Aside0.mk ((hb.block g (Nat.lt_of_lt_of_le HL.out HB.out.size)).trans HX.out); have n3_ := Aside0.mk ((by rw [hgc]; exact HB.out.size) : w.heap.size ≤ gc); have n5_ := Aside0.mk ((hb.block gr (blk_lt BR.out)).trans BR.out); have n6_ := Aside0.mk ((by rw [hgc]; exact Nat.ne_of_lt (blk_lt BR.out)) : gr ≠ gc); clear HB HX BR x0 x1 f0 f1 y0 y1 y2; have HB := n0_; have BC := n1_; have HX := n2_; have GC := n3_; have BR := n5_; have NE := n6_; clear n0_ n1_ n2_ n3_ n5_ n6_ hb hbox hgc; obtain ⟨z0, z1, z2, z3, z4, z5⟩ := Rd.three BC.out))
  have NG : g ≠ gc := Nat.ne_of_lt (Nat.lt_of_lt_of_le HL.out GC.out)
  have NR : g ≠ gr := Nat.ne_of_lt (Nat.lt_of_lt_of_le HL.out GR.out)
  have BC4 := Aside0.mk (Rd.set3 (x := .int .i64 d.f0) (y := .int .i64 d.f1) (z := .string d.f2) BC.out)
  have BR4 := Aside0.mk (Rd.far3 (x := .int .i64 d.f0) (y := .int .i64 d.f1) (z := .string d.f2) BR.out NE.out)
  have HX4 := Aside0.mk (Rd.far3 (x := .int .i64 d.f0) (y := .int .i64 d.f1) (z := .string d.f2) HX.out NG)
  have HB4 := Aside0.mk (((HB.out.setCell (p := ⟨gc, 0, none⟩) GC.out (.int .i64 d.f0)).setCell (p := ⟨gc, 1, none⟩) GC.out (.int .i64 d.f1)).setCell (p := ⟨gc, 2, none⟩) GC.out (.string d.f2))
  have BC5 : Aside0 (((((w3.setCell ⟨gc, 0, none⟩ (.int .i64 d.f0)).setCell ⟨gc, 1, none⟩ (.int .i64 d.f1)).setCell ⟨gc, 2, none⟩ (.string d.f2)).setCell ⟨gc, 1, none⟩ (.int .i64 k)).heap[gc]? = some (.cells #[.int .i64 d.f0, .int .i64 k, .string d.f2] 37 (0, 0))) := ⟨(blk_set BC4.out 1 (.int .i64 k)).trans rfl⟩
  have BR5 : Aside0 (((((w3.setCell ⟨gc, 0, none⟩ (.int .i64 d.f0)).setCell ⟨gc, 1, none⟩ (.int .i64 d.f1)).setCell ⟨gc, 2, none⟩ (.string d.f2)).setCell ⟨gc, 1, none⟩ (.int .i64 k)).heap[gr]? = _) := ⟨(Below.heap_setCell _ _ _ _ NE.out).trans BR4.out⟩
  have HX5 : Aside0 (((((w3.setCell ⟨gc, 0, none⟩ (.int .i64 d.f0)).setCell ⟨gc, 1, none⟩ (.int .i64 d.f1)).setCell ⟨gc, 2, none⟩ (.string d.f2)).setCell ⟨gc, 1, none⟩ (.int .i64 k)).heap[g]? = _) := ⟨(Below.heap_setCell _ _ _ _ NG).trans HX4.out⟩
  have HB5 : Aside0 (Below w.heap.size w ((((w3.setCell ⟨gc, 0, none⟩ (.int .i64 d.f0)).setCell ⟨gc, 1, none⟩ (.int .i64 d.f1)).setCell ⟨gc, 2, none⟩ (.string d.f2)).setCell ⟨gc, 1, none⟩ (.int .i64 k))) := ⟨(HB4.out.setCell (p := ⟨gc, 1, none⟩) GC.out (.int .i64 k))⟩
  generalize ((((w3.setCell ⟨gc, 0, none⟩ (.int .i64 d.f0)).setCell ⟨gc, 1, none⟩ (.int .i64 d.f1)).setCell ⟨gc, 2, none⟩ (.string d.f2)).setCell ⟨gc, 1, none⟩ (.int .i64 k)) = w5 at BC5 BR5 HX5 HB5 ⊢
  clear BC4 BR4 HX4 HB4 HB BC BR HX z0 z1 z2 z3 z4 z5
  obtain ⟨z0, z1, z2, z3, z4, z5⟩ := Rd.three BC5.out
  obtain ⟨x0, x1, f0, f1, y0, y1, y2⟩ := Rd.facts HN.out (below_step HB0.out HB5.out) HX5.out HK.out
  go_upto_region 6 with (fail)
  have BC6 : Aside0 ((w5.setCell ⟨g, 1, none⟩ (.int .i64 (part + k))).heap[gc]? = _) := ⟨(Below.heap_setCell _ _ _ _ (Ne.symm NG)).trans BC5.out⟩
  have BR6 : Aside0 ((w5.setCell ⟨g, 1, none⟩ (.int .i64 (part + k))).heap[gr]? = _) := ⟨(Below.heap_setCell _ _ _ _ (Ne.symm NR)).trans BR5.out⟩
  have HX6 : Aside0 ((w5.setCell ⟨g, 1, none⟩ (.int .i64 (part + k))).heap[g]? = some (.cells #[.slice (some ad) n c, .int .i64 (part + k)] 111 (0, 0))) := ⟨(blk_set HX5.out 1 (.int .i64 (part + k))).trans rfl⟩
  have HB6 : Aside0 (Below w0.heap.size w0 (w5.setCell ⟨g, 1, none⟩ (.int .i64 (part + k)))) := ⟨(below_step HB0.out HB5.out).setCell hg _⟩
  have HQ6 : Aside0 (Kept w (w5.setCell ⟨g, 1, none⟩ (.int .i64 (part + k))) (fun k_ => k_ = g)) := ⟨(Kept.of_below HB5.out (fun k_ => k_ = g)).setCell (p := ⟨g, 1, none⟩) (.inl rfl) _⟩
  generalize (w5.setCell ⟨g, 1, none⟩ (.int .i64 (part + k))) = w6 at BC6 BR6 HX6 HB6 HQ6 ⊢
  clear BC5 BR5 HX5 HB5 z0 z1 z2 z3 z4 z5 x0 x1 f0 f1 y0 y1 y2
  obtain ⟨x0, x1, f0, f1, y0, y1, y2⟩ := Rd.facts HN.out HB6.out HX6.out HK.out
  go_region_held3 (fun w' => w'.cell? ⟨g, 0, none⟩ = some (.slice (some ad) n c) ∧ w'.cell? ⟨g, 1, none⟩ = some (.int .i64 (part + k)) ∧ w'.cell? ad = some (.int .i64 d.f0) ∧ w'.cell? ⟨ad.block, ad.off + 1, none⟩ = some (.int .i64 d.f1) ∧ w'.cell? ⟨ad.block, ad.off + 2, none⟩ = some (.string d.f2)) (first | (go_keep; done) | ((try dsimp only at *); go_split_ands; exact ⟨pw_cell_below hb (by assumption), pw_cell_below hb (by assumption), pw_cell_below hb (by assumption), pw_cell_below hb (by assumption), pw_cell_below hb (by assumption)⟩)) (first | (go_at_call 65; refine (comp_Size.calls _ _ _ s _ hs).mono ?_; rintro e w7 ⟨rfl, hb⟩))
  have hb7 : Below w6.heap.size w6 w7 := below_step (Below.refl w6.heap.size w6).drew hb
  have BC7 := Aside0.mk ((hb7.block gc (blk_lt BC6.out)).trans BC6.out)
  have BR7 := Aside0.mk ((hb7.block gr (blk_lt BR6.out)).trans BR6.out)
  have HX7 := Aside0.mk ((hb7.block g (blk_lt HX6.out)).trans HX6.out)
  have HB7 := Aside0.mk (below_step HB6.out hb7)
  have HQ7 := Aside0.mk (HQ6.out.below hb7)
  clear BC6 BR6 HX6 HB6 HQ6 x0 x1 f0 f1 y0 y1 y2 hb hb7
  obtain ⟨z0, z1, z2, z3, z4, z5⟩ := Rd.three BC7.out
  obtain ⟨x0, x1, f0, f1, y0, y1, y2⟩ := Rd.facts HN.out HB7.out HX7.out HK.out
  obtain ⟨v0, v1, v2, v3, v4, v5⟩ := Rd.three BR7.out
  go_wp2
  have GW : w0.heap.size ≤ gr := Nat.le_trans HB0.out.size GR.out
  refine bodyPost_ret (results_cell_row rfl _ _ gr 37 #[.int .i64 d.f0, .int .i64 k, .string d.f2] (0, 0) _ rfl (Rd.set3 BR7.out) Try.underlying37 rfl (by kernel_rfl)) rfl ?_
  refine ⟨rfl, ⟨some ad, c, ?_, hg, HK.out, hl⟩, ((HB7.out.setCell GW _).setCell GW _).setCell GW _, ((HQ7.out.setCell (.inr GR.out) _).setCell (.inr GR.out) _).setCell (.inr GR.out) _⟩
  · rw [← HN.out]; exact Rd.far3 HX7.out NR
theorem IsRd.below {w0 W W1 : World} {g : Nat} {r : List (S37)} {p : Int} (h : IsRd w0 W g r p) (hb : Below W.heap.size W W1) : IsRd w0 W1 g r p := by
  obtain ⟨A, c, h1, h2⟩ := h
  exact ⟨A, c, (hb.block g (blk_lt h1)).trans h1, h2⟩
theorem IsRd.kept {w0 W W1 : World} {g : Nat} {r : List (S37)} {p : Int} {S : Nat → Prop} (h : IsRd w0 W g r p) (hk : Kept W W1 S) (hne : ¬ S g) : IsRd w0 W1 g r p := by
  obtain ⟨A, c, h1, h2⟩ := h
  exact ⟨A, c, blk_kept h1 hk hne, h2⟩
theorem IsRd.far {w0 W : World} {g : Nat} {r : List (S37)} {p : Int} (h : IsRd w0 W g r p) {a : Addr} (hne : g ≠ a.block) (u : Value) : IsRd w0 (W.setCell a u) g r p := by
  obtain ⟨A, c, h1, h2⟩ := h
  exact ⟨A, c, (Below.heap_setCell _ _ _ _ hne).trans h1, h2⟩
theorem IsRd.lt {w0 W : World} {g : Nat} {r : List (S37)} {p : Int} (h : IsRd w0 W g r p) : g < W.heap.size := by
  obtain ⟨A, c, h1, h2⟩ := h
  exact blk_lt h1
theorem IsRd.ge {w0 W : World} {g : Nat} {r : List (S37)} {p : Int} (h : IsRd w0 W g r p) : w0.heap.size ≤ g := by
  obtain ⟨A, c, h1, h2, _⟩ := h
  exact h2
/-- Next and Take, as plain functions of the reader's state. -/
def Rd.kd : List (S37) → Int
  | [] => -1
  | c :: _ => c.f0
def Rd.sz : List (S37) → Int → Option Int
  | [], _ => some 0
  | c :: _, part => (comp_Size.f c.f0 c.f1 c.f2).bind fun s => some (wrap64 (s - part))
def Rd.take : List (S37) → Int → Int → Option (S37 × List (S37) × Int)
  | [], _, _ => none
  | c :: r, part, k => (comp_Size.f c.f0 c.f1 c.f2).bind fun s =>
    if 0 ≤ part ∧ 0 ≤ k ∧ part + k ≤ 4096 ∧ (c.f0 = 1 → part + k ≤ (c.f2.size : Int) ∧ c.f2.size ≤ 4096) then
      some ((if c.f0 = 1 then ⟨c.f0, c.f1, c.f2.extract part.toNat (part + k).toNat⟩ else ⟨c.f0, k, c.f2⟩), if part + k = s then (r, 0) else (c :: r, part + k))
    else none
theorem Rd.next_any (g : Nat) (rest : List (S37)) (part j : Int) (w0 w : World) (hB : Below w0.heap.size w0 w) (h : IsRd w0 w g rest part) (hj : Rd.sz rest part = some j) :
    Calls Try.prog 43 #[.pointer (some ⟨g, 0, none⟩)] w fun e w' => e = .returned (.tuple #[.int .i64 (Rd.kd rest), .int .i64 j]) ∧ Below w.heap.size w w' := by
  cases rest with
  | nil =>
    refine (Rd.next_nil g part w0 w h).mono ?_
    rintro e w' ⟨rfl, rfl⟩
    obtain rfl := Option.some.inj hj
    exact ⟨rfl, Below.refl _ _⟩
  | cons c r =>
    unfold Rd.sz at hj
    obtain ⟨s, hs, hj⟩ := Option.bind_eq_some_iff.mp hj
    obtain rfl := Option.some.inj hj
    exact Rd.next_cons g part c r s w0 w hB h hs
theorem Rd.take_any (g : Nat) (rest : List (S37)) (part k : Int) (x : S37) (rest' : List (S37)) (part' : Int) (w0 w : World) (hB : Below w0.heap.size w0 w) (h : IsRd w0 w g rest part) (hj : Rd.take rest part k = some (x, rest', part')) :
    Calls Try.prog 46 #[.pointer (some ⟨g, 0, none⟩), .int .i64 k] w fun e w' => e = .returned (.agg #[.int .i64 x.f0, .int .i64 x.f1, .string x.f2]) ∧ IsRd w0 w' g rest' part' ∧ Below w0.heap.size w0 w' ∧ Kept w w' (fun k_ => k_ = g) := by
  cases rest with
  | nil => cases hj
  | cons c r =>
    unfold Rd.take at hj
    obtain ⟨s, hs, hj⟩ := Option.bind_eq_some_iff.mp hj
    by_cases hc : 0 ≤ part ∧ 0 ≤ k ∧ part + k ≤ 4096 ∧ (c.f0 = 1 → part + k ≤ (c.f2.size : Int) ∧ c.f2.size ≤ 4096)
    · rw [if_pos hc] at hj
      obtain ⟨h0, h1, h2, h3⟩ := hc
      by_cases e1 : c.f0 = 1
      · obtain ⟨h4, h5⟩ := h3 e1
        rw [if_pos e1] at hj
        by_cases e2 : part + k = s
        · rw [if_pos e2] at hj
          simp only [Option.some.injEq, Prod.mk.injEq] at hj
          obtain ⟨rfl, rfl, rfl⟩ := hj
          exact Rd.take_put g part k c r s w0 w hB h hs e1 h0 h1 h4 h5 e2
        · rw [if_neg e2] at hj
          simp only [Option.some.injEq, Prod.mk.injEq] at hj
          obtain ⟨rfl, rfl, rfl⟩ := hj
          exact Rd.take_put_part g part k c r s w0 w hB h hs e1 h0 h1 h4 h5 e2
      · rw [if_neg e1] at hj
        by_cases e2 : part + k = s
        · rw [if_pos e2] at hj
          simp only [Option.some.injEq, Prod.mk.injEq] at hj
          obtain ⟨rfl, rfl, rfl⟩ := hj
          exact Rd.take_num g part k c r s w0 w hB h hs e1 h0 h1 h2 e2
        · rw [if_neg e2] at hj
          simp only [Option.some.injEq, Prod.mk.injEq] at hj
          obtain ⟨rfl, rfl, rfl⟩ := hj
          exact Rd.take_num_part g part k c r s w0 w hB h hs e1 h0 h1 h2 e2
    · rw [if_neg hc] at hj
      cases hj
theorem Rd.read_any (A0 : Option Addr) (c0 : Nat) (l0 : List (S37)) (w0 w : World) (hB : Below w0.heap.size w0 w) (hr0 : Kd.C k37 w0 A0 l0.length l0) (hc0 : l0.length ≤ c0) :
    Calls Try.prog 42 #[.slice A0 l0.length c0] w fun e w' => ∃ g_ : Nat, e = .returned (.pointer (some ⟨g_, 0, none⟩)) ∧ IsRd w0 w' g_ l0 0 ∧ g_ = w.heap.size ∧ Below w.heap.size w w' := by
  have HR0 := Aside0.mk hr0
  have HC0 := Aside0.mk hc0
  have HB := Aside0.mk hB
  clear hr0 hc0 hB
  go_enter Try.func42, Try.ntmps42
  go_wp2_with (first | ((with_reducible refine gate_dst (N := 5) rfl ?_); refine box_event ?hg (N := 5) ?hd (cs := #[.slice A0 l0.length c0, .int .i64 0]) (t := 111) ?hr ?_; (case hd => rfl); (case hg => rfl); (case hr => first | (go_simp; done) | (go_simp; rfl)); intro gb hg w2 hbox hb; have n0_ := Aside0.mk hbox; have n1_ := Aside0.mk hb; have n2_ := Aside0.mk hg; clear hbox hb hg))
  go_ret
  exact ⟨_, rfl, ⟨_, _, n0_.out, by rw [n2_.out]; exact HB.out.size, HR0.out, HC0.out⟩, n2_.out, n1_.out⟩
end Go.Proofs.Ytldaokclpkcmmab.G
