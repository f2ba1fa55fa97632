/- The reference's reader: peek, take by contracts over its three cells. -/
import Derived.Test.YtldaokclpkcmmabRd
import Derived.Test.YtldaokclpkcmmabGZ1
namespace Go.Proofs.Ytldaokclpkcmmab.G
open Go.RowKit Go.Proofs.YtldaokclpkcmmabW.PrintWords Go.Proofs.YtldaokclpkcmmabW.PrintLast Go.Proofs.YtldaokclpkcmmabW.PrintMore
set_option linter.unusedVariables false
set_option linter.unusedSimpArgs false
/-- The reference's reader at block g of W. -/
def IsRr (w0 W : World) (g : Nat) (cs : List (S37)) (i p : Int) : Prop :=
  ∃ A c, W.heap[g]? = some (.cells #[.slice A cs.length c, .int .i64 i, .int .i64 p] 89 (0, 0)) ∧ w0.heap.size ≤ g ∧ Kd.C k37 w0 A cs.length cs
theorem Rr.cells {w0 W : World} (hB : Below w0.heap.size w0 W) {A : Option Addr} {cs : List (S37)} (h : Kd.C k37 w0 A cs.length cs) (i : Int) (h0 : 0 ≤ i) (h1 : i < (cs.length : Int)) :
    ∃ ad, A = some ad ∧ W.cell? (ad.add (i.toNat * 3)) = some (.int .i64 (rd_T37 cs i).f0) ∧ W.cell? ⟨(ad.add (i.toNat * 3)).block, (ad.add (i.toNat * 3)).off + 1, none⟩ = some (.int .i64 (rd_T37 cs i).f1) ∧ W.cell? ⟨(ad.add (i.toNat * 3)).block, (ad.add (i.toNat * 3)).off + 2, none⟩ = some (.string (rd_T37 cs i).f2) := by
  obtain ⟨ad, e, x0, x1, x2⟩ := at_T37 h i h0 h1
  exact ⟨ad, e, (hB.cell (World.block_lt_of_cell? _ _ x0)).trans x0, (hB.cell (World.block_lt_of_cell? _ _ x1)).trans x1, (hB.cell (World.block_lt_of_cell? _ _ x2)).trans x2⟩
set_option maxHeartbeats 4000000 in
theorem Rr.peek_end (g : Nat) (cs : List (S37)) (i p : Int) (w0 w : World) (hB : Below w0.heap.size w0 w) (h : IsRr w0 w g cs i p) (hi : (cs.length : Int) ≤ i) :
    Calls Try.prog 48 #[.pointer (some ⟨g, 0, none⟩)] w fun e w' => e = .returned (.tuple #[.agg #[.int .i64 0, .int .i64 0, .string (⟨#[]⟩ : ByteArray)], .bool false]) ∧ Below w.heap.size w w' := by
  obtain ⟨A, c, hb, hg, hK⟩ := h
  have HL := Aside0.mk (blk_lt hb)
  have HX := Aside0.mk hb
  have HB := Aside0.mk (Below.refl w.heap.size w)
  have d1 : decide ((cs.length : Int) ≤ i) = true := decide_eq_true hi
  have q1 := eq_true hi
  generalize cs.length = n at *
  clear hb hK hB
  go_enter Try.func48, Try.ntmps48
  go_wp2_with (first | ((with_reducible refine gate_dst (N := 2) rfl ?_); refine box_event ?hg (N := 2) ?hd (cs := #[.int .i64 0, .int .i64 0, .string (⟨#[]⟩ : ByteArray)]) (t := 37) ?hr ?_; (case hd => rfl); (case hg => rfl); (case hr => first | (go_simp; done) | (go_simp; rfl)); intro gr hgr w2 hbox hb; have n0_ := Aside0.mk (below_step HB.out hb); have n1_ := Aside0.mk hbox; have n2_ := Aside0.mk ((hb.block g HL.out).trans HX.out); have n3_ := Aside0.mk ((by rw [hgr]; exact Nat.le_refl _) : w.heap.size ≤ gr); clear HB HX; have HB := n0_; have BR := n1_; have HX := n2_; have GR := n3_; obtain ⟨x0, x1, x2, -, -, -⟩ := Rd.three HX.out; obtain ⟨v0, v1, v2, v3, v4, v5⟩ := Rd.three BR.out; clear n0_ n1_ n2_ n3_ hb hbox hgr))
  go_region
  go_wp2
  refine bodyPost_ret (results_ct rfl _ _ gr 37 #[.int .i64 0, .int .i64 0, .string (⟨#[]⟩ : ByteArray)] (0, 0) _ rfl (Rd.set3 BR.out) Try.underlying37 rfl (by kernel_rfl)) rfl ?_
  exact ⟨rfl, ((HB.out.drew.setCell GR.out _).setCell GR.out _).setCell GR.out _⟩
theorem Rr.facts {w0 W : World} {g : Nat} {A : Addr} {n c : Nat} {i p : Int} {x : S37} {cs : List (S37)} (hn : n = cs.length) (hB : Below w0.heap.size w0 W) (hb : W.heap[g]? = some (.cells #[.slice (some A) n c, .int .i64 i, .int .i64 p] 89 (0, 0))) (hK : Kd.C k37 w0 (some A) cs.length cs) (hi0 : 0 ≤ i) (hi : i < (cs.length : Int)) (hx : rd_T37 cs i = x) :
    (W.cell? ⟨g, 0, none⟩ = some (.slice (some A) n c) ∧ W.cell? ⟨g, 1, none⟩ = some (.int .i64 i) ∧ W.cell? ⟨g, 2, none⟩ = some (.int .i64 p) ∧ W.frozen? ⟨g, 0, none⟩ = false ∧ W.frozen? ⟨g, 1, none⟩ = false ∧ W.frozen? ⟨g, 2, none⟩ = false) ∧ W.cell? (A.add (i.toNat * 3)) = some (.int .i64 x.f0) ∧ W.cell? ⟨(A.add (i.toNat * 3)).block, (A.add (i.toNat * 3)).off + 1, none⟩ = some (.int .i64 x.f1) ∧ W.cell? ⟨(A.add (i.toNat * 3)).block, (A.add (i.toNat * 3)).off + 2, none⟩ = some (.string x.f2) := by
  obtain ⟨ad, e, y0, y1, y2⟩ := Rr.cells hB hK i hi0 hi
  cases e
  subst hx
  exact ⟨Rd.three hb, y0, y1, y2⟩
set_option maxHeartbeats 4000000 in
theorem Rr.peek_put (g : Nat) (cs : List (S37)) (i p : Int) (x : S37) (w0 w : World) (hB : Below w0.heap.size w0 w) (h : IsRr w0 w g cs i p) (hi0 : 0 ≤ i) (hi : i < (cs.length : Int)) (hx : rd_T37 cs i = x) (hk : x.f0 = 1) (hp0 : 0 ≤ p) (hp1 : p ≤ (x.f2.size : Int)) :
    Calls Try.prog 48 #[.pointer (some ⟨g, 0, none⟩)] w fun e w' => e = .returned (.tuple #[.agg #[.int .i64 x.f0, .int .i64 x.f1, .string (x.f2.extract p.toNat x.f2.size)], .bool true]) ∧ Below w.heap.size w w' := by
  obtain ⟨A, c, hb, hg, hK⟩ := h
  have HL := Aside0.mk (blk_lt hb)
  have HB := Aside0.mk (Below.refl w.heap.size w)
  have HB0 := Aside0.mk hB
  obtain ⟨ad, rfl, -⟩ := Rr.cells hB hK i hi0 hi
  have HI := Aside0.mk (And.intro hi0 hi)
  have HX1 := Aside0.mk hx
  obtain ⟨n, hn⟩ : ∃ n, n = cs.length := ⟨_, rfl⟩
  rw [← hn] at hb hi
  have HX := Aside0.mk hb
  have HN := Aside0.mk hn
  have HK := Aside0.mk hK
  have d1 : decide ((n : Int) ≤ i) = false := decide_eq_false (by omega)
  have d2 := eq_true hi0
  have d3 := eq_true hi
  have d4 : decide (0 ≤ i) = true := decide_eq_true hi0
  have d5 : decide (i < (n : Int)) = true := decide_eq_true hi
  have d6 : (x.f0 == 1) = true := beq_iff_eq.mpr hk
  have d7 := eq_true hp0
  have d8 := eq_true hp1
  clear hb hK hB hx hk hi0 hi hp0 hp1 hn
  go_enter Try.func48, Try.ntmps48
  go_wp2_with (first | ((with_reducible refine gate_dst (N := 2) rfl ?_); refine box_event ?hg (N := 2) ?hd (cs := #[.int .i64 0, .int .i64 0, .string (⟨#[]⟩ : ByteArray)]) (t := 37) ?hr ?_; (case hd => rfl); (case hg => rfl); (case hr => first | (go_simp; done) | (go_simp; rfl)); intro gr hgr w2 hbox hb; have n0_ := Aside0.mk (below_step HB.out hb); have n1_ := Aside0.mk hbox; have n2_ := Aside0.mk ((hb.block g HL.out).trans HX.out); have n3_ := Aside0.mk ((by rw [hgr]; exact Nat.le_refl _) : w.heap.size ≤ gr); clear HB HX; have HB := n0_; have BR := n1_; have HX := n2_; have GR := n3_; obtain ⟨⟨x0, x1, x2, -, -, -⟩, y0, y1, y2⟩ := Rr.facts HN.out (below_step HB0.out HB.out) HX.out HK.out HI.out.1 HI.out.2 HX1.out; clear n0_ n1_ n2_ n3_ hb hbox hgr))
  go_region
  have HB3 : Aside0 (Below w.heap.size w w2.drew) := ⟨HB.out.drew⟩
  have HX3 : Aside0 (w2.drew.heap[g]? = _) := HX
  have BR3 : Aside0 (w2.drew.heap[gr]? = _) := BR
  generalize w2.drew = w3 at HB3 HX3 BR3 ⊢
  clear HB HX BR x0 x1 x2 y0 y1 y2
  obtain ⟨⟨x0, x1, x2, -, -, -⟩, y0, y1, y2⟩ := Rr.facts HN.out (below_step HB0.out HB3.out) HX3.out HK.out HI.out.1 HI.out.2 HX1.out
  go_upto_region 3 with (fail)
  have ne0 := World.new_ne w3 _ x0
  have ne1 := World.new_ne w3 _ x1
  have ne2 := World.new_ne w3 _ y0
  have ne3 := World.new_ne w3 _ y1
  have ne4 := World.new_ne w3 _ y2
  go_region_held3 (fun w' => w'.cell? ⟨g, 0, none⟩ = some (.slice (some ad) n c) ∧ w'.cell? ⟨g, 1, none⟩ = some (.int .i64 i) ∧ w'.cell? (ad.add (i.toNat * 3)) = some (.int .i64 x.f0) ∧ w'.cell? ⟨(ad.add (i.toNat * 3)).block, (ad.add (i.toNat * 3)).off + 1, none⟩ = some (.int .i64 x.f1) ∧ w'.cell? ⟨(ad.add (i.toNat * 3)).block, (ad.add (i.toNat * 3)).off + 2, none⟩ = some (.string x.f2)) (go_keep) (first | fail)
  have BC4 : Aside0 ((w3.alloc (Obj.cells #[Value.int IntKind.i64 x.f0, Value.int IntKind.i64 x.f1, Value.string x.f2] 37)).drew.heap[w3.heap.size]? = some (.cells #[.int .i64 x.f0, .int .i64 x.f1, .string x.f2] 37 (0, 0))) := ⟨blk_new w3 _⟩
  have hb4 : Below w3.heap.size w3 (w3.alloc (Obj.cells #[Value.int IntKind.i64 x.f0, Value.int IntKind.i64 x.f1, Value.string x.f2] 37)).drew := (below_alloc (Below.refl _ _) _).drew
  have HX4 : Aside0 ((w3.alloc (Obj.cells #[Value.int IntKind.i64 x.f0, Value.int IntKind.i64 x.f1, Value.string x.f2] 37)).drew.heap[g]? = _) := ⟨(hb4.block g (blk_lt HX3.out)).trans HX3.out⟩
  have BR4 : Aside0 ((w3.alloc (Obj.cells #[Value.int IntKind.i64 x.f0, Value.int IntKind.i64 x.f1, Value.string x.f2] 37)).drew.heap[gr]? = _) := ⟨(hb4.block gr (blk_lt BR3.out)).trans BR3.out⟩
  have HB4 : Aside0 (Below w.heap.size w (w3.alloc (Obj.cells #[Value.int IntKind.i64 x.f0, Value.int IntKind.i64 x.f1, Value.string x.f2] 37)).drew) := ⟨below_step HB3.out hb4⟩
  have GC : Aside0 (w.heap.size ≤ w3.heap.size) := ⟨HB3.out.size⟩
  have NR : gr ≠ w3.heap.size := Nat.ne_of_lt (blk_lt BR3.out)
  have NG : g ≠ w3.heap.size := Nat.ne_of_lt (blk_lt HX3.out)
  clear hb4 ne0 ne1 ne2 ne3 ne4 x0 x1 x2 y0 y1 y2 HX3 BR3 HB3
  rename_i hHeld_
  clear hHeld_
  generalize (w3.alloc (Obj.cells #[Value.int IntKind.i64 x.f0, Value.int IntKind.i64 x.f1, Value.string x.f2] 37)).drew = w4 at BC4 HX4 BR4 HB4 ⊢
  generalize w3.heap.size = gc at BC4 GC NR NG ⊢
  obtain ⟨z0, z1, z2, z3, z4, z5⟩ := Rd.three BC4.out
  obtain ⟨x0, x1, x2, -, -, -⟩ := Rd.three HX4.out
  go_upto_region 5 with (fail)
  go_region
  have BC5 : Aside0 (((w4.setCell ⟨gc, 2, none⟩ (.string (x.f2.extract p.toNat x.f2.size))).drew).heap[gc]? = some (.cells #[.int .i64 x.f0, .int .i64 x.f1, .string (x.f2.extract p.toNat x.f2.size)] 37 (0, 0))) := ⟨(blk_set BC4.out 2 (.string (x.f2.extract p.toNat x.f2.size))).trans rfl⟩
  have BR5 : Aside0 (((w4.setCell ⟨gc, 2, none⟩ (.string (x.f2.extract p.toNat x.f2.size))).drew).heap[gr]? = _) := ⟨(Below.heap_setCell _ _ _ _ NR).trans BR4.out⟩
  have HB5 : Aside0 (Below w.heap.size w ((w4.setCell ⟨gc, 2, none⟩ (.string (x.f2.extract p.toNat x.f2.size))).drew)) := ⟨(HB4.out.setCell (p := ⟨gc, 2, none⟩) GC.out (.string (x.f2.extract p.toNat x.f2.size))).drew⟩
  generalize ((w4.setCell ⟨gc, 2, none⟩ (.string (x.f2.extract p.toNat x.f2.size))).drew) = w5 at BC5 BR5 HB5 ⊢
  clear BC4 BR4 HX4 HB4 z0 z1 z2 z3 z4 z5 x0 x1 x2
  obtain ⟨z0, z1, z2, z3, z4, z5⟩ := Rd.three BC5.out
  obtain ⟨v0, v1, v2, v3, v4, v5⟩ := Rd.three BR5.out
  go_wp2
  refine bodyPost_ret (results_ct rfl _ _ gr 37 #[.int .i64 x.f0, .int .i64 x.f1, .string (x.f2.extract p.toNat x.f2.size)] (0, 0) _ rfl (Rd.set3 BR5.out) Try.underlying37 rfl (by kernel_rfl)) rfl ?_
  exact ⟨rfl, ((HB5.out.setCell GR.out _).setCell GR.out _).setCell GR.out _⟩
set_option maxHeartbeats 4000000 in
theorem Rr.peek_num (g : Nat) (cs : List (S37)) (i p : Int) (x : S37) (w0 w : World) (hB : Below w0.heap.size w0 w) (h : IsRr w0 w g cs i p) (hi0 : 0 ≤ i) (hi : i < (cs.length : Int)) (hx : rd_T37 cs i = x) (hk : x.f0 ≠ 1) :
    Calls Try.prog 48 #[.pointer (some ⟨g, 0, none⟩)] w fun e w' => e = .returned (.tuple #[.agg #[.int .i64 x.f0, .int .i64 (wrap64 (x.f1 - p)), .string x.f2], .bool true]) ∧ Below w.heap.size w w' := by
  obtain ⟨A, c, hb, hg, hK⟩ := h
  have HL := Aside0.mk (blk_lt hb)
  have HB := Aside0.mk (Below.refl w.heap.size w)
  have HB0 := Aside0.mk hB
  obtain ⟨ad, rfl, -⟩ := Rr.cells hB hK i hi0 hi
  have HI := Aside0.mk (And.intro hi0 hi)
  have HX1 := Aside0.mk hx
  obtain ⟨n, hn⟩ : ∃ n, n = cs.length := ⟨_, rfl⟩
  rw [← hn] at hb hi
  have HX := Aside0.mk hb
  have HN := Aside0.mk hn
  have HK := Aside0.mk hK
  have d1 : decide ((n : Int) ≤ i) = false := decide_eq_false (by omega)
  have d2 := eq_true hi0
  have d3 := eq_true hi
  have d4 : decide (0 ≤ i) = true := decide_eq_true hi0
  have d5 : decide (i < (n : Int)) = true := decide_eq_true hi
  have d6 : (x.f0 == 1) = false := beq_eq_false_iff_ne.mpr hk
  have d7 : IntKind.i64.wrap (x.f1 - p) = wrap64 (x.f1 - p) := i64_w _
  clear hb hK hB hx hk hi0 hi hn
  go_enter Try.func48, Try.ntmps48
  go_wp2_with (first | ((with_reducible refine gate_dst (N := 2) rfl ?_); refine box_event ?hg (N := 2) ?hd (cs := #[.int .i64 0, .int .i64 0, .string (⟨#[]⟩ : ByteArray)]) (t := 37) ?hr ?_; (case hd => rfl); (case hg => rfl); (case hr => first | (go_simp; done) | (go_simp; rfl)); intro gr hgr w2 hbox hb; have n0_ := Aside0.mk (below_step HB.out hb); have n1_ := Aside0.mk hbox; have n2_ := Aside0.mk ((hb.block g HL.out).trans HX.out); have n3_ := Aside0.mk ((by rw [hgr]; exact Nat.le_refl _) : w.heap.size ≤ gr); clear HB HX; have HB := n0_; have BR := n1_; have HX := n2_; have GR := n3_; obtain ⟨⟨x0, x1, x2, -, -, -⟩, y0, y1, y2⟩ := Rr.facts HN.out (below_step HB0.out HB.out) HX.out HK.out HI.out.1 HI.out.2 HX1.out; clear n0_ n1_ n2_ n3_ hb hbox hgr))
  go_region
  have HB3 : Aside0 (Below w.heap.size w w2.drew) := ⟨HB.out.drew⟩
  have HX3 : Aside0 (w2.drew.heap[g]? = _) := HX
  have BR3 : Aside0 (w2.drew.heap[gr]? = _) := BR
  generalize w2.drew = w3 at HB3 HX3 BR3 ⊢
  clear HB HX BR x0 x1 x2 y0 y1 y2
  obtain ⟨⟨x0, x1, x2, -, -, -⟩, y0, y1, y2⟩ := Rr.facts HN.out (below_step HB0.out HB3.out) HX3.out HK.out HI.out.1 HI.out.2 HX1.out
  go_upto_region 3 with (fail)
  have ne0 := World.new_ne w3 _ x0
  have ne1 := World.new_ne w3 _ x1
  have ne2 := World.new_ne w3 _ y0
  have ne3 := World.new_ne w3 _ y1
  have ne4 := World.new_ne w3 _ y2
  go_region_held3 (fun w' => w'.cell? ⟨g, 0, none⟩ = some (.slice (some ad) n c) ∧ w'.cell? ⟨g, 1, none⟩ = some (.int .i64 i) ∧ w'.cell? (ad.add (i.toNat * 3)) = some (.int .i64 x.f0) ∧ w'.cell? ⟨(ad.add (i.toNat * 3)).block, (ad.add (i.toNat * 3)).off + 1, none⟩ = some (.int .i64 x.f1) ∧ w'.cell? ⟨(ad.add (i.toNat * 3)).block, (ad.add (i.toNat * 3)).off + 2, none⟩ = some (.string x.f2)) (go_keep) (first | fail)
  have BC4 : Aside0 ((w3.alloc (Obj.cells #[Value.int IntKind.i64 x.f0, Value.int IntKind.i64 x.f1, Value.string x.f2] 37)).drew.heap[w3.heap.size]? = some (.cells #[.int .i64 x.f0, .int .i64 x.f1, .string x.f2] 37 (0, 0))) := ⟨blk_new w3 _⟩
  have hb4 : Below w3.heap.size w3 (w3.alloc (Obj.cells #[Value.int IntKind.i64 x.f0, Value.int IntKind.i64 x.f1, Value.string x.f2] 37)).drew := (below_alloc (Below.refl _ _) _).drew
  have HX4 : Aside0 ((w3.alloc (Obj.cells #[Value.int IntKind.i64 x.f0, Value.int IntKind.i64 x.f1, Value.string x.f2] 37)).drew.heap[g]? = _) := ⟨(hb4.block g (blk_lt HX3.out)).trans HX3.out⟩
  have BR4 : Aside0 ((w3.alloc (Obj.cells #[Value.int IntKind.i64 x.f0, Value.int IntKind.i64 x.f1, Value.string x.f2] 37)).drew.heap[gr]? = _) := ⟨(hb4.block gr (blk_lt BR3.out)).trans BR3.out⟩
  have HB4 : Aside0 (Below w.heap.size w (w3.alloc (Obj.cells #[Value.int IntKind.i64 x.f0, Value.int IntKind.i64 x.f1, Value.string x.f2] 37)).drew) := ⟨below_step HB3.out hb4⟩
  have GC : Aside0 (w.heap.size ≤ w3.heap.size) := ⟨HB3.out.size⟩
  have NR : gr ≠ w3.heap.size := Nat.ne_of_lt (blk_lt BR3.out)
  have NG : g ≠ w3.heap.size := Nat.ne_of_lt (blk_lt HX3.out)
  clear hb4 ne0 ne1 ne2 ne3 ne4 x0 x1 x2 y0 y1 y2 HX3 BR3 HB3
  rename_i hHeld_
  clear hHeld_
  generalize (w3.alloc (Obj.cells #[Value.int IntKind.i64 x.f0, Value.int IntKind.i64 x.f1, Value.string x.f2] 37)).drew = w4 at BC4 HX4 BR4 HB4 ⊢
  generalize w3.heap.size = gc at BC4 GC NR NG ⊢
  obtain ⟨z0, z1, z2, z3, z4, z5⟩ := Rd.three BC4.out
  obtain ⟨x0, x1, x2, -, -, -⟩ := Rd.three HX4.out
  go_upto_region 6 with (fail)
  go_region
  have BC5 : Aside0 (((w4.setCell ⟨gc, 1, none⟩ (.int .i64 (wrap64 (x.f1 - p)))).drew).heap[gc]? = some (.cells #[.int .i64 x.f0, .int .i64 (wrap64 (x.f1 - p)), .string x.f2] 37 (0, 0))) := ⟨(blk_set BC4.out 1 (.int .i64 (wrap64 (x.f1 - p)))).trans rfl⟩
  have BR5 : Aside0 (((w4.setCell ⟨gc, 1, none⟩ (.int .i64 (wrap64 (x.f1 - p)))).drew).heap[gr]? = _) := ⟨(Below.heap_setCell _ _ _ _ NR).trans BR4.out⟩
  have HB5 : Aside0 (Below w.heap.size w ((w4.setCell ⟨gc, 1, none⟩ (.int .i64 (wrap64 (x.f1 - p)))).drew)) := ⟨(HB4.out.setCell (p := ⟨gc, 1, none⟩) GC.out (.int .i64 (wrap64 (x.f1 - p)))).drew⟩
  generalize ((w4.setCell ⟨gc, 1, none⟩ (.int .i64 (wrap64 (x.f1 - p)))).drew) = w5 at BC5 BR5 HB5 ⊢
  clear BC4 BR4 HX4 HB4 z0 z1 z2 z3 z4 z5 x0 x1 x2
  obtain ⟨z0, z1, z2, z3, z4, z5⟩ := Rd.three BC5.out
  obtain ⟨v0, v1, v2, v3, v4, v5⟩ := Rd.three BR5.out
  go_wp2
  refine bodyPost_ret (results_ct rfl _ _ gr 37 #[.int .i64 x.f0, .int .i64 (wrap64 (x.f1 - p)), .string x.f2] (0, 0) _ rfl (Rd.set3 BR5.out) Try.underlying37 rfl (by kernel_rfl)) rfl ?_
  exact ⟨rfl, ((HB5.out.setCell GR.out _).setCell GR.out _).setCell GR.out _⟩
def Rr.mini (x y : Int) : Int := if y < x then y else x
theorem Rr.min2_mini (k k' : IntKind) (x y : Int) : Builtin.min2 (.int k x) (.int k' y) = pure (.int k (Rr.mini x y)) := by rw [min2_int]; rfl
attribute [local go_sem] Rr.min2_mini
def Rr.peek (cs : List (S37)) (i p : Int) : Option (S37 × Bool) :=
  if (cs.length : Int) ≤ i then some (⟨0, 0, ⟨#[]⟩⟩, false)
  else if 0 ≤ i then (if (rd_T37 cs i).f0 = 1 then (if 0 ≤ p ∧ p ≤ ((rd_T37 cs i).f2.size : Int) then some (⟨(rd_T37 cs i).f0, (rd_T37 cs i).f1, (rd_T37 cs i).f2.extract p.toNat (rd_T37 cs i).f2.size⟩, true) else none)
    else some (⟨(rd_T37 cs i).f0, wrap64 ((rd_T37 cs i).f1 - p), (rd_T37 cs i).f2⟩, true)) else none
theorem Rr.peek_any (g : Nat) (cs : List (S37)) (i p : Int) (x : S37) (b : Bool) (w0 w : World) (hB : Below w0.heap.size w0 w) (h : IsRr w0 w g cs i p) (hj : Rr.peek cs i p = some (x, b)) :
    Calls Try.prog 48 #[.pointer (some ⟨g, 0, none⟩)] w fun e w' => e = .returned (.tuple #[.agg #[.int .i64 x.f0, .int .i64 x.f1, .string x.f2], .bool b]) ∧ Below w.heap.size w w' := by
  unfold Rr.peek at hj
  by_cases h1 : (cs.length : Int) ≤ i
  · rw [if_pos h1] at hj
    simp only [Option.some.injEq, Prod.mk.injEq] at hj
    obtain ⟨rfl, rfl⟩ := hj
    exact Rr.peek_end g cs i p w0 w hB h h1
  · rw [if_neg h1] at hj
    by_cases h2 : 0 ≤ i
    · rw [if_pos h2] at hj
      by_cases h3 : (rd_T37 cs i).f0 = 1
      · rw [if_pos h3] at hj
        by_cases h4 : 0 ≤ p ∧ p ≤ ((rd_T37 cs i).f2.size : Int)
        · rw [if_pos h4] at hj
          simp only [Option.some.injEq, Prod.mk.injEq] at hj
          obtain ⟨rfl, rfl⟩ := hj
          exact Rr.peek_put g cs i p _ w0 w hB h h2 (by omega) rfl h3 h4.1 h4.2
        · rw [if_neg h4] at hj; cases hj
      · rw [if_neg h3] at hj
        simp only [Option.some.injEq, Prod.mk.injEq] at hj
        obtain ⟨rfl, rfl⟩ := hj
        exact Rr.peek_num g cs i p _ w0 w hB h h2 (by omega) rfl h3
    · rw [if_neg h2] at hj; cases hj
theorem Rr.set1 {w : World} {g t : Nat} {a b c : Value} (h : w.heap[g]? = some (.cells #[a, b, c] t (0, 0))) (x : Value) : (w.setCell ⟨g, 2, none⟩ x).heap[g]? = some (.cells #[a, b, x] t (0, 0)) := (blk_set h 2 x).trans rfl
theorem Rr.setb {w : World} {g t : Nat} {a b c : Value} (h : w.heap[g]? = some (.cells #[a, b, c] t (0, 0))) (x : Value) : (w.setCell ⟨g, 1, none⟩ x).heap[g]? = some (.cells #[a, x, c] t (0, 0)) := (blk_set h 1 x).trans rfl
theorem Rr.shape {w0 w : World} {g : Nat} {cs : List (S37)} {i p : Int} (h : IsRr w0 w g cs i p) : w0.heap.size ≤ g ∧ g < w.heap.size := by
  obtain ⟨A, c, h1, h2, _⟩ := h
  exact ⟨h2, blk_lt h1⟩
theorem IsRr.below {w0 W W1 : World} {g : Nat} {r : List (S37)} {i p : Int} (h : IsRr w0 W g r i p) (hb : Below W.heap.size W W1) : IsRr w0 W1 g r i p := by
  obtain ⟨A, c, h1, h2⟩ := h
  exact ⟨A, c, (hb.block g (blk_lt h1)).trans h1, h2⟩
theorem IsRr.kept {w0 W W1 : World} {g : Nat} {r : List (S37)} {i p : Int} {S : Nat → Prop} (h : IsRr w0 W g r i p) (hk : Kept W W1 S) (hne : ¬ S g) : IsRr w0 W1 g r i p := by
  obtain ⟨A, c, h1, h2⟩ := h
  exact ⟨A, c, blk_kept h1 hk hne, h2⟩
theorem IsRr.far {w0 W : World} {g : Nat} {r : List (S37)} {i p : Int} (h : IsRr w0 W g r i p) {a : Addr} (hne : g ≠ a.block) (u : Value) : IsRr w0 (W.setCell a u) g r i p := by
  obtain ⟨A, c, h1, h2⟩ := h
  exact ⟨A, c, (Below.heap_setCell _ _ _ _ hne).trans h1, h2⟩
set_option maxHeartbeats 4000000 in
theorem Rr.take_put (g : Nat) (cs : List (S37)) (i p k m s s2 : Int) (x y : S37) (w0 w : World) (hB : Below w0.heap.size w0 w) (h : IsRr w0 w g cs i p) (hj : Rr.peek cs i p = some (x, true)) (hi0 : 0 ≤ i) (hi : i < (cs.length : Int)) (hy : rd_T37 cs i = y) (hs : minuetref1_size.f x.f0 x.f1 x.f2 = some s) (hs2 : minuetref1_size.f y.f0 y.f1 y.f2 = some s2) (hm : Rr.mini k s = m)
    (hk : x.f0 = 1) (h0 : 0 ≤ p) (h1 : 0 ≤ m) (h2 : p + m ≤ 1048576) (h3 : m ≤ (x.f2.size : Int)) (he : s2 ≤ p + m) :
    Calls Try.prog 50 #[.pointer (some ⟨g, 0, none⟩), .int .i64 k] w fun e w' => e = .returned (.agg #[.int .i64 x.f0, .int .i64 x.f1, .string (x.f2.extract 0 m.toNat)]) ∧ IsRr w0 w' g cs (i + 1) 0 ∧ Below w0.heap.size w0 w' ∧ Kept w w' (fun k_ => k_ = g) := by
  have HW := Aside0.mk (Below.refl w.heap.size w)
  have HB0 := Aside0.mk hB
  have HI := Aside0.mk h
  obtain ⟨A, c, hb, hg, hK⟩ := h
  have HL := Aside0.mk (blk_lt hb)
  obtain ⟨ad, rfl, -⟩ := Rr.cells hB hK i hi0 hi
  have HIB := Aside0.mk (And.intro hi0 hi)
  have HY := Aside0.mk hy
  obtain ⟨n, hn⟩ : ∃ n, n = cs.length := ⟨_, rfl⟩
  have hmax : cs.length ≤ 9223372036854775807 := hK.2.1
  rw [← hn] at hb hi
  have HX := Aside0.mk hb
  have HN := Aside0.mk hn
  have HK := Aside0.mk hK
  have HJ := Aside0.mk hj
  have HS := Aside0.mk hs
  have HS2 := Aside0.mk hs2
  have HM := Aside0.mk hm
  have HE := Aside0.mk he
  have d2 := eq_true hi0
  have d3 := eq_true hi
  have d4 : decide (0 ≤ i) = true := decide_eq_true hi0
  have d5 : decide (i < (n : Int)) = true := decide_eq_true hi
  have d6 : (x.f0 == 1) = true := beq_iff_eq.mpr hk
  have d7 : decide (s2 ≤ p + m) = true := decide_eq_true he
  have e0 : wrap64 (p + m) = p + m := by unfold wrap64; omega
  have e1 : IntKind.i64.wrap (p + m) = p + m := (i64_w _).trans e0
  have e2 : wrap64 (i + 1) = i + 1 := by unfold wrap64; omega
  have e3 : IntKind.i64.wrap (i + 1) = i + 1 := (i64_w _).trans e2
  have d8 := eq_true h1
  have d9 := eq_true h3
  have HP := Aside0.mk h0
  clear hb hK hB hk hi0 hi hy hn hj hs hs2 hm he h0 h2
  go_enter Try.func50, Try.ntmps50
  go_upto_region 2 with (first | ((with_reducible refine gate_dst (N := 4) rfl ?_); refine box_event ?hg (N := 4) ?hd (cs := #[.int .i64 0, .int .i64 0, .string (⟨#[]⟩ : ByteArray)]) (t := 37) ?hr ?_; (case hd => rfl); (case hg => rfl); (case hr => first | (go_simp; done) | (go_simp; rfl)); intro gr hgr w_ hbox hb; have BR := Aside0.mk hbox; have GR := Aside0.mk ((by rw [hgr]; exact Nat.le_refl _) : w.heap.size ≤ gr); have n0_ := Aside0.mk (below_step HW.out hb); have n1_ := Aside0.mk (HI.out.below hb); have n2_ := Aside0.mk ((hb.block g HL.out).trans HX.out); clear HW HI HX; have HW := n0_; have HI := n1_; have HX := n2_; clear n0_ n1_ n2_; clear hbox hb hgr) | ((with_reducible refine gate_callee (f := 48) rfl ?_); refine goesL_ (some 9) rfl rfl Try.func48 (by kernel_rfl) rfl #[.pointer (some ⟨g, 0, none⟩)] rfl (by (try simp only [List.map_toArray, List.map_cons, List.map_nil]); first | done | rfl) ?_; (with_reducible refine (Rr.peek_any g cs i p x true w0 _ (below_step HB0.out HW.out) HI.out HJ.out).mono ?_); rintro e w_ ⟨rfl, hb⟩; refine ⟨_, rfl, ?_⟩; have n0_ := Aside0.mk (below_step HW.out hb); have n1_ := Aside0.mk ((hb.block gr (blk_lt BR.out)).trans BR.out); have n2_ := Aside0.mk ((hb.block g (blk_lt HX.out)).trans HX.out); clear HW HI HX BR; have HW := n0_; have BR := n1_; have HX := n2_; clear n0_ n1_ n2_ hb) | ((with_reducible refine gate_dst (N := 5) rfl ?_); refine box_event ?hg (N := 5) ?hd (cs := #[.int .i64 0, .int .i64 0, .string (⟨#[]⟩ : ByteArray)]) (t := 37) ?hr ?_; (case hd => rfl); (case hg => rfl); (case hr => first | (go_simp; done) | (go_simp; rfl)); intro gc hgr w_ hbox hb; have BC := Aside0.mk hbox; have GC := Aside0.mk ((by rw [hgr]; exact HW.out.size) : w.heap.size ≤ gc); have nr := ((by rw [hgr]; exact Nat.ne_of_lt (blk_lt BR.out)) : gr ≠ gc); have ng := ((by rw [hgr]; exact Nat.ne_of_lt (blk_lt HX.out)) : g ≠ gc); have n0_ := Aside0.mk (below_step HW.out hb); have n1_ := Aside0.mk ((hb.block gr (blk_lt BR.out)).trans BR.out); have n2_ := Aside0.mk ((hb.block g (blk_lt HX.out)).trans HX.out); clear HW HX BR; have HW := n0_; have BR := n1_; have HX := n2_; clear n0_ n1_ n2_; obtain ⟨z0, z1, z2, z3, z4, z5⟩ := Rd.three BC.out; clear hbox hb hgr))
  have NR := Aside0.mk nr
  have NG := Aside0.mk ng
  have rg : g ≠ gr := Nat.ne_of_lt (Nat.lt_of_lt_of_le HL.out GR.out)
  have BC5 : Aside0 ((((w_.setCell ⟨gc, 0, none⟩ (.int .i64 x.f0)).setCell ⟨gc, 1, none⟩ (.int .i64 x.f1)).setCell ⟨gc, 2, none⟩ (.string x.f2)).heap[gc]? = some (.cells #[.int .i64 x.f0, .int .i64 x.f1, .string x.f2] 37 (0, 0))) := ⟨Rd.set3 BC.out⟩
  have BR5 : Aside0 ((((w_.setCell ⟨gc, 0, none⟩ (.int .i64 x.f0)).setCell ⟨gc, 1, none⟩ (.int .i64 x.f1)).setCell ⟨gc, 2, none⟩ (.string x.f2)).heap[gr]? = _) := ⟨Rd.far3 BR.out nr⟩
  have HX5 : Aside0 ((((w_.setCell ⟨gc, 0, none⟩ (.int .i64 x.f0)).setCell ⟨gc, 1, none⟩ (.int .i64 x.f1)).setCell ⟨gc, 2, none⟩ (.string x.f2)).heap[g]? = _) := ⟨Rd.far3 HX.out ng⟩
  have HW5 : Aside0 (Below w.heap.size w (((w_.setCell ⟨gc, 0, none⟩ (.int .i64 x.f0)).setCell ⟨gc, 1, none⟩ (.int .i64 x.f1)).setCell ⟨gc, 2, none⟩ (.string x.f2))) := ⟨((HW.out.setCell GC.out _).setCell GC.out _).setCell GC.out _⟩
  generalize (((w_.setCell ⟨gc, 0, none⟩ (.int .i64 x.f0)).setCell ⟨gc, 1, none⟩ (.int .i64 x.f1)).setCell ⟨gc, 2, none⟩ (.string x.f2)) = w5 at BC5 BR5 HX5 HW5 ⊢
  clear BC BR HX HW z0 z1 z2 z3 z4 z5
  obtain ⟨z0, z1, z2, z3, z4, z5⟩ := Rd.three BC5.out
  go_upto_region 3 with (first | ((with_reducible refine gate_callee (f := 52) rfl ?_); refine goesL_ (some 14) rfl rfl Try.func52 (by kernel_rfl) rfl #[.agg #[.int .i64 x.f0, .int .i64 x.f1, .string x.f2]] rfl (by (try simp only [List.map_toArray, List.map_cons, List.map_nil]); first | done | rfl) ?_; (with_reducible refine (minuetref1_size.calls x.f0 x.f1 x.f2 s _ HS.out).mono ?_); rintro e w6 ⟨rfl, hb⟩; refine ⟨_, rfl, ?_⟩; have BC6 := Aside0.mk ((hb.block gc (blk_lt BC5.out)).trans BC5.out); have BR6 := Aside0.mk ((hb.block gr (blk_lt BR5.out)).trans BR5.out); have HX6 := Aside0.mk ((hb.block g (blk_lt HX5.out)).trans HX5.out); have HW6 := Aside0.mk (below_step HW5.out hb); clear BC5 BR5 HX5 HW5 z0 z1 z2 z3 z4 z5 hb))
  rw [show (if s < k then s else k) = m from HM.out]
  obtain ⟨x0, x1, x2, f0, f1, f2⟩ := Rd.three HX6.out
  go_upto_region 4 with (fail)
  have BC7 : Aside0 ((w6.setCell ⟨g, 2, none⟩ (.int .i64 (p + m))).heap[gc]? = _) := ⟨(Below.heap_setCell _ _ _ _ (Ne.symm NG.out)).trans BC6.out⟩
  have BR7 : Aside0 ((w6.setCell ⟨g, 2, none⟩ (.int .i64 (p + m))).heap[gr]? = _) := ⟨(Below.heap_setCell _ _ _ _ (Ne.symm rg)).trans BR6.out⟩
  have HX7 : Aside0 ((w6.setCell ⟨g, 2, none⟩ (.int .i64 (p + m))).heap[g]? = some (.cells #[.slice (some ad) n c, .int .i64 i, .int .i64 (p + m)] 89 (0, 0))) := ⟨Rr.set1 HX6.out _⟩
  have HB7 : Aside0 (Below w0.heap.size w0 (w6.setCell ⟨g, 2, none⟩ (.int .i64 (p + m)))) := ⟨(below_step HB0.out HW6.out).setCell hg _⟩
  have HQ7 : Aside0 (Kept w (w6.setCell ⟨g, 2, none⟩ (.int .i64 (p + m))) (fun k_ => k_ = g)) := ⟨(Kept.of_below HW6.out (fun k_ => k_ = g)).setCell (p := ⟨g, 2, none⟩) (.inl rfl) _⟩
  generalize (w6.setCell ⟨g, 2, none⟩ (.int .i64 (p + m))) = w7 at BC7 BR7 HX7 HB7 HQ7 ⊢
  clear BC6 BR6 HX6 HW6 x0 x1 x2 f0 f1 f2
  obtain ⟨⟨x0, x1, x2, -, -, -⟩, y0, y1, y2⟩ := Rr.facts HN.out HB7.out HX7.out HK.out HIB.out.1 HIB.out.2 HY.out
  have hs2 := HS2.out
  go_region_held3 (fun w' => w'.cell? ⟨g, 0, none⟩ = some (.slice (some ad) n c) ∧ w'.cell? ⟨g, 1, none⟩ = some (.int .i64 i) ∧ w'.cell? ⟨g, 2, none⟩ = some (.int .i64 (p + m)) ∧ w'.cell? (ad.add (i.toNat * 3)) = some (.int .i64 y.f0) ∧ w'.cell? ⟨(ad.add (i.toNat * 3)).block, (ad.add (i.toNat * 3)).off + 1, none⟩ = some (.int .i64 y.f1) ∧ w'.cell? ⟨(ad.add (i.toNat * 3)).block, (ad.add (i.toNat * 3)).off + 2, none⟩ = some (.string y.f2)) (first | (go_keep; done) | ((try dsimp only at *); go_split_ands; exact ⟨pw_cell_below hb (by assumption), pw_cell_below hb (by assumption), pw_cell_below hb (by assumption), pw_cell_below hb (by assumption), pw_cell_below hb (by assumption), pw_cell_below hb (by assumption)⟩)) (first | (go_at_call 52; refine (minuetref1_size.calls _ _ _ s2 _ hs2).mono ?_; rintro e w8 ⟨rfl, hb⟩))
  clear hs2
  have hb8 : Below w7.heap.size w7 w8 := below_step (Below.refl w7.heap.size w7).drew hb
  have BC8 := Aside0.mk ((hb8.block gc (blk_lt BC7.out)).trans BC7.out)
  have BR8 := Aside0.mk ((hb8.block gr (blk_lt BR7.out)).trans BR7.out)
  have HX8 := Aside0.mk ((hb8.block g (blk_lt HX7.out)).trans HX7.out)
  have HB8 := Aside0.mk (below_step HB7.out hb8)
  have HQ8 := Aside0.mk (HQ7.out.below hb8)
  clear BC7 BR7 HX7 HB7 HQ7 x0 x1 x2 y0 y1 y2 hb hb8
  obtain ⟨x0, x1, x2, f0, f1, f2⟩ := Rd.three HX8.out
  go_upto_region 7 with (fail)
  have BC9 : Aside0 (((w8.setCell ⟨g, 1, none⟩ (.int .i64 (i + 1))).setCell ⟨g, 2, none⟩ (.int .i64 0)).heap[gc]? = _) := ⟨((Below.heap_setCell _ _ _ _ (Ne.symm NG.out)).trans (Below.heap_setCell _ _ _ _ (Ne.symm NG.out))).trans BC8.out⟩
  have BR9 : Aside0 (((w8.setCell ⟨g, 1, none⟩ (.int .i64 (i + 1))).setCell ⟨g, 2, none⟩ (.int .i64 0)).heap[gr]? = _) := ⟨((Below.heap_setCell _ _ _ _ (Ne.symm rg)).trans (Below.heap_setCell _ _ _ _ (Ne.symm rg))).trans BR8.out⟩
  have HX9 : Aside0 (((w8.setCell ⟨g, 1, none⟩ (.int .i64 (i + 1))).setCell ⟨g, 2, none⟩ (.int .i64 0)).heap[g]? = some (.cells #[.slice (some ad) n c, .int .i64 (i + 1), .int .i64 0] 89 (0, 0))) := ⟨Rr.set1 (Rr.setb HX8.out _) _⟩
  have HB9 : Aside0 (Below w0.heap.size w0 ((w8.setCell ⟨g, 1, none⟩ (.int .i64 (i + 1))).setCell ⟨g, 2, none⟩ (.int .i64 0))) := ⟨(HB8.out.setCell hg _).setCell hg _⟩
  have HQ9 : Aside0 (Kept w ((w8.setCell ⟨g, 1, none⟩ (.int .i64 (i + 1))).setCell ⟨g, 2, none⟩ (.int .i64 0)) (fun k_ => k_ = g)) := ⟨(HQ8.out.setCell (p := ⟨g, 1, none⟩) (.inl rfl) _).setCell (p := ⟨g, 2, none⟩) (.inl rfl) _⟩
  generalize ((w8.setCell ⟨g, 1, none⟩ (.int .i64 (i + 1))).setCell ⟨g, 2, none⟩ (.int .i64 0)) = w9 at BC9 BR9 HX9 HB9 HQ9 ⊢
  clear BC8 BR8 HX8 HB8 HQ8 x0 x1 x2 f0 f1 f2
  obtain ⟨z0, z1, z2, z3, z4, z5⟩ := Rd.three BC9.out
  go_upto_region 10 with (fail)
  have BC10 : Aside0 ((w9.setCell ⟨gc, 2, none⟩ (.string (x.f2.extract 0 m.toNat))).heap[gc]? = some (.cells #[.int .i64 x.f0, .int .i64 x.f1, .string (x.f2.extract 0 m.toNat)] 37 (0, 0))) := ⟨(Rr.set1 BC9.out _)⟩
  have BR10 : Aside0 ((w9.setCell ⟨gc, 2, none⟩ (.string (x.f2.extract 0 m.toNat))).heap[gr]? = _) := ⟨(Below.heap_setCell _ _ _ _ NR.out).trans BR9.out⟩
  have HX10 : Aside0 ((w9.setCell ⟨gc, 2, none⟩ (.string (x.f2.extract 0 m.toNat))).heap[g]? = _) := ⟨(Below.heap_setCell _ _ _ _ NG.out).trans HX9.out⟩
  have HB10 : Aside0 (Below w0.heap.size w0 (w9.setCell ⟨gc, 2, none⟩ (.string (x.f2.extract 0 m.toNat)))) := ⟨HB9.out.setCell (Nat.le_trans HB0.out.size GC.out) _⟩
  have HQ10 : Aside0 (Kept w (w9.setCell ⟨gc, 2, none⟩ (.string (x.f2.extract 0 m.toNat))) (fun k_ => k_ = g)) := ⟨HQ9.out.setCell (.inr GC.out) _⟩
  generalize (w9.setCell ⟨gc, 2, none⟩ (.string (x.f2.extract 0 m.toNat))) = w10 at BC10 BR10 HX10 HB10 HQ10 ⊢
  clear BC9 BR9 HX9 HB9 HQ9 z0 z1 z2 z3 z4 z5
  obtain ⟨z0, z1, z2, z3, z4, z5⟩ := Rd.three BC10.out
  obtain ⟨v0, v1, v2, v3, v4, v5⟩ := Rd.three BR10.out
  go_wp2
  have GW : w0.heap.size ≤ gr := Nat.le_trans HB0.out.size GR.out
  refine bodyPost_ret (results_cell_row rfl _ _ gr 37 #[.int .i64 x.f0, .int .i64 x.f1, .string (x.f2.extract 0 m.toNat)] (0, 0) _ rfl (Rd.set3 BR10.out) Try.underlying37 rfl (by kernel_rfl)) rfl ?_
  refine ⟨rfl, ⟨some ad, c, ?_, hg, HK.out⟩, ((HB10.out.setCell GW _).setCell GW _).setCell GW _, ((HQ10.out.setCell (.inr GR.out) _).setCell (.inr GR.out) _).setCell (.inr GR.out) _⟩
  rw [← HN.out]
  exact Rd.far3 HX10.out rg
set_option maxHeartbeats 4000000 in
theorem Rr.take_put_part (g : Nat) (cs : List (S37)) (i p k m s s2 : Int) (x y : S37) (w0 w : World) (hB : Below w0.heap.size w0 w) (h : IsRr w0 w g cs i p) (hj : Rr.peek cs i p = some (x, true)) (hi0 : 0 ≤ i) (hi : i < (cs.length : Int)) (hy : rd_T37 cs i = y) (hs : minuetref1_size.f x.f0 x.f1 x.f2 = some s) (hs2 : minuetref1_size.f y.f0 y.f1 y.f2 = some s2) (hm : Rr.mini k s = m)
    (hk : x.f0 = 1) (h0 : 0 ≤ p) (h1 : 0 ≤ m) (h2 : p + m ≤ 1048576) (h3 : m ≤ (x.f2.size : Int)) (he : ¬ s2 ≤ p + m) :
    Calls Try.prog 50 #[.pointer (some ⟨g, 0, none⟩), .int .i64 k] w fun e w' => e = .returned (.agg #[.int .i64 x.f0, .int .i64 x.f1, .string (x.f2.extract 0 m.toNat)]) ∧ IsRr w0 w' g cs i (p + m) ∧ Below w0.heap.size w0 w' ∧ Kept w w' (fun k_ => k_ = g) := by
  have HW := Aside0.mk (Below.refl w.heap.size w)
  have HB0 := Aside0.mk hB
  have HI := Aside0.mk h
  obtain ⟨A, c, hb, hg, hK⟩ := h
  have HL := Aside0.mk (blk_lt hb)
  obtain ⟨ad, rfl, -⟩ := Rr.cells hB hK i hi0 hi
  have HIB := Aside0.mk (And.intro hi0 hi)
  have HY := Aside0.mk hy
  obtain ⟨n, hn⟩ : ∃ n, n = cs.length := ⟨_, rfl⟩
  have hmax : cs.length ≤ 9223372036854775807 := hK.2.1
  rw [← hn] at hb hi
  have HX := Aside0.mk hb
  have HN := Aside0.mk hn
  have HK := Aside0.mk hK
  have HJ := Aside0.mk hj
  have HS := Aside0.mk hs
  have HS2 := Aside0.mk hs2
  have HM := Aside0.mk hm
  have HE := Aside0.mk he
  have d2 := eq_true hi0
  have d3 := eq_true hi
  have d4 : decide (0 ≤ i) = true := decide_eq_true hi0
  have d5 : decide (i < (n : Int)) = true := decide_eq_true hi
  have d6 : (x.f0 == 1) = true := beq_iff_eq.mpr hk
  have d7 : decide (s2 ≤ p + m) = false := decide_eq_false he
  have e0 : wrap64 (p + m) = p + m := by unfold wrap64; omega
  have e1 : IntKind.i64.wrap (p + m) = p + m := (i64_w _).trans e0
  have d8 := eq_true h1
  have d9 := eq_true h3
  have HP := Aside0.mk h0
  clear hb hK hB hk hi0 hi hy hn hj hs hs2 hm he h0 h2
  go_enter Try.func50, Try.ntmps50
  go_upto_region 2 with (first | ((with_reducible refine gate_dst (N := 4) rfl ?_); refine box_event ?hg (N := 4) ?hd (cs := #[.int .i64 0, .int .i64 0, .string (⟨#[]⟩ : ByteArray)]) (t := 37) ?hr ?_; (case hd => rfl); (case hg => rfl); (case hr => first | (go_simp; done) | (go_simp; rfl)); intro gr hgr w_ hbox hb; have BR := Aside0.mk hbox; have GR := Aside0.mk ((by rw [hgr]; exact Nat.le_refl _) : w.heap.size ≤ gr); have n0_ := Aside0.mk (below_step HW.out hb); have n1_ := Aside0.mk (HI.out.below hb); have n2_ := Aside0.mk ((hb.block g HL.out).trans HX.out); clear HW HI HX; have HW := n0_; have HI := n1_; have HX := n2_; clear n0_ n1_ n2_; clear hbox hb hgr) | ((with_reducible refine gate_callee (f := 48) rfl ?_); refine goesL_ (some 9) rfl rfl Try.func48 (by kernel_rfl) rfl #[.pointer (some ⟨g, 0, none⟩)] rfl (by (try simp only [List.map_toArray, List.map_cons, List.map_nil]); first | done | rfl) ?_; (with_reducible refine (Rr.peek_any g cs i p x true w0 _ (below_step HB0.out HW.out) HI.out HJ.out).mono ?_); rintro e w_ ⟨rfl, hb⟩; refine ⟨_, rfl, ?_⟩; have n0_ := Aside0.mk (below_step HW.out hb); have n1_ := Aside0.mk ((hb.block gr (blk_lt BR.out)).trans BR.out); have n2_ := Aside0.mk ((hb.block g (blk_lt HX.out)).trans HX.out); clear HW HI HX BR; have HW := n0_; have BR := n1_; have HX := n2_; clear n0_ n1_ n2_ hb) | ((with_reducible refine gate_dst (N := 5) rfl ?_); refine box_event ?hg (N := 5) ?hd (cs := #[.int .i64 0, .int .i64 0, .string (⟨#[]⟩ : ByteArray)]) (t := 37) ?hr ?_; (case hd => rfl); (case hg => rfl); (case hr => first | (go_simp; done) | (go_simp; rfl)); intro gc hgr w_ hbox hb; have BC := Aside0.mk hbox; have GC := Aside0.mk ((by rw [hgr]; exact HW.out.size) : w.heap.size ≤ gc); have nr := ((by rw [hgr]; exact Nat.ne_of_lt (blk_lt BR.out)) : gr ≠ gc); have ng := ((by rw [hgr]; exact Nat.ne_of_lt (blk_lt HX.out)) : g ≠ gc); have n0_ := Aside0.mk (below_step HW.out hb); have n1_ := Aside0.mk ((hb.block gr (blk_lt BR.out)).trans BR.out); have n2_ := Aside0.mk ((hb.block g (blk_lt HX.out)).trans HX.out); clear HW HX BR; have HW := n0_; have BR := n1_; have HX := n2_; clear n0_ n1_ n2_; obtain ⟨z0, z1, z2, z3, z4, z5⟩ := Rd.three BC.out; clear hbox hb hgr))
  have NR := Aside0.mk nr
  have NG := Aside0.mk ng
  have rg : g ≠ gr := Nat.ne_of_lt (Nat.lt_of_lt_of_le HL.out GR.out)
  have BC5 : Aside0 ((((w_.setCell ⟨gc, 0, none⟩ (.int .i64 x.f0)).setCell ⟨gc, 1, none⟩ (.int .i64 x.f1)).setCell ⟨gc, 2, none⟩ (.string x.f2)).heap[gc]? = some (.cells #[.int .i64 x.f0, .int .i64 x.f1, .string x.f2] 37 (0, 0))) := ⟨Rd.set3 BC.out⟩
  have BR5 : Aside0 ((((w_.setCell ⟨gc, 0, none⟩ (.int .i64 x.f0)).setCell ⟨gc, 1, none⟩ (.int .i64 x.f1)).setCell ⟨gc, 2, none⟩ (.string x.f2)).heap[gr]? = _) := ⟨Rd.far3 BR.out nr⟩
  have HX5 : Aside0 ((((w_.setCell ⟨gc, 0, none⟩ (.int .i64 x.f0)).setCell ⟨gc, 1, none⟩ (.int .i64 x.f1)).setCell ⟨gc, 2, none⟩ (.string x.f2)).heap[g]? = _) := ⟨Rd.far3 HX.out ng⟩
  have HW5 : Aside0 (Below w.heap.size w (((w_.setCell ⟨gc, 0, none⟩ (.int .i64 x.f0)).setCell ⟨gc, 1, none⟩ (.int .i64 x.f1)).setCell ⟨gc, 2, none⟩ (.string x.f2))) := ⟨((HW.out.setCell GC.out _).setCell GC.out _).setCell GC.out _⟩
  generalize (((w_.setCell ⟨gc, 0, none⟩ (.int .i64 x.f0)).setCell ⟨gc, 1, none⟩ (.int .i64 x.f1)).setCell ⟨gc, 2, none⟩ (.string x.f2)) = w5 at BC5 BR5 HX5 HW5 ⊢
  clear BC BR HX HW z0 z1 z2 z3 z4 z5
  obtain ⟨z0, z1, z2, z3, z4, z5⟩ := Rd.three BC5.out
  go_upto_region 3 with (first | ((with_reducible refine gate_callee (f := 52) rfl ?_); refine goesL_ (some 14) rfl rfl Try.func52 (by kernel_rfl) rfl #[.agg #[.int .i64 x.f0, .int .i64 x.f1, .string x.f2]] rfl (by (try simp only [List.map_toArray, List.map_cons, List.map_nil]); first | done | rfl) ?_; (with_reducible refine (minuetref1_size.calls x.f0 x.f1 x.f2 s _ HS.out).mono ?_); rintro e w6 ⟨rfl, hb⟩; refine ⟨_, rfl, ?_⟩; have BC6 := Aside0.mk ((hb.block gc (blk_lt BC5.out)).trans BC5.out); have BR6 := Aside0.mk ((hb.block gr (blk_lt BR5.out)).trans BR5.out); have HX6 := Aside0.mk ((hb.block g (blk_lt HX5.out)).trans HX5.out); have HW6 := Aside0.mk (below_step HW5.out hb); clear BC5 BR5 HX5 HW5 z0 z1 z2 z3 z4 z5 hb))
  rw [show (if s < k then s else k) = m from HM.out]
  obtain ⟨x0, x1, x2, f0, f1, f2⟩ := Rd.three HX6.out
  go_upto_region 4 with (fail)
  have BC7 : Aside0 ((w6.setCell ⟨g, 2, none⟩ (.int .i64 (p + m))).heap[gc]? = _) := ⟨(Below.heap_setCell _ _ _ _ (Ne.symm NG.out)).trans BC6.out⟩
  have BR7 : Aside0 ((w6.setCell ⟨g, 2, none⟩ (.int .i64 (p + m))).heap[gr]? = _) := ⟨(Below.heap_setCell _ _ _ _ (Ne.symm rg)).trans BR6.out⟩
  have HX7 : Aside0 ((w6.setCell ⟨g, 2, none⟩ (.int .i64 (p + m))).heap[g]? = some (.cells #[.slice (some ad) n c, .int .i64 i, .int .i64 (p + m)] 89 (0, 0))) := ⟨Rr.set1 HX6.out _⟩
  have HB7 : Aside0 (Below w0.heap.size w0 (w6.setCell ⟨g, 2, none⟩ (.int .i64 (p + m)))) := ⟨(below_step HB0.out HW6.out).setCell hg _⟩
  have HQ7 : Aside0 (Kept w (w6.setCell ⟨g, 2, none⟩ (.int .i64 (p + m))) (fun k_ => k_ = g)) := ⟨(Kept.of_below HW6.out (fun k_ => k_ = g)).setCell (p := ⟨g, 2, none⟩) (.inl rfl) _⟩
  generalize (w6.setCell ⟨g, 2, none⟩ (.int .i64 (p + m))) = w7 at BC7 BR7 HX7 HB7 HQ7 ⊢
  clear BC6 BR6 HX6 HW6 x0 x1 x2 f0 f1 f2
  obtain ⟨⟨x0, x1, x2, -, -, -⟩, y0, y1, y2⟩ := Rr.facts HN.out HB7.out HX7.out HK.out HIB.out.1 HIB.out.2 HY.out
  have hs2 := HS2.out
  go_region_held3 (fun w' => w'.cell? ⟨g, 0, none⟩ = some (.slice (some ad) n c) ∧ w'.cell? ⟨g, 1, none⟩ = some (.int .i64 i) ∧ w'.cell? ⟨g, 2, none⟩ = some (.int .i64 (p + m)) ∧ w'.cell? (ad.add (i.toNat * 3)) = some (.int .i64 y.f0) ∧ w'.cell? ⟨(ad.add (i.toNat * 3)).block, (ad.add (i.toNat * 3)).off + 1, none⟩ = some (.int .i64 y.f1) ∧ w'.cell? ⟨(ad.add (i.toNat * 3)).block, (ad.add (i.toNat * 3)).off + 2, none⟩ = some (.string y.f2)) (first | (go_keep; done) | ((try dsimp only at *); go_split_ands; exact ⟨pw_cell_below hb (by assumption), pw_cell_below hb (by assumption), pw_cell_below hb (by assumption), pw_cell_below hb (by assumption), pw_cell_below hb (by assumption), pw_cell_below hb (by assumption)⟩)) (first | (go_at_call 52; refine (minuetref1_size.calls _ _ _ s2 _ hs2).mono ?_; rintro e w8 ⟨rfl, hb⟩))
  clear hs2
  have hb8 : Below w7.heap.size w7 w8 := below_step (Below.refl w7.heap.size w7).drew hb
  have BC8 := Aside0.mk ((hb8.block gc (blk_lt BC7.out)).trans BC7.out)
  have BR8 := Aside0.mk ((hb8.block gr (blk_lt BR7.out)).trans BR7.out)
  have HX8 := Aside0.mk ((hb8.block g (blk_lt HX7.out)).trans HX7.out)
  have HB8 := Aside0.mk (below_step HB7.out hb8)
  have HQ8 := Aside0.mk (HQ7.out.below hb8)
  clear BC7 BR7 HX7 HB7 HQ7 x0 x1 x2 y0 y1 y2 hb hb8
  obtain ⟨z0, z1, z2, z3, z4, z5⟩ := Rd.three BC8.out
  go_upto_region 10 with (fail)
  have BC10 : Aside0 ((w8.setCell ⟨gc, 2, none⟩ (.string (x.f2.extract 0 m.toNat))).heap[gc]? = some (.cells #[.int .i64 x.f0, .int .i64 x.f1, .string (x.f2.extract 0 m.toNat)] 37 (0, 0))) := ⟨(Rr.set1 BC8.out _)⟩
  have BR10 : Aside0 ((w8.setCell ⟨gc, 2, none⟩ (.string (x.f2.extract 0 m.toNat))).heap[gr]? = _) := ⟨(Below.heap_setCell _ _ _ _ NR.out).trans BR8.out⟩
  have HX10 : Aside0 ((w8.setCell ⟨gc, 2, none⟩ (.string (x.f2.extract 0 m.toNat))).heap[g]? = _) := ⟨(Below.heap_setCell _ _ _ _ NG.out).trans HX8.out⟩
  have HB10 : Aside0 (Below w0.heap.size w0 (w8.setCell ⟨gc, 2, none⟩ (.string (x.f2.extract 0 m.toNat)))) := ⟨HB8.out.setCell (Nat.le_trans HB0.out.size GC.out) _⟩
  have HQ10 : Aside0 (Kept w (w8.setCell ⟨gc, 2, none⟩ (.string (x.f2.extract 0 m.toNat))) (fun k_ => k_ = g)) := ⟨HQ8.out.setCell (.inr GC.out) _⟩
  generalize (w8.setCell ⟨gc, 2, none⟩ (.string (x.f2.extract 0 m.toNat))) = w10 at BC10 BR10 HX10 HB10 HQ10 ⊢
  clear BC8 BR8 HX8 HB8 HQ8 z0 z1 z2 z3 z4 z5
  obtain ⟨z0, z1, z2, z3, z4, z5⟩ := Rd.three BC10.out
  obtain ⟨v0, v1, v2, v3, v4, v5⟩ := Rd.three BR10.out
  go_wp2
  have GW : w0.heap.size ≤ gr := Nat.le_trans HB0.out.size GR.out
  refine bodyPost_ret (results_cell_row rfl _ _ gr 37 #[.int .i64 x.f0, .int .i64 x.f1, .string (x.f2.extract 0 m.toNat)] (0, 0) _ rfl (Rd.set3 BR10.out) Try.underlying37 rfl (by kernel_rfl)) rfl ?_
  refine ⟨rfl, ⟨some ad, c, ?_, hg, HK.out⟩, ((HB10.out.setCell GW _).setCell GW _).setCell GW _, ((HQ10.out.setCell (.inr GR.out) _).setCell (.inr GR.out) _).setCell (.inr GR.out) _⟩
  rw [← HN.out]
  exact Rd.far3 HX10.out rg
set_option maxHeartbeats 4000000 in
theorem Rr.take_num (g : Nat) (cs : List (S37)) (i p k m s s2 : Int) (x y : S37) (w0 w : World) (hB : Below w0.heap.size w0 w) (h : IsRr w0 w g cs i p) (hj : Rr.peek cs i p = some (x, true)) (hi0 : 0 ≤ i) (hi : i < (cs.length : Int)) (hy : rd_T37 cs i = y) (hs : minuetref1_size.f x.f0 x.f1 x.f2 = some s) (hs2 : minuetref1_size.f y.f0 y.f1 y.f2 = some s2) (hm : Rr.mini k s = m)
    (hk : x.f0 ≠ 1) (h0 : 0 ≤ p) (h1 : 0 ≤ m) (h2 : p + m ≤ 1048576)  (he : s2 ≤ p + m) :
    Calls Try.prog 50 #[.pointer (some ⟨g, 0, none⟩), .int .i64 k] w fun e w' => e = .returned (.agg #[.int .i64 x.f0, .int .i64 m, .string x.f2]) ∧ IsRr w0 w' g cs (i + 1) 0 ∧ Below w0.heap.size w0 w' ∧ Kept w w' (fun k_ => k_ = g) := by
  have HW := Aside0.mk (Below.refl w.heap.size w)
  have HB0 := Aside0.mk hB
  have HI := Aside0.mk h
  obtain ⟨A, c, hb, hg, hK⟩ := h
  have HL := Aside0.mk (blk_lt hb)
  obtain ⟨ad, rfl, -⟩ := Rr.cells hB hK i hi0 hi
  have HIB := Aside0.mk (And.intro hi0 hi)
  have HY := Aside0.mk hy
  obtain ⟨n, hn⟩ : ∃ n, n = cs.length := ⟨_, rfl⟩
  have hmax : cs.length ≤ 9223372036854775807 := hK.2.1
  rw [← hn] at hb hi
  have HX := Aside0.mk hb
  have HN := Aside0.mk hn
  have HK := Aside0.mk hK
  have HJ := Aside0.mk hj
  have HS := Aside0.mk hs
  have HS2 := Aside0.mk hs2
  have HM := Aside0.mk hm
  have HE := Aside0.mk he
  have d2 := eq_true hi0
  have d3 := eq_true hi
  have d4 : decide (0 ≤ i) = true := decide_eq_true hi0
  have d5 : decide (i < (n : Int)) = true := decide_eq_true hi
  have d6 : (x.f0 == 1) = false := beq_eq_false_iff_ne.mpr hk
  have d7 : decide (s2 ≤ p + m) = true := decide_eq_true he
  have e0 : wrap64 (p + m) = p + m := by unfold wrap64; omega
  have e1 : IntKind.i64.wrap (p + m) = p + m := (i64_w _).trans e0
  have e2 : wrap64 (i + 1) = i + 1 := by unfold wrap64; omega
  have e3 : IntKind.i64.wrap (i + 1) = i + 1 := (i64_w _).trans e2
  have HP := Aside0.mk h0
  clear hb hK hB hk hi0 hi hy hn hj hs hs2 hm he h0 h2
  go_enter Try.func50, Try.ntmps50
  go_upto_region 2 with (first | ((with_reducible refine gate_dst (N := 4) rfl ?_); refine box_event ?hg (N := 4) ?hd (cs := #[.int .i64 0, .int .i64 0, .string (⟨#[]⟩ : ByteArray)]) (t := 37) ?hr ?_; (case hd => rfl); (case hg => rfl); (case hr => first | (go_simp; done) | (go_simp; rfl)); intro gr hgr w_ hbox hb; have BR := Aside0.mk hbox; have GR := Aside0.mk ((by rw [hgr]; exact Nat.le_refl _) : w.heap.size ≤ gr); have n0_ := Aside0.mk (below_step HW.out hb); have n1_ := Aside0.mk (HI.out.below hb); have n2_ := Aside0.mk ((hb.block g HL.out).trans HX.out); clear HW HI HX; have HW := n0_; have HI := n1_; have HX := n2_; clear n0_ n1_ n2_; clear hbox hb hgr) | ((with_reducible refine gate_callee (f := 48) rfl ?_); refine goesL_ (some 9) rfl rfl Try.func48 (by kernel_rfl) rfl #[.pointer (some ⟨g, 0, none⟩)] rfl (by (try simp only [List.map_toArray, List.map_cons, List.map_nil]); first | done | rfl) ?_; (with_reducible refine (Rr.peek_any g cs i p x true w0 _ (below_step HB0.out HW.out) HI.out HJ.out).mono ?_); rintro e w_ ⟨rfl, hb⟩; refine ⟨_, rfl, ?_⟩; have n0_ := Aside0.mk (below_step HW.out hb); have n1_ := Aside0.mk ((hb.block gr (blk_lt BR.out)).trans BR.out); have n2_ := Aside0.mk ((hb.block g (blk_lt HX.out)).trans HX.out); clear HW HI HX BR; have HW := n0_; have BR := n1_; have HX := n2_; clear n0_ n1_ n2_ hb) | ((with_reducible refine gate_dst (N := 5) rfl ?_); refine box_event ?hg (N := 5) ?hd (cs := #[.int .i64 0, .int .i64 0, .string (⟨#[]⟩ : ByteArray)]) (t := 37) ?hr ?_; (case hd => rfl); (case hg => rfl); (case hr => first | (go_simp; done) | (go_simp; rfl)); intro gc hgr w_ hbox hb; have BC := Aside0.mk hbox; have GC := Aside0.mk ((by rw [hgr]; exact HW.out.size) : w.heap.size ≤ gc); have nr := ((by rw [hgr]; exact Nat.ne_of_lt (blk_lt BR.out)) : gr ≠ gc); have ng := ((by rw [hgr]; exact Nat.ne_of_lt (blk_lt HX.out)) : g ≠ gc); have n0_ := Aside0.mk (below_step HW.out hb); have n1_ := Aside0.mk ((hb.block gr (blk_lt BR.out)).trans BR.out); have n2_ := Aside0.mk ((hb.block g (blk_lt HX.out)).trans HX.out); clear HW HX BR; have HW := n0_; have BR := n1_; have HX := n2_; clear n0_ n1_ n2_; obtain ⟨z0, z1, z2, z3, z4, z5⟩ := Rd.three BC.out; clear hbox hb hgr))
  have NR := Aside0.mk nr
  have NG := Aside0.mk ng
  have rg : g ≠ gr := Nat.ne_of_lt (Nat.lt_of_lt_of_le HL.out GR.out)
  have BC5 : Aside0 ((((w_.setCell ⟨gc, 0, none⟩ (.int .i64 x.f0)).setCell ⟨gc, 1, none⟩ (.int .i64 x.f1)).setCell ⟨gc, 2, none⟩ (.string x.f2)).heap[gc]? = some (.cells #[.int .i64 x.f0, .int .i64 x.f1, .string x.f2] 37 (0, 0))) := ⟨Rd.set3 BC.out⟩
  have BR5 : Aside0 ((((w_.setCell ⟨gc, 0, none⟩ (.int .i64 x.f0)).setCell ⟨gc, 1, none⟩ (.int .i64 x.f1)).setCell ⟨gc, 2, none⟩ (.string x.f2)).heap[gr]? = _) := ⟨Rd.far3 BR.out nr⟩
  have HX5 : Aside0 ((((w_.setCell ⟨gc, 0, none⟩ (.int .i64 x.f0)).setCell ⟨gc, 1, none⟩ (.int .i64 x.f1)).setCell ⟨gc, 2, none⟩ (.string x.f2)).heap[g]? = _) := ⟨Rd.far3 HX.out ng⟩
  have HW5 : Aside0 (Below w.heap.size w (((w_.setCell ⟨gc, 0, none⟩ (.int .i64 x.f0)).setCell ⟨gc, 1, none⟩ (.int .i64 x.f1)).setCell ⟨gc, 2, none⟩ (.string x.f2))) := ⟨((HW.out.setCell GC.out _).setCell GC.out _).setCell GC.out _⟩
  generalize (((w_.setCell ⟨gc, 0, none⟩ (.int .i64 x.f0)).setCell ⟨gc, 1, none⟩ (.int .i64 x.f1)).setCell ⟨gc, 2, none⟩ (.string x.f2)) = w5 at BC5 BR5 HX5 HW5 ⊢
  clear BC BR HX HW z0 z1 z2 z3 z4 z5
  obtain ⟨z0, z1, z2, z3, z4, z5⟩ := Rd.three BC5.out
  go_upto_region 3 with (first | ((with_reducible refine gate_callee (f := 52) rfl ?_); refine goesL_ (some 14) rfl rfl Try.func52 (by kernel_rfl) rfl #[.agg #[.int .i64 x.f0, .int .i64 x.f1, .string x.f2]] rfl (by (try simp only [List.map_toArray, List.map_cons, List.map_nil]); first | done | rfl) ?_; (with_reducible refine (minuetref1_size.calls x.f0 x.f1 x.f2 s _ HS.out).mono ?_); rintro e w6 ⟨rfl, hb⟩; refine ⟨_, rfl, ?_⟩; have BC6 := Aside0.mk ((hb.block gc (blk_lt BC5.out)).trans BC5.out); have BR6 := Aside0.mk ((hb.block gr (blk_lt BR5.out)).trans BR5.out); have HX6 := Aside0.mk ((hb.block g (blk_lt HX5.out)).trans HX5.out); have HW6 := Aside0.mk (below_step HW5.out hb); clear BC5 BR5 HX5 HW5 z0 z1 z2 z3 z4 z5 hb))
  rw [show (if s < k then s else k) = m from HM.out]
  obtain ⟨x0, x1, x2, f0, f1, f2⟩ := Rd.three HX6.out
  go_upto_region 4 with (fail)
  have BC7 : Aside0 ((w6.setCell ⟨g, 2, none⟩ (.int .i64 (p + m))).heap[gc]? = _) := ⟨(Below.heap_setCell _ _ _ _ (Ne.symm NG.out)).trans BC6.out⟩
  have BR7 : Aside0 ((w6.setCell ⟨g, 2, none⟩ (.int .i64 (p + m))).heap[gr]? = _) := ⟨(Below.heap_setCell _ _ _ _ (Ne.symm rg)).trans BR6.out⟩
  have HX7 : Aside0 ((w6.setCell ⟨g, 2, none⟩ (.int .i64 (p + m))).heap[g]? = some (.cells #[.slice (some ad) n c, .int .i64 i, .int .i64 (p + m)] 89 (0, 0))) := ⟨Rr.set1 HX6.out _⟩
  have HB7 : Aside0 (Below w0.heap.size w0 (w6.setCell ⟨g, 2, none⟩ (.int .i64 (p + m)))) := ⟨(below_step HB0.out HW6.out).setCell hg _⟩
  have HQ7 : Aside0 (Kept w (w6.setCell ⟨g, 2, none⟩ (.int .i64 (p + m))) (fun k_ => k_ = g)) := ⟨(Kept.of_below HW6.out (fun k_ => k_ = g)).setCell (p := ⟨g, 2, none⟩) (.inl rfl) _⟩
  generalize (w6.setCell ⟨g, 2, none⟩ (.int .i64 (p + m))) = w7 at BC7 BR7 HX7 HB7 HQ7 ⊢
  clear BC6 BR6 HX6 HW6 x0 x1 x2 f0 f1 f2
  obtain ⟨⟨x0, x1, x2, -, -, -⟩, y0, y1, y2⟩ := Rr.facts HN.out HB7.out HX7.out HK.out HIB.out.1 HIB.out.2 HY.out
  have hs2 := HS2.out
  go_region_held3 (fun w' => w'.cell? ⟨g, 0, none⟩ = some (.slice (some ad) n c) ∧ w'.cell? ⟨g, 1, none⟩ = some (.int .i64 i) ∧ w'.cell? ⟨g, 2, none⟩ = some (.int .i64 (p + m)) ∧ w'.cell? (ad.add (i.toNat * 3)) = some (.int .i64 y.f0) ∧ w'.cell? ⟨(ad.add (i.toNat * 3)).block, (ad.add (i.toNat * 3)).off + 1, none⟩ = some (.int .i64 y.f1) ∧ w'.cell? ⟨(ad.add (i.toNat * 3)).block, (ad.add (i.toNat * 3)).off + 2, none⟩ = some (.string y.f2)) (first | (go_keep; done) | ((try dsimp only at *); go_split_ands; exact ⟨pw_cell_below hb (by assumption), pw_cell_below hb (by assumption), pw_cell_below hb (by assumption), pw_cell_below hb (by assumption), pw_cell_below hb (by assumption), pw_cell_below hb (by assumption)⟩)) (first | (go_at_call 52; refine (minuetref1_size.calls _ _ _ s2 _ hs2).mono ?_; rintro e w8 ⟨rfl, hb⟩))
  clear hs2
  have hb8 : Below w7.heap.size w7 w8 := below_step (Below.refl w7.heap.size w7).drew hb
  have BC8 := Aside0.mk ((hb8.block gc (blk_lt BC7.out)).trans BC7.out)
  have BR8 := Aside0.mk ((hb8.block gr (blk_lt BR7.out)).trans BR7.out)
  have HX8 := Aside0.mk ((hb8.block g (blk_lt HX7.out)).trans HX7.out)
  have HB8 := Aside0.mk (below_step HB7.out hb8)
  have HQ8 := Aside0.mk (HQ7.out.below hb8)
  clear BC7 BR7 HX7 HB7 HQ7 x0 x1 x2 y0 y1 y2 hb hb8
  obtain ⟨x0, x1, x2, f0, f1, f2⟩ := Rd.three HX8.out
  go_upto_region 7 with (fail)
  have BC9 : Aside0 (((w8.setCell ⟨g, 1, none⟩ (.int .i64 (i + 1))).setCell ⟨g, 2, none⟩ (.int .i64 0)).heap[gc]? = _) := ⟨((Below.heap_setCell _ _ _ _ (Ne.symm NG.out)).trans (Below.heap_setCell _ _ _ _ (Ne.symm NG.out))).trans BC8.out⟩
  have BR9 : Aside0 (((w8.setCell ⟨g, 1, none⟩ (.int .i64 (i + 1))).setCell ⟨g, 2, none⟩ (.int .i64 0)).heap[gr]? = _) := ⟨((Below.heap_setCell _ _ _ _ (Ne.symm rg)).trans (Below.heap_setCell _ _ _ _ (Ne.symm rg))).trans BR8.out⟩
  have HX9 : Aside0 (((w8.setCell ⟨g, 1, none⟩ (.int .i64 (i + 1))).setCell ⟨g, 2, none⟩ (.int .i64 0)).heap[g]? = some (.cells #[.slice (some ad) n c, .int .i64 (i + 1), .int .i64 0] 89 (0, 0))) := ⟨Rr.set1 (Rr.setb HX8.out _) _⟩
  have HB9 : Aside0 (Below w0.heap.size w0 ((w8.setCell ⟨g, 1, none⟩ (.int .i64 (i + 1))).setCell ⟨g, 2, none⟩ (.int .i64 0))) := ⟨(HB8.out.setCell hg _).setCell hg _⟩
  have HQ9 : Aside0 (Kept w ((w8.setCell ⟨g, 1, none⟩ (.int .i64 (i + 1))).setCell ⟨g, 2, none⟩ (.int .i64 0)) (fun k_ => k_ = g)) := ⟨(HQ8.out.setCell (p := ⟨g, 1, none⟩) (.inl rfl) _).setCell (p := ⟨g, 2, none⟩) (.inl rfl) _⟩
  generalize ((w8.setCell ⟨g, 1, none⟩ (.int .i64 (i + 1))).setCell ⟨g, 2, none⟩ (.int .i64 0)) = w9 at BC9 BR9 HX9 HB9 HQ9 ⊢
  clear BC8 BR8 HX8 HB8 HQ8 x0 x1 x2 f0 f1 f2
  obtain ⟨z0, z1, z2, z3, z4, z5⟩ := Rd.three BC9.out
  go_upto_region 10 with (fail)
  have BC10 : Aside0 ((w9.setCell ⟨gc, 1, none⟩ (.int .i64 m)).heap[gc]? = some (.cells #[.int .i64 x.f0, .int .i64 m, .string x.f2] 37 (0, 0))) := ⟨(Rr.setb BC9.out _)⟩
  have BR10 : Aside0 ((w9.setCell ⟨gc, 1, none⟩ (.int .i64 m)).heap[gr]? = _) := ⟨(Below.heap_setCell _ _ _ _ NR.out).trans BR9.out⟩
  have HX10 : Aside0 ((w9.setCell ⟨gc, 1, none⟩ (.int .i64 m)).heap[g]? = _) := ⟨(Below.heap_setCell _ _ _ _ NG.out).trans HX9.out⟩
  have HB10 : Aside0 (Below w0.heap.size w0 (w9.setCell ⟨gc, 1, none⟩ (.int .i64 m))) := ⟨HB9.out.setCell (Nat.le_trans HB0.out.size GC.out) _⟩
  have HQ10 : Aside0 (Kept w (w9.setCell ⟨gc, 1, none⟩ (.int .i64 m)) (fun k_ => k_ = g)) := ⟨HQ9.out.setCell (.inr GC.out) _⟩
  generalize (w9.setCell ⟨gc, 1, none⟩ (.int .i64 m)) = w10 at BC10 BR10 HX10 HB10 HQ10 ⊢
  clear BC9 BR9 HX9 HB9 HQ9 z0 z1 z2 z3 z4 z5
  obtain ⟨z0, z1, z2, z3, z4, z5⟩ := Rd.three BC10.out
  obtain ⟨v0, v1, v2, v3, v4, v5⟩ := Rd.three BR10.out
  go_wp2
  have GW : w0.heap.size ≤ gr := Nat.le_trans HB0.out.size GR.out
  refine bodyPost_ret (results_cell_row rfl _ _ gr 37 #[.int .i64 x.f0, .int .i64 m, .string x.f2] (0, 0) _ rfl (Rd.set3 BR10.out) Try.underlying37 rfl (by kernel_rfl)) rfl ?_
  refine ⟨rfl, ⟨some ad, c, ?_, hg, HK.out⟩, ((HB10.out.setCell GW _).setCell GW _).setCell GW _, ((HQ10.out.setCell (.inr GR.out) _).setCell (.inr GR.out) _).setCell (.inr GR.out) _⟩
  rw [← HN.out]
  exact Rd.far3 HX10.out rg
set_option maxHeartbeats 4000000 in
theorem Rr.take_num_part (g : Nat) (cs : List (S37)) (i p k m s s2 : Int) (x y : S37) (w0 w : World) (hB : Below w0.heap.size w0 w) (h : IsRr w0 w g cs i p) (hj : Rr.peek cs i p = some (x, true)) (hi0 : 0 ≤ i) (hi : i < (cs.length : Int)) (hy : rd_T37 cs i = y) (hs : minuetref1_size.f x.f0 x.f1 x.f2 = some s) (hs2 : minuetref1_size.f y.f0 y.f1 y.f2 = some s2) (hm : Rr.mini k s = m)
    (hk : x.f0 ≠ 1) (h0 : 0 ≤ p) (h1 : 0 ≤ m) (h2 : p + m ≤ 1048576)  (he : ¬ s2 ≤ p + m) :
    Calls Try.prog 50 #[.pointer (some ⟨g, 0, none⟩), .int .i64 k] w fun e w' => e = .returned (.agg #[.int .i64 x.f0, .int .i64 m, .string x.f2]) ∧ IsRr w0 w' g cs i (p + m) ∧ Below w0.heap.size w0 w' ∧ Kept w w' (fun k_ => k_ = g) := by
  have HW := Aside0.mk (Below.refl w.heap.size w)
  have HB0 := Aside0.mk hB
  have HI := Aside0.mk h
  obtain ⟨A, c, hb, hg, hK⟩ := h
  have HL := Aside0.mk (blk_lt hb)
  obtain ⟨ad, rfl, -⟩ := Rr.cells hB hK i hi0 hi
  have HIB := Aside0.mk (And.intro hi0 hi)
  have HY := Aside0.mk hy
  obtain ⟨n, hn⟩ : ∃ n, n = cs.length := ⟨_, rfl⟩
  have hmax : cs.length ≤ 9223372036854775807 := hK.2.1
  rw [← hn] at hb hi
  have HX := Aside0.mk hb
  have HN := Aside0.mk hn
  have HK := Aside0.mk hK
  have HJ := Aside0.mk hj
  have HS := Aside0.mk hs
  have HS2 := Aside0.mk hs2
  have HM := Aside0.mk hm
  have HE := Aside0.mk he
  have d2 := eq_true hi0
  have d3 := eq_true hi
  have d4 : decide (0 ≤ i) = true := decide_eq_true hi0
  have d5 : decide (i < (n : Int)) = true := decide_eq_true hi
  have d6 : (x.f0 == 1) = false := beq_eq_false_iff_ne.mpr hk
  have d7 : decide (s2 ≤ p + m) = false := decide_eq_false he
  have e0 : wrap64 (p + m) = p + m := by unfold wrap64; omega
  have e1 : IntKind.i64.wrap (p + m) = p + m := (i64_w _).trans e0
  have HP := Aside0.mk h0
  clear hb hK hB hk hi0 hi hy hn hj hs hs2 hm he h0 h2
  go_enter Try.func50, Try.ntmps50
  go_upto_region 2 with (first | ((with_reducible refine gate_dst (N := 4) rfl ?_); refine box_event ?hg (N := 4) ?hd (cs := #[.int .i64 0, .int .i64 0, .string (⟨#[]⟩ : ByteArray)]) (t := 37) ?hr ?_; (case hd => rfl); (case hg => rfl); (case hr => first | (go_simp; done) | (go_simp; rfl)); intro gr hgr w_ hbox hb; have BR := Aside0.mk hbox; have GR := Aside0.mk ((by rw [hgr]; exact Nat.le_refl _) : w.heap.size ≤ gr); have n0_ := Aside0.mk (below_step HW.out hb); have n1_ := Aside0.mk (HI.out.below hb); have n2_ := Aside0.mk ((hb.block g HL.out).trans HX.out); clear HW HI HX; have HW := n0_; have HI := n1_; have HX := n2_; clear n0_ n1_ n2_; clear hbox hb hgr) | ((with_reducible refine gate_callee (f := 48) rfl ?_); refine goesL_ (some 9) rfl rfl Try.func48 (by kernel_rfl) rfl #[.pointer (some ⟨g, 0, none⟩)] rfl (by (try simp only [List.map_toArray, List.map_cons, List.map_nil]); first | done | rfl) ?_; (with_reducible refine (Rr.peek_any g cs i p x true w0 _ (below_step HB0.out HW.out) HI.out HJ.out).mono ?_); rintro e w_ ⟨rfl, hb⟩; refine ⟨_, rfl, ?_⟩; have n0_ := Aside0.mk (below_step HW.out hb); have n1_ := Aside0.mk ((hb.block gr (blk_lt BR.out)).trans BR.out); have n2_ := Aside0.mk ((hb.block g (blk_lt HX.out)).trans HX.out); clear HW HI HX BR; have HW := n0_; have BR := n1_; have HX := n2_; clear n0_ n1_ n2_ hb) | ((with_reducible refine gate_dst (N := 5) rfl ?_); refine box_event ?hg (N := 5) ?hd (cs := #[.int .i64 0, .int .i64 0, .string (⟨#[]⟩ : ByteArray)]) (t := 37) ?hr ?_; (case hd => rfl); (case hg => rfl); (case hr => first | (go_simp; done) | (go_simp; rfl)); intro gc hgr w_ hbox hb; have BC := Aside0.mk hbox; have GC := Aside0.mk ((by rw [hgr]; exact HW.out.size) : w.heap.size ≤ gc); have nr := ((by rw [hgr]; exact Nat.ne_of_lt (blk_lt BR.out)) : gr ≠ gc); have ng := ((by rw [hgr]; exact Nat.ne_of_lt (blk_lt HX.out)) : g ≠ gc); have n0_ := Aside0.mk (below_step HW.out hb); have n1_ := Aside0.mk ((hb.block gr (blk_lt BR.out)).trans BR.out); have n2_ := Aside0.mk ((hb.block g (blk_lt HX.out)).trans HX.out); clear HW HX BR; have HW := n0_; have BR := n1_; have HX := n2_; clear n0_ n1_ n2_; obtain ⟨z0, z1, z2, z3, z4, z5⟩ := Rd.three BC.out; clear hbox hb hgr))
  have NR := Aside0.mk nr
  have NG := Aside0.mk ng
  have rg : g ≠ gr := Nat.ne_of_lt (Nat.lt_of_lt_of_le HL.out GR.out)
  have BC5 : Aside0 ((((w_.setCell ⟨gc, 0, none⟩ (.int .i64 x.f0)).setCell ⟨gc, 1, none⟩ (.int .i64 x.f1)).setCell ⟨gc, 2, none⟩ (.string x.f2)).heap[gc]? = some (.cells #[.int .i64 x.f0, .int .i64 x.f1, .string x.f2] 37 (0, 0))) := ⟨Rd.set3 BC.out⟩
  have BR5 : Aside0 ((((w_.setCell ⟨gc, 0, none⟩ (.int .i64 x.f0)).setCell ⟨gc, 1, none⟩ (.int .i64 x.f1)).setCell ⟨gc, 2, none⟩ (.string x.f2)).heap[gr]? = _) := ⟨Rd.far3 BR.out nr⟩
  have HX5 : Aside0 ((((w_.setCell ⟨gc, 0, none⟩ (.int .i64 x.f0)).setCell ⟨gc, 1, none⟩ (.int .i64 x.f1)).setCell ⟨gc, 2, none⟩ (.string x.f2)).heap[g]? = _) := ⟨Rd.far3 HX.out ng⟩
  have HW5 : Aside0 (Below w.heap.size w (((w_.setCell ⟨gc, 0, none⟩ (.int .i64 x.f0)).setCell ⟨gc, 1, none⟩ (.int .i64 x.f1)).setCell ⟨gc, 2, none⟩ (.string x.f2))) := ⟨((HW.out.setCell GC.out _).setCell GC.out _).setCell GC.out _⟩
  generalize (((w_.setCell ⟨gc, 0, none⟩ (.int .i64 x.f0)).setCell ⟨gc, 1, none⟩ (.int .i64 x.f1)).setCell ⟨gc, 2, none⟩ (.string x.f2)) = w5 at BC5 BR5 HX5 HW5 ⊢
  clear BC BR HX HW z0 z1 z2 z3 z4 z5
  obtain ⟨z0, z1, z2, z3, z4, z5⟩ := Rd.three BC5.out
  go_upto_region 3 with (first | ((with_reducible refine gate_callee (f := 52) rfl ?_); refine goesL_ (some 14) rfl rfl Try.func52 (by kernel_rfl) rfl #[.agg #[.int .i64 x.f0, .int .i64 x.f1, .string x.f2]] rfl (by (try simp only [List.map_toArray, List.map_cons, List.map_nil]); first | done | rfl) ?_; (with_reducible refine (minuetref1_size.calls x.f0 x.f1 x.f2 s _ HS.out).mono ?_); rintro e w6 ⟨rfl, hb⟩; refine ⟨_, rfl, ?_⟩; have BC6 := Aside0.mk ((hb.block gc (blk_lt BC5.out)).trans BC5.out); have BR6 := Aside0.mk ((hb.block gr (blk_lt BR5.out)).trans BR5.out); have HX6 := Aside0.mk ((hb.block g (blk_lt HX5.out)).trans HX5.out); have HW6 := Aside0.mk (below_step HW5.out hb); clear BC5 BR5 HX5 HW5 z0 z1 z2 z3 z4 z5 hb))
  rw [show (if s < k then s else k) = m from HM.out]
  obtain ⟨x0, x1, x2, f0, f1, f2⟩ := Rd.three HX6.out
  go_upto_region 4 with (fail)
  have BC7 : Aside0 ((w6.setCell ⟨g, 2, none⟩ (.int .i64 (p + m))).heap[gc]? = _) := ⟨(Below.heap_setCell _ _ _ _ (Ne.symm NG.out)).trans BC6.out⟩
  have BR7 : Aside0 ((w6.setCell ⟨g, 2, none⟩ (.int .i64 (p + m))).heap[gr]? = _) := ⟨(Below.heap_setCell _ _ _ _ (Ne.symm rg)).trans BR6.out⟩
  have HX7 : Aside0 ((w6.setCell ⟨g, 2, none⟩ (.int .i64 (p + m))).heap[g]? = some (.cells #[.slice (some ad) n c, .int .i64 i, .int .i64 (p + m)] 89 (0, 0))) := ⟨Rr.set1 HX6.out _⟩
  have HB7 : Aside0 (Below w0.heap.size w0 (w6.setCell ⟨g, 2, none⟩ (.int .i64 (p + m)))) := ⟨(below_step HB0.out HW6.out).setCell hg _⟩
  have HQ7 : Aside0 (Kept w (w6.setCell ⟨g, 2, none⟩ (.int .i64 (p + m))) (fun k_ => k_ = g)) := ⟨(Kept.of_below HW6.out (fun k_ => k_ = g)).setCell (p := ⟨g, 2, none⟩) (.inl rfl) _⟩
  generalize (w6.setCell ⟨g, 2, none⟩ (.int .i64 (p + m))) = w7 at BC7 BR7 HX7 HB7 HQ7 ⊢
  clear BC6 BR6 HX6 HW6 x0 x1 x2 f0 f1 f2
  obtain ⟨⟨x0, x1, x2, -, -, -⟩, y0, y1, y2⟩ := Rr.facts HN.out HB7.out HX7.out HK.out HIB.out.1 HIB.out.2 HY.out
  have hs2 := HS2.out
  go_region_held3 (fun w' => w'.cell? ⟨g, 0, none⟩ = some (.slice (some ad) n c) ∧ w'.cell? ⟨g, 1, none⟩ = some (.int .i64 i) ∧ w'.cell? ⟨g, 2, none⟩ = some (.int .i64 (p + m)) ∧ w'.cell? (ad.add (i.toNat * 3)) = some (.int .i64 y.f0) ∧ w'.cell? ⟨(ad.add (i.toNat * 3)).block, (ad.add (i.toNat * 3)).off + 1, none⟩ = some (.int .i64 y.f1) ∧ w'.cell? ⟨(ad.add (i.toNat * 3)).block, (ad.add (i.toNat * 3)).off + 2, none⟩ = some (.string y.f2)) (first | (go_keep; done) | ((try dsimp only at *); go_split_ands; exact ⟨pw_cell_below hb (by assumption), pw_cell_below hb (by assumption), pw_cell_below hb (by assumption), pw_cell_below hb (by assumption), pw_cell_below hb (by assumption), pw_cell_below hb (by assumption)⟩)) (first | (go_at_call 52; refine (minuetref1_size.calls _ _ _ s2 _ hs2).mono ?_; rintro e w8 ⟨rfl, hb⟩))
  clear hs2
  have hb8 : Below w7.heap.size w7 w8 := below_step (Below.refl w7.heap.size w7).drew hb
  have BC8 := Aside0.mk ((hb8.block gc (blk_lt BC7.out)).trans BC7.out)
  have BR8 := Aside0.mk ((hb8.block gr (blk_lt BR7.out)).trans BR7.out)
  have HX8 := Aside0.mk ((hb8.block g (blk_lt HX7.out)).trans HX7.out)
  have HB8 := Aside0.mk (below_step HB7.out hb8)
  have HQ8 := Aside0.mk (HQ7.out.below hb8)
  clear BC7 BR7 HX7 HB7 HQ7 x0 x1 x2 y0 y1 y2 hb hb8
  obtain ⟨z0, z1, z2, z3, z4, z5⟩ := Rd.three BC8.out
  go_upto_region 10 with (fail)
  have BC10 : Aside0 ((w8.setCell ⟨gc, 1, none⟩ (.int .i64 m)).heap[gc]? = some (.cells #[.int .i64 x.f0, .int .i64 m, .string x.f2] 37 (0, 0))) := ⟨(Rr.setb BC8.out _)⟩
  have BR10 : Aside0 ((w8.setCell ⟨gc, 1, none⟩ (.int .i64 m)).heap[gr]? = _) := ⟨(Below.heap_setCell _ _ _ _ NR.out).trans BR8.out⟩
  have HX10 : Aside0 ((w8.setCell ⟨gc, 1, none⟩ (.int .i64 m)).heap[g]? = _) := ⟨(Below.heap_setCell _ _ _ _ NG.out).trans HX8.out⟩
  have HB10 : Aside0 (Below w0.heap.size w0 (w8.setCell ⟨gc, 1, none⟩ (.int .i64 m))) := ⟨HB8.out.setCell (Nat.le_trans HB0.out.size GC.out) _⟩
  have HQ10 : Aside0 (Kept w (w8.setCell ⟨gc, 1, none⟩ (.int .i64 m)) (fun k_ => k_ = g)) := ⟨HQ8.out.setCell (.inr GC.out) _⟩
  generalize (w8.setCell ⟨gc, 1, none⟩ (.int .i64 m)) = w10 at BC10 BR10 HX10 HB10 HQ10 ⊢
  clear BC8 BR8 HX8 HB8 HQ8 z0 z1 z2 z3 z4 z5
  obtain ⟨z0, z1, z2, z3, z4, z5⟩ := Rd.three BC10.out
  obtain ⟨v0, v1, v2, v3, v4, v5⟩ := Rd.three BR10.out
  go_wp2
  have GW : w0.heap.size ≤ gr := Nat.le_trans HB0.out.size GR.out
  refine bodyPost_ret (results_cell_row rfl _ _ gr 37 #[.int .i64 x.f0, .int .i64 m, .string x.f2] (0, 0) _ rfl (Rd.set3 BR10.out) Try.underlying37 rfl (by kernel_rfl)) rfl ?_
  refine ⟨rfl, ⟨some ad, c, ?_, hg, HK.out⟩, ((HB10.out.setCell GW _).setCell GW _).setCell GW _, ((HQ10.out.setCell (.inr GR.out) _).setCell (.inr GR.out) _).setCell (.inr GR.out) _⟩
  rw [← HN.out]
  exact Rd.far3 HX10.out rg
def Rr.take (cs : List (S37)) (i p k : Int) : Option (S37 × Int × Int) :=
  (Rr.peek cs i p).bind fun x => if x.2 = true then (minuetref1_size.f x.1.f0 x.1.f1 x.1.f2).bind fun s => (minuetref1_size.f (rd_T37 cs i).f0 (rd_T37 cs i).f1 (rd_T37 cs i).f2).bind fun s2 =>
    if 0 ≤ p ∧ 0 ≤ Rr.mini k s ∧ p + Rr.mini k s ≤ 1048576 ∧ (x.1.f0 = 1 → Rr.mini k s ≤ (x.1.f2.size : Int)) then
      some ((if x.1.f0 = 1 then ⟨x.1.f0, x.1.f1, x.1.f2.extract 0 (Rr.mini k s).toNat⟩ else ⟨x.1.f0, Rr.mini k s, x.1.f2⟩), if s2 ≤ p + Rr.mini k s then (i + 1, 0) else (i, p + Rr.mini k s))
    else none else none
theorem Rr.peek_in {cs : List (S37)} {i p : Int} {x : S37} (h : Rr.peek cs i p = some (x, true)) : 0 ≤ i ∧ i < (cs.length : Int) := by
  unfold Rr.peek at h
  by_cases h1 : (cs.length : Int) ≤ i
  · rw [if_pos h1] at h; simp at h
  · rw [if_neg h1] at h
    by_cases h2 : 0 ≤ i
    · exact ⟨h2, by omega⟩
    · rw [if_neg h2] at h; cases h
theorem Rr.take_any (g : Nat) (cs : List (S37)) (i p k : Int) (x : S37) (i' p' : Int) (w0 w : World) (hB : Below w0.heap.size w0 w) (h : IsRr w0 w g cs i p) (hj : Rr.take cs i p k = some (x, i', p')) :
    Calls Try.prog 50 #[.pointer (some ⟨g, 0, none⟩), .int .i64 k] w fun e w' => e = .returned (.agg #[.int .i64 x.f0, .int .i64 x.f1, .string x.f2]) ∧ IsRr w0 w' g cs i' p' ∧ Below w0.heap.size w0 w' ∧ Kept w w' (fun k_ => k_ = g) := by
  unfold Rr.take at hj
  obtain ⟨⟨z, b⟩, hp, hj⟩ := Option.bind_eq_some_iff.mp hj
  cases b with
  | false => simp at hj
  | true =>
    simp only [if_true] at hj
    obtain ⟨s, hs, hj⟩ := Option.bind_eq_some_iff.mp hj
    obtain ⟨s2, hs2, hj⟩ := Option.bind_eq_some_iff.mp hj
    obtain ⟨hi0, hi⟩ := Rr.peek_in hp
    by_cases hc : 0 ≤ p ∧ 0 ≤ Rr.mini k s ∧ p + Rr.mini k s ≤ 1048576 ∧ (z.f0 = 1 → Rr.mini k s ≤ (z.f2.size : Int))
    · rw [if_pos hc] at hj
      obtain ⟨h0, h1, h2, h3⟩ := hc
      by_cases e1 : z.f0 = 1
      · rw [if_pos e1] at hj
        by_cases e2 : s2 ≤ p + Rr.mini k s
        · rw [if_pos e2] at hj
          simp only [Option.some.injEq, Prod.mk.injEq] at hj
          obtain ⟨rfl, rfl, rfl⟩ := hj
          exact Rr.take_put g cs i p k _ s s2 z _ w0 w hB h hp hi0 hi rfl hs hs2 rfl e1 h0 h1 h2 (h3 e1) e2
        · rw [if_neg e2] at hj
          simp only [Option.some.injEq, Prod.mk.injEq] at hj
          obtain ⟨rfl, rfl, rfl⟩ := hj
          exact Rr.take_put_part g cs i p k _ s s2 z _ w0 w hB h hp hi0 hi rfl hs hs2 rfl e1 h0 h1 h2 (h3 e1) e2
      · rw [if_neg e1] at hj
        by_cases e2 : s2 ≤ p + Rr.mini k s
        · rw [if_pos e2] at hj
          simp only [Option.some.injEq, Prod.mk.injEq] at hj
          obtain ⟨rfl, rfl, rfl⟩ := hj
          exact Rr.take_num g cs i p k _ s s2 z _ w0 w hB h hp hi0 hi rfl hs hs2 rfl e1 h0 h1 h2 e2
        · rw [if_neg e2] at hj
          simp only [Option.some.injEq, Prod.mk.injEq] at hj
          obtain ⟨rfl, rfl, rfl⟩ := hj
          exact Rr.take_num_part g cs i p k _ s s2 z _ w0 w hB h hp hi0 hi rfl hs hs2 rfl e1 h0 h1 h2 e2
    · rw [if_neg hc] at hj; cases hj
end Go.Proofs.Ytldaokclpkcmmab.G
