-- Laid by this session's own program gprint.py (wip/tools), out of the kit's print and of texts of this session. Lean checks it.
import Derived.Test.YtldaokclpkcmmaaGx0
import Derived.Test.YtldaokclpkcmmaaGZ0
import Derived.Test.YtldaokclpkcmmaaBld
namespace Go.Proofs.Ytldaokclpkcmmaa.G
open Go.RowKit Go.Proofs.YtldaokclpkcmmaaW.PrintWords Go.Proofs.YtldaokclpkcmmaaW.PrintLast Go.Proofs.YtldaokclpkcmmaaW.PrintMore
attribute [local go_sem] max2_int min2_int max_two min_two max_three min_three max_four min_four   -- for this text's walks alone
set_option linter.unusedVariables false
set_option linter.unusedSimpArgs false

/-! ### apply_Apply: function 22 -/
def apply_Apply.go : ByteArray → ByteArray → List (S31) → Option ByteArray
 | out, _, [] => some out
 | out, s, c :: r => if 0 ≤ c.f1 ∧ c.f1 ≤ (s.size : Int) ∧ (out.size : Int) + c.f1 + (c.f2.size : Int) ≤ 140737488355328 then apply_Apply.go (out ++ (if c.f0 = 0 then s.extract 0 c.f1.toNat else ⟨#[]⟩) ++ c.f2) (s.extract c.f1.toNat s.size) r else none
def apply_Apply.f (k : Nat) (a0 : ByteArray) (l1 : List (S31)) : Option (ByteArray × Int) := (comp_Lengths.f k l1).bind fun t => if t.2.2 = 0 then (if t.1 = (a0.size : Int) then (apply_Apply.go ⟨#[]⟩ a0 l1).bind fun o => some (o, 0) else some (⟨#[]⟩, 300)) else some (⟨#[]⟩, 300)
theorem apply_Apply.mono : ∀ a0 l1 k, LeO (apply_Apply.f k a0 l1) (apply_Apply.f (k + 1) a0 l1) := by
 intro a0 l1 k; unfold apply_Apply.f; exact LeO.bind (comp_Lengths.mono _ _) (fun _ => LeO.refl _)
theorem apply_Apply.bldF_below {T e : TypeId} {B b : Nat} {bs : List Value} {w w1 : World} (h : Lib.IsBuilderF T e B b bs w) (hb : Below w.heap.size w w1) : Lib.IsBuilderF T e B b bs w1 := by
 have key : ∀ p, Lib.BuilderAtF T e B b p bs w → Lib.BuilderAtF T e B b p bs w1 := by
  rintro p ⟨hB, v, hbk, hown, hne⟩
  refine ⟨hB, v, (hb.block b (blk_lt hbk)).trans hbk, ⟨hown.1, ?_⟩, hne⟩
  rcases hown.2 with hn | ⟨g, cap, cur, fz, hv, hbg, hg, rest⟩
  · exact .inl hn
  · exact .inr ⟨g, cap, cur, fz, hv, hbg, (hb.block g (blk_lt hg)).trans hg, rest⟩
 rcases h with h | h
 · exact .inl (key _ h)
 · exact .inr (key _ h)
theorem apply_Apply.set3 {w : World} {g t : Nat} {a b c x y z : Value} (h : w.heap[g]? = some (.cells #[a, b, c] t (0, 0))) :
 (((w.setCell ⟨g, 0, none⟩ x).setCell ⟨g, 1, none⟩ y).setCell ⟨g, 2, none⟩ z).heap[g]? = some (.cells #[x, y, z] t (0, 0)) :=
 (blk_set (blk_set (blk_set h 0 x) 1 y) 2 z).trans rfl
theorem apply_Apply.str_byte (s : ByteArray) : Lib.strCells s = Lib.byteCells s.data.toList := rfl
theorem apply_Apply.cells_app (l : ByteArray) (s : ByteArray) : Lib.byteCells l.data.toList ++ Lib.strCells s = Lib.byteCells (l ++ s).data.toList := by
 rw [ByteArray.data_append, Array.toList_append]
 simp [Lib.strCells, Lib.byteCells]
theorem apply_Apply.bldF_set {T e : TypeId} {B b gc : Nat} {bs : List Value} {w w1 : World} (h : Lib.IsBuilderF T e B b bs w) (hb : Below w.heap.size w w1) (hg : w.heap.size ≤ gc) (x y z : Value) : Lib.IsBuilderF T e B b bs (((w1.setCell ⟨gc, 0, none⟩ x).setCell ⟨gc, 1, none⟩ y).setCell ⟨gc, 2, none⟩ z) :=
 apply_Apply.bldF_below h (((hb.setCell hg _).setCell hg _).setCell hg _)
theorem apply_Apply.bld_lt {T e : TypeId} {B b gc : Nat} {bs : List Value} {w : World} (h : Lib.IsBuilderF T e B b bs w) (hg : w.heap.size ≤ gc) : b < gc := by
 have key : ∀ p, Lib.BuilderAtF T e B b p bs w → b < gc := by
  rintro p ⟨_, v, hbk, _⟩
  exact Nat.lt_of_lt_of_le (blk_lt hbk) hg
 rcases h with h | h
 · exact key _ h
 · exact key _ h
theorem apply_Apply.bound1 {out s t : ByteArray} {n : Int} (h : 0 ≤ n ∧ n ≤ (s.size : Int) ∧ (out.size : Int) + n + (t.size : Int) ≤ 140737488355328) : (Lib.byteCells out.data.toList).length + (s.extract 0 n.toNat).size ≤ 140737488355328 := by
 rw [Lib.byteCells_length, Array.length_toList, ByteArray.size_extract]
 have : out.data.size = out.size := rfl
 omega
theorem apply_Apply.bound2 {out s t : ByteArray} {n : Int} (h : 0 ≤ n ∧ n ≤ (s.size : Int) ∧ (out.size : Int) + n + (t.size : Int) ≤ 140737488355328) : (Lib.byteCells (out ++ s.extract 0 n.toNat).data.toList).length + t.size ≤ 140737488355328 := by
 rw [Lib.byteCells_length, Array.length_toList]
 have : (out ++ s.extract 0 n.toNat).data.size = out.size + (s.extract 0 n.toNat).size := by show (out ++ s.extract 0 n.toNat).size = _; rw [ByteArray.size_append]
 rw [ByteArray.size_extract] at this
 omega
theorem apply_Apply.bound3 {out s t : ByteArray} {n : Int} (h : 0 ≤ n ∧ n ≤ (s.size : Int) ∧ (out.size : Int) + n + (t.size : Int) ≤ 140737488355328) : (Lib.byteCells out.data.toList).length + t.size ≤ 140737488355328 := by
 rw [Lib.byteCells_length, Array.length_toList]
 have : out.data.size = out.size := rfl
 omega
set_option maxHeartbeats 8000000 in
set_option maxRecDepth 100000 in
theorem apply_Apply.calls (k : Nat) (a0 : ByteArray) (A1 : Option Addr) (c1 : Nat) (l1 : List (S31)) (r1 : ByteArray) (r2 : Int) (w : World) (hr1 : Kd.C k31 w A1 l1.length l1) (hc1 : l1.length ≤ c1) (h : apply_Apply.f k a0 l1 = some (r1, r2)) :
 Calls Try.prog 22 #[.string a0, .slice A1 l1.length c1] w fun e w' => e = .returned (.tuple #[.string r1, .int .i64 r2]) ∧ Below w.heap.size w w' := by
 have HR1 := Aside0.mk hr1
 have HC1 := Aside0.mk hc1
 clear hr1 hc1
 have HB := Aside0.mk (Below.refl w.heap.size w)
 unfold apply_Apply.f at h
 have H := Option.bind_eq_some_iff.mp h
 clear h
 obtain ⟨⟨t1, t2, t3⟩, A40, H⟩ := H
 simp only at H
 have A4 := Aside0.mk A40
 clear A40
 by_cases c5 : t3 = 0
 · rw [if_pos c5] at H
   subst c5
   by_cases c6 : t1 = (a0.size : Int)
   · rw [if_pos c6] at H
     have c6b0 : (t1 == (a0.size : Int)) = true := beq_iff_eq.mpr c6
     have c6b1 : (t1 != (a0.size : Int)) = false := bne_eq_false_iff_eq.mpr c6
     clear c6
     have H := Option.bind_eq_some_iff.mp H
     obtain ⟨o, HG, H⟩ := H
     have HG := Aside0.mk HG
     simp only [Option.some.injEq, Prod.mk.injEq] at H
     obtain ⟨rfl, rfl⟩ := H
     go_enter Try.func22, Try.ntmps22
     go_wp2_with (first | ((with_reducible refine gate_callee (f := 39) rfl ?_); refine goesL_ (some 14) rfl rfl Try.func39 (by kernel_rfl) rfl #[.slice A1 l1.length c1] rfl (by (try simp only [List.map_toArray, List.map_cons, List.map_nil]); first | done | rfl) ?_; (with_reducible refine (comp_Lengths.calls k _ _ l1 t1 t2 0 _ ?side1 ?side2 A4.out).mono ?_); (case side1 => repeat (first | exact HR1.out | (with_reducible refine Kd.C_alloc ?_ _) | (with_reducible refine Kd.C_drewN ?_ _) | (with_reducible refine Kd.C_drew ?_))); (case side2 => exact HC1.out); rintro e w6 ⟨rfl, hb⟩; refine ⟨_, rfl, ?_⟩; have n0_ := Aside0.mk (below_step (by repeat (first | (with_reducible first | exact HB.out | apply below_alloc | apply pw_below_drewN | apply below_drew1) | exact HB.out)) hb); clear HB; have HB := n0_; clear n0_; (try clear hb)) | ((with_reducible refine gate_dst (N := 9) rfl ?_); refine box_event ?hg (N := 9) ?hd (cs := #[.pointer none, .slice none 0 0]) (t := 67) ?hr ?_; (case hd => rfl); (case hg => rfl); (case hr => first | (go_simp; done) | (go_simp; rfl)); intro gb hg w7 hbox hb; have n0_ := Aside0.mk (below_step (by repeat (first | (with_reducible first | exact HB.out | apply below_alloc | apply pw_below_drewN | apply below_drew1) | exact HB.out)) hb); have n1_ := Aside0.mk ((by rw [hg]; exact (below_size (by repeat (first | (with_reducible first | exact HB.out | apply below_alloc | apply pw_below_drewN | apply below_drew1) | exact HB.out))) : w.heap.size ≤ gb)); have n2_ : Aside0 (Lib.IsBuilderF 67 5 w.heap.size gb (Lib.byteCells (⟨#[]⟩ : ByteArray).data.toList) w7) := ⟨.inl ⟨n1_.out, .slice none 0 0, hbox, World.ownsRowF_nil _ _ _ _, by simp [Value.ownBlock]⟩⟩; clear HB; have HB := n0_; have GE := n1_; have HI := n2_; clear n0_ n1_ n2_ hb hbox hg))
     go_loopg [0, 28] l1.length (fun gk v0 v28 w' => ∃ (x : Int) (pre suf : List (S31)) (s out : ByteArray), v0 = .string s ∧ v28 = .int .i64 x ∧ Aside0 (x = (pre.length : Int)) ∧ Aside0 (l1 = pre ++ suf) ∧ Aside0 (apply_Apply.go out s suf = some o) ∧ Aside0 (suf.length = gk) ∧ Aside0 (Lib.IsBuilderF 67 5 w.heap.size gb (Lib.byteCells out.data.toList) w') ∧ Aside0 (Below w.heap.size w w'))
     case atStart => exact ⟨0, [], l1, a0, ⟨#[]⟩, rfl, rfl, ⟨rfl⟩, ⟨rfl⟩, HG, ⟨rfl⟩, ⟨HI.out⟩, ⟨by repeat (first | (with_reducible first | exact HB.out | apply below_alloc | apply pw_below_drewN | apply below_drew1) | exact HB.out)⟩⟩
     case round =>
      obtain ⟨x, pre, suf, s, out, rfl, rfl, HX, HL, HG, HN, HI, HB⟩ := hrel
      cases suf with
      | nil =>
       have c8 : decide (x < (l1.length : Int)) = false := by
        have h1 := HX.out; have h2 := HL.out; rw [h2, h1]; simp
       have HO : out = o := Option.some.inj HG.out
       clear HG
       subst HO
       go_wp2_with (first | ((with_reducible refine gate_callee (f := 45) rfl ?_); refine goesL_ (some 48) rfl rfl Try.func45 (by kernel_rfl) rfl #[.pointer (some ⟨gb, 0, none⟩)] rfl (by (try simp only [List.map_toArray, List.map_cons, List.map_nil]); first | done | rfl) ?_; ((with_reducible refine (Bld.string_any w.heap.size gb out.data.toList _ HI.out HB.out.size).mono ?_)); rintro e w8 ⟨rfl, _, hb, _⟩; refine ⟨_, rfl, ?_⟩; have n0_ := Aside0.mk (HB.out.trans hb); clear HB; have HB := n0_; clear n0_; (try clear hb)))
       go_ret2
       exact ⟨rfl, by repeat (first | (with_reducible first | exact HB.out | apply below_alloc | apply pw_below_drewN | apply below_drew1) | exact HB.out)⟩
      | cons c suf =>
       have c8 : decide (x < (l1.length : Int)) = true := by
        have h1 := HX.out; have h2 := HL.out; rw [h2, h1]; simp; omega
       have c9 : decide (0 ≤ x) = true := by have h1 := HX.out; rw [h1]; simp
       have HGG := HG.out
       clear HG
       unfold apply_Apply.go at HGG
       by_cases cg : 0 ≤ c.f1 ∧ c.f1 ≤ (s.size : Int) ∧ (out.size : Int) + c.f1 + (c.f2.size : Int) ≤ 140737488355328
       · rw [if_pos cg] at HGG
         have HG := Aside0.mk HGG
         clear HGG
         have HD := Aside0.mk cg
         have c10 := eq_true cg.1
         have c11 : decide (0 ≤ c.f1) = true := decide_eq_true cg.1
         have c12 := eq_true cg.2.1
         have c13 : decide (c.f1 ≤ (s.size : Int)) = true := decide_eq_true cg.2.1
         clear cg
         have p1 : 0 ≤ (x : Int) := of_decide_eq_true c9
         have q1 : x < (l1.length : Int) := of_decide_eq_true c8
         have hrd : rd_T31 l1 x = c := by
          have h1 := HX.out; have h2 := HL.out; rw [h2, h1]; simp [rd_T31]
         obtain ⟨ad1, e1, hx1_0, hx1_1, hx1_2⟩ := at_T31 HR1.out x p1 q1
         cases e1
         rw [hrd] at hx1_0 hx1_1 hx1_2
         clear hrd
         replace hx1_0 := (HB.out.cell (World.block_lt_of_cell? w _ hx1_0)).trans hx1_0
         replace hx1_1 := (HB.out.cell (World.block_lt_of_cell? w _ hx1_1)).trans hx1_1
         replace hx1_2 := (HB.out.cell (World.block_lt_of_cell? w _ hx1_2)).trans hx1_2
         replace p1 := eq_true p1
         replace q1 := eq_true q1
         have en : wrap64 (x + 1) = ((pre ++ [c]).length : Int) := by
          have h1 := HX.out; have h2 := HL.out
          have h3 : l1.length ≤ 9223372036854775807 := HR1.out.2.1
          rw [h2] at h3; simp only [List.length_append, List.length_cons] at h3
          rw [h1]; simp only [List.length_append, List.length_cons, List.length_nil]; unfold wrap64; omega
         have EN := Aside0.mk en
         clear en
         by_cases c14 : c.f0 = 0
         · have c14b0 : (c.f0 == 0) = true := beq_iff_eq.mpr c14
           have c14b1 : (c.f0 != 0) = false := bne_eq_false_iff_eq.mpr c14
           have HZ := Aside0.mk c14
           clear c14
           go_wp2_with (first | ((with_reducible refine gate_dst (N := 11) rfl ?_); refine box_event ?hg (N := 11) ?hd (cs := #[.int .i64 0, .int .i64 0, .string (⟨#[]⟩ : ByteArray)]) (t := 31) ?hr ?_; (case hd => rfl); (case hg => rfl); (case hr => first | (go_simp; done) | (go_simp; rfl)); intro gc hg w7 hbox hb; have n0_ := Aside0.mk (below_step (by repeat (first | (with_reducible first | exact HB.out | apply below_alloc | apply pw_below_drewN | apply below_drew1) | exact HB.out)) hb); have n1_ := Aside0.mk ((by rw [hg]; exact (below_size (by repeat (first | (with_reducible first | exact HB.out | apply below_alloc | apply pw_below_drewN | apply below_drew1) | exact HB.out)))) : w.heap.size ≤ gc); have n2_ := Aside0.mk (apply_Apply.bldF_set HI.out hb (Nat.le_of_eq hg.symm)); have n3_ := Aside0.mk (apply_Apply.bld_lt HI.out (Nat.le_of_eq hg.symm)); have n4_ := Aside0.mk (fun a b c => apply_Apply.set3 (x := a) (y := b) (z := c) hbox); have hcz0 : w7.cell? ⟨gc, 0, none⟩ = some (.int .i64 0) := (blk_cell hbox 0).trans rfl; have hcz1 : w7.cell? ⟨gc, 1, none⟩ = some (.int .i64 0) := (blk_cell hbox 1).trans rfl; have hcz2 : w7.cell? ⟨gc, 2, none⟩ = some (.string (⟨#[]⟩ : ByteArray)) := (blk_cell hbox 2).trans rfl; have hfz0 := blk_frozen hbox 0; have hfz1 := blk_frozen hbox 1; have hfz2 := blk_frozen hbox 2; clear HB HI; have HB := n0_; have GC := n1_; have HI := n2_; have GL := n3_; have BK := n4_; clear n0_ n1_ n2_ n3_ n4_ hb hbox hg) | ((with_reducible refine gate_callee (f := 44) rfl ?_); refine goesL_ (some 39) rfl rfl Try.func44 (by kernel_rfl) rfl #[.pointer (some ⟨gb, 0, none⟩), .string (s.extract 0 c.f1.toNat)] rfl (by (try simp only [List.map_toArray, List.map_cons, List.map_nil]); first | done | rfl) ?_; ((with_reducible refine (Bld.writeString w.heap.size gb _ (s.extract 0 c.f1.toNat) _ (HI.out _ _ _) ?side1 ?side2).mono ?_)); (case side1 => exact apply_Apply.bound1 HD.out); (case side2 => exact below_size (by repeat (first | (with_reducible first | exact HB.out | apply below_alloc | apply pw_below_drewN | apply below_drew1 | refine below_set ?_ GC.out) | exact HB.out))); rintro e w8 ⟨rfl, hbld, hb, hok⟩; refine ⟨_, rfl, ?_⟩; have n0_ := Aside0.mk (Below.trans (by repeat (first | (with_reducible first | exact HB.out | apply below_alloc | apply pw_below_drewN | apply below_drew1 | refine below_set ?_ GC.out) | exact HB.out)) hb); have n1_ : Aside0 (Lib.IsBuilderF 67 5 w.heap.size gb (Lib.byteCells (out ++ s.extract 0 c.f1.toNat).data.toList) w8) := ⟨by have h := hbld; rw [apply_Apply.cells_app] at h; exact .inr h⟩; have n2_ : Aside0 (w8.heap[gc]? = some (.cells #[.int .i64 c.f0, .int .i64 c.f1, .string c.f2] 31 (0, 0))) := ⟨hok gc _ (BK.out _ _ _) (fun e_ => by have := GL.out; injection e_ with e_; omega) (fun cc fz h_ => by injection h_ with _ h_ _; revert h_; decide)⟩; clear hcz0 hcz1 hcz2 hfz0 hfz1 hfz2; have hcz0 : w8.cell? ⟨gc, 0, none⟩ = some (.int .i64 c.f0) := (blk_cell n2_.out 0).trans rfl; have hcz1 : w8.cell? ⟨gc, 1, none⟩ = some (.int .i64 c.f1) := (blk_cell n2_.out 1).trans rfl; have hcz2 : w8.cell? ⟨gc, 2, none⟩ = some (.string c.f2) := (blk_cell n2_.out 2).trans rfl; have hfz0 := blk_frozen n2_.out 0; have hfz1 := blk_frozen n2_.out 1; have hfz2 := blk_frozen n2_.out 2; clear HB HI BK; have HB := n0_; have HI := n1_; have BK := n2_; clear n0_ n1_ n2_ hbld hb hok) | ((with_reducible refine gate_callee (f := 44) rfl ?_); refine goesL_ (some 42) rfl rfl Try.func44 (by kernel_rfl) rfl #[.pointer (some ⟨gb, 0, none⟩), .string (c.f2)] rfl (by (try simp only [List.map_toArray, List.map_cons, List.map_nil]); first | done | rfl) ?_; ((with_reducible refine (Bld.writeString w.heap.size gb _ (c.f2) _ (HI.out) ?side1 ?side2).mono ?_)); (case side1 => exact apply_Apply.bound2 HD.out); (case side2 => exact below_size (by repeat (first | (with_reducible first | exact HB.out | apply below_alloc | apply pw_below_drewN | apply below_drew1) | exact HB.out))); rintro e w8 ⟨rfl, hbld, hb, hok⟩; refine ⟨_, rfl, ?_⟩; have n0_ := Aside0.mk (Below.trans (by repeat (first | (with_reducible first | exact HB.out | apply below_alloc | apply pw_below_drewN | apply below_drew1) | exact HB.out)) hb); have n1_ : Aside0 (Lib.IsBuilderF 67 5 w.heap.size gb (Lib.byteCells (out ++ s.extract 0 c.f1.toNat ++ c.f2).data.toList) w8) := ⟨by have h := hbld; rw [apply_Apply.cells_app] at h; exact .inr h⟩; have n2_ : Aside0 (w8.heap[gc]? = some (.cells #[.int .i64 c.f0, .int .i64 c.f1, .string c.f2] 31 (0, 0))) := ⟨hok gc _ (BK.out) (fun e_ => by have := GL.out; injection e_ with e_; omega) (fun cc fz h_ => by injection h_ with _ h_ _; revert h_; decide)⟩; clear hcz0 hcz1 hcz2 hfz0 hfz1 hfz2; have hcz0 : w8.cell? ⟨gc, 0, none⟩ = some (.int .i64 c.f0) := (blk_cell n2_.out 0).trans rfl; have hcz1 : w8.cell? ⟨gc, 1, none⟩ = some (.int .i64 c.f1) := (blk_cell n2_.out 1).trans rfl; have hcz2 : w8.cell? ⟨gc, 2, none⟩ = some (.string c.f2) := (blk_cell n2_.out 2).trans rfl; have hfz0 := blk_frozen n2_.out 0; have hfz1 := blk_frozen n2_.out 1; have hfz2 := blk_frozen n2_.out 2; clear HB HI BK; have HB := n0_; have HI := n1_; have BK := n2_; clear n0_ n1_ n2_ hbld hb hok))
           go_roundg suf.length
           case measure => have := HN.out; simp only [List.length_cons] at this; omega
           case rel =>
            refine ⟨wrap64 (x + 1), pre ++ [c], suf, s.extract c.f1.toNat s.size, out ++ s.extract 0 c.f1.toNat ++ c.f2, (by first | rfl | (simp; done) | (simp [*]; done)), (by first | rfl | (simp; done) | (simp [*]; done)), EN, ⟨by rw [HL.out]; simp⟩, ⟨?_⟩, ⟨rfl⟩, ⟨?_⟩, ⟨by repeat (first | (with_reducible first | exact HB.out | apply below_alloc | apply pw_below_drewN | apply below_drew1) | exact HB.out)⟩⟩
            · have h := HG.out; rw [if_pos HZ.out] at h; exact h
            · exact HI.out
         · have c14b0 : (c.f0 == 0) = false := beq_eq_false_iff_ne.mpr c14
           have c14b1 : (c.f0 != 0) = true := bne_iff_ne.mpr c14
           have HZ := Aside0.mk c14
           clear c14
           go_wp2_with (first | ((with_reducible refine gate_dst (N := 11) rfl ?_); refine box_event ?hg (N := 11) ?hd (cs := #[.int .i64 0, .int .i64 0, .string (⟨#[]⟩ : ByteArray)]) (t := 31) ?hr ?_; (case hd => rfl); (case hg => rfl); (case hr => first | (go_simp; done) | (go_simp; rfl)); intro gc hg w7 hbox hb; have n0_ := Aside0.mk (below_step (by repeat (first | (with_reducible first | exact HB.out | apply below_alloc | apply pw_below_drewN | apply below_drew1) | exact HB.out)) hb); have n1_ := Aside0.mk ((by rw [hg]; exact (below_size (by repeat (first | (with_reducible first | exact HB.out | apply below_alloc | apply pw_below_drewN | apply below_drew1) | exact HB.out)))) : w.heap.size ≤ gc); have n2_ := Aside0.mk (apply_Apply.bldF_set HI.out hb (Nat.le_of_eq hg.symm)); have n3_ := Aside0.mk (apply_Apply.bld_lt HI.out (Nat.le_of_eq hg.symm)); have n4_ := Aside0.mk (fun a b c => apply_Apply.set3 (x := a) (y := b) (z := c) hbox); have hcz0 : w7.cell? ⟨gc, 0, none⟩ = some (.int .i64 0) := (blk_cell hbox 0).trans rfl; have hcz1 : w7.cell? ⟨gc, 1, none⟩ = some (.int .i64 0) := (blk_cell hbox 1).trans rfl; have hcz2 : w7.cell? ⟨gc, 2, none⟩ = some (.string (⟨#[]⟩ : ByteArray)) := (blk_cell hbox 2).trans rfl; have hfz0 := blk_frozen hbox 0; have hfz1 := blk_frozen hbox 1; have hfz2 := blk_frozen hbox 2; clear HB HI; have HB := n0_; have GC := n1_; have HI := n2_; have GL := n3_; have BK := n4_; clear n0_ n1_ n2_ n3_ n4_ hb hbox hg) | ((with_reducible refine gate_callee (f := 44) rfl ?_); refine goesL_ (some 42) rfl rfl Try.func44 (by kernel_rfl) rfl #[.pointer (some ⟨gb, 0, none⟩), .string (c.f2)] rfl (by (try simp only [List.map_toArray, List.map_cons, List.map_nil]); first | done | rfl) ?_; ((with_reducible refine (Bld.writeString w.heap.size gb _ (c.f2) _ (HI.out _ _ _) ?side1 ?side2).mono ?_)); (case side1 => exact apply_Apply.bound3 HD.out); (case side2 => exact below_size (by repeat (first | (with_reducible first | exact HB.out | apply below_alloc | apply pw_below_drewN | apply below_drew1 | refine below_set ?_ GC.out) | exact HB.out))); rintro e w8 ⟨rfl, hbld, hb, hok⟩; refine ⟨_, rfl, ?_⟩; have n0_ := Aside0.mk (Below.trans (by repeat (first | (with_reducible first | exact HB.out | apply below_alloc | apply pw_below_drewN | apply below_drew1 | refine below_set ?_ GC.out) | exact HB.out)) hb); have n1_ : Aside0 (Lib.IsBuilderF 67 5 w.heap.size gb (Lib.byteCells (out ++ c.f2).data.toList) w8) := ⟨by have h := hbld; rw [apply_Apply.cells_app] at h; exact .inr h⟩; have n2_ : Aside0 (w8.heap[gc]? = some (.cells #[.int .i64 c.f0, .int .i64 c.f1, .string c.f2] 31 (0, 0))) := ⟨hok gc _ (BK.out _ _ _) (fun e_ => by have := GL.out; injection e_ with e_; omega) (fun cc fz h_ => by injection h_ with _ h_ _; revert h_; decide)⟩; clear hcz0 hcz1 hcz2 hfz0 hfz1 hfz2; have hcz0 : w8.cell? ⟨gc, 0, none⟩ = some (.int .i64 c.f0) := (blk_cell n2_.out 0).trans rfl; have hcz1 : w8.cell? ⟨gc, 1, none⟩ = some (.int .i64 c.f1) := (blk_cell n2_.out 1).trans rfl; have hcz2 : w8.cell? ⟨gc, 2, none⟩ = some (.string c.f2) := (blk_cell n2_.out 2).trans rfl; have hfz0 := blk_frozen n2_.out 0; have hfz1 := blk_frozen n2_.out 1; have hfz2 := blk_frozen n2_.out 2; clear HB HI BK; have HB := n0_; have HI := n1_; have BK := n2_; clear n0_ n1_ n2_ hbld hb hok))
           go_roundg suf.length
           case measure => have := HN.out; simp only [List.length_cons] at this; omega
           case rel =>
            refine ⟨wrap64 (x + 1), pre ++ [c], suf, s.extract c.f1.toNat s.size, out ++ c.f2, (by first | rfl | (simp; done) | (simp [*]; done)), (by first | rfl | (simp; done) | (simp [*]; done)), EN, ⟨by rw [HL.out]; simp⟩, ⟨?_⟩, ⟨rfl⟩, ⟨?_⟩, ⟨by repeat (first | (with_reducible first | exact HB.out | apply below_alloc | apply pw_below_drewN | apply below_drew1) | exact HB.out)⟩⟩
            · have h := HG.out; rw [if_neg HZ.out] at h; have e0 : out ++ (⟨#[]⟩ : ByteArray) = out := ByteArray.append_empty; rw [e0] at h; exact h
            · exact HI.out
       · rw [if_neg cg] at HGG
         cases HGG
   · rw [if_neg c6] at H
     have c6b0 : (t1 == (a0.size : Int)) = false := beq_eq_false_iff_ne.mpr c6
     have c6b1 : (t1 != (a0.size : Int)) = true := bne_iff_ne.mpr c6
     clear c6
     simp only [Option.some.injEq, Prod.mk.injEq] at H
     obtain ⟨rfl, rfl⟩ := H
     go_enter Try.func22, Try.ntmps22
     go_wp2_with (first | ((with_reducible refine gate_callee (f := 39) rfl ?_); refine goesL_ (some 14) rfl rfl Try.func39 (by kernel_rfl) rfl #[.slice A1 l1.length c1] rfl (by (try simp only [List.map_toArray, List.map_cons, List.map_nil]); first | done | rfl) ?_; (with_reducible refine (comp_Lengths.calls k _ _ l1 t1 t2 0 _ ?side1 ?side2 A4.out).mono ?_); (case side1 => repeat (first | exact HR1.out | (with_reducible refine Kd.C_alloc ?_ _) | (with_reducible refine Kd.C_drewN ?_ _) | (with_reducible refine Kd.C_drew ?_))); (case side2 => exact HC1.out); rintro e w6 ⟨rfl, hb⟩; refine ⟨_, rfl, ?_⟩; have n0_ := Aside0.mk (below_step (by repeat (first | (with_reducible first | exact HB.out | apply below_alloc | apply pw_below_drewN | apply below_drew1) | exact HB.out)) hb); clear HB; have HB := n0_; clear n0_; (try clear hb)))
     go_ret2
     exact ⟨rfl, by repeat (first | (with_reducible first | exact HB.out | apply below_alloc | apply pw_below_drewN | apply below_drew1) | exact HB.out)⟩
 · rw [if_neg c5] at H
   have c5b0 : (t3 == 0) = false := beq_eq_false_iff_ne.mpr c5
   have c5b1 : (t3 != 0) = true := bne_iff_ne.mpr c5
   clear c5
   simp only [Option.some.injEq, Prod.mk.injEq] at H
   obtain ⟨rfl, rfl⟩ := H
   go_enter Try.func22, Try.ntmps22
   go_wp2_with (first | ((with_reducible refine gate_callee (f := 39) rfl ?_); refine goesL_ (some 14) rfl rfl Try.func39 (by kernel_rfl) rfl #[.slice A1 l1.length c1] rfl (by (try simp only [List.map_toArray, List.map_cons, List.map_nil]); first | done | rfl) ?_; (with_reducible refine (comp_Lengths.calls k _ _ l1 t1 t2 t3 _ ?side1 ?side2 A4.out).mono ?_); (case side1 => repeat (first | exact HR1.out | (with_reducible refine Kd.C_alloc ?_ _) | (with_reducible refine Kd.C_drewN ?_ _) | (with_reducible refine Kd.C_drew ?_))); (case side2 => exact HC1.out); rintro e w6 ⟨rfl, hb⟩; refine ⟨_, rfl, ?_⟩; have n0_ := Aside0.mk (below_step (by repeat (first | (with_reducible first | exact HB.out | apply below_alloc | apply pw_below_drewN | apply below_drew1) | exact HB.out)) hb); clear HB; have HB := n0_; clear n0_; (try clear hb)))
   go_ret2
   exact ⟨rfl, by repeat (first | (with_reducible first | exact HB.out | apply below_alloc | apply pw_below_drewN | apply below_drew1) | exact HB.out)⟩


end Go.Proofs.Ytldaokclpkcmmaa.G
