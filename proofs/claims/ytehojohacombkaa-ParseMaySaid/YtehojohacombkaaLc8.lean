/- The lexer's token by its contract. -/
import Derived.Test.YtehojohacombkaaLc6
import Derived.Test.YtehojohacombkaaLc7
namespace Go.Proofs.Ytehojohacombkaa.G
open Go.RowKit Go.Maps Go.Proofs.YtehojohacombkaaW.PrintWords Go.Proofs.YtehojohacombkaaW.PrintLast Go.Proofs.YtehojohacombkaaW.PrintMore
open Go.Proofs.Ytehojohacombkaa.Lx (run at_ num txt rmk tk tks toks isB isD isL word sign shut nWhole nPart nPow)
set_option linter.unusedVariables false
set_option linter.unusedSimpArgs false
theorem IsLx.set {w0 W : World} {g : Nat} {s : ByteArray} (h : IsLx w0 W g s) {q : Nat} {cs : Array Value} (hq : W.heap[q]? = some (.cells cs 46 (0, 0))) (i : Nat) (v : Value) : IsLx w0 (W.setCell ⟨q, i, none⟩ v) g s := by
  refine ⟨h.1, h.2.elim (fun hf => .inl ?_) (fun ⟨gm, h1, h2, h3, h4⟩ => .inr ⟨gm, h1, h2, ?_, ?_⟩)⟩
  · exact (Below.heap_setCell _ _ _ _ (blk_ne (show W.heap[g]? = some (.cells _ _ _) from hf) hq (by decide))).trans hf
  · exact (Below.heap_setCell _ _ _ _ (blk_ne (show W.heap[g]? = some (.cells _ _ _) from h3) hq (by decide))).trans h3
  · exact (Below.heap_setCell _ _ _ _ (blk_ne h4 hq (by decide))).trans h4
theorem LxStep.set {w0 w W : World} {g : Nat} {s : ByteArray} (h : LxStep w0 w W g s) {q : Nat} {cs : Array Value} (hq : W.heap[q]? = some (.cells cs 46 (0, 0))) (hn : w.heap.size ≤ q) (h0 : w0.heap.size ≤ w.heap.size) (i : Nat) (v : Value) : LxStep w0 w (W.setCell ⟨q, i, none⟩ v) g s :=
  ⟨h.is.set hq i v, h.below.setCell (p := ⟨q, i, none⟩) (Nat.le_trans h0 hn) v, h.kept.setCell (p := ⟨q, i, none⟩) (.inr hn) v⟩
theorem Tk.three {W : World} {g : Nat} {a b c : Value} (hb : W.heap[g]? = some (.cells #[a, b, c] 46 (0, 0))) :
    W.cell? ⟨g, 0, none⟩ = some a ∧ W.cell? ⟨g, 1, none⟩ = some b ∧ W.cell? ⟨g, 2, none⟩ = some c ∧ W.frozen? ⟨g, 0, none⟩ = false ∧ W.frozen? ⟨g, 1, none⟩ = false ∧ W.frozen? ⟨g, 2, none⟩ = false :=
  ⟨(blk_cell hb 0).trans rfl, (blk_cell hb 1).trans rfl, (blk_cell hb 2).trans rfl, blk_frozen hb 0, blk_frozen hb 1, blk_frozen hb 2⟩
theorem Tk.set3 {w : World} {g : Nat} {a b c x y z : Value} (h : w.heap[g]? = some (.cells #[a, b, c] 46 (0, 0))) :
    (((w.setCell ⟨g, 0, none⟩ x).setCell ⟨g, 1, none⟩ y).setCell ⟨g, 2, none⟩ z).heap[g]? = some (.cells #[x, y, z] 46 (0, 0)) :=
  (blk_set (blk_set (blk_set h 0 x) 1 y) 2 z).trans rfl
theorem cls_spec : ∀ i : Fin 256, (Lx.cls i.val = 1 → sign (UInt8.ofNat i.val) = some (Lib.indexByte [123, 125, 91, 93, 58, 44] (UInt8.ofNat i.val))) ∧ (Lx.cls i.val ≠ 1 → sign (UInt8.ofNat i.val) = none) ∧
    (isB (UInt8.ofNat i.val) = (Lx.cls i.val == 2)) ∧ (((UInt8.ofNat i.val) == 34) = (Lx.cls i.val == 5)) ∧ (((UInt8.ofNat i.val) == 47) = (Lx.cls i.val == 6)) ∧ (isL (UInt8.ofNat i.val) = (Lx.cls i.val == 4)) ∧ (isD (UInt8.ofNat i.val) = (Lx.cls i.val == 3)) ∧ (((UInt8.ofNat i.val) == 45) = (Lx.cls i.val == 7)) := by decide +kernel
theorem cls_at (b : UInt8) : (Lx.cls b.toNat = 1 → sign b = some (Lib.indexByte [123, 125, 91, 93, 58, 44] b)) ∧ (Lx.cls b.toNat ≠ 1 → sign b = none) ∧
    (isB b = (Lx.cls b.toNat == 2)) ∧ ((b == 34) = (Lx.cls b.toNat == 5)) ∧ ((b == 47) = (Lx.cls b.toNat == 6)) ∧ (isL b = (Lx.cls b.toNat == 4)) ∧ (isD b = (Lx.cls b.toNat == 3)) ∧ ((b == 45) = (Lx.cls b.toNat == 7)) := by
  have := cls_spec ⟨b.toNat, b.toNat_lt⟩
  simpa using this
/-- The token ahead, by the class of its first byte. -/
theorem tk_cls (b : UInt8) (r : List UInt8) : tk (b :: r) = if Lx.cls b.toNat = 1 then (Lib.indexByte [123, 125, 91, 93, 58, 44] b, 1) else if Lx.cls b.toNat = 2 then (10, run isB (b :: r))
    else if Lx.cls b.toNat = 5 then (if (txt r).2 = true then 6 else 11, (txt r).1 + 1) else if Lx.cls b.toNat = 6 then (if (rmk (b :: r)).2 = true then 9 else 11, (rmk (b :: r)).1)
    else if Lx.cls b.toNat = 4 then (if word ((b :: r).take (run isL (b :: r))) = true then 8 else 11, run isL (b :: r)) else if num (b :: r) = 0 then (11, 1) else (7, num (b :: r)) := by
  obtain ⟨h1, h2, h3, h4, h5, h6, h7, h8⟩ := cls_at b
  rw [tk]
  by_cases k1 : Lx.cls b.toNat = 1
  · rw [h1 k1, if_pos k1]
  · rw [h2 k1, if_neg k1, h3]
    simp only [beq_iff_eq] 
    have e5 : b = 34 ↔ Lx.cls b.toNat = 5 := by rw [← beq_iff_eq (a := b), h4, beq_iff_eq]
    have e6 : b = 47 ↔ Lx.cls b.toNat = 6 := by rw [← beq_iff_eq (a := b), h5, beq_iff_eq]
    simp only [e5, e6, h6, beq_iff_eq]
theorem num_other (b : UInt8) (r : List UInt8) (h : Lx.cls b.toNat = 0) : num (b :: r) = 0 := by
  obtain ⟨h1, h2, h3, h4, h5, h6, h7, h8⟩ := cls_at b
  have e7 : isD b = false := by rw [h7, h]; rfl
  have e8 : (b == 45) = false := by rw [h8, h]; rfl
  unfold num at_
  simp [e7, e8]
theorem word_eq (l : List UInt8) : word l = ((l == [116, 114, 117, 101] || l == [102, 97, 108, 115, 101]) || l == [110, 117, 108, 108]) := rfl
set_option maxRecDepth 100000 in
set_option maxHeartbeats 16000000 in
theorem Lx.token_any (g : Nat) (s : ByteArray) (a m : Int) (hs : s.size ≤ 300) (h0 : 0 ≤ a) (h1 : a < (s.size : Int)) (w0 w : World) (hB : Below w0.heap.size w0 w) (h : IsLx w0 w g s) (hm : w0.cell? ⟨0, 0, none⟩ = some (.int .i64 m)) :
    Calls Try.prog 68 #[.pointer (some ⟨g, 0, none⟩), .int .i64 a] w fun e w' => e = .returned (.agg #[.int .i64 (tk ((byt s).drop a.toNat)).1, .int .i64 a, .int .i64 (a + (((tk ((byt s).drop a.toNat)).2 : Nat) : Int))]) ∧ LxStep w0 w w' g s := by
  have HI := Aside0.mk h
  have HB := Aside0.mk hB
  have HM := Aside0.mk hm
  clear h hB hm
  have a1 : wrap64 (a + 1) = a + 1 := by unfold wrap64; omega
  obtain ⟨T, hT⟩ : ∃ T, tk ((byt s).drop a.toNat) = T := ⟨_, rfl⟩
  rw [hT]
  have hd := byt_drop s a.toNat (by omega)
  rw [hd, tk_cls] at hT
  have HD := Aside0.mk hd
  have e1 := bt_eq s a h0 h1
  have p1 := eq_true h0
  have q1 := eq_true h1
  have hx := bt_at s a
  have hr := bt_range s a
  obtain ⟨z, hz⟩ : ∃ z, bt s a = z := ⟨_, rfl⟩
  rw [hz] at hx hr e1
  obtain ⟨z0, z1⟩ := hr
  have ez : (s[a.toNat]'(by omega)).toNat = z.toNat := by omega
  have EZ := Aside0.mk e1
  rw [ez] at hT
  have HT := Aside0.mk hT
  clear hT hd e1 hz ez
  have c1_ := Lx.cls_le z.toNat
  go_enter Try.func68, Try.ntmps68
  go_upto_region 3 with (fail)
  have es : (w.alloc (.cells #[.int .i64 0, .int .i64 0, .int .i64 0] 46)).heap.size = w.heap.size + 1 := by simp
  have BR : Aside0 (((w.alloc (.cells #[.int .i64 0, .int .i64 0, .int .i64 0] 46)).alloc (.cells #[.int .i64 11, .int .i64 a, .int .i64 (a + 1)] 46)).heap[w.heap.size]? = some (.cells #[.int .i64 0, .int .i64 0, .int .i64 0] 46 (0, 0))) := ⟨blk_alloc (blk_new w _) _⟩
  have BC : Aside0 (((w.alloc (.cells #[.int .i64 0, .int .i64 0, .int .i64 0] 46)).alloc (.cells #[.int .i64 11, .int .i64 a, .int .i64 (a + 1)] 46)).heap[w.heap.size + 1]? = some (.cells #[.int .i64 11, .int .i64 a, .int .i64 (a + 1)] 46 (0, 0))) := ⟨by have := blk_new (w.alloc (.cells #[.int .i64 0, .int .i64 0, .int .i64 0] 46)) (.cells #[.int .i64 11, .int .i64 a, .int .i64 (a + 1)] 46); rw [es] at this; exact this⟩
  have HS : Aside0 (LxStep w0 w ((w.alloc (.cells #[.int .i64 0, .int .i64 0, .int .i64 0] 46)).alloc (.cells #[.int .i64 11, .int .i64 a, .int .i64 (a + 1)] 46)) g s) := ⟨((LxStep.refl HI.out HB.out).more (below_alloc (Below.refl _ _) _)).more (below_alloc (Below.refl _ _) _)⟩
  have GL := HI.out.lt
  obtain ⟨gr, egr⟩ : ∃ gr, w.heap.size = gr := ⟨_, rfl⟩
  obtain ⟨gc, egc⟩ : ∃ gc, gr + 1 = gc := ⟨_, rfl⟩
  have GR : Aside0 (w.heap.size ≤ gr) := ⟨by omega⟩
  have GC : Aside0 (w.heap.size ≤ gc) := ⟨by omega⟩
  have GW : Aside0 (w0.heap.size ≤ w.heap.size) := ⟨HB.out.size⟩
  have NGR : Aside0 (¬ gr = g) := ⟨by omega⟩
  have NGC : Aside0 (¬ gc = g) := ⟨by omega⟩
  have n1_ : gr ≠ gc := by omega
  have n2_ : gc ≠ gr := by omega
  rw [egr] at BR BC ⊢
  rw [egc] at BC ⊢
  generalize ((w.alloc (.cells #[.int .i64 0, .int .i64 0, .int .i64 0] 46)).alloc (.cells #[.int .i64 11, .int .i64 a, .int .i64 (a + 1)] 46)) = w1 at BR BC HS ⊢
  clear es GL egr egc
  have c0 := HS.out.is.text
  obtain ⟨x0, x1, x2, f0, f1, f2⟩ := Tk.three BC.out
  by_cases hk1 : Lx.cls z.toNat = 1
  · have HK := Aside0.mk hk1
    have hT := HT.out
    rw [if_pos hk1] at hT; 
    obtain ⟨ix, hix⟩ : ∃ ix, Lib.indexByte [123, 125, 91, 93, 58, 44] (s[a.toNat]'(by omega)) = ix := ⟨_, rfl⟩
    have HIX := Aside0.mk hix
    have HTT := Aside0.mk hT
    clear hT HT hk1 hix
    go_upto_region 28 with (first | (go_at_call 72; (with_reducible refine (Lx.class_any g s z z0 (by omega) w0 _ HS.out.below HS.out.is).mono ?_); rintro e w2 ⟨rfl, hst⟩; rw [HK.out]; have n0_ := Aside0.mk (HS.out.trans hst); have n1x_ := Aside0.mk (blk_kept BR.out hst.kept NGR.out); have n2x_ := Aside0.mk (blk_kept BC.out hst.kept NGC.out); clear HS BR BC hst c0 x0 x1 x2 f0 f1 f2; have HS := n0_; have BR := n1x_; have BC := n2x_; clear n0_ n1x_ n2x_; have c0 := HS.out.is.text; obtain ⟨x0, x1, x2, f0, f1, f2⟩ := Tk.three BC.out) | (go_at_call 73; (with_reducible refine (Sh.strings_IndexByte _ z _).mono ?_); rintro e w9_ ⟨rfl, hw_⟩; obtain rfl := hw_.symm; rw [show Lib.indexByte (⟨#[123, 125, 91, 93, 58, 44]⟩ : ByteArray).data.toList z.toNat.toUInt8 = ix by rw [← HIX.out]; have e_ := EZ.out; rw [show z.toNat.toUInt8 = (s[a.toNat]'(by omega)) by rw [e_]; simp]]))
    have BCf : Aside0 (((w2).setCell ⟨gc, 0, none⟩ (.int .i64 ix)).heap[gc]? = some (.cells #[.int .i64 ix, .int .i64 a, .int .i64 (a + 1)] 46 (0, 0))) := ⟨(blk_set (BC.out) 0 (.int .i64 ix)).trans rfl⟩
    have BRf : Aside0 (((w2).setCell ⟨gc, 0, none⟩ (.int .i64 ix)).heap[gr]? = some (.cells #[.int .i64 0, .int .i64 0, .int .i64 0] 46 (0, 0))) := ⟨(Below.heap_setCell _ _ _ _ n1_).trans (BR.out)⟩
    have HSf : Aside0 (LxStep w0 w ((w2).setCell ⟨gc, 0, none⟩ (.int .i64 ix)) g s) := ⟨(HS.out.set (BC.out) GC.out GW.out 0 (.int .i64 ix))⟩
    generalize ((w2).setCell ⟨gc, 0, none⟩ (.int .i64 ix)) = w9 at BCf BRf HSf ⊢
    try clear c0
    clear x0 x1 x2 f0 f1 f2 HS BR BC
    obtain ⟨x0, x1, x2, f0, f1, f2⟩ := Tk.three BCf.out
    obtain ⟨v0, v1, v2, k0, k1, k2⟩ := Tk.three BRf.out
    go_wp2
    refine bodyPost_ret (results_cell_row rfl _ _ gr 46 #[.int .i64 ix, .int .i64 a, .int .i64 (a + 1)] (0, 0) _ rfl (Tk.set3 BRf.out) Try.underlying46 rfl (by kernel_rfl)) rfl ?_
    refine ⟨?_, ((HSf.out.set BRf.out GR.out GW.out 0 _).set (blk_set BRf.out 0 _) GR.out GW.out 1 _).set (blk_set (blk_set BRf.out 0 _) 1 _) GR.out GW.out 2 _⟩
    have eK : ix = T.1 := by rw [← HTT.out, HIX.out]
    have eT : (a + 1) = a + ((T.2 : Nat) : Int) := by rw [← HTT.out]; simp
    rw [← eK, ← eT]
  by_cases hk2 : Lx.cls z.toNat = 2
  · have HK := Aside0.mk hk2
    have hT := HT.out
    rw [if_neg hk1] at hT; rw [if_pos hk2] at hT; 
    obtain ⟨j, hj⟩ : ∃ j, a + ((run isB ((byt s).drop a.toNat) : Nat) : Int) = j := ⟨_, rfl⟩
    have HJ := Aside0.mk hj
    have HTT := Aside0.mk hT
    clear hT HT hk1 hk2 hj
    go_upto_region 28 with (first | (go_at_call 72; (with_reducible refine (Lx.class_any g s z z0 (by omega) w0 _ HS.out.below HS.out.is).mono ?_); rintro e w2 ⟨rfl, hst⟩; rw [HK.out]; have n0_ := Aside0.mk (HS.out.trans hst); have n1x_ := Aside0.mk (blk_kept BR.out hst.kept NGR.out); have n2x_ := Aside0.mk (blk_kept BC.out hst.kept NGC.out); clear HS BR BC hst c0 x0 x1 x2 f0 f1 f2; have HS := n0_; have BR := n1x_; have BC := n2x_; clear n0_ n1x_ n2x_; have c0 := HS.out.is.text; obtain ⟨x0, x1, x2, f0, f1, f2⟩ := Tk.three BC.out) | (go_at_call 74; (with_reducible refine (Lx.run_p g s a 2 j isB cls_blank hs h0 (by omega) HJ.out w0 _ HS.out.below HS.out.is).mono ?_); rintro e w3 ⟨rfl, hst⟩; have n0_ := Aside0.mk (HS.out.trans hst); have n1x_ := Aside0.mk (blk_kept BR.out hst.kept NGR.out); have n2x_ := Aside0.mk (blk_kept BC.out hst.kept NGC.out); clear HS BR BC hst c0 x0 x1 x2 f0 f1 f2; have HS := n0_; have BR := n1x_; have BC := n2x_; clear n0_ n1x_ n2x_; have c0 := HS.out.is.text; obtain ⟨x0, x1, x2, f0, f1, f2⟩ := Tk.three BC.out))
    have BCf : Aside0 ((((w3).setCell ⟨gc, 0, none⟩ (.int .i64 10)).setCell ⟨gc, 2, none⟩ (.int .i64 j)).heap[gc]? = some (.cells #[.int .i64 (10 : Int), .int .i64 a, .int .i64 j] 46 (0, 0))) := ⟨(blk_set (blk_set (BC.out) 0 (.int .i64 10)) 2 (.int .i64 j)).trans rfl⟩
    have BRf : Aside0 ((((w3).setCell ⟨gc, 0, none⟩ (.int .i64 10)).setCell ⟨gc, 2, none⟩ (.int .i64 j)).heap[gr]? = some (.cells #[.int .i64 0, .int .i64 0, .int .i64 0] 46 (0, 0))) := ⟨(Below.heap_setCell _ _ _ _ n1_).trans ((Below.heap_setCell _ _ _ _ n1_).trans (BR.out))⟩
    have HSf : Aside0 (LxStep w0 w (((w3).setCell ⟨gc, 0, none⟩ (.int .i64 10)).setCell ⟨gc, 2, none⟩ (.int .i64 j)) g s) := ⟨((HS.out.set (BC.out) GC.out GW.out 0 (.int .i64 10)).set (blk_set (BC.out) 0 (.int .i64 10)) GC.out GW.out 2 (.int .i64 j))⟩
    generalize (((w3).setCell ⟨gc, 0, none⟩ (.int .i64 10)).setCell ⟨gc, 2, none⟩ (.int .i64 j)) = w9 at BCf BRf HSf ⊢
    try clear c0
    clear x0 x1 x2 f0 f1 f2 HS BR BC
    obtain ⟨x0, x1, x2, f0, f1, f2⟩ := Tk.three BCf.out
    obtain ⟨v0, v1, v2, k0, k1, k2⟩ := Tk.three BRf.out
    go_wp2
    refine bodyPost_ret (results_cell_row rfl _ _ gr 46 #[.int .i64 (10 : Int), .int .i64 a, .int .i64 j] (0, 0) _ rfl (Tk.set3 BRf.out) Try.underlying46 rfl (by kernel_rfl)) rfl ?_
    refine ⟨?_, ((HSf.out.set BRf.out GR.out GW.out 0 _).set (blk_set BRf.out 0 _) GR.out GW.out 1 _).set (blk_set (blk_set BRf.out 0 _) 1 _) GR.out GW.out 2 _⟩
    have eK : (10 : Int) = T.1 := by rw [← HTT.out]
    have eT : j = a + ((T.2 : Nat) : Int) := by rw [← HTT.out, ← HJ.out, HD.out]
    rw [← eK, ← eT]
  by_cases hk5 : Lx.cls z.toNat = 5
  · have HK := Aside0.mk hk5
    have hT := HT.out
    rw [if_neg hk1] at hT; rw [if_neg hk2] at hT; rw [if_pos hk5] at hT; 
    obtain ⟨⟨u, b⟩, hq⟩ : ∃ q, txt ((byt s).drop (a.toNat + 1)) = q := ⟨_, rfl⟩
    rw [hq] at hT
    have HQ := Aside0.mk hq
    have HTT := Aside0.mk hT
    clear hT HT hk1 hk2 hk5 hq
    cases b with
    | true =>
      go_upto_region 28 with (first | (go_at_call 72; (with_reducible refine (Lx.class_any g s z z0 (by omega) w0 _ HS.out.below HS.out.is).mono ?_); rintro e w2 ⟨rfl, hst⟩; rw [HK.out]; have n0_ := Aside0.mk (HS.out.trans hst); have n1x_ := Aside0.mk (blk_kept BR.out hst.kept NGR.out); have n2x_ := Aside0.mk (blk_kept BC.out hst.kept NGC.out); clear HS BR BC hst c0 x0 x1 x2 f0 f1 f2; have HS := n0_; have BR := n1x_; have BC := n2x_; clear n0_ n1x_ n2x_; have c0 := HS.out.is.text; obtain ⟨x0, x1, x2, f0, f1, f2⟩ := Tk.three BC.out) | (go_at_call 75; (with_reducible refine (Lx.text_any g s a hs h0 h1 w0 _ HS.out.is).mono ?_); rintro e w9_ ⟨rfl, hw_⟩; obtain rfl := hw_; rw [HQ.out]))
      have BCf : Aside0 ((((w2).setCell ⟨gc, 2, none⟩ (.int .i64 (a + 1 + (u : Int)))).setCell ⟨gc, 0, none⟩ (.int .i64 6)).heap[gc]? = some (.cells #[.int .i64 (6 : Int), .int .i64 a, .int .i64 (a + 1 + (u : Int))] 46 (0, 0))) := ⟨(blk_set (blk_set (BC.out) 2 (.int .i64 (a + 1 + (u : Int)))) 0 (.int .i64 6)).trans rfl⟩
      have BRf : Aside0 ((((w2).setCell ⟨gc, 2, none⟩ (.int .i64 (a + 1 + (u : Int)))).setCell ⟨gc, 0, none⟩ (.int .i64 6)).heap[gr]? = some (.cells #[.int .i64 0, .int .i64 0, .int .i64 0] 46 (0, 0))) := ⟨(Below.heap_setCell _ _ _ _ n1_).trans ((Below.heap_setCell _ _ _ _ n1_).trans (BR.out))⟩
      have HSf : Aside0 (LxStep w0 w (((w2).setCell ⟨gc, 2, none⟩ (.int .i64 (a + 1 + (u : Int)))).setCell ⟨gc, 0, none⟩ (.int .i64 6)) g s) := ⟨((HS.out.set (BC.out) GC.out GW.out 2 (.int .i64 (a + 1 + (u : Int)))).set (blk_set (BC.out) 2 (.int .i64 (a + 1 + (u : Int)))) GC.out GW.out 0 (.int .i64 6))⟩
      generalize (((w2).setCell ⟨gc, 2, none⟩ (.int .i64 (a + 1 + (u : Int)))).setCell ⟨gc, 0, none⟩ (.int .i64 6)) = w9 at BCf BRf HSf ⊢
      try clear c0
      clear x0 x1 x2 f0 f1 f2 HS BR BC
      obtain ⟨x0, x1, x2, f0, f1, f2⟩ := Tk.three BCf.out
      obtain ⟨v0, v1, v2, k0, k1, k2⟩ := Tk.three BRf.out
      go_wp2
      refine bodyPost_ret (results_cell_row rfl _ _ gr 46 #[.int .i64 (6 : Int), .int .i64 a, .int .i64 (a + 1 + (u : Int))] (0, 0) _ rfl (Tk.set3 BRf.out) Try.underlying46 rfl (by kernel_rfl)) rfl ?_
      refine ⟨?_, ((HSf.out.set BRf.out GR.out GW.out 0 _).set (blk_set BRf.out 0 _) GR.out GW.out 1 _).set (blk_set (blk_set BRf.out 0 _) 1 _) GR.out GW.out 2 _⟩
      have eK : (6 : Int) = T.1 := by rw [← HTT.out]; rfl
      have eT : (a + 1 + (u : Int)) = a + ((T.2 : Nat) : Int) := by rw [← HTT.out]; show a + 1 + (u : Int) = a + ((u + 1 : Nat) : Int); omega
      rw [← eK, ← eT]
    | false =>
      go_upto_region 28 with (first | (go_at_call 72; (with_reducible refine (Lx.class_any g s z z0 (by omega) w0 _ HS.out.below HS.out.is).mono ?_); rintro e w2 ⟨rfl, hst⟩; rw [HK.out]; have n0_ := Aside0.mk (HS.out.trans hst); have n1x_ := Aside0.mk (blk_kept BR.out hst.kept NGR.out); have n2x_ := Aside0.mk (blk_kept BC.out hst.kept NGC.out); clear HS BR BC hst c0 x0 x1 x2 f0 f1 f2; have HS := n0_; have BR := n1x_; have BC := n2x_; clear n0_ n1x_ n2x_; have c0 := HS.out.is.text; obtain ⟨x0, x1, x2, f0, f1, f2⟩ := Tk.three BC.out) | (go_at_call 75; (with_reducible refine (Lx.text_any g s a hs h0 h1 w0 _ HS.out.is).mono ?_); rintro e w9_ ⟨rfl, hw_⟩; obtain rfl := hw_; rw [HQ.out]))
      have BCf : Aside0 (((w2).setCell ⟨gc, 2, none⟩ (.int .i64 (a + 1 + (u : Int)))).heap[gc]? = some (.cells #[.int .i64 (11 : Int), .int .i64 a, .int .i64 (a + 1 + (u : Int))] 46 (0, 0))) := ⟨(blk_set (BC.out) 2 (.int .i64 (a + 1 + (u : Int)))).trans rfl⟩
      have BRf : Aside0 (((w2).setCell ⟨gc, 2, none⟩ (.int .i64 (a + 1 + (u : Int)))).heap[gr]? = some (.cells #[.int .i64 0, .int .i64 0, .int .i64 0] 46 (0, 0))) := ⟨(Below.heap_setCell _ _ _ _ n1_).trans (BR.out)⟩
      have HSf : Aside0 (LxStep w0 w ((w2).setCell ⟨gc, 2, none⟩ (.int .i64 (a + 1 + (u : Int)))) g s) := ⟨(HS.out.set (BC.out) GC.out GW.out 2 (.int .i64 (a + 1 + (u : Int))))⟩
      generalize ((w2).setCell ⟨gc, 2, none⟩ (.int .i64 (a + 1 + (u : Int)))) = w9 at BCf BRf HSf ⊢
      try clear c0
      clear x0 x1 x2 f0 f1 f2 HS BR BC
      obtain ⟨x0, x1, x2, f0, f1, f2⟩ := Tk.three BCf.out
      obtain ⟨v0, v1, v2, k0, k1, k2⟩ := Tk.three BRf.out
      go_wp2
      refine bodyPost_ret (results_cell_row rfl _ _ gr 46 #[.int .i64 (11 : Int), .int .i64 a, .int .i64 (a + 1 + (u : Int))] (0, 0) _ rfl (Tk.set3 BRf.out) Try.underlying46 rfl (by kernel_rfl)) rfl ?_
      refine ⟨?_, ((HSf.out.set BRf.out GR.out GW.out 0 _).set (blk_set BRf.out 0 _) GR.out GW.out 1 _).set (blk_set (blk_set BRf.out 0 _) 1 _) GR.out GW.out 2 _⟩
      have eK : (11 : Int) = T.1 := by rw [← HTT.out]; rfl
      have eT : (a + 1 + (u : Int)) = a + ((T.2 : Nat) : Int) := by rw [← HTT.out]; show a + 1 + (u : Int) = a + ((u + 1 : Nat) : Int); omega
      rw [← eK, ← eT]
  by_cases hk6 : Lx.cls z.toNat = 6
  · have HK := Aside0.mk hk6
    have hT := HT.out
    rw [if_neg hk1] at hT; rw [if_neg hk2] at hT; rw [if_neg hk5] at hT; rw [if_pos hk6] at hT; 
    have hb47 : ((byt s).drop a.toNat).head? = some 47 := by
      rw [HD.out]
      have h_ := (cls_at (s[a.toNat]'(by omega))).2.2.2.2.1
      have e_ := EZ.out
      rw [show (s[a.toNat]'(by omega)).toNat = z.toNat by omega, hk6] at h_
      simpa using h_
    have HB47 := Aside0.mk hb47
    rw [← HD.out] at hT
    obtain ⟨⟨u, b⟩, hq⟩ : ∃ q, rmk ((byt s).drop a.toNat) = q := ⟨_, rfl⟩
    rw [hq] at hT
    have HQ := Aside0.mk hq
    have HTT := Aside0.mk hT
    clear hT HT hk1 hk2 hk5 hk6 hq hb47
    cases b with
    | true =>
      go_upto_region 28 with (first | (go_at_call 72; (with_reducible refine (Lx.class_any g s z z0 (by omega) w0 _ HS.out.below HS.out.is).mono ?_); rintro e w2 ⟨rfl, hst⟩; rw [HK.out]; have n0_ := Aside0.mk (HS.out.trans hst); have n1x_ := Aside0.mk (blk_kept BR.out hst.kept NGR.out); have n2x_ := Aside0.mk (blk_kept BC.out hst.kept NGC.out); clear HS BR BC hst c0 x0 x1 x2 f0 f1 f2; have HS := n0_; have BR := n1x_; have BC := n2x_; clear n0_ n1x_ n2x_; have c0 := HS.out.is.text; obtain ⟨x0, x1, x2, f0, f1, f2⟩ := Tk.three BC.out) | (go_at_call 76; (with_reducible refine (Lx.remark_any g s a m hs h0 h1 HB47.out w0 _ HS.out.is (pw_cell_below HS.out.below HM.out)).mono ?_); rintro e w3 ⟨rfl, nn, hw_⟩; rw [HQ.out]; have hbw := (show Below w2.heap.size w2 w3 by rw [hw_]; exact pw_below_drewN (Below.refl _ _) nn); have n0_ := Aside0.mk (HS.out.more hbw); have n1x_ := Aside0.mk (blk_below BR.out hbw); have n2x_ := Aside0.mk (blk_below BC.out hbw); clear HS BR BC hw_ hbw c0 x0 x1 x2 f0 f1 f2; have HS := n0_; have BR := n1x_; have BC := n2x_; clear n0_ n1x_ n2x_; have c0 := HS.out.is.text; obtain ⟨x0, x1, x2, f0, f1, f2⟩ := Tk.three BC.out))
      have BCf : Aside0 ((((w3).setCell ⟨gc, 2, none⟩ (.int .i64 (a + (u : Int)))).setCell ⟨gc, 0, none⟩ (.int .i64 9)).heap[gc]? = some (.cells #[.int .i64 (9 : Int), .int .i64 a, .int .i64 (a + (u : Int))] 46 (0, 0))) := ⟨(blk_set (blk_set (BC.out) 2 (.int .i64 (a + (u : Int)))) 0 (.int .i64 9)).trans rfl⟩
      have BRf : Aside0 ((((w3).setCell ⟨gc, 2, none⟩ (.int .i64 (a + (u : Int)))).setCell ⟨gc, 0, none⟩ (.int .i64 9)).heap[gr]? = some (.cells #[.int .i64 0, .int .i64 0, .int .i64 0] 46 (0, 0))) := ⟨(Below.heap_setCell _ _ _ _ n1_).trans ((Below.heap_setCell _ _ _ _ n1_).trans (BR.out))⟩
      have HSf : Aside0 (LxStep w0 w (((w3).setCell ⟨gc, 2, none⟩ (.int .i64 (a + (u : Int)))).setCell ⟨gc, 0, none⟩ (.int .i64 9)) g s) := ⟨((HS.out.set (BC.out) GC.out GW.out 2 (.int .i64 (a + (u : Int)))).set (blk_set (BC.out) 2 (.int .i64 (a + (u : Int)))) GC.out GW.out 0 (.int .i64 9))⟩
      generalize (((w3).setCell ⟨gc, 2, none⟩ (.int .i64 (a + (u : Int)))).setCell ⟨gc, 0, none⟩ (.int .i64 9)) = w9 at BCf BRf HSf ⊢
      try clear c0
      clear x0 x1 x2 f0 f1 f2 HS BR BC
      obtain ⟨x0, x1, x2, f0, f1, f2⟩ := Tk.three BCf.out
      obtain ⟨v0, v1, v2, k0, k1, k2⟩ := Tk.three BRf.out
      go_wp2
      refine bodyPost_ret (results_cell_row rfl _ _ gr 46 #[.int .i64 (9 : Int), .int .i64 a, .int .i64 (a + (u : Int))] (0, 0) _ rfl (Tk.set3 BRf.out) Try.underlying46 rfl (by kernel_rfl)) rfl ?_
      refine ⟨?_, ((HSf.out.set BRf.out GR.out GW.out 0 _).set (blk_set BRf.out 0 _) GR.out GW.out 1 _).set (blk_set (blk_set BRf.out 0 _) 1 _) GR.out GW.out 2 _⟩
      have eK : (9 : Int) = T.1 := by rw [← HTT.out]; rfl
      have eT : (a + (u : Int)) = a + ((T.2 : Nat) : Int) := by rw [← HTT.out]
      rw [← eK, ← eT]
    | false =>
      go_upto_region 28 with (first | (go_at_call 72; (with_reducible refine (Lx.class_any g s z z0 (by omega) w0 _ HS.out.below HS.out.is).mono ?_); rintro e w2 ⟨rfl, hst⟩; rw [HK.out]; have n0_ := Aside0.mk (HS.out.trans hst); have n1x_ := Aside0.mk (blk_kept BR.out hst.kept NGR.out); have n2x_ := Aside0.mk (blk_kept BC.out hst.kept NGC.out); clear HS BR BC hst c0 x0 x1 x2 f0 f1 f2; have HS := n0_; have BR := n1x_; have BC := n2x_; clear n0_ n1x_ n2x_; have c0 := HS.out.is.text; obtain ⟨x0, x1, x2, f0, f1, f2⟩ := Tk.three BC.out) | (go_at_call 76; (with_reducible refine (Lx.remark_any g s a m hs h0 h1 HB47.out w0 _ HS.out.is (pw_cell_below HS.out.below HM.out)).mono ?_); rintro e w3 ⟨rfl, nn, hw_⟩; rw [HQ.out]; have hbw := (show Below w2.heap.size w2 w3 by rw [hw_]; exact pw_below_drewN (Below.refl _ _) nn); have n0_ := Aside0.mk (HS.out.more hbw); have n1x_ := Aside0.mk (blk_below BR.out hbw); have n2x_ := Aside0.mk (blk_below BC.out hbw); clear HS BR BC hw_ hbw c0 x0 x1 x2 f0 f1 f2; have HS := n0_; have BR := n1x_; have BC := n2x_; clear n0_ n1x_ n2x_; have c0 := HS.out.is.text; obtain ⟨x0, x1, x2, f0, f1, f2⟩ := Tk.three BC.out))
      have BCf : Aside0 (((w3).setCell ⟨gc, 2, none⟩ (.int .i64 (a + (u : Int)))).heap[gc]? = some (.cells #[.int .i64 (11 : Int), .int .i64 a, .int .i64 (a + (u : Int))] 46 (0, 0))) := ⟨(blk_set (BC.out) 2 (.int .i64 (a + (u : Int)))).trans rfl⟩
      have BRf : Aside0 (((w3).setCell ⟨gc, 2, none⟩ (.int .i64 (a + (u : Int)))).heap[gr]? = some (.cells #[.int .i64 0, .int .i64 0, .int .i64 0] 46 (0, 0))) := ⟨(Below.heap_setCell _ _ _ _ n1_).trans (BR.out)⟩
      have HSf : Aside0 (LxStep w0 w ((w3).setCell ⟨gc, 2, none⟩ (.int .i64 (a + (u : Int)))) g s) := ⟨(HS.out.set (BC.out) GC.out GW.out 2 (.int .i64 (a + (u : Int))))⟩
      generalize ((w3).setCell ⟨gc, 2, none⟩ (.int .i64 (a + (u : Int)))) = w9 at BCf BRf HSf ⊢
      try clear c0
      clear x0 x1 x2 f0 f1 f2 HS BR BC
      obtain ⟨x0, x1, x2, f0, f1, f2⟩ := Tk.three BCf.out
      obtain ⟨v0, v1, v2, k0, k1, k2⟩ := Tk.three BRf.out
      go_wp2
      refine bodyPost_ret (results_cell_row rfl _ _ gr 46 #[.int .i64 (11 : Int), .int .i64 a, .int .i64 (a + (u : Int))] (0, 0) _ rfl (Tk.set3 BRf.out) Try.underlying46 rfl (by kernel_rfl)) rfl ?_
      refine ⟨?_, ((HSf.out.set BRf.out GR.out GW.out 0 _).set (blk_set BRf.out 0 _) GR.out GW.out 1 _).set (blk_set (blk_set BRf.out 0 _) 1 _) GR.out GW.out 2 _⟩
      have eK : (11 : Int) = T.1 := by rw [← HTT.out]; rfl
      have eT : (a + (u : Int)) = a + ((T.2 : Nat) : Int) := by rw [← HTT.out]
      rw [← eK, ← eT]
  by_cases hk4 : Lx.cls z.toNat = 4
  · have HK := Aside0.mk hk4
    have hT := HT.out
    rw [if_neg hk1] at hT; rw [if_neg hk2] at hT; rw [if_neg hk5] at hT; rw [if_neg hk6] at hT; rw [if_pos hk4] at hT; 
    rw [← HD.out] at hT
    have hle := Go.Proofs.Ytehojohacombkaa.Lx.run_drop_le isL (byt s) a.toNat (by rw [byt_len]; omega)
    rw [byt_len] at hle
    obtain ⟨j, hj⟩ : ∃ j, a + ((run isL ((byt s).drop a.toNat) : Nat) : Int) = j := ⟨_, rfl⟩
    have j0 : a ≤ j := by omega
    have j1 : j ≤ (s.size : Int) := by omega
    have HJ := Aside0.mk hj
    have HTT := Aside0.mk hT
    have HW : Aside0 ((s.extract a.toNat j.toNat).toList = ((byt s).drop a.toNat).take (run isL ((byt s).drop a.toNat))) := ⟨by rw [ByteArray.toList_eq, ByteArray.data_extract, Array.toList_extract, List.extract_eq_take_drop]; congr 1; omega⟩
    clear hT HT hk1 hk2 hk5 hk6 hk4 hj hle
    go_upto_region 18 with (first | (go_at_call 72; (with_reducible refine (Lx.class_any g s z z0 (by omega) w0 _ HS.out.below HS.out.is).mono ?_); rintro e w2 ⟨rfl, hst⟩; rw [HK.out]; have n0_ := Aside0.mk (HS.out.trans hst); have n1x_ := Aside0.mk (blk_kept BR.out hst.kept NGR.out); have n2x_ := Aside0.mk (blk_kept BC.out hst.kept NGC.out); clear HS BR BC hst c0 x0 x1 x2 f0 f1 f2; have HS := n0_; have BR := n1x_; have BC := n2x_; clear n0_ n1x_ n2x_; have c0 := HS.out.is.text; obtain ⟨x0, x1, x2, f0, f1, f2⟩ := Tk.three BC.out) | (go_at_call 74; (with_reducible refine (Lx.run_p g s a 4 j isL cls_letter hs h0 (by omega) HJ.out w0 _ HS.out.below HS.out.is).mono ?_); rintro e w3 ⟨rfl, hst⟩; have n0_ := Aside0.mk (HS.out.trans hst); have n1x_ := Aside0.mk (blk_kept BR.out hst.kept NGR.out); have n2x_ := Aside0.mk (blk_kept BC.out hst.kept NGC.out); clear HS BR BC hst c0 x0 x1 x2 f0 f1 f2; have HS := n0_; have BR := n1x_; have BC := n2x_; clear n0_ n1x_ n2x_; have c0 := HS.out.is.text; obtain ⟨x0, x1, x2, f0, f1, f2⟩ := Tk.three BC.out))
    have BC4 : Aside0 (((w3).setCell ⟨gc, 2, none⟩ (.int .i64 j)).heap[gc]? = some (.cells #[.int .i64 11, .int .i64 a, .int .i64 j] 46 (0, 0))) := ⟨(blk_set (BC.out) 2 (.int .i64 j)).trans rfl⟩
    have BR4 : Aside0 (((w3).setCell ⟨gc, 2, none⟩ (.int .i64 j)).heap[gr]? = some (.cells #[.int .i64 0, .int .i64 0, .int .i64 0] 46 (0, 0))) := ⟨(Below.heap_setCell _ _ _ _ n1_).trans (BR.out)⟩
    have HS4 : Aside0 (LxStep w0 w ((w3).setCell ⟨gc, 2, none⟩ (.int .i64 j)) g s) := ⟨(HS.out.set (BC.out) GC.out GW.out 2 (.int .i64 j))⟩
    generalize ((w3).setCell ⟨gc, 2, none⟩ (.int .i64 j)) = w4 at BC4 BR4 HS4 ⊢
    clear c0 x0 x1 x2 f0 f1 f2 HS BR BC
    have c0 := HS4.out.is.text
    obtain ⟨x0, x1, x2, f0, f1, f2⟩ := Tk.three BC4.out
    have pj := eq_true j0
    have qj := eq_true j1
    have pj2 : decide (a ≤ j) = true := decide_eq_true j0
    have qj2 : decide (j ≤ (s.size : Int)) = true := decide_eq_true j1
    go_region
    have HS : Aside0 (LxStep w0 w w4.drew g s) := ⟨HS4.out.drew⟩
    have BR : Aside0 (w4.drew.heap[gr]? = _) := BR4
    have BC : Aside0 (w4.drew.heap[gc]? = _) := BC4
    generalize w4.drew = w5 at HS BR BC ⊢
    clear HS4 BR4 BC4 c0 x0 x1 x2 f0 f1 f2
    generalize s.extract a.toNat j.toNat = G at HW ⊢
    obtain ⟨x0, x1, x2, f0, f1, f2⟩ := Tk.three BC.out
    by_cases q1 : G.toList = [116, 114, 117, 101]
    · skip
      have bq1 : (G.toList == ([116, 114, 117, 101] : List UInt8)) = true := beq_iff_eq.mpr q1
      have hwd : word G.toList = true := by rw [word_eq, bq1]; rfl
      have HWD := Aside0.mk hwd
      clear hwd q1
      go_upto_region 28 with (fail)
      have BCf : Aside0 ((w5.setCell ⟨gc, 0, none⟩ (.int .i64 8)).heap[gc]? = some (.cells #[.int .i64 (8 : Int), .int .i64 a, .int .i64 j] 46 (0, 0))) := ⟨(blk_set BC.out 0 (.int .i64 8)).trans rfl⟩
      have BRf : Aside0 ((w5.setCell ⟨gc, 0, none⟩ (.int .i64 8)).heap[gr]? = some (.cells #[.int .i64 0, .int .i64 0, .int .i64 0] 46 (0, 0))) := ⟨(Below.heap_setCell _ _ _ _ n1_).trans BR.out⟩
      have HSf : Aside0 (LxStep w0 w (w5.setCell ⟨gc, 0, none⟩ (.int .i64 8)) g s) := ⟨HS.out.set BC.out GC.out GW.out 0 (.int .i64 8)⟩
      generalize (w5.setCell ⟨gc, 0, none⟩ (.int .i64 8)) = w9 at BCf BRf HSf ⊢
      try clear c0
      clear x0 x1 x2 f0 f1 f2 HS BR BC
      obtain ⟨x0, x1, x2, f0, f1, f2⟩ := Tk.three BCf.out
      obtain ⟨v0, v1, v2, k0, k1, k2⟩ := Tk.three BRf.out
      go_wp2
      refine bodyPost_ret (results_cell_row rfl _ _ gr 46 #[.int .i64 (8 : Int), .int .i64 a, .int .i64 j] (0, 0) _ rfl (Tk.set3 BRf.out) Try.underlying46 rfl (by kernel_rfl)) rfl ?_
      refine ⟨?_, ((HSf.out.set BRf.out GR.out GW.out 0 _).set (blk_set BRf.out 0 _) GR.out GW.out 1 _).set (blk_set (blk_set BRf.out 0 _) 1 _) GR.out GW.out 2 _⟩
      have eK : (8 : Int) = T.1 := by rw [← HTT.out, ← HW.out, HWD.out]; rfl
      have eT : j = a + ((T.2 : Nat) : Int) := by rw [← HTT.out, ← HJ.out]
      rw [← eK, ← eT]
    · by_cases q2 : G.toList = [102, 97, 108, 115, 101]
      · skip
        have bq1 : (G.toList == ([116, 114, 117, 101] : List UInt8)) = false := beq_eq_false_iff_ne.mpr q1
        have bq2 : (G.toList == ([102, 97, 108, 115, 101] : List UInt8)) = true := beq_iff_eq.mpr q2
        have hwd : word G.toList = true := by rw [word_eq, bq1, bq2]; rfl
        have HWD := Aside0.mk hwd
        clear hwd q1 q2
        go_upto_region 28 with (fail)
        have BCf : Aside0 ((w5.setCell ⟨gc, 0, none⟩ (.int .i64 8)).heap[gc]? = some (.cells #[.int .i64 (8 : Int), .int .i64 a, .int .i64 j] 46 (0, 0))) := ⟨(blk_set BC.out 0 (.int .i64 8)).trans rfl⟩
        have BRf : Aside0 ((w5.setCell ⟨gc, 0, none⟩ (.int .i64 8)).heap[gr]? = some (.cells #[.int .i64 0, .int .i64 0, .int .i64 0] 46 (0, 0))) := ⟨(Below.heap_setCell _ _ _ _ n1_).trans BR.out⟩
        have HSf : Aside0 (LxStep w0 w (w5.setCell ⟨gc, 0, none⟩ (.int .i64 8)) g s) := ⟨HS.out.set BC.out GC.out GW.out 0 (.int .i64 8)⟩
        generalize (w5.setCell ⟨gc, 0, none⟩ (.int .i64 8)) = w9 at BCf BRf HSf ⊢
        try clear c0
        clear x0 x1 x2 f0 f1 f2 HS BR BC
        obtain ⟨x0, x1, x2, f0, f1, f2⟩ := Tk.three BCf.out
        obtain ⟨v0, v1, v2, k0, k1, k2⟩ := Tk.three BRf.out
        go_wp2
        refine bodyPost_ret (results_cell_row rfl _ _ gr 46 #[.int .i64 (8 : Int), .int .i64 a, .int .i64 j] (0, 0) _ rfl (Tk.set3 BRf.out) Try.underlying46 rfl (by kernel_rfl)) rfl ?_
        refine ⟨?_, ((HSf.out.set BRf.out GR.out GW.out 0 _).set (blk_set BRf.out 0 _) GR.out GW.out 1 _).set (blk_set (blk_set BRf.out 0 _) 1 _) GR.out GW.out 2 _⟩
        have eK : (8 : Int) = T.1 := by rw [← HTT.out, ← HW.out, HWD.out]; rfl
        have eT : j = a + ((T.2 : Nat) : Int) := by rw [← HTT.out, ← HJ.out]
        rw [← eK, ← eT]
      · by_cases q3 : G.toList = [110, 117, 108, 108]
        · skip
          have bq1 : (G.toList == ([116, 114, 117, 101] : List UInt8)) = false := beq_eq_false_iff_ne.mpr q1
          have bq2 : (G.toList == ([102, 97, 108, 115, 101] : List UInt8)) = false := beq_eq_false_iff_ne.mpr q2
          have bq3 : (G.toList == ([110, 117, 108, 108] : List UInt8)) = true := beq_iff_eq.mpr q3
          have hwd : word G.toList = true := by rw [word_eq, bq1, bq2, bq3]; rfl
          have HWD := Aside0.mk hwd
          clear hwd q1 q2 q3
          go_upto_region 28 with (fail)
          have BCf : Aside0 ((w5.setCell ⟨gc, 0, none⟩ (.int .i64 8)).heap[gc]? = some (.cells #[.int .i64 (8 : Int), .int .i64 a, .int .i64 j] 46 (0, 0))) := ⟨(blk_set BC.out 0 (.int .i64 8)).trans rfl⟩
          have BRf : Aside0 ((w5.setCell ⟨gc, 0, none⟩ (.int .i64 8)).heap[gr]? = some (.cells #[.int .i64 0, .int .i64 0, .int .i64 0] 46 (0, 0))) := ⟨(Below.heap_setCell _ _ _ _ n1_).trans BR.out⟩
          have HSf : Aside0 (LxStep w0 w (w5.setCell ⟨gc, 0, none⟩ (.int .i64 8)) g s) := ⟨HS.out.set BC.out GC.out GW.out 0 (.int .i64 8)⟩
          generalize (w5.setCell ⟨gc, 0, none⟩ (.int .i64 8)) = w9 at BCf BRf HSf ⊢
          try clear c0
          clear x0 x1 x2 f0 f1 f2 HS BR BC
          obtain ⟨x0, x1, x2, f0, f1, f2⟩ := Tk.three BCf.out
          obtain ⟨v0, v1, v2, k0, k1, k2⟩ := Tk.three BRf.out
          go_wp2
          refine bodyPost_ret (results_cell_row rfl _ _ gr 46 #[.int .i64 (8 : Int), .int .i64 a, .int .i64 j] (0, 0) _ rfl (Tk.set3 BRf.out) Try.underlying46 rfl (by kernel_rfl)) rfl ?_
          refine ⟨?_, ((HSf.out.set BRf.out GR.out GW.out 0 _).set (blk_set BRf.out 0 _) GR.out GW.out 1 _).set (blk_set (blk_set BRf.out 0 _) 1 _) GR.out GW.out 2 _⟩
          have eK : (8 : Int) = T.1 := by rw [← HTT.out, ← HW.out, HWD.out]; rfl
          have eT : j = a + ((T.2 : Nat) : Int) := by rw [← HTT.out, ← HJ.out]
          rw [← eK, ← eT]
        · skip
          have bq1 : (G.toList == ([116, 114, 117, 101] : List UInt8)) = false := beq_eq_false_iff_ne.mpr q1
          have bq2 : (G.toList == ([102, 97, 108, 115, 101] : List UInt8)) = false := beq_eq_false_iff_ne.mpr q2
          have bq3 : (G.toList == ([110, 117, 108, 108] : List UInt8)) = false := beq_eq_false_iff_ne.mpr q3
          have hwd : word G.toList = false := by rw [word_eq, bq1, bq2, bq3]; rfl
          have HWD := Aside0.mk hwd
          clear hwd q1 q2 q3
          go_upto_region 28 with (fail)
          have BCf : Aside0 ((w5).heap[gc]? = some (.cells #[.int .i64 (11 : Int), .int .i64 a, .int .i64 j] 46 (0, 0))) := ⟨BC.out⟩
          have BRf : Aside0 ((w5).heap[gr]? = some (.cells #[.int .i64 0, .int .i64 0, .int .i64 0] 46 (0, 0))) := ⟨BR.out⟩
          have HSf : Aside0 (LxStep w0 w (w5) g s) := ⟨HS.out⟩
          generalize (w5) = w9 at BCf BRf HSf ⊢
          try clear c0
          clear x0 x1 x2 f0 f1 f2 HS BR BC
          obtain ⟨x0, x1, x2, f0, f1, f2⟩ := Tk.three BCf.out
          obtain ⟨v0, v1, v2, k0, k1, k2⟩ := Tk.three BRf.out
          go_wp2
          refine bodyPost_ret (results_cell_row rfl _ _ gr 46 #[.int .i64 (11 : Int), .int .i64 a, .int .i64 j] (0, 0) _ rfl (Tk.set3 BRf.out) Try.underlying46 rfl (by kernel_rfl)) rfl ?_
          refine ⟨?_, ((HSf.out.set BRf.out GR.out GW.out 0 _).set (blk_set BRf.out 0 _) GR.out GW.out 1 _).set (blk_set (blk_set BRf.out 0 _) 1 _) GR.out GW.out 2 _⟩
          have eK : (11 : Int) = T.1 := by rw [← HTT.out, ← HW.out, HWD.out]; rfl
          have eT : j = a + ((T.2 : Nat) : Int) := by rw [← HTT.out, ← HJ.out]
          rw [← eK, ← eT]
  by_cases hk0 : Lx.cls z.toNat = 0
  · have HK := Aside0.mk hk0
    have hT := HT.out
    rw [if_neg hk1, if_neg hk2, if_neg hk5, if_neg hk6, if_neg hk4, if_pos (num_other _ _ (by have e_ := EZ.out; rw [show (s[a.toNat]'(by omega)).toNat = z.toNat by omega]; exact hk0))] at hT
    have HTT := Aside0.mk hT
    clear hT HT hk0 hk1 hk2 hk5 hk6 hk4
    go_upto_region 28 with (first | (go_at_call 72; (with_reducible refine (Lx.class_any g s z z0 (by omega) w0 _ HS.out.below HS.out.is).mono ?_); rintro e w2 ⟨rfl, hst⟩; rw [HK.out]; have n0_ := Aside0.mk (HS.out.trans hst); have n1x_ := Aside0.mk (blk_kept BR.out hst.kept NGR.out); have n2x_ := Aside0.mk (blk_kept BC.out hst.kept NGC.out); clear HS BR BC hst c0 x0 x1 x2 f0 f1 f2; have HS := n0_; have BR := n1x_; have BC := n2x_; clear n0_ n1x_ n2x_; have c0 := HS.out.is.text; obtain ⟨x0, x1, x2, f0, f1, f2⟩ := Tk.three BC.out))
    have BCf : Aside0 ((w2).heap[gc]? = some (.cells #[.int .i64 (11 : Int), .int .i64 a, .int .i64 (a + 1)] 46 (0, 0))) := ⟨BC.out⟩
    have BRf : Aside0 ((w2).heap[gr]? = some (.cells #[.int .i64 0, .int .i64 0, .int .i64 0] 46 (0, 0))) := ⟨BR.out⟩
    have HSf : Aside0 (LxStep w0 w (w2) g s) := ⟨HS.out⟩
    generalize (w2) = w9 at BCf BRf HSf ⊢
    try clear c0
    clear x0 x1 x2 f0 f1 f2 HS BR BC
    obtain ⟨x0, x1, x2, f0, f1, f2⟩ := Tk.three BCf.out
    obtain ⟨v0, v1, v2, k0, k1, k2⟩ := Tk.three BRf.out
    go_wp2
    refine bodyPost_ret (results_cell_row rfl _ _ gr 46 #[.int .i64 (11 : Int), .int .i64 a, .int .i64 (a + 1)] (0, 0) _ rfl (Tk.set3 BRf.out) Try.underlying46 rfl (by kernel_rfl)) rfl ?_
    refine ⟨?_, ((HSf.out.set BRf.out GR.out GW.out 0 _).set (blk_set BRf.out 0 _) GR.out GW.out 1 _).set (blk_set (blk_set BRf.out 0 _) 1 _) GR.out GW.out 2 _⟩
    have eK : (11 : Int) = T.1 := by rw [← HTT.out]
    have eT : (a + 1) = a + ((T.2 : Nat) : Int) := by rw [← HTT.out]; rfl
    rw [← eK, ← eT]
  by_cases hk3 : Lx.cls z.toNat = 3
  · have HK := Aside0.mk hk3
    have hT := HT.out
    rw [if_neg hk1, if_neg hk2, if_neg hk5, if_neg hk6, if_neg hk4, ← HD.out] at hT
    have hna := numAt_drop (byt s) a.toNat
    obtain ⟨n, hq⟩ : ∃ n, numAt (byt s) a.toNat = n := ⟨_, rfl⟩
    rw [hq] at hna
    have HQ := Aside0.mk hq
    have HNA := Aside0.mk hna
    have HTT := Aside0.mk hT
    by_cases hn0 : num ((byt s).drop a.toNat) = 0
    · rw [if_pos hn0] at hT
      have HT2 := Aside0.mk hT
      have hb_ : decide (a < (n : Int)) = false := decide_eq_false (by omega)
      have HN0 := Aside0.mk hn0
      clear hT HT HTT hn0 hk0 hk1 hk2 hk5 hk6 hk4 hk3 hq hna
      go_upto_region 28 with (first | (go_at_call 72; (with_reducible refine (Lx.class_any g s z z0 (by omega) w0 _ HS.out.below HS.out.is).mono ?_); rintro e w2 ⟨rfl, hst⟩; rw [HK.out]; have n0_ := Aside0.mk (HS.out.trans hst); have n1x_ := Aside0.mk (blk_kept BR.out hst.kept NGR.out); have n2x_ := Aside0.mk (blk_kept BC.out hst.kept NGC.out); clear HS BR BC hst c0 x0 x1 x2 f0 f1 f2; have HS := n0_; have BR := n1x_; have BC := n2x_; clear n0_ n1x_ n2x_; have c0 := HS.out.is.text; obtain ⟨x0, x1, x2, f0, f1, f2⟩ := Tk.three BC.out) | (go_at_call 77; (with_reducible refine (Lx.number_any g s a hs h0 h1 w0 _ HS.out.below HS.out.is).mono ?_); rintro e w3 ⟨rfl, hst⟩; rw [HQ.out]; have n0_ := Aside0.mk (HS.out.trans hst); have n1x_ := Aside0.mk (blk_kept BR.out hst.kept NGR.out); have n2x_ := Aside0.mk (blk_kept BC.out hst.kept NGC.out); clear HS BR BC hst c0 x0 x1 x2 f0 f1 f2; have HS := n0_; have BR := n1x_; have BC := n2x_; clear n0_ n1x_ n2x_; have c0 := HS.out.is.text; obtain ⟨x0, x1, x2, f0, f1, f2⟩ := Tk.three BC.out))
      have BCf : Aside0 ((w3).heap[gc]? = some (.cells #[.int .i64 (11 : Int), .int .i64 a, .int .i64 (a + 1)] 46 (0, 0))) := ⟨BC.out⟩
      have BRf : Aside0 ((w3).heap[gr]? = some (.cells #[.int .i64 0, .int .i64 0, .int .i64 0] 46 (0, 0))) := ⟨BR.out⟩
      have HSf : Aside0 (LxStep w0 w (w3) g s) := ⟨HS.out⟩
      generalize (w3) = w9 at BCf BRf HSf ⊢
      try clear c0
      clear x0 x1 x2 f0 f1 f2 HS BR BC
      obtain ⟨x0, x1, x2, f0, f1, f2⟩ := Tk.three BCf.out
      obtain ⟨v0, v1, v2, k0, k1, k2⟩ := Tk.three BRf.out
      go_wp2
      refine bodyPost_ret (results_cell_row rfl _ _ gr 46 #[.int .i64 (11 : Int), .int .i64 a, .int .i64 (a + 1)] (0, 0) _ rfl (Tk.set3 BRf.out) Try.underlying46 rfl (by kernel_rfl)) rfl ?_
      refine ⟨?_, ((HSf.out.set BRf.out GR.out GW.out 0 _).set (blk_set BRf.out 0 _) GR.out GW.out 1 _).set (blk_set (blk_set BRf.out 0 _) 1 _) GR.out GW.out 2 _⟩
      have eK : (11 : Int) = T.1 := by rw [← HT2.out]
      have eT : (a + 1) = a + ((T.2 : Nat) : Int) := by rw [← HT2.out]; rfl
      rw [← eK, ← eT]
    · rw [if_neg hn0] at hT
      have HT2 := Aside0.mk hT
      have hb_ : decide (a < (n : Int)) = true := decide_eq_true (by omega)
      have HN0 := Aside0.mk hn0
      clear hT HT HTT hn0 hk0 hk1 hk2 hk5 hk6 hk4 hk3 hq hna
      go_upto_region 28 with (first | (go_at_call 72; (with_reducible refine (Lx.class_any g s z z0 (by omega) w0 _ HS.out.below HS.out.is).mono ?_); rintro e w2 ⟨rfl, hst⟩; rw [HK.out]; have n0_ := Aside0.mk (HS.out.trans hst); have n1x_ := Aside0.mk (blk_kept BR.out hst.kept NGR.out); have n2x_ := Aside0.mk (blk_kept BC.out hst.kept NGC.out); clear HS BR BC hst c0 x0 x1 x2 f0 f1 f2; have HS := n0_; have BR := n1x_; have BC := n2x_; clear n0_ n1x_ n2x_; have c0 := HS.out.is.text; obtain ⟨x0, x1, x2, f0, f1, f2⟩ := Tk.three BC.out) | (go_at_call 77; (with_reducible refine (Lx.number_any g s a hs h0 h1 w0 _ HS.out.below HS.out.is).mono ?_); rintro e w3 ⟨rfl, hst⟩; rw [HQ.out]; have n0_ := Aside0.mk (HS.out.trans hst); have n1x_ := Aside0.mk (blk_kept BR.out hst.kept NGR.out); have n2x_ := Aside0.mk (blk_kept BC.out hst.kept NGC.out); clear HS BR BC hst c0 x0 x1 x2 f0 f1 f2; have HS := n0_; have BR := n1x_; have BC := n2x_; clear n0_ n1x_ n2x_; have c0 := HS.out.is.text; obtain ⟨x0, x1, x2, f0, f1, f2⟩ := Tk.three BC.out))
      have BCf : Aside0 ((((w3).setCell ⟨gc, 0, none⟩ (.int .i64 7)).setCell ⟨gc, 2, none⟩ (.int .i64 (n : Int))).heap[gc]? = some (.cells #[.int .i64 (7 : Int), .int .i64 a, .int .i64 (n : Int)] 46 (0, 0))) := ⟨(blk_set (blk_set (BC.out) 0 (.int .i64 7)) 2 (.int .i64 (n : Int))).trans rfl⟩
      have BRf : Aside0 ((((w3).setCell ⟨gc, 0, none⟩ (.int .i64 7)).setCell ⟨gc, 2, none⟩ (.int .i64 (n : Int))).heap[gr]? = some (.cells #[.int .i64 0, .int .i64 0, .int .i64 0] 46 (0, 0))) := ⟨(Below.heap_setCell _ _ _ _ n1_).trans ((Below.heap_setCell _ _ _ _ n1_).trans (BR.out))⟩
      have HSf : Aside0 (LxStep w0 w (((w3).setCell ⟨gc, 0, none⟩ (.int .i64 7)).setCell ⟨gc, 2, none⟩ (.int .i64 (n : Int))) g s) := ⟨((HS.out.set (BC.out) GC.out GW.out 0 (.int .i64 7)).set (blk_set (BC.out) 0 (.int .i64 7)) GC.out GW.out 2 (.int .i64 (n : Int)))⟩
      generalize (((w3).setCell ⟨gc, 0, none⟩ (.int .i64 7)).setCell ⟨gc, 2, none⟩ (.int .i64 (n : Int))) = w9 at BCf BRf HSf ⊢
      try clear c0
      clear x0 x1 x2 f0 f1 f2 HS BR BC
      obtain ⟨x0, x1, x2, f0, f1, f2⟩ := Tk.three BCf.out
      obtain ⟨v0, v1, v2, k0, k1, k2⟩ := Tk.three BRf.out
      go_wp2
      refine bodyPost_ret (results_cell_row rfl _ _ gr 46 #[.int .i64 (7 : Int), .int .i64 a, .int .i64 (n : Int)] (0, 0) _ rfl (Tk.set3 BRf.out) Try.underlying46 rfl (by kernel_rfl)) rfl ?_
      refine ⟨?_, ((HSf.out.set BRf.out GR.out GW.out 0 _).set (blk_set BRf.out 0 _) GR.out GW.out 1 _).set (blk_set (blk_set BRf.out 0 _) 1 _) GR.out GW.out 2 _⟩
      have eK : (7 : Int) = T.1 := by rw [← HT2.out]
      have eT : (n : Int) = a + ((T.2 : Nat) : Int) := by rw [← HT2.out]; show (n : Int) = a + ((num ((byt s).drop a.toNat) : Nat) : Int); have := HNA.out; omega
      rw [← eK, ← eT]
  by_cases hk7 : Lx.cls z.toNat = 7
  · have HK := Aside0.mk hk7
    have hT := HT.out
    rw [if_neg hk1, if_neg hk2, if_neg hk5, if_neg hk6, if_neg hk4, ← HD.out] at hT
    have hna := numAt_drop (byt s) a.toNat
    obtain ⟨n, hq⟩ : ∃ n, numAt (byt s) a.toNat = n := ⟨_, rfl⟩
    rw [hq] at hna
    have HQ := Aside0.mk hq
    have HNA := Aside0.mk hna
    have HTT := Aside0.mk hT
    by_cases hn0 : num ((byt s).drop a.toNat) = 0
    · rw [if_pos hn0] at hT
      have HT2 := Aside0.mk hT
      have hb_ : decide (a < (n : Int)) = false := decide_eq_false (by omega)
      have HN0 := Aside0.mk hn0
      clear hT HT HTT hn0 hk0 hk1 hk2 hk5 hk6 hk4 hk3 hk7 hq hna
      go_upto_region 28 with (first | (go_at_call 72; (with_reducible refine (Lx.class_any g s z z0 (by omega) w0 _ HS.out.below HS.out.is).mono ?_); rintro e w2 ⟨rfl, hst⟩; rw [HK.out]; have n0_ := Aside0.mk (HS.out.trans hst); have n1x_ := Aside0.mk (blk_kept BR.out hst.kept NGR.out); have n2x_ := Aside0.mk (blk_kept BC.out hst.kept NGC.out); clear HS BR BC hst c0 x0 x1 x2 f0 f1 f2; have HS := n0_; have BR := n1x_; have BC := n2x_; clear n0_ n1x_ n2x_; have c0 := HS.out.is.text; obtain ⟨x0, x1, x2, f0, f1, f2⟩ := Tk.three BC.out) | (go_at_call 77; (with_reducible refine (Lx.number_any g s a hs h0 h1 w0 _ HS.out.below HS.out.is).mono ?_); rintro e w3 ⟨rfl, hst⟩; rw [HQ.out]; have n0_ := Aside0.mk (HS.out.trans hst); have n1x_ := Aside0.mk (blk_kept BR.out hst.kept NGR.out); have n2x_ := Aside0.mk (blk_kept BC.out hst.kept NGC.out); clear HS BR BC hst c0 x0 x1 x2 f0 f1 f2; have HS := n0_; have BR := n1x_; have BC := n2x_; clear n0_ n1x_ n2x_; have c0 := HS.out.is.text; obtain ⟨x0, x1, x2, f0, f1, f2⟩ := Tk.three BC.out))
      have BCf : Aside0 ((w3).heap[gc]? = some (.cells #[.int .i64 (11 : Int), .int .i64 a, .int .i64 (a + 1)] 46 (0, 0))) := ⟨BC.out⟩
      have BRf : Aside0 ((w3).heap[gr]? = some (.cells #[.int .i64 0, .int .i64 0, .int .i64 0] 46 (0, 0))) := ⟨BR.out⟩
      have HSf : Aside0 (LxStep w0 w (w3) g s) := ⟨HS.out⟩
      generalize (w3) = w9 at BCf BRf HSf ⊢
      try clear c0
      clear x0 x1 x2 f0 f1 f2 HS BR BC
      obtain ⟨x0, x1, x2, f0, f1, f2⟩ := Tk.three BCf.out
      obtain ⟨v0, v1, v2, k0, k1, k2⟩ := Tk.three BRf.out
      go_wp2
      refine bodyPost_ret (results_cell_row rfl _ _ gr 46 #[.int .i64 (11 : Int), .int .i64 a, .int .i64 (a + 1)] (0, 0) _ rfl (Tk.set3 BRf.out) Try.underlying46 rfl (by kernel_rfl)) rfl ?_
      refine ⟨?_, ((HSf.out.set BRf.out GR.out GW.out 0 _).set (blk_set BRf.out 0 _) GR.out GW.out 1 _).set (blk_set (blk_set BRf.out 0 _) 1 _) GR.out GW.out 2 _⟩
      have eK : (11 : Int) = T.1 := by rw [← HT2.out]
      have eT : (a + 1) = a + ((T.2 : Nat) : Int) := by rw [← HT2.out]; rfl
      rw [← eK, ← eT]
    · rw [if_neg hn0] at hT
      have HT2 := Aside0.mk hT
      have hb_ : decide (a < (n : Int)) = true := decide_eq_true (by omega)
      have HN0 := Aside0.mk hn0
      clear hT HT HTT hn0 hk0 hk1 hk2 hk5 hk6 hk4 hk3 hk7 hq hna
      go_upto_region 28 with (first | (go_at_call 72; (with_reducible refine (Lx.class_any g s z z0 (by omega) w0 _ HS.out.below HS.out.is).mono ?_); rintro e w2 ⟨rfl, hst⟩; rw [HK.out]; have n0_ := Aside0.mk (HS.out.trans hst); have n1x_ := Aside0.mk (blk_kept BR.out hst.kept NGR.out); have n2x_ := Aside0.mk (blk_kept BC.out hst.kept NGC.out); clear HS BR BC hst c0 x0 x1 x2 f0 f1 f2; have HS := n0_; have BR := n1x_; have BC := n2x_; clear n0_ n1x_ n2x_; have c0 := HS.out.is.text; obtain ⟨x0, x1, x2, f0, f1, f2⟩ := Tk.three BC.out) | (go_at_call 77; (with_reducible refine (Lx.number_any g s a hs h0 h1 w0 _ HS.out.below HS.out.is).mono ?_); rintro e w3 ⟨rfl, hst⟩; rw [HQ.out]; have n0_ := Aside0.mk (HS.out.trans hst); have n1x_ := Aside0.mk (blk_kept BR.out hst.kept NGR.out); have n2x_ := Aside0.mk (blk_kept BC.out hst.kept NGC.out); clear HS BR BC hst c0 x0 x1 x2 f0 f1 f2; have HS := n0_; have BR := n1x_; have BC := n2x_; clear n0_ n1x_ n2x_; have c0 := HS.out.is.text; obtain ⟨x0, x1, x2, f0, f1, f2⟩ := Tk.three BC.out))
      have BCf : Aside0 ((((w3).setCell ⟨gc, 0, none⟩ (.int .i64 7)).setCell ⟨gc, 2, none⟩ (.int .i64 (n : Int))).heap[gc]? = some (.cells #[.int .i64 (7 : Int), .int .i64 a, .int .i64 (n : Int)] 46 (0, 0))) := ⟨(blk_set (blk_set (BC.out) 0 (.int .i64 7)) 2 (.int .i64 (n : Int))).trans rfl⟩
      have BRf : Aside0 ((((w3).setCell ⟨gc, 0, none⟩ (.int .i64 7)).setCell ⟨gc, 2, none⟩ (.int .i64 (n : Int))).heap[gr]? = some (.cells #[.int .i64 0, .int .i64 0, .int .i64 0] 46 (0, 0))) := ⟨(Below.heap_setCell _ _ _ _ n1_).trans ((Below.heap_setCell _ _ _ _ n1_).trans (BR.out))⟩
      have HSf : Aside0 (LxStep w0 w (((w3).setCell ⟨gc, 0, none⟩ (.int .i64 7)).setCell ⟨gc, 2, none⟩ (.int .i64 (n : Int))) g s) := ⟨((HS.out.set (BC.out) GC.out GW.out 0 (.int .i64 7)).set (blk_set (BC.out) 0 (.int .i64 7)) GC.out GW.out 2 (.int .i64 (n : Int)))⟩
      generalize (((w3).setCell ⟨gc, 0, none⟩ (.int .i64 7)).setCell ⟨gc, 2, none⟩ (.int .i64 (n : Int))) = w9 at BCf BRf HSf ⊢
      try clear c0
      clear x0 x1 x2 f0 f1 f2 HS BR BC
      obtain ⟨x0, x1, x2, f0, f1, f2⟩ := Tk.three BCf.out
      obtain ⟨v0, v1, v2, k0, k1, k2⟩ := Tk.three BRf.out
      go_wp2
      refine bodyPost_ret (results_cell_row rfl _ _ gr 46 #[.int .i64 (7 : Int), .int .i64 a, .int .i64 (n : Int)] (0, 0) _ rfl (Tk.set3 BRf.out) Try.underlying46 rfl (by kernel_rfl)) rfl ?_
      refine ⟨?_, ((HSf.out.set BRf.out GR.out GW.out 0 _).set (blk_set BRf.out 0 _) GR.out GW.out 1 _).set (blk_set (blk_set BRf.out 0 _) 1 _) GR.out GW.out 2 _⟩
      have eK : (7 : Int) = T.1 := by rw [← HT2.out]
      have eT : (n : Int) = a + ((T.2 : Nat) : Int) := by rw [← HT2.out]; show (n : Int) = a + ((num ((byt s).drop a.toNat) : Nat) : Int); have := HNA.out; omega
      rw [← eK, ← eT]
  exact absurd c1_ (by omega)
end Go.Proofs.Ytehojohacombkaa.G
