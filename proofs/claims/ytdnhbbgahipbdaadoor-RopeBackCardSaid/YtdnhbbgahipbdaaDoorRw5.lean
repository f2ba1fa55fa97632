/- New, Insert, Delete, Slice by their contracts. -/
import Derived.Test.YtdnhbbgahipbdaaDoorRw4
namespace Go.Proofs.YtdnhbbgahipbdaaDoor.G
open Go.RowKit Go.Proofs.YtdnhbbgahipbdaaDoorW.PrintWords Go.Proofs.YtdnhbbgahipbdaaDoorW.PrintLast Go.Proofs.YtdnhbbgahipbdaaDoorW.PrintMore
open Go.Proofs.YtdnhbbgahipbdaaDoor.Ro (T cutN cutB layS layN findN aheadN behindN Ck byt)
set_option linter.unusedVariables false
set_option linter.unusedSimpArgs false
theorem Ro.cutB_len : ∀ (k : Nat) (s : ByteArray), (cutB k s).length ≤ k + 1
  | 0, s => by simp [cutB]
  | k + 1, s => by
    unfold cutB
    split
    · have := Ro.cutB_len k (s.extract 16 s.size); simp only [List.length_cons]; omega
    · simp
theorem Ro.ahead_len (cs : List ByteArray) (a : Nat) : (aheadN cs a).length ≤ cs.length + 1 := by
  unfold aheadN; dsimp only
  split
  · rw [List.length_take]; omega
  · simp only [List.length_append, List.length_take, List.length_cons, List.length_nil]; omega
theorem Ro.behind_len (cs : List ByteArray) (a : Nat) : (behindN cs a).length ≤ cs.length + 1 := by
  unfold behindN; dsimp only
  split
  · rw [List.length_drop]; omega
  · simp only [List.length_cons, List.length_drop]; omega
/-- Rows in a block of their own. -/
theorem Ro.rows_at {W : World} {b t : Nat} {vs : List Value} {rows : List (List ByteArray)} (hb : W.heap[b]? = some (.cells vs.toArray t (0, 0))) (hl : rows.length = vs.length) (hm : rows.length ≤ 1000)
    (h : ∀ (j : Nat) v r, vs[j]? = some v → rows[j]? = some r → Reads W v r) : (Kd.slice 9 Kd.string).C W (some ⟨b, 0, none⟩) rows.length rows :=
  ⟨rfl, by omega, fun _ => ⟨_, rfl, fun j r hj => by
    have hlt : j < vs.length := by rw [← hl]; exact (List.getElem?_eq_some_iff.1 hj).1
    have hv : vs[j]? = some vs[j] := List.getElem?_eq_getElem hlt
    obtain ⟨A, c, e, hc, hC⟩ := h j _ r hv hj
    refine ⟨[vs[j]], rfl, ⟨A, c, by rw [e], hc, hC⟩, fun i u hi => ?_⟩
    match i, hi with
    | 0, hi =>
      cases hi
      rw [show (⟨b, 0, none⟩ : Addr).add (j * (Kd.slice 9 Kd.string).sz + 0) = ⟨b, j, none⟩ from by rw [show (Kd.slice 9 Kd.string).sz = 1 from rfl]; simp [Addr.add]; try omega]
      exact (blk_cell hb j).trans (by simp [hv])⟩⟩
/-- A text with another one put in. -/
def insB (s : ByteArray) (a : Nat) (t : ByteArray) : ByteArray := s.extract 0 a ++ t ++ s.extract a s.size
def delB (s : ByteArray) (a k : Nat) : ByteArray := s.extract 0 a ++ s.extract (a + k) s.size
theorem Ro.ins_byt (s : ByteArray) (a : Nat) (t : ByteArray) : byt (insB s a t) = (byt s).take a ++ byt t ++ (byt s).drop a := by
  unfold insB
  rw [Ro.byt_cat, Ro.byt_cat, Ro.byt_ext, Ro.byt_ext, List.drop_zero, List.take_of_length_le (l := byt s) (i := s.size) (by rw [Ro.byt_size]; exact Nat.le_refl _)]
theorem Ro.del_byt (s : ByteArray) (a k : Nat) : byt (delB s a k) = (byt s).take a ++ (byt s).drop (a + k) := by
  unfold delB
  rw [Ro.byt_cat, Ro.byt_ext, Ro.byt_ext, List.drop_zero, List.take_of_length_le (l := byt s) (i := s.size) (by rw [Ro.byt_size]; exact Nat.le_refl _)]
theorem Ro.ins_size (s : ByteArray) (a : Nat) (t : ByteArray) (h : a ≤ s.size) : (insB s a t).size = s.size + t.size := by
  rw [← Ro.byt_size, Ro.ins_byt]; simp only [List.length_append, List.length_take, List.length_drop, Ro.byt_size]; omega
theorem Ro.del_size (s : ByteArray) (a k : Nat) (h : a + k ≤ s.size) : (delB s a k).size = s.size - k := by
  rw [← Ro.byt_size, Ro.del_byt]; simp only [List.length_append, List.length_take, List.length_drop, Ro.byt_size]; omega
theorem Ro.lay1 (g : Nat) (v0 : Value) (n : Int) (v : Value) (r : List ByteArray) (w : World) (hg : w.heap[g]? = some (.cells #[v0, .int .i64 n] 54 (0, 0))) (hr : Reads w v r) (hl : r.length ≤ 50000) (hs : ∀ c ∈ r, c.size ≤ 16) :
    Calls Tryd.prog 21 #[.pointer (some ⟨g, 0, none⟩), .slice (some ⟨w.heap.size, 0, none⟩) 1 1] (w.alloc (.cells #[v] 52)) fun e w' => e = .returned (.tuple #[]) ∧ IsRc w' g (layN r) n ∧ Below g w w' := by
  have hk : Below w.heap.size w (w.alloc (.cells #[v] 52)) := below_alloc (Below.refl _ _) _
  have hR : (Kd.slice 9 Kd.string).C (w.alloc (.cells #[v] 52)) (some ⟨w.heap.size, 0, none⟩) [r].length [r] :=
    Ro.rows_at (vs := [v]) (t := 52) (heap_alloc_new _ _) rfl (by simp) (fun j v1 r1 hv hr1 => by
      match j, hv, hr1 with
      | 0, hv, hr1 => cases hv; cases hr1; exact hr.below hk)
  refine (Ro.lay_any g v0 n [r] _ 1 _ (blk_below hg hk) hR (by simp only [List.flatten_cons, List.flatten_nil, List.append_nil]; omega) (by simp) (by simpa using hs)).mono ?_
  rintro e w' ⟨rfl, hI, hb⟩
  refine ⟨rfl, by simpa using hI, Below.trans (Below.mono hk (Nat.le_of_lt (blk_lt hg))) hb⟩
theorem Ro.lay2 (g : Nat) (v0 : Value) (n : Int) (v u : Value) (r q : List ByteArray) (w : World) (hg : w.heap[g]? = some (.cells #[v0, .int .i64 n] 54 (0, 0))) (hr : Reads w v r) (hq : Reads w u q) (hl : r.length + q.length ≤ 50000) (hs : ∀ c ∈ r, c.size ≤ 16) (hs2 : ∀ c ∈ q, c.size ≤ 16) :
    Calls Tryd.prog 21 #[.pointer (some ⟨g, 0, none⟩), .slice (some ⟨w.heap.size, 0, none⟩) 2 2] (w.alloc (.cells #[v, u] 52)) fun e w' => e = .returned (.tuple #[]) ∧ IsRc w' g (layN (r ++ q)) n ∧ Below g w w' := by
  have hk : Below w.heap.size w (w.alloc (.cells #[v, u] 52)) := below_alloc (Below.refl _ _) _
  have hR : (Kd.slice 9 Kd.string).C (w.alloc (.cells #[v, u] 52)) (some ⟨w.heap.size, 0, none⟩) [r, q].length [r, q] :=
    Ro.rows_at (vs := [v, u]) (t := 52) (heap_alloc_new _ _) rfl (by simp) (fun j v1 r1 hv hr1 => by
      match j, hv, hr1 with
      | 0, hv, hr1 => cases hv; cases hr1; exact hr.below hk
      | 1, hv, hr1 => cases hv; cases hr1; exact hq.below hk)
  refine (Ro.lay_any g v0 n [r, q] _ 2 _ (blk_below hg hk) hR (by simp only [List.flatten_cons, List.flatten_nil, List.append_nil, List.length_append]; omega) (by simp) (fun c hc => by simp only [List.flatten_cons, List.flatten_nil, List.append_nil, List.mem_append] at hc; exact hc.elim (hs c) (hs2 c))).mono ?_
  rintro e w' ⟨rfl, hI, hb⟩
  refine ⟨rfl, by simpa using hI, Below.trans (Below.mono hk (Nat.le_of_lt (blk_lt hg))) hb⟩
theorem Ro.lay3 (g : Nat) (v0 : Value) (n : Int) (v u x : Value) (r q p : List ByteArray) (w : World) (hg : w.heap[g]? = some (.cells #[v0, .int .i64 n] 54 (0, 0))) (hr : Reads w v r) (hq : Reads w u q) (hp : Reads w x p) (hl : r.length + q.length + p.length ≤ 50000) (hs : ∀ c ∈ r, c.size ≤ 16) (hs2 : ∀ c ∈ q, c.size ≤ 16) (hs3 : ∀ c ∈ p, c.size ≤ 16) :
    Calls Tryd.prog 21 #[.pointer (some ⟨g, 0, none⟩), .slice (some ⟨w.heap.size, 0, none⟩) 3 3] (w.alloc (.cells #[v, u, x] 52)) fun e w' => e = .returned (.tuple #[]) ∧ IsRc w' g (layN (r ++ (q ++ p))) n ∧ Below g w w' := by
  have hk : Below w.heap.size w (w.alloc (.cells #[v, u, x] 52)) := below_alloc (Below.refl _ _) _
  have hR : (Kd.slice 9 Kd.string).C (w.alloc (.cells #[v, u, x] 52)) (some ⟨w.heap.size, 0, none⟩) [r, q, p].length [r, q, p] :=
    Ro.rows_at (vs := [v, u, x]) (t := 52) (heap_alloc_new _ _) rfl (by simp) (fun j v1 r1 hv hr1 => by
      match j, hv, hr1 with
      | 0, hv, hr1 => cases hv; cases hr1; exact hr.below hk
      | 1, hv, hr1 => cases hv; cases hr1; exact hq.below hk
      | 2, hv, hr1 => cases hv; cases hr1; exact hp.below hk)
  refine (Ro.lay_any g v0 n [r, q, p] _ 3 _ (blk_below hg hk) hR (by simp only [List.flatten_cons, List.flatten_nil, List.append_nil, List.length_append]; omega) (by simp) (fun c hc => by simp only [List.flatten_cons, List.flatten_nil, List.append_nil, List.mem_append] at hc; exact hc.elim (hs c) (fun h => h.elim (hs2 c) (hs3 c)))).mono ?_
  rintro e w' ⟨rfl, hI, hb⟩
  refine ⟨rfl, by simpa using hI, Below.trans (Below.mono hk (Nat.le_of_lt (blk_lt hg))) hb⟩
set_option maxHeartbeats 8000000 in
set_option maxRecDepth 100000 in
theorem Ro.slice_any (g : Nat) (s : ByteArray) (a k : Nat) (w : World) (h : IsR w g s) (hak : a + k ≤ s.size) :
    Calls Tryd.prog 12 #[.pointer (some ⟨g, 0, none⟩), .int .i64 (a : Int), .int .i64 (k : Int)] w fun e w' => e = .returned (.tuple #[.string (s.extract a (a + k)), .int .i64 0]) ∧ Below w.heap.size w w' := by
  have HB := Aside0.mk (Below.refl w.heap.size w)
  have hs := h.choose_spec.2.2.2
  have HT : Aside0 (∀ w2, Below w.heap.size w w2 → Calls Tryd.prog 18 #[.pointer (some ⟨g, 0, none⟩)] w2 fun e w' => e = .returned (.string s) ∧ Below w2.heap.size w2 w') := ⟨fun w2 k => Ro.text_any g s w2 (h.below k)⟩
  obtain ⟨cs, hI, -⟩ := h
  have HW : Aside0 (∀ w2, Below w.heap.size w w2 → Calls Tryd.prog 24 #[.pointer (some ⟨g, 0, none⟩), .int .i64 (a : Int), .int .i64 (k : Int)] w2 fun e w' => e = .returned (.bool true) ∧ Below w2.heap.size w2 w') := ⟨fun w2 kk => by
    have hb : thereN (s.size : Int) (a : Int) (k : Int) = true := by
      unfold thereN
      rw [show wrap64 ((s.size : Int) - (a : Int)) = (s.size : Int) - (a : Int) from by unfold wrap64; omega]
      simp only [Bool.and_eq_true, decide_eq_true_eq]; omega
    rw [← hb]; exact Ro.there_any g cs _ _ _ w2 (hI.below kk)⟩
  have p1 := eq_true (show (0 : Int) ≤ (a : Int) by omega)
  have q1 := eq_true (show (a : Int) ≤ (a : Int) + (k : Int) by omega)
  have r1 := eq_true (show (a : Int) + (k : Int) ≤ (s.size : Int) by omega)
  clear hI
  go_enter Tryd.func12, Tryd.ntmps12
  go_wp2_with (first | (go_at_call 24; refine (HW.out _ (by repeat (first | (with_reducible first | exact HB.out | apply below_alloc | apply pw_below_drewN | apply below_drew1) | exact HB.out))).mono ?_; rintro e w2 ⟨rfl, hb2⟩; have n0_ := Aside0.mk (below_step HB.out hb2); clear HB hb2; have HB := n0_; clear n0_) | (go_at_call 18; refine (HT.out _ (by repeat (first | (with_reducible first | exact HB.out | apply below_alloc | apply pw_below_drewN | apply below_drew1) | exact HB.out))).mono ?_; rintro e w2 ⟨rfl, hb2⟩; have n0_ := Aside0.mk (below_step HB.out hb2); clear HB hb2; have HB := n0_; clear n0_))
  go_ret2
  exact ⟨by first | rfl | (have e_ : ((a : Int) + (k : Int)).toNat = a + k := by omega
                           simp [e_]), by repeat (first | (with_reducible first | exact HB.out | apply below_alloc | apply pw_below_drewN | apply below_drew1) | exact HB.out)⟩
set_option maxHeartbeats 8000000 in
set_option maxRecDepth 100000 in
theorem Ro.slice_bad (g : Nat) (s : ByteArray) (a k : Int) (w : World) (h : IsR w g s) (hb : thereN (s.size : Int) a k = false) :
    Calls Tryd.prog 12 #[.pointer (some ⟨g, 0, none⟩), .int .i64 a, .int .i64 k] w fun e w' => e = .returned (.tuple #[.string ⟨#[]⟩, .int .i64 100]) ∧ Below w.heap.size w w' := by
  have HB := Aside0.mk (Below.refl w.heap.size w)
  obtain ⟨cs, hI, -⟩ := h
  have HW : Aside0 (∀ w2, Below w.heap.size w w2 → Calls Tryd.prog 24 #[.pointer (some ⟨g, 0, none⟩), .int .i64 a, .int .i64 k] w2 fun e w' => e = .returned (.bool false) ∧ Below w2.heap.size w2 w') := ⟨fun w2 kk => by
    rw [← hb]; exact Ro.there_any g cs _ _ _ w2 (hI.below kk)⟩
  clear hI hb
  go_enter Tryd.func12, Tryd.ntmps12
  go_wp2_with (first | (go_at_call 24; refine (HW.out _ (by repeat (first | (with_reducible first | exact HB.out | apply below_alloc | apply pw_below_drewN | apply below_drew1) | exact HB.out))).mono ?_; rintro e w2 ⟨rfl, hb2⟩; have n0_ := Aside0.mk (below_step HB.out hb2); clear HB hb2; have HB := n0_; clear n0_))
  go_ret2
  exact ⟨rfl, by repeat (first | (with_reducible first | exact HB.out | apply below_alloc | apply pw_below_drewN | apply below_drew1) | exact HB.out)⟩
set_option maxHeartbeats 8000000 in
set_option maxRecDepth 100000 in
theorem Ro.new_big (s : ByteArray) (w : World) (h : 4096 < s.size) :
    Calls Tryd.prog 7 #[.string s] w fun e w' => e = .returned (.tuple #[.pointer none, .int .i64 100]) ∧ Below w.heap.size w w' := by
  have HB := Aside0.mk (Below.refl w.heap.size w)
  have b1 : decide ((4096 : Int) < (s.size : Int)) = true := decide_eq_true (by omega)
  have b2 : decide (4096 < s.size) = true := decide_eq_true (by omega)
  go_enter Tryd.func7, Tryd.ntmps7
  go_wp2
  go_ret2
  exact ⟨rfl, by repeat (first | (with_reducible first | exact HB.out | apply below_alloc | apply pw_below_drewN | apply below_drew1) | exact HB.out)⟩
set_option maxHeartbeats 8000000 in
set_option maxRecDepth 100000 in
theorem Ro.new_any (s : ByteArray) (w : World) (h : s.size ≤ 4096) :
    Calls Tryd.prog 7 #[.string s] w fun e w' => ∃ g, e = .returned (.tuple #[.pointer (some ⟨g, 0, none⟩), .int .i64 0]) ∧ IsR w' g s ∧ w.heap.size ≤ g ∧ Below w.heap.size w w' := by
  have HB := Aside0.mk (Below.refl w.heap.size w)
  have b1 : decide ((4096 : Int) < (s.size : Int)) = false := decide_eq_false (by omega)
  have b2 : decide (4096 < s.size) = false := decide_eq_false (by omega)
  have hcl : (cutN s).length ≤ 50000 := by have := Ro.cutB_len s.size s; unfold cutN; omega
  have hcs : ∀ c ∈ cutN s, c.size ≤ 16 := Ro.cut_small s.size s (by omega)
  have HLAY := Aside0.mk (fun (gr : Nat) (v : Value) (w3 : World) (hb : w3.heap[gr]? = some (.cells #[.slice none 0 0, .int .i64 (s.size : Int)] 54 (0, 0))) (hr : Reads w3 v (cutN s)) => Ro.lay1 gr _ (s.size : Int) v (cutN s) w3 hb hr hcl hcs)
  have HCUT := Aside0.mk (fun (w3 : World) => Ro.cut_any s w3 (by omega))
  have HCS := Aside0.mk hcs
  clear hcl hcs
  go_enter Tryd.func7, Tryd.ntmps7
  go_upto_region 4 with (first | ((with_reducible refine gate_dst (N := 11) rfl ?_); refine box_event ?hg (N := 11) ?hd (cs := #[.slice none 0 0, .int .i64 (s.size : Int)]) (t := 54) ?hr ?_; (case hd => rfl); (case hg => rfl); (case hr => first | (go_simp; done) | (go_simp; rfl)); intro gr hgr w2 hbox hb2; have BR := Aside0.mk hbox; have GR := Aside0.mk ((by rw [hgr]; exact Nat.le_refl _) : w.heap.size ≤ gr); clear HB; have HB := Aside0.mk hb2; clear hb2 hbox hgr))
  go_wp2_with (first | (go_at_call 22; refine (HCUT.out _).mono ?_; rintro e w3 ⟨v3, rfl, hR, hb2⟩; obtain ⟨A3, c3, rfl, hc3, hC3⟩ := Kd.R_reads hR; have BR3 := Aside0.mk (blk_below BR.out hb2); have HR3 : Aside0 (Reads w3 (.slice A3 (cutN s).length c3) (cutN s)) := ⟨⟨A3, c3, rfl, hc3, hC3⟩⟩; clear hR hc3 hC3; have n0_ := Aside0.mk (below_step HB.out hb2); clear HB hb2; have HB := n0_; clear n0_) | (go_at_call 21; refine (HLAY.out _ _ _ BR3.out HR3.out).mono ?_; rintro e w4 ⟨rfl, hI, hb4⟩; have HI4 := Aside0.mk hI; have n0_ := Aside0.mk (below_weaken HB.out GR.out hb4); clear HB hb4 hI; have HB := n0_; clear n0_))
  go_ret2
  refine ⟨gr, rfl, ?_, GR.out, by repeat (first | (with_reducible first | exact HB.out | apply below_alloc | apply pw_below_drewN | apply below_drew1) | exact HB.out)⟩
  exact IsR.below (W := w4) ⟨_, HI4.out, by rw [Ro.T_lay]; exact Ro.T_cut s.size s, Ro.Ck_lay HCS.out, h⟩ (by repeat (first | (with_reducible first | exact Below.refl _ _ | apply below_alloc | apply pw_below_drewN | apply below_drew1) | exact Below.refl _ _))
end Go.Proofs.YtdnhbbgahipbdaaDoor.G
