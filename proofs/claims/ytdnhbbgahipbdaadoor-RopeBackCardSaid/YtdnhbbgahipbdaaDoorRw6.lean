/- Insert, Delete by their contracts. -/
import Derived.Test.YtdnhbbgahipbdaaDoorRw5
namespace Go.Proofs.YtdnhbbgahipbdaaDoor.G
open Go.RowKit Go.Proofs.YtdnhbbgahipbdaaDoorW.PrintWords Go.Proofs.YtdnhbbgahipbdaaDoorW.PrintLast Go.Proofs.YtdnhbbgahipbdaaDoorW.PrintMore
open Go.Proofs.YtdnhbbgahipbdaaDoor.Ro (T cutN cutB layS layN findN aheadN behindN Ck byt)
set_option linter.unusedVariables false
set_option linter.unusedSimpArgs false
/-- The size's cell set anew. -/
theorem IsRc.size {W : World} {g : Nat} {cs : List ByteArray} {n : Int} (h : IsRc W g cs n) (k : Int) : IsRc (W.setCell ⟨g, 1, none⟩ (.int .i64 k)) g cs k := by
  obtain ⟨v, h1, h2⟩ := h
  exact ⟨v, (blk_set h1 1 _).trans rfl, Kd.R_set h2 h1 (by decide) 1 _⟩
set_option maxHeartbeats 8000000 in
set_option maxRecDepth 100000 in
theorem Ro.insert_bad (g : Nat) (s t : ByteArray) (a : Int) (w : World) (h : IsR w g s) (hbad : a < 0 ∨ (s.size : Int) < a ∨ 4096 - (s.size : Int) < (t.size : Int)) :
    Calls Tryd.prog 10 #[.pointer (some ⟨g, 0, none⟩), .int .i64 a, .string t] w fun e w' => e = .returned (.int .i64 100) ∧ Below w.heap.size w w' := by
  have HB := Aside0.mk (Below.refl w.heap.size w)
  have hs := h.choose_spec.2.2.2
  obtain ⟨cs, hI, -⟩ := h
  obtain ⟨A, c, hb, -, -⟩ := hI.cells
  obtain ⟨x0, x1, -, -⟩ := Ro.two hb
  clear hI hb
  by_cases h1 : a < 0
  · have b1 : decide (a < 0) = true := decide_eq_true h1
    clear hbad
    go_enter Tryd.func10, Tryd.ntmps10
    go_wp2
    go_ret
    exact ⟨rfl, by repeat (first | (with_reducible first | exact HB.out | apply below_alloc | apply pw_below_drewN | apply below_drew1) | exact HB.out)⟩
  · have b1 : decide (a < 0) = false := decide_eq_false h1
    by_cases h2 : (s.size : Int) < a
    · have b2 : decide ((s.size : Int) < a) = true := decide_eq_true h2
      clear hbad
      go_enter Tryd.func10, Tryd.ntmps10
      go_wp2
      go_ret
      exact ⟨rfl, by repeat (first | (with_reducible first | exact HB.out | apply below_alloc | apply pw_below_drewN | apply below_drew1) | exact HB.out)⟩
    · have b2 : decide ((s.size : Int) < a) = false := decide_eq_false h2
      have h3 : 4096 - (s.size : Int) < (t.size : Int) := (hbad.resolve_left h1).resolve_left h2
      have b3 : decide (4096 - (s.size : Int) < (t.size : Int)) = true := decide_eq_true h3
      clear hbad
      go_enter Tryd.func10, Tryd.ntmps10
      go_wp2
      go_ret
      exact ⟨rfl, by repeat (first | (with_reducible first | exact HB.out | apply below_alloc | apply pw_below_drewN | apply below_drew1) | exact HB.out)⟩
theorem Ro.insert_nil (a : Int) (t : ByteArray) (w : World) :
    Calls Tryd.prog 10 #[.pointer none, .int .i64 a, .string t] w fun e w' => e = .returned (.int .i64 1) ∧ Below w.heap.size w w' := by
  have HB := Aside0.mk (Below.refl w.heap.size w)
  go_enter Tryd.func10, Tryd.ntmps10
  go_wp2
  go_ret
  exact ⟨rfl, by repeat (first | (with_reducible first | exact HB.out | apply below_alloc | apply pw_below_drewN | apply below_drew1) | exact HB.out)⟩
set_option maxHeartbeats 8000000 in
set_option maxRecDepth 100000 in
theorem Ro.insert_any (g : Nat) (s t : ByteArray) (a : Nat) (w : World) (h : IsR w g s) (ha : a ≤ s.size) (hst : s.size + t.size ≤ 4096) :
    Calls Tryd.prog 10 #[.pointer (some ⟨g, 0, none⟩), .int .i64 (a : Int), .string t] w fun e w' => e = .returned (.int .i64 0) ∧ IsR w' g (insB s a t) ∧ Below g w w' := by
  have HB := Aside0.mk (Below.refl w.heap.size w)
  obtain ⟨cs, hI, hT, hK, hs⟩ := h
  have hTl : (T cs).length = s.size := by rw [hT, Ro.byt_size]
  have hcl : cs.length ≤ 4096 := by have := Ro.count_le (fun c hc => (hK.1 c hc).1); omega
  have hc16 : ∀ c ∈ cs, c.size ≤ 16 := fun c hc => (hK.1 c hc).2
  have HSP := Aside0.mk (fun (w2 : World) (k : Below w.heap.size w w2) => Ro.split_any g cs (s.size : Int) a w2 (hI.below k) (by omega) (by omega) (by omega))
  have HCUT := Aside0.mk (fun (w2 : World) => Ro.cut_any t w2 (by omega))
  have e1 := Ro.ahead_len cs a
  have e2 := Ro.behind_len cs a
  have e3 := Ro.cutB_len t.size t
  have s3 : ∀ c ∈ cutN t, c.size ≤ 16 := Ro.cut_small t.size t (by omega)
  have e4 : (aheadN cs a).length + (cutN t).length + (behindN cs a).length ≤ 50000 := by unfold cutN; omega
  have HLAY := Aside0.mk (fun (v0 v u x : Value) (w3 : World) (hb : w3.heap[g]? = some (.cells #[v0, .int .i64 (s.size : Int)] 54 (0, 0))) (h1 : Reads w3 v (aheadN cs a)) (h2 : Reads w3 u (cutN t)) (h3 : Reads w3 x (behindN cs a)) => Ro.lay3 g v0 (s.size : Int) v u x _ _ _ w3 hb h1 h2 h3 e4 (Ro.ahead_small hc16 a) s3 (Ro.behind_small hc16 a))
  obtain ⟨A, c, hb, -, -⟩ := hI.cells
  have HX := Aside0.mk hb
  obtain ⟨x0, x1, -, -⟩ := Ro.two hb
  have GL := Aside0.mk (blk_lt hb)
  have b1 : decide ((a : Int) < 0) = false := decide_eq_false (by omega)
  have b2 : decide ((s.size : Int) < (a : Int)) = false := decide_eq_false (by omega)
  have b2n : decide (s.size < a) = false := decide_eq_false (by omega)
  have b3 : decide (4096 - (s.size : Int) < (t.size : Int)) = false := decide_eq_false (by omega)
  have HTT := Aside0.mk hT
  have HTL := Aside0.mk hTl
  have H16 := Aside0.mk hc16
  have HS3 := Aside0.mk s3
  have HAA := Aside0.mk ha
  have HST := Aside0.mk hst
  clear hI hb e1 e2 e3 e4 s3 hc16 hTl hT hK hcl ha
  go_enter Tryd.func10, Tryd.ntmps10
  go_upto_region 7 with (first | (go_at_call 23; refine (HSP.out _ (by repeat (first | (with_reducible first | exact HB.out | apply below_alloc | apply pw_below_drewN | apply below_drew1) | exact HB.out))).mono ?_; rintro e w2 ⟨v1, v2, rfl, hr1, hr2, hb2⟩; have R1 := Aside0.mk hr1; have R2 := Aside0.mk hr2; have n0_ := Aside0.mk (below_step (by repeat (first | (with_reducible first | exact HB.out | apply below_alloc | apply pw_below_drewN | apply below_drew1) | exact HB.out)) hb2); clear HB hb2 hr1 hr2; have HB := n0_; clear n0_; clear x0 x1) | (go_at_call 22; refine (HCUT.out _).mono ?_; rintro e w3 ⟨v3, rfl, hR, hb2⟩; have R3 : Aside0 (Reads w3 v3 (cutN t)) := ⟨Kd.R_reads hR⟩; have n1_ := Aside0.mk (Reads.below R1.out hb2); have n2_ := Aside0.mk (Reads.below R2.out hb2); clear hR R1 R2; have R1 := n1_; have R2 := n2_; clear n1_ n2_; have n0_ := Aside0.mk (below_step HB.out hb2); clear HB hb2; have HB := n0_; clear n0_; obtain ⟨A1, c1, rfl, -, -⟩ := id R1.out; obtain ⟨A2, c2, rfl, -, -⟩ := id R2.out; obtain ⟨A3, c3, rfl, -, -⟩ := id R3.out) | (go_at_call 21; refine (HLAY.out _ _ _ _ _ (blk_below HX.out HB.out) R1.out R3.out R2.out).mono ?_; rintro e w4 ⟨rfl, hI, hb4⟩; have HI4 := Aside0.mk hI; have HB4 := Aside0.mk (Below.trans (Below.mono HB.out (Nat.le_of_lt GL.out)) hb4); clear HB hI hb4))
  obtain ⟨A5, c5, hb5, -, -⟩ := HI4.out.cells
  obtain ⟨y0, y1, y2, y3⟩ := Ro.two hb5
  clear hb5
  go_wp2
  go_ret
  have hz := HST.out
  have ha := HAA.out
  have es : ((insB s a t).size : Int) = (s.size : Int) + (t.size : Int) := by rw [Ro.ins_size s a t ha]; omega
  refine ⟨rfl, ⟨_, by rw [es]; exact HI4.out.size _, ?_, ?_, ?_⟩, HB4.out.setCell (p := ⟨g, 1, none⟩) (Nat.le_refl _) _⟩
  · rw [Ro.T_lay, Ro.T_app, Ro.T_app, Ro.ahead_T cs a (by rw [HTL.out]; exact ha), Ro.behind_T cs a (by rw [HTL.out]; exact ha), HTT.out, Ro.ins_byt, List.append_assoc]
    rw [show T (cutN t) = byt t from Ro.T_cut t.size t]
  · refine Ro.Ck_lay (fun c hc => ?_)
    rcases List.mem_append.1 hc with hc | hc
    · exact Ro.ahead_small H16.out a c hc
    · rcases List.mem_append.1 hc with hc | hc
      · exact HS3.out c hc
      · exact Ro.behind_small H16.out a c hc
  · rw [Ro.ins_size s a t ha]; exact hz
set_option maxHeartbeats 8000000 in
set_option maxRecDepth 100000 in
theorem Ro.delete_bad (g : Nat) (s : ByteArray) (a k : Int) (w : World) (h : IsR w g s) (hb : thereN (s.size : Int) a k = false) :
    Calls Tryd.prog 11 #[.pointer (some ⟨g, 0, none⟩), .int .i64 a, .int .i64 k] w fun e w' => e = .returned (.int .i64 100) ∧ Below w.heap.size w w' := by
  have HB := Aside0.mk (Below.refl w.heap.size w)
  obtain ⟨cs, hI, -⟩ := h
  have HW : Aside0 (∀ w2, Below w.heap.size w w2 → Calls Tryd.prog 24 #[.pointer (some ⟨g, 0, none⟩), .int .i64 a, .int .i64 k] w2 fun e w' => e = .returned (.bool false) ∧ Below w2.heap.size w2 w') := ⟨fun w2 kk => by
    rw [← hb]; exact Ro.there_any g cs _ _ _ w2 (hI.below kk)⟩
  clear hI hb
  go_enter Tryd.func11, Tryd.ntmps11
  go_wp2_with (first | (go_at_call 24; refine (HW.out _ (by repeat (first | (with_reducible first | exact HB.out | apply below_alloc | apply pw_below_drewN | apply below_drew1) | exact HB.out))).mono ?_; rintro e w2 ⟨rfl, hb2⟩; have n0_ := Aside0.mk (below_step HB.out hb2); clear HB hb2; have HB := n0_; clear n0_))
  go_ret
  exact ⟨rfl, by repeat (first | (with_reducible first | exact HB.out | apply below_alloc | apply pw_below_drewN | apply below_drew1) | exact HB.out)⟩
set_option maxHeartbeats 8000000 in
set_option maxRecDepth 100000 in
theorem Ro.delete_any (g : Nat) (s : ByteArray) (a k : Nat) (w : World) (h : IsR w g s) (hak : a + k ≤ s.size) :
    Calls Tryd.prog 11 #[.pointer (some ⟨g, 0, none⟩), .int .i64 (a : Int), .int .i64 (k : Int)] w fun e w' => e = .returned (.int .i64 0) ∧ IsR w' g (delB s a k) ∧ Below g w w' := by
  have HB := Aside0.mk (Below.refl w.heap.size w)
  obtain ⟨cs, hI, hT, hK, hs⟩ := h
  have hTl : (T cs).length = s.size := by rw [hT, Ro.byt_size]
  have hcl : cs.length ≤ 4096 := by have := Ro.count_le (fun c hc => (hK.1 c hc).1); omega
  have hc16 : ∀ c ∈ cs, c.size ≤ 16 := fun c hc => (hK.1 c hc).2
  have HW : Aside0 (∀ w2, Below w.heap.size w w2 → Calls Tryd.prog 24 #[.pointer (some ⟨g, 0, none⟩), .int .i64 (a : Int), .int .i64 (k : Int)] w2 fun e w' => e = .returned (.bool true) ∧ Below w2.heap.size w2 w') := ⟨fun w2 kk => by
    have hb : thereN (s.size : Int) (a : Int) (k : Int) = true := by
      unfold thereN
      rw [show wrap64 ((s.size : Int) - (a : Int)) = (s.size : Int) - (a : Int) from by unfold wrap64; omega]
      simp only [Bool.and_eq_true, decide_eq_true_eq]; omega
    rw [← hb]; exact Ro.there_any g cs _ _ _ w2 (hI.below kk)⟩
  have HSP := Aside0.mk (fun (w2 : World) (kk : Below w.heap.size w w2) => Ro.split_any g cs (s.size : Int) a w2 (hI.below kk) (by omega) (by omega) (by omega))
  have HSQ := Aside0.mk (fun (w2 : World) (kk : Below w.heap.size w w2) => Ro.split_any g cs (s.size : Int) (a + k) w2 (hI.below kk) (by omega) (by omega) (by omega))
  have e1 := Ro.ahead_len cs a
  have e2 := Ro.behind_len cs (a + k)
  have e4 : (aheadN cs a).length + (behindN cs (a + k)).length ≤ 50000 := by omega
  have HLAY := Aside0.mk (fun (v0 v x : Value) (w3 : World) (hb : w3.heap[g]? = some (.cells #[v0, .int .i64 (s.size : Int)] 54 (0, 0))) (h1 : Reads w3 v (aheadN cs a)) (h3 : Reads w3 x (behindN cs (a + k))) => Ro.lay2 g v0 (s.size : Int) v x _ _ w3 hb h1 h3 e4 (Ro.ahead_small hc16 a) (Ro.behind_small hc16 (a + k)))
  obtain ⟨A, c, hb, -, -⟩ := hI.cells
  have HX := Aside0.mk hb
  have GL := Aside0.mk (blk_lt hb)
  have HTT := Aside0.mk hT
  have HTL := Aside0.mk hTl
  have H16 := Aside0.mk hc16
  have HAA := Aside0.mk hak
  have HSS := Aside0.mk hs
  clear hI hb e1 e2 e4 hc16 hTl hT hK hcl
  go_enter Tryd.func11, Tryd.ntmps11
  go_upto_region 6 with (first | (go_at_call 24; refine (HW.out _ (by repeat (first | (with_reducible first | exact HB.out | apply below_alloc | apply pw_below_drewN | apply below_drew1) | exact HB.out))).mono ?_; rintro e w2 ⟨rfl, hb2⟩; have n0_ := Aside0.mk (below_step HB.out hb2); clear HB hb2; have HB := n0_; clear n0_) | (go_at_call 23; refine (HSP.out _ (by repeat (first | (with_reducible first | exact HB.out | apply below_alloc | apply pw_below_drewN | apply below_drew1) | exact HB.out))).mono ?_; rintro e w2 ⟨v1, v2, rfl, hr1, hr2, hb2⟩; have R1 := Aside0.mk hr1; have n0_ := Aside0.mk (below_step (by repeat (first | (with_reducible first | exact HB.out | apply below_alloc | apply pw_below_drewN | apply below_drew1) | exact HB.out)) hb2); clear HB hb2 hr1 hr2; have HB := n0_; clear n0_))
  go_upto_region 8 with (first | (go_at_call 23; refine (HSQ.out _ (by repeat (first | (with_reducible first | exact HB.out | apply below_alloc | apply pw_below_drewN | apply below_drew1) | exact HB.out))).mono ?_; rintro e w3 ⟨v3, v4, rfl, hr1, hr2, hb2⟩; have R2 := Aside0.mk hr2; have n1_ := Aside0.mk (Reads.below R1.out hb2); clear R1; have R1 := n1_; clear n1_; have n0_ := Aside0.mk (below_step (by repeat (first | (with_reducible first | exact HB.out | apply below_alloc | apply pw_below_drewN | apply below_drew1) | exact HB.out)) hb2); clear HB hb2 hr1 hr2; have HB := n0_; clear n0_; obtain ⟨A1, c1, rfl, -, -⟩ := id R1.out; obtain ⟨A2, c2, rfl, -, -⟩ := id R2.out) | (go_at_call 21; refine (HLAY.out _ _ _ _ (blk_below HX.out HB.out) R1.out R2.out).mono ?_; rintro e w4 ⟨rfl, hI, hb4⟩; have HI4 := Aside0.mk hI; have HB4 := Aside0.mk (Below.trans (Below.mono HB.out (Nat.le_of_lt GL.out)) hb4); clear HB hI hb4))
  obtain ⟨A5, c5, hb5, -, -⟩ := HI4.out.cells
  obtain ⟨y0, y1, y2, y3⟩ := Ro.two hb5
  clear hb5
  go_wp2
  go_ret
  have ha := HAA.out
  have es : ((delB s a k).size : Int) = (s.size : Int) - (k : Int) := by rw [Ro.del_size s a k ha]; omega
  refine ⟨rfl, ⟨_, by rw [es]; exact HI4.out.size _, ?_, ?_, ?_⟩, HB4.out.setCell (p := ⟨g, 1, none⟩) (Nat.le_refl _) _⟩
  · rw [Ro.T_lay, Ro.T_app, Ro.ahead_T cs a (by rw [HTL.out]; omega), Ro.behind_T cs (a + k) (by rw [HTL.out]; exact ha), HTT.out, Ro.del_byt]
  · refine Ro.Ck_lay (fun c hc => ?_)
    rcases List.mem_append.1 hc with hc | hc
    · exact Ro.ahead_small H16.out a c hc
    · exact Ro.behind_small H16.out (a + k) c hc
  · rw [Ro.del_size s a k ha]; have := HSS.out; omega
end Go.Proofs.YtdnhbbgahipbdaaDoor.G
