/- The law RopeBack: its call returns true. -/
import Derived.Test.YtdnhbbgahipbdaaDoorRw9
namespace Go.Proofs.YtdnhbbgahipbdaaDoor.G
open Go.RowKit Go.Proofs.YtdnhbbgahipbdaaDoorW.PrintWords Go.Proofs.YtdnhbbgahipbdaaDoorW.PrintLast Go.Proofs.YtdnhbbgahipbdaaDoorW.PrintMore
open Go.Proofs.YtdnhbbgahipbdaaDoor.Ro (T cutN cutB layS layN findN aheadN behindN Ck byt)
set_option linter.unusedVariables false
set_option linter.unusedSimpArgs false
theorem Ro.back_slice (s t : ByteArray) (i : Nat) (h : i ≤ s.size) : (insB s i t).extract i (i + t.size) = t := by
  apply Ro.byt_inj
  have e : ((byt s).take i).length = i := by rw [List.length_take, Ro.byt_size]; omega
  rw [Ro.byt_ext, Ro.ins_byt, List.append_assoc, List.take_append, e, List.take_of_length_le (l := (byt s).take i) (by rw [e]; omega), Nat.add_sub_cancel_left, List.take_append_of_le_length (by rw [Ro.byt_size]; exact Nat.le_refl _), List.take_of_length_le (l := byt t) (by rw [Ro.byt_size]; exact Nat.le_refl _), List.drop_append, e, Nat.sub_self, List.drop_zero, List.drop_eq_nil_of_le (by rw [e]; exact Nat.le_refl _), List.nil_append]
theorem Ro.back_del (s t : ByteArray) (i : Nat) (h : i ≤ s.size) : delB (insB s i t) i t.size = s := by
  apply Ro.byt_inj
  have e : ((byt s).take i).length = i := by rw [List.length_take, Ro.byt_size]; omega
  have e2 : ((byt s).take i ++ byt t).length = i + t.size := by rw [List.length_append, e, Ro.byt_size]
  have h1 : ((byt s).take i ++ byt t ++ (byt s).drop i).drop (i + t.size) = (byt s).drop i := List.drop_left' e2
  have h2 : ((byt s).take i ++ byt t ++ (byt s).drop i).take i = (byt s).take i := by rw [List.append_assoc]; exact List.take_left' e
  rw [Ro.del_byt, Ro.ins_byt, h1, h2, List.take_append_drop]
theorem Ro.umod (a n : Int) (h : 0 < n) (h1 : n ≤ 4097) : 0 ≤ Int.tmod (IntKind.u64.wrap a) n ∧ Int.tmod (IntKind.u64.wrap a) n < n ∧ wrap64 (Int.tmod (IntKind.u64.wrap a) n) = Int.tmod (IntKind.u64.wrap a) n := by
  have h0 : 0 ≤ IntKind.u64.wrap a := by simp only [IntKind.wrap, IntKind.signed, IntKind.bits]; first | omega | (simp; omega)
  have a1 : 0 ≤ Int.tmod (IntKind.u64.wrap a) n := Int.tmod_nonneg _ h0
  have a2 : Int.tmod (IntKind.u64.wrap a) n < n := Int.tmod_lt_of_pos _ h
  exact ⟨a1, a2, by unfold wrap64; omega⟩
theorem Ro.len_R (g : Nat) (s : ByteArray) (w : World) (h : IsR w g s) : Calls Tryd.prog 17 #[.pointer (some ⟨g, 0, none⟩)] w fun e w' => e = .returned (.int .i64 (s.size : Int)) ∧ Below w.heap.size w w' := by
  obtain ⟨cs, hI, -⟩ := h
  exact Ro.len_any g cs _ w hI
set_option maxHeartbeats 8000000 in
set_option maxRecDepth 100000 in
theorem Ro.back_any (s t : ByteArray) (a : Int) (w : World) (hs0 : s.size ≤ 140737488351232) (ht0 : t.size ≤ 140737488351232) (hm : MaxOk w) :
    Calls Tryd.prog 5 #[.string s, .string t, .int .i64 a] w fun e w' => e = .returned (.bool true) ∧ Below w.heap.size w w' := by
  have HB := Aside0.mk (Below.refl w.heap.size w)
  have HM := Aside0.mk hm
  clear hm
  by_cases hs : s.size ≤ 4096
  · have HNEW := Aside0.mk (fun (w2 : World) => Ro.new_any s w2 hs)
    go_enter Tryd.func5, Tryd.ntmps5
    go_upto_region 4 with (first | (go_at_call 9; refine (Ro.awake_any _ (MaxOk.of HM.out (by repeat (first | (with_reducible first | exact HB.out | apply below_alloc | apply pw_below_drewN | apply below_drew1) | exact HB.out)))).mono ?_; rintro e w2 ⟨rfl, hb2⟩; have n0_ := Aside0.mk (below_step (by repeat (first | (with_reducible first | exact HB.out | apply below_alloc | apply pw_below_drewN | apply below_drew1) | exact HB.out)) hb2); clear HB hb2; have HB := n0_; clear n0_) | (go_at_call 7; refine (HNEW.out _).mono ?_; rintro e w2 ⟨g, rfl, hi, hg, hb2⟩; have HI := Aside0.mk hi; have n2_ := Aside0.mk (Nat.le_trans (below_size (by repeat (first | (with_reducible first | exact HB.out | apply below_alloc | apply pw_below_drewN | apply below_drew1) | exact HB.out))) hg); have n0_ := Aside0.mk (below_step (by repeat (first | (with_reducible first | exact HB.out | apply below_alloc | apply pw_below_drewN | apply below_drew1) | exact HB.out)) hb2); clear HB hb2 hi hg; have HB := n0_; have HG := n2_; clear n0_ n2_))
    by_cases hst : s.size + t.size ≤ 4096
    · have c1 : decide ((4096 : Int) < (s.size : Int) + (t.size : Int)) = false := decide_eq_false (by omega)
      have HST := Aside0.mk hst
      go_upto_region 7 with (first | (go_at_call 8; refine (Ro.num_any _ _).mono ?_; rintro e w2 ⟨rfl, hb2⟩; have n0_ := Aside0.mk (below_step (by repeat (first | (with_reducible first | exact HB.out | apply below_alloc | apply pw_below_drewN | apply below_drew1) | exact HB.out)) hb2); have n1_ := Aside0.mk (IsR.below (IsR.below HI.out (by repeat (first | (with_reducible first | exact Below.refl _ _ | apply below_alloc | apply pw_below_drewN | apply below_drew1) | exact Below.refl _ _))) hb2); clear HB HI hb2; have HB := n0_; have HI := n1_; clear n0_ n1_))
      obtain ⟨i, hi, hi2⟩ : ∃ i : Nat, wrap64 ((IntKind.u64.wrap a).tmod ((s.size : Int) + 1)) = (i : Int) ∧ i ≤ s.size := by
        obtain ⟨k0, k1, k2⟩ := Ro.umod a ((s.size : Int) + 1) (by omega) (by omega)
        exact ⟨((IntKind.u64.wrap a).tmod ((s.size : Int) + 1)).toNat, by rw [k2]; omega, by omega⟩
      rw [hi]
      have HIN := Aside0.mk (fun (w2 : World) (h : IsR w2 g s) => Ro.insert_any g s t i w2 h hi2 hst)
      obtain ⟨S1, hS1⟩ : ∃ S1, insB s i t = S1 := ⟨_, rfl⟩
      have hz : S1.size = s.size + t.size := by rw [← hS1]; exact Ro.ins_size s i t hi2
      rw [hS1] at HIN
      have HSL : Aside0 (∀ w2, IsR w2 g S1 → Calls Tryd.prog 12 #[.pointer (some ⟨g, 0, none⟩), .int .i64 (i : Int), .int .i64 (t.size : Int)] w2 fun e w' => e = .returned (.tuple #[.string t, .int .i64 0]) ∧ Below w2.heap.size w2 w') := ⟨fun w2 h => by
        have := Ro.slice_any g S1 i t.size w2 h (by omega)
        rw [← hS1, Ro.back_slice s t i hi2] at this
        exact this⟩
      have HDE : Aside0 (∀ w2, IsR w2 g S1 → Calls Tryd.prog 11 #[.pointer (some ⟨g, 0, none⟩), .int .i64 (i : Int), .int .i64 (t.size : Int)] w2 fun e w' => e = .returned (.int .i64 0) ∧ IsR w' g s ∧ Below g w2 w') := ⟨fun w2 h => by
        have := Ro.delete_any g S1 i t.size w2 h (by omega)
        rw [← hS1, Ro.back_del s t i hi2] at this
        exact this⟩
      have HL1 : Aside0 (∀ w2, IsR w2 g S1 → Calls Tryd.prog 17 #[.pointer (some ⟨g, 0, none⟩)] w2 fun e w' => e = .returned (.int .i64 ((s.size : Int) + (t.size : Int))) ∧ Below w2.heap.size w2 w') := ⟨fun w2 h => by
        have := Ro.len_R g S1 w2 h
        rw [hz] at this
        exact this⟩
      clear hi hS1 hz
      go_upto_region 8 with (first | (go_at_call 10; refine (HIN.out _ (IsR.below HI.out (by repeat (first | (with_reducible first | exact Below.refl _ _ | apply below_alloc | apply pw_below_drewN | apply below_drew1) | exact Below.refl _ _)))).mono ?_; rintro e w2 ⟨rfl, hi, hb2⟩; have n0_ := Aside0.mk (below_weaken (by repeat (first | (with_reducible first | exact HB.out | apply below_alloc | apply pw_below_drewN | apply below_drew1) | exact HB.out)) HG.out hb2); clear HB HI hb2; have HB := n0_; have HI := Aside0.mk hi; clear n0_ hi))
      go_upto_region 9 with (first | (go_at_call 12; refine (HSL.out _ (IsR.below HI.out (by repeat (first | (with_reducible first | exact Below.refl _ _ | apply below_alloc | apply pw_below_drewN | apply below_drew1) | exact Below.refl _ _)))).mono ?_; rintro e w2 ⟨rfl, hb2⟩; have n0_ := Aside0.mk (below_step (by repeat (first | (with_reducible first | exact HB.out | apply below_alloc | apply pw_below_drewN | apply below_drew1) | exact HB.out)) hb2); have n1_ := Aside0.mk (IsR.below (IsR.below HI.out (by repeat (first | (with_reducible first | exact Below.refl _ _ | apply below_alloc | apply pw_below_drewN | apply below_drew1) | exact Below.refl _ _))) hb2); clear HB HI hb2; have HB := n0_; have HI := n1_; clear n0_ n1_))
      go_upto_region 10 with (first | (go_at_call 17; refine (HL1.out _ (IsR.below HI.out (by repeat (first | (with_reducible first | exact Below.refl _ _ | apply below_alloc | apply pw_below_drewN | apply below_drew1) | exact Below.refl _ _)))).mono ?_; rintro e w2 ⟨rfl, hb2⟩; have n0_ := Aside0.mk (below_step (by repeat (first | (with_reducible first | exact HB.out | apply below_alloc | apply pw_below_drewN | apply below_drew1) | exact HB.out)) hb2); have n1_ := Aside0.mk (IsR.below (IsR.below HI.out (by repeat (first | (with_reducible first | exact Below.refl _ _ | apply below_alloc | apply pw_below_drewN | apply below_drew1) | exact Below.refl _ _))) hb2); clear HB HI hb2; have HB := n0_; have HI := n1_; clear n0_ n1_))
      go_upto_region 11 with (first | (go_at_call 11; refine (HDE.out _ (IsR.below HI.out (by repeat (first | (with_reducible first | exact Below.refl _ _ | apply below_alloc | apply pw_below_drewN | apply below_drew1) | exact Below.refl _ _)))).mono ?_; rintro e w2 ⟨rfl, hi, hb2⟩; have n0_ := Aside0.mk (below_weaken (by repeat (first | (with_reducible first | exact HB.out | apply below_alloc | apply pw_below_drewN | apply below_drew1) | exact HB.out)) HG.out hb2); clear HB HI hb2; have HB := n0_; have HI := Aside0.mk hi; clear n0_ hi))
      go_wp2_with (first | (go_at_call 8; refine (Ro.num_any _ _).mono ?_; rintro e w2 ⟨rfl, hb2⟩; have n0_ := Aside0.mk (below_step (by repeat (first | (with_reducible first | exact HB.out | apply below_alloc | apply pw_below_drewN | apply below_drew1) | exact HB.out)) hb2); have n1_ := Aside0.mk (IsR.below (IsR.below HI.out (by repeat (first | (with_reducible first | exact Below.refl _ _ | apply below_alloc | apply pw_below_drewN | apply below_drew1) | exact Below.refl _ _))) hb2); clear HB HI hb2; have HB := n0_; have HI := n1_; clear n0_ n1_) | (go_at_call 18; refine (Ro.text_any _ _ _ (IsR.below HI.out (by repeat (first | (with_reducible first | exact Below.refl _ _ | apply below_alloc | apply pw_below_drewN | apply below_drew1) | exact Below.refl _ _)))).mono ?_; rintro e w2 ⟨rfl, hb2⟩; have n0_ := Aside0.mk (below_step (by repeat (first | (with_reducible first | exact HB.out | apply below_alloc | apply pw_below_drewN | apply below_drew1) | exact HB.out)) hb2); have n1_ := Aside0.mk (IsR.below (IsR.below HI.out (by repeat (first | (with_reducible first | exact Below.refl _ _ | apply below_alloc | apply pw_below_drewN | apply below_drew1) | exact Below.refl _ _))) hb2); clear HB HI hb2; have HB := n0_; have HI := n1_; clear n0_ n1_) | (go_at_call 17; refine (Ro.len_R _ _ _ (IsR.below HI.out (by repeat (first | (with_reducible first | exact Below.refl _ _ | apply below_alloc | apply pw_below_drewN | apply below_drew1) | exact Below.refl _ _)))).mono ?_; rintro e w2 ⟨rfl, hb2⟩; have n0_ := Aside0.mk (below_step (by repeat (first | (with_reducible first | exact HB.out | apply below_alloc | apply pw_below_drewN | apply below_drew1) | exact HB.out)) hb2); have n1_ := Aside0.mk (IsR.below (IsR.below HI.out (by repeat (first | (with_reducible first | exact Below.refl _ _ | apply below_alloc | apply pw_below_drewN | apply below_drew1) | exact Below.refl _ _))) hb2); clear HB HI hb2; have HB := n0_; have HI := n1_; clear n0_ n1_))
      go_ret
      exact ⟨rfl, by repeat (first | (with_reducible first | exact HB.out | apply below_alloc | apply pw_below_drewN | apply below_drew1) | exact HB.out)⟩
    · have c1 : decide ((4096 : Int) < (s.size : Int) + (t.size : Int)) = true := decide_eq_true (by omega)
      go_wp2_with (first | (go_at_call 8; refine (Ro.num_any _ _).mono ?_; rintro e w2 ⟨rfl, hb2⟩; have n0_ := Aside0.mk (below_step (by repeat (first | (with_reducible first | exact HB.out | apply below_alloc | apply pw_below_drewN | apply below_drew1) | exact HB.out)) hb2); have n1_ := Aside0.mk (IsR.below (IsR.below HI.out (by repeat (first | (with_reducible first | exact Below.refl _ _ | apply below_alloc | apply pw_below_drewN | apply below_drew1) | exact Below.refl _ _))) hb2); clear HB HI hb2; have HB := n0_; have HI := n1_; clear n0_ n1_))
      go_ret
      exact ⟨rfl, by repeat (first | (with_reducible first | exact HB.out | apply below_alloc | apply pw_below_drewN | apply below_drew1) | exact HB.out)⟩
  · have c1 : decide ((4096 : Int) < (s.size : Int) + (t.size : Int)) = true := decide_eq_true (by omega)
    have HNEW := Aside0.mk (fun (w2 : World) => Ro.new_big s w2 (by omega))
    go_enter Tryd.func5, Tryd.ntmps5
    go_wp2_with (first | (go_at_call 9; refine (Ro.awake_any _ (MaxOk.of HM.out (by repeat (first | (with_reducible first | exact HB.out | apply below_alloc | apply pw_below_drewN | apply below_drew1) | exact HB.out)))).mono ?_; rintro e w2 ⟨rfl, hb2⟩; have n0_ := Aside0.mk (below_step (by repeat (first | (with_reducible first | exact HB.out | apply below_alloc | apply pw_below_drewN | apply below_drew1) | exact HB.out)) hb2); clear HB hb2; have HB := n0_; clear n0_) | (go_at_call 7; refine (HNEW.out _).mono ?_; rintro e w2 ⟨rfl, hb2⟩; have n0_ := Aside0.mk (below_step (by repeat (first | (with_reducible first | exact HB.out | apply below_alloc | apply pw_below_drewN | apply below_drew1) | exact HB.out)) hb2); clear HB hb2; have HB := n0_; clear n0_) | (go_at_call 8; refine (Ro.num_any _ _).mono ?_; rintro e w2 ⟨rfl, hb2⟩; have n0_ := Aside0.mk (below_step (by repeat (first | (with_reducible first | exact HB.out | apply below_alloc | apply pw_below_drewN | apply below_drew1) | exact HB.out)) hb2); clear HB hb2; have HB := n0_; clear n0_))
    go_ret
    exact ⟨rfl, by repeat (first | (with_reducible first | exact HB.out | apply below_alloc | apply pw_below_drewN | apply below_drew1) | exact HB.out)⟩
end Go.Proofs.YtdnhbbgahipbdaaDoor.G
