/- The law RopeForms: its call returns true. -/
import Derived.Test.YtdnhbbgahipbdaaDoorRw8
namespace Go.Proofs.YtdnhbbgahipbdaaDoor.G
open Go.RowKit Go.Proofs.YtdnhbbgahipbdaaDoorW.PrintWords Go.Proofs.YtdnhbbgahipbdaaDoorW.PrintLast Go.Proofs.YtdnhbbgahipbdaaDoorW.PrintMore
open Go.Proofs.YtdnhbbgahipbdaaDoor.Ro (T cutN cutB layS layN findN aheadN behindN Ck byt)
set_option linter.unusedVariables false
set_option linter.unusedSimpArgs false
theorem Ro.and_mask (a : Int) (m : Nat) (hm : m < 4611686018427387904) : 0 ≤ Go.bits .and .i64 a (m : Int) ∧ Go.bits .and .i64 a (m : Int) ≤ (m : Int) := by
  have h1 : ∀ x y : BitVec 64, y.toNat = m → (x &&& y).toNat ≤ m := by
    intro x y hy; rw [BitVec.toNat_and, hy]; exact Nat.and_le_right
  have h2 := h1 (BitVec.ofInt 64 a) (BitVec.ofInt 64 (m : Int)) (by rw [BitVec.ofInt_natCast, BitVec.toNat_ofNat]; exact Nat.mod_eq_of_lt (by omega))
  have h3 : Go.bits .and .i64 a (m : Int) = IntKind.i64.wrap ((BitVec.ofInt 64 a &&& BitVec.ofInt 64 (m : Int)).toNat : Int) := rfl
  rw [h3, IntKind.wrap_i64]
  omega
theorem Ro.there_no {n a k : Int} (h : a < 0 ∨ n < a ∨ k < 0 ∨ wrap64 (n - a) < k) : thereN n a k = false := by
  unfold thereN
  cases e : (decide (0 ≤ a) && decide (a ≤ n) && decide (0 ≤ k) && decide (k ≤ wrap64 (n - a))) with
  | false => rfl
  | true =>
    simp only [Bool.and_eq_true, decide_eq_true_eq] at e
    rcases h with h | h | h | h <;> omega
theorem Ro.whole (s : ByteArray) : s.extract 0 s.size = s := by
  apply Ro.byt_inj
  rw [Ro.byt_ext, List.drop_zero, List.take_of_length_le (by rw [Ro.byt_size]; exact Nat.le_refl _)]
/-- The eleven bad asks of the law, d at least 1. -/
structure Bads (g : Nat) (s : ByteArray) (d : Int) (w : World) : Prop where
  s1 : Calls Tryd.prog 12 #[.pointer (some ⟨g, 0, none⟩), .int .i64 0, .int .i64 ((s.size : Int) + d)] w fun e w' => e = .returned (.tuple #[.string ⟨#[]⟩, .int .i64 100]) ∧ Below w.heap.size w w'
  s2 : Calls Tryd.prog 12 #[.pointer (some ⟨g, 0, none⟩), .int .i64 ((s.size : Int) + d), .int .i64 0] w fun e w' => e = .returned (.tuple #[.string ⟨#[]⟩, .int .i64 100]) ∧ Below w.heap.size w w'
  s3 : Calls Tryd.prog 12 #[.pointer (some ⟨g, 0, none⟩), .int .i64 0, .int .i64 (-d)] w fun e w' => e = .returned (.tuple #[.string ⟨#[]⟩, .int .i64 100]) ∧ Below w.heap.size w w'
  l1 : Calls Tryd.prog 13 #[.pointer (some ⟨g, 0, none⟩), .int .i64 (-d)] w fun e w' => e = .returned (.tuple #[.int .i64 0, .int .i64 0, .int .i64 100]) ∧ Below w.heap.size w w'
  l2 : Calls Tryd.prog 13 #[.pointer (some ⟨g, 0, none⟩), .int .i64 ((s.size : Int) + d)] w fun e w' => e = .returned (.tuple #[.int .i64 0, .int .i64 0, .int .i64 100]) ∧ Below w.heap.size w w'
  i1 : Calls Tryd.prog 10 #[.pointer (some ⟨g, 0, none⟩), .int .i64 (-d), .string ⟨#[120]⟩] w fun e w' => e = .returned (.int .i64 100) ∧ Below w.heap.size w w'
  i2 : Calls Tryd.prog 10 #[.pointer (some ⟨g, 0, none⟩), .int .i64 ((s.size : Int) + d), .string ⟨#[120]⟩] w fun e w' => e = .returned (.int .i64 100) ∧ Below w.heap.size w w'
  d1 : Calls Tryd.prog 11 #[.pointer (some ⟨g, 0, none⟩), .int .i64 (s.size : Int), .int .i64 d] w fun e w' => e = .returned (.int .i64 100) ∧ Below w.heap.size w w'
  d2 : Calls Tryd.prog 11 #[.pointer (some ⟨g, 0, none⟩), .int .i64 (-d), .int .i64 0] w fun e w' => e = .returned (.int .i64 100) ∧ Below w.heap.size w w'
  d3 : Calls Tryd.prog 11 #[.pointer (some ⟨g, 0, none⟩), .int .i64 0, .int .i64 (-d)] w fun e w' => e = .returned (.int .i64 100) ∧ Below w.heap.size w w'
  good : Calls Tryd.prog 12 #[.pointer (some ⟨g, 0, none⟩), .int .i64 0, .int .i64 (s.size : Int)] w fun e w' => e = .returned (.tuple #[.string s, .int .i64 0]) ∧ Below w.heap.size w w'
  text : Calls Tryd.prog 18 #[.pointer (some ⟨g, 0, none⟩)] w fun e w' => e = .returned (.string s) ∧ Below w.heap.size w w'
theorem Ro.bads (g : Nat) (s : ByteArray) (d : Int) (w : World) (h : IsR w g s) (hd : 1 ≤ d) (hd2 : d ≤ 1024) (hs : s.size ≤ 4096) : Bads g s d w where
  s1 := Ro.slice_bad g s _ _ w h (Ro.there_no (.inr (.inr (.inr (by unfold wrap64; omega)))))
  s2 := Ro.slice_bad g s _ _ w h (Ro.there_no (.inr (.inl (by omega))))
  s3 := Ro.slice_bad g s _ _ w h (Ro.there_no (.inr (.inr (.inl (by omega)))))
  l1 := Ro.line_bad g s _ w h (.inl (by omega))
  l2 := Ro.line_bad g s _ w h (.inr (by omega))
  i1 := Ro.insert_bad g s _ _ w h (.inl (by omega))
  i2 := Ro.insert_bad g s _ _ w h (.inr (.inl (by omega)))
  d1 := Ro.delete_bad g s _ _ w h (Ro.there_no (.inr (.inr (.inr (by unfold wrap64; omega)))))
  d2 := Ro.delete_bad g s _ _ w h (Ro.there_no (.inl (by omega)))
  d3 := Ro.delete_bad g s _ _ w h (Ro.there_no (.inr (.inr (.inl (by omega)))))
  good := by
    have := Ro.slice_any g s 0 s.size w h (by omega)
    rw [Nat.zero_add, Ro.whole] at this
    exact this
  text := Ro.text_any g s w h
set_option maxHeartbeats 8000000 in
set_option maxRecDepth 100000 in
theorem Ro.forms_any (s : ByteArray) (x : Int) (w : World) (hm : MaxOk w) :
    Calls Tryd.prog 4 #[.string s, .int .i64 x] w fun e w' => e = .returned (.bool true) ∧ Below w.heap.size w w' := by
  have HB := Aside0.mk (Below.refl w.heap.size w)
  have HM := Aside0.mk hm
  clear hm
  by_cases hs : s.size ≤ 4096
  · have HS := Aside0.mk hs
    obtain ⟨y, hy⟩ : ∃ y, Go.bits .and .i64 x 1023 = y := ⟨_, rfl⟩
    have hy2 : 0 ≤ y ∧ y ≤ 1023 := by rw [← hy]; exact Ro.and_mask x 1023 (by decide)
    obtain ⟨y0, y1⟩ := hy2
    have HNEW := Aside0.mk (fun (w2 : World) => Ro.new_any s w2 hs)
    go_enter Tryd.func4, Tryd.ntmps4
    go_upto_region 4 with (first | (go_at_call 9; refine (Ro.awake_any _ (MaxOk.of HM.out (by repeat (first | (with_reducible first | exact HB.out | apply below_alloc | apply pw_below_drewN | apply below_drew1) | exact HB.out)))).mono ?_; rintro e w2 ⟨rfl, hb2⟩; have n0_ := Aside0.mk (below_step (by repeat (first | (with_reducible first | exact HB.out | apply below_alloc | apply pw_below_drewN | apply below_drew1) | exact HB.out)) hb2); clear HB hb2; have HB := n0_; clear n0_) | (go_at_call 7; refine (HNEW.out _).mono ?_; rintro e w2 ⟨g, rfl, hi, hg, hb2⟩; have HI := Aside0.mk hi; have n0_ := Aside0.mk (below_step (by repeat (first | (with_reducible first | exact HB.out | apply below_alloc | apply pw_below_drewN | apply below_drew1) | exact HB.out)) hb2); clear HB hb2 hi hg; have HB := n0_; clear n0_))
    have HBD := Aside0.mk (fun (w2 : World) (h : IsR w2 g s) => Ro.bads g s (1 + y) w2 h (by omega) (by omega) HS.out)
    go_upto_region 7 with (first | (go_at_call 8; refine (Ro.num_any _ _).mono ?_; rintro e w2 ⟨rfl, hb2⟩; have n0_ := Aside0.mk (below_step (by repeat (first | (with_reducible first | exact HB.out | apply below_alloc | apply pw_below_drewN | apply below_drew1) | exact HB.out)) hb2); have n1_ := Aside0.mk (IsR.below (IsR.below HI.out (by repeat (first | (with_reducible first | exact Below.refl _ _ | apply below_alloc | apply pw_below_drewN | apply below_drew1) | exact Below.refl _ _))) hb2); clear HB HI hb2; have HB := n0_; have HI := n1_; clear n0_ n1_))
    go_upto_region 8 with (first | (go_at_call 12; (with_reducible refine ((HBD.out _ (IsR.below HI.out (by repeat (first | (with_reducible first | exact Below.refl _ _ | apply below_alloc | apply pw_below_drewN | apply below_drew1) | exact Below.refl _ _)))).s1).mono ?_); rintro e w2 ⟨rfl, hb2⟩; have n0_ := Aside0.mk (below_step (by repeat (first | (with_reducible first | exact HB.out | apply below_alloc | apply pw_below_drewN | apply below_drew1) | exact HB.out)) hb2); have n1_ := Aside0.mk (IsR.below (IsR.below HI.out (by repeat (first | (with_reducible first | exact Below.refl _ _ | apply below_alloc | apply pw_below_drewN | apply below_drew1) | exact Below.refl _ _))) hb2); clear HB HI hb2; have HB := n0_; have HI := n1_; clear n0_ n1_))
    go_upto_region 9 with (first | (go_at_call 12; (with_reducible refine ((HBD.out _ (IsR.below HI.out (by repeat (first | (with_reducible first | exact Below.refl _ _ | apply below_alloc | apply pw_below_drewN | apply below_drew1) | exact Below.refl _ _)))).s2).mono ?_); rintro e w2 ⟨rfl, hb2⟩; have n0_ := Aside0.mk (below_step (by repeat (first | (with_reducible first | exact HB.out | apply below_alloc | apply pw_below_drewN | apply below_drew1) | exact HB.out)) hb2); have n1_ := Aside0.mk (IsR.below (IsR.below HI.out (by repeat (first | (with_reducible first | exact Below.refl _ _ | apply below_alloc | apply pw_below_drewN | apply below_drew1) | exact Below.refl _ _))) hb2); clear HB HI hb2; have HB := n0_; have HI := n1_; clear n0_ n1_))
    go_upto_region 10 with (first | (go_at_call 12; (with_reducible refine ((HBD.out _ (IsR.below HI.out (by repeat (first | (with_reducible first | exact Below.refl _ _ | apply below_alloc | apply pw_below_drewN | apply below_drew1) | exact Below.refl _ _)))).s3).mono ?_); rintro e w2 ⟨rfl, hb2⟩; have n0_ := Aside0.mk (below_step (by repeat (first | (with_reducible first | exact HB.out | apply below_alloc | apply pw_below_drewN | apply below_drew1) | exact HB.out)) hb2); have n1_ := Aside0.mk (IsR.below (IsR.below HI.out (by repeat (first | (with_reducible first | exact Below.refl _ _ | apply below_alloc | apply pw_below_drewN | apply below_drew1) | exact Below.refl _ _))) hb2); clear HB HI hb2; have HB := n0_; have HI := n1_; clear n0_ n1_))
    go_upto_region 11 with (first | (go_at_call 13; (with_reducible refine ((HBD.out _ (IsR.below HI.out (by repeat (first | (with_reducible first | exact Below.refl _ _ | apply below_alloc | apply pw_below_drewN | apply below_drew1) | exact Below.refl _ _)))).l1).mono ?_); rintro e w2 ⟨rfl, hb2⟩; have n0_ := Aside0.mk (below_step (by repeat (first | (with_reducible first | exact HB.out | apply below_alloc | apply pw_below_drewN | apply below_drew1) | exact HB.out)) hb2); have n1_ := Aside0.mk (IsR.below (IsR.below HI.out (by repeat (first | (with_reducible first | exact Below.refl _ _ | apply below_alloc | apply pw_below_drewN | apply below_drew1) | exact Below.refl _ _))) hb2); clear HB HI hb2; have HB := n0_; have HI := n1_; clear n0_ n1_))
    go_upto_region 12 with (first | (go_at_call 13; (with_reducible refine ((HBD.out _ (IsR.below HI.out (by repeat (first | (with_reducible first | exact Below.refl _ _ | apply below_alloc | apply pw_below_drewN | apply below_drew1) | exact Below.refl _ _)))).l2).mono ?_); rintro e w2 ⟨rfl, hb2⟩; have n0_ := Aside0.mk (below_step (by repeat (first | (with_reducible first | exact HB.out | apply below_alloc | apply pw_below_drewN | apply below_drew1) | exact HB.out)) hb2); have n1_ := Aside0.mk (IsR.below (IsR.below HI.out (by repeat (first | (with_reducible first | exact Below.refl _ _ | apply below_alloc | apply pw_below_drewN | apply below_drew1) | exact Below.refl _ _))) hb2); clear HB HI hb2; have HB := n0_; have HI := n1_; clear n0_ n1_))
    go_upto_region 13 with (first | (go_at_call 10; (with_reducible refine ((HBD.out _ (IsR.below HI.out (by repeat (first | (with_reducible first | exact Below.refl _ _ | apply below_alloc | apply pw_below_drewN | apply below_drew1) | exact Below.refl _ _)))).i1).mono ?_); rintro e w2 ⟨rfl, hb2⟩; have n0_ := Aside0.mk (below_step (by repeat (first | (with_reducible first | exact HB.out | apply below_alloc | apply pw_below_drewN | apply below_drew1) | exact HB.out)) hb2); have n1_ := Aside0.mk (IsR.below (IsR.below HI.out (by repeat (first | (with_reducible first | exact Below.refl _ _ | apply below_alloc | apply pw_below_drewN | apply below_drew1) | exact Below.refl _ _))) hb2); clear HB HI hb2; have HB := n0_; have HI := n1_; clear n0_ n1_) | (go_at_call 10; (with_reducible refine ((HBD.out _ (IsR.below HI.out (by repeat (first | (with_reducible first | exact Below.refl _ _ | apply below_alloc | apply pw_below_drewN | apply below_drew1) | exact Below.refl _ _)))).i2).mono ?_); rintro e w2 ⟨rfl, hb2⟩; have n0_ := Aside0.mk (below_step (by repeat (first | (with_reducible first | exact HB.out | apply below_alloc | apply pw_below_drewN | apply below_drew1) | exact HB.out)) hb2); have n1_ := Aside0.mk (IsR.below (IsR.below HI.out (by repeat (first | (with_reducible first | exact Below.refl _ _ | apply below_alloc | apply pw_below_drewN | apply below_drew1) | exact Below.refl _ _))) hb2); clear HB HI hb2; have HB := n0_; have HI := n1_; clear n0_ n1_) | (go_at_call 11; (with_reducible refine ((HBD.out _ (IsR.below HI.out (by repeat (first | (with_reducible first | exact Below.refl _ _ | apply below_alloc | apply pw_below_drewN | apply below_drew1) | exact Below.refl _ _)))).d1).mono ?_); rintro e w2 ⟨rfl, hb2⟩; have n0_ := Aside0.mk (below_step (by repeat (first | (with_reducible first | exact HB.out | apply below_alloc | apply pw_below_drewN | apply below_drew1) | exact HB.out)) hb2); have n1_ := Aside0.mk (IsR.below (IsR.below HI.out (by repeat (first | (with_reducible first | exact Below.refl _ _ | apply below_alloc | apply pw_below_drewN | apply below_drew1) | exact Below.refl _ _))) hb2); clear HB HI hb2; have HB := n0_; have HI := n1_; clear n0_ n1_))
    go_upto_region 14 with (first | (go_at_call 11; (with_reducible refine ((HBD.out _ (IsR.below HI.out (by repeat (first | (with_reducible first | exact Below.refl _ _ | apply below_alloc | apply pw_below_drewN | apply below_drew1) | exact Below.refl _ _)))).d2).mono ?_); rintro e w2 ⟨rfl, hb2⟩; have n0_ := Aside0.mk (below_step (by repeat (first | (with_reducible first | exact HB.out | apply below_alloc | apply pw_below_drewN | apply below_drew1) | exact HB.out)) hb2); have n1_ := Aside0.mk (IsR.below (IsR.below HI.out (by repeat (first | (with_reducible first | exact Below.refl _ _ | apply below_alloc | apply pw_below_drewN | apply below_drew1) | exact Below.refl _ _))) hb2); clear HB HI hb2; have HB := n0_; have HI := n1_; clear n0_ n1_) | (go_at_call 11; (with_reducible refine ((HBD.out _ (IsR.below HI.out (by repeat (first | (with_reducible first | exact Below.refl _ _ | apply below_alloc | apply pw_below_drewN | apply below_drew1) | exact Below.refl _ _)))).d3).mono ?_); rintro e w2 ⟨rfl, hb2⟩; have n0_ := Aside0.mk (below_step (by repeat (first | (with_reducible first | exact HB.out | apply below_alloc | apply pw_below_drewN | apply below_drew1) | exact HB.out)) hb2); have n1_ := Aside0.mk (IsR.below (IsR.below HI.out (by repeat (first | (with_reducible first | exact Below.refl _ _ | apply below_alloc | apply pw_below_drewN | apply below_drew1) | exact Below.refl _ _))) hb2); clear HB HI hb2; have HB := n0_; have HI := n1_; clear n0_ n1_))
    go_upto_region 15 with (first | (go_at_call 12; (with_reducible refine ((HBD.out _ (IsR.below HI.out (by repeat (first | (with_reducible first | exact Below.refl _ _ | apply below_alloc | apply pw_below_drewN | apply below_drew1) | exact Below.refl _ _)))).good).mono ?_); rintro e w2 ⟨rfl, hb2⟩; have n0_ := Aside0.mk (below_step (by repeat (first | (with_reducible first | exact HB.out | apply below_alloc | apply pw_below_drewN | apply below_drew1) | exact HB.out)) hb2); have n1_ := Aside0.mk (IsR.below (IsR.below HI.out (by repeat (first | (with_reducible first | exact Below.refl _ _ | apply below_alloc | apply pw_below_drewN | apply below_drew1) | exact Below.refl _ _))) hb2); clear HB HI hb2; have HB := n0_; have HI := n1_; clear n0_ n1_))
    refine Ro.reg_conv (ops' := ?o_) ?e_ ?_
    case e_ => simp only [List.append_eq, List.cons_append, List.nil_append]; exact rfl
    go_wp2_with (first | (go_at_call 8; refine (Ro.num_any _ _).mono ?_; rintro e w2 ⟨rfl, hb2⟩; have n0_ := Aside0.mk (below_step (by repeat (first | (with_reducible first | exact HB.out | apply below_alloc | apply pw_below_drewN | apply below_drew1) | exact HB.out)) hb2); have n1_ := Aside0.mk (IsR.below (IsR.below HI.out (by repeat (first | (with_reducible first | exact Below.refl _ _ | apply below_alloc | apply pw_below_drewN | apply below_drew1) | exact Below.refl _ _))) hb2); clear HB HI hb2; have HB := n0_; have HI := n1_; clear n0_ n1_) | (go_at_call 18; (with_reducible refine ((HBD.out _ (IsR.below HI.out (by repeat (first | (with_reducible first | exact Below.refl _ _ | apply below_alloc | apply pw_below_drewN | apply below_drew1) | exact Below.refl _ _)))).text).mono ?_); rintro e w2 ⟨rfl, hb2⟩; have n0_ := Aside0.mk (below_step (by repeat (first | (with_reducible first | exact HB.out | apply below_alloc | apply pw_below_drewN | apply below_drew1) | exact HB.out)) hb2); have n1_ := Aside0.mk (IsR.below (IsR.below HI.out (by repeat (first | (with_reducible first | exact Below.refl _ _ | apply below_alloc | apply pw_below_drewN | apply below_drew1) | exact Below.refl _ _))) hb2); clear HB HI hb2; have HB := n0_; have HI := n1_; clear n0_ n1_))
    go_ret
    exact ⟨rfl, by repeat (first | (with_reducible first | exact HB.out | apply below_alloc | apply pw_below_drewN | apply below_drew1) | exact HB.out)⟩
  · have b1 : decide ((4096 : Int) < (s.size : Int)) = true := decide_eq_true (by omega)
    have b2 : decide (4096 < s.size) = true := decide_eq_true (by omega)
    have HNEW := Aside0.mk (fun (w2 : World) => Ro.new_big s w2 (by omega))
    go_enter Tryd.func4, Tryd.ntmps4
    go_wp2_with (first | (go_at_call 9; refine (Ro.awake_any _ (MaxOk.of HM.out (by repeat (first | (with_reducible first | exact HB.out | apply below_alloc | apply pw_below_drewN | apply below_drew1) | exact HB.out)))).mono ?_; rintro e w2 ⟨rfl, hb2⟩; have n0_ := Aside0.mk (below_step (by repeat (first | (with_reducible first | exact HB.out | apply below_alloc | apply pw_below_drewN | apply below_drew1) | exact HB.out)) hb2); clear HB hb2; have HB := n0_; clear n0_) | (go_at_call 7; refine (HNEW.out _).mono ?_; rintro e w2 ⟨rfl, hb2⟩; have n0_ := Aside0.mk (below_step (by repeat (first | (with_reducible first | exact HB.out | apply below_alloc | apply pw_below_drewN | apply below_drew1) | exact HB.out)) hb2); clear HB hb2; have HB := n0_; clear n0_) | (go_at_call 8; refine (Ro.num_any _ _).mono ?_; rintro e w2 ⟨rfl, hb2⟩; have n0_ := Aside0.mk (below_step (by repeat (first | (with_reducible first | exact HB.out | apply below_alloc | apply pw_below_drewN | apply below_drew1) | exact HB.out)) hb2); clear HB hb2; have HB := n0_; clear n0_))
    go_ret
    exact ⟨rfl, by repeat (first | (with_reducible first | exact HB.out | apply below_alloc | apply pw_below_drewN | apply below_drew1) | exact HB.out)⟩
end Go.Proofs.YtdnhbbgahipbdaaDoor.G
