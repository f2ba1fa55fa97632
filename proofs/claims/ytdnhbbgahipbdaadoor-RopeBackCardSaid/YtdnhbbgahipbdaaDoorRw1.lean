/- The rope's block; there, Len, find by their contracts. -/
import Derived.Test.YtdnhbbgahipbdaaDoorRo1
import Derived.Test.YtdnhbbgahipbdaaDoorGx0
import Derived.RegionTactic
import Derived.Tactics2
import Derived.Deep.RegionWith
import Derived.Deep.QuietTactic
namespace Go.Proofs.YtdnhbbgahipbdaaDoor.G
open Go.RowKit Go.Proofs.YtdnhbbgahipbdaaDoorW.PrintWords Go.Proofs.YtdnhbbgahipbdaaDoorW.PrintLast Go.Proofs.YtdnhbbgahipbdaaDoorW.PrintMore
open Go.Proofs.YtdnhbbgahipbdaaDoor.Ro (T cutN layS layN findN aheadN behindN Ck)
set_option linter.unusedVariables false
set_option linter.unusedSimpArgs false
/-- The rope at block g of W: its size, its chunks in a row of their own. -/
def IsRc (W : World) (g : Nat) (cs : List ByteArray) (n : Int) : Prop :=
  ∃ v, W.heap[g]? = some (.cells #[v, .int .i64 n] 54 (0, 0)) ∧ Kd.R Kd.string 9 W 0 (fun _ => True) v cs
theorem IsRc.lt {W : World} {g : Nat} {cs : List ByteArray} {n : Int} (h : IsRc W g cs n) : g < W.heap.size := by obtain ⟨_, h, _⟩ := h; exact blk_lt h
theorem IsRc.below {W W2 : World} {g : Nat} {cs : List ByteArray} {n : Int} (h : IsRc W g cs n) (k : Below W.heap.size W W2) : IsRc W2 g cs n := by
  obtain ⟨v, h1, h2⟩ := h
  exact ⟨v, blk_below h1 k, Kd.R_below h2 k⟩
theorem IsRc.cells {W : World} {g : Nat} {cs : List ByteArray} {n : Int} (h : IsRc W g cs n) : ∃ A c, W.heap[g]? = some (.cells #[.slice A cs.length c, .int .i64 n] 54 (0, 0)) ∧ cs.length ≤ c ∧ Kd.C Kd.string W A cs.length cs := by
  obtain ⟨v, h1, h2⟩ := h
  obtain ⟨A, c, rfl, h3, h4⟩ := Kd.R_reads h2
  exact ⟨A, c, h1, h3, h4⟩
theorem Ro.two {W : World} {g t : Nat} {a b : Value} (hb : W.heap[g]? = some (.cells #[a, b] t (0, 0))) :
    W.cell? ⟨g, 0, none⟩ = some a ∧ W.cell? ⟨g, 1, none⟩ = some b ∧ W.frozen? ⟨g, 0, none⟩ = false ∧ W.frozen? ⟨g, 1, none⟩ = false :=
  ⟨(blk_cell hb 0).trans rfl, (blk_cell hb 1).trans rfl, blk_frozen hb 0, blk_frozen hb 1⟩
theorem Ro.rd {cs : List ByteArray} {i : Nat} : rdOf ByteArray.empty cs (i : Int) = cs.getD i ByteArray.empty := by simp [rdOf]
set_option maxHeartbeats 4000000 in
set_option maxRecDepth 100000 in
theorem Ro.len_any (g : Nat) (cs : List ByteArray) (n : Int) (w : World) (h : IsRc w g cs n) :
    Calls Tryd.prog 17 #[.pointer (some ⟨g, 0, none⟩)] w fun e w' => e = .returned (.int .i64 n) ∧ Below w.heap.size w w' := by
  obtain ⟨A, c, hb, -, -⟩ := h.cells
  obtain ⟨x0, x1, -, -⟩ := Ro.two hb
  have HB := Aside0.mk (Below.refl w.heap.size w)
  clear hb h
  go_enter Tryd.func17, Tryd.ntmps17
  go_wp2
  go_ret
  exact ⟨rfl, by repeat (first | (with_reducible first | exact HB.out | apply below_alloc | apply pw_below_drewN | apply below_drew1) | exact HB.out)⟩
set_option maxHeartbeats 4000000 in
set_option maxRecDepth 100000 in
theorem Ro.len_nil (w : World) :
    Calls Tryd.prog 17 #[.pointer none] w fun e w' => e = .returned (.int .i64 0) ∧ Below w.heap.size w w' := by
  have HB := Aside0.mk (Below.refl w.heap.size w)
  go_enter Tryd.func17, Tryd.ntmps17
  go_wp2
  go_ret
  exact ⟨rfl, by repeat (first | (with_reducible first | exact HB.out | apply below_alloc | apply pw_below_drewN | apply below_drew1) | exact HB.out)⟩
/-- May so many bytes from a place on be asked for? -/
def thereN (n a k : Int) : Bool := decide (0 ≤ a) && decide (a ≤ n) && decide (0 ≤ k) && decide (k ≤ wrap64 (n - a))
set_option maxHeartbeats 4000000 in
set_option maxRecDepth 100000 in
theorem Ro.there_any (g : Nat) (cs : List ByteArray) (n a k : Int) (w : World) (h : IsRc w g cs n) :
    Calls Tryd.prog 24 #[.pointer (some ⟨g, 0, none⟩), .int .i64 a, .int .i64 k] w fun e w' => e = .returned (.bool (thereN n a k)) ∧ Below w.heap.size w w' := by
  obtain ⟨A, c, hb, -, -⟩ := h.cells
  obtain ⟨x0, x1, -, -⟩ := Ro.two hb
  have HB := Aside0.mk (Below.refl w.heap.size w)
  clear hb h
  unfold thereN
  obtain ⟨q0, h0⟩ : ∃ q, decide (0 ≤ a) = q := ⟨_, rfl⟩
  obtain ⟨q1, h1⟩ : ∃ q, decide (a ≤ n) = q := ⟨_, rfl⟩
  obtain ⟨q2, h2⟩ : ∃ q, decide (0 ≤ k) = q := ⟨_, rfl⟩
  obtain ⟨q3, h3⟩ : ∃ q, decide (k ≤ wrap64 (n - a)) = q := ⟨_, rfl⟩
  rw [h0, h1, h2, h3]
  cases q0 <;> cases q1 <;> cases q2 <;> cases q3 <;> (
    go_enter Tryd.func24, Tryd.ntmps24
    go_wp2
    go_ret
    exact ⟨rfl, by repeat (first | (with_reducible first | exact HB.out | apply below_alloc | apply pw_below_drewN | apply below_drew1) | exact HB.out)⟩)
set_option maxHeartbeats 4000000 in
set_option maxRecDepth 100000 in
theorem Ro.find_any (g : Nat) (cs : List ByteArray) (n : Int) (a : Nat) (w : World) (h : IsRc w g cs n) (ha : a ≤ 100000) (hl : cs.length ≤ 100000) :
    Calls Tryd.prog 29 #[.pointer (some ⟨g, 0, none⟩), .int .i64 (a : Int)] w fun e w' => e = .returned (.tuple #[.int .i64 ((findN cs 0 a).1 : Int), .int .i64 ((findN cs 0 a).2 : Int)]) ∧ Below w.heap.size w w' := by
  obtain ⟨A, c, hb, hc, hC⟩ := h.cells
  obtain ⟨x0, x1, -, -⟩ := Ro.two hb
  have HB := Aside0.mk (Below.refl w.heap.size w)
  have HC := Aside0.mk hC
  have HL := Aside0.mk hl
  obtain ⟨m, hm⟩ : ∃ m, m = cs.length := ⟨_, rfl⟩
  have HM := Aside0.mk hm
  rw [← hm] at x0 hC hl hb
  have HX := Aside0.mk hb
  obtain ⟨F, hF⟩ : ∃ F, findN cs 0 a = F := ⟨_, rfl⟩
  have HF : Aside0 (findN (cs.drop 0) 0 a = F) := ⟨hF⟩
  rw [hF]
  clear hb h hC hm hF
  go_enter Tryd.func29, Tryd.ntmps29
  go_wp2
  go_loopg [1, 13] (m + 1) (fun kq v1 v13 wr => ∃ (i b : Nat), v1 = .int .i64 (b : Int) ∧ v13 = .int .i64 (i : Int) ∧ Aside0 (findN (cs.drop i) i b = F) ∧ Aside0 (i ≤ m ∧ m - i < kq ∧ b ≤ 100000) ∧ Aside0 (Below w.heap.size w wr))
  case atStart => exact ⟨0, a, rfl, rfl, HF, ⟨Nat.zero_le _, by omega, ha⟩, ⟨by repeat (first | (with_reducible first | exact HB.out | apply below_alloc | apply pw_below_drewN | apply below_drew1) | exact HB.out)⟩⟩
  case round =>
    clear HF x0 x1 HB
    obtain ⟨i, b, rfl, rfl, HF, HI, HB⟩ := hrel
    obtain ⟨i0, i1, i2⟩ := HI.out
    cases gk with
    | zero => omega
    | succ k1 =>
      by_cases hi : i < m
      · have b1 : decide ((i : Int) < (m : Int)) = true := decide_eq_true (by omega)
        have b2 : decide (i < m) = true := decide_eq_true hi
        have p1 := eq_true (show (0 : Int) ≤ (i : Int) by omega)
        have q1 := eq_true (show (i : Int) < (m : Int) by omega)
        obtain ⟨ad, rfl, hx⟩ := Kd.at_string (Kd.C_below HC.out HB.out) (i : Int) (by omega) (by have := HM.out; omega)
        rw [Ro.rd, Int.toNat_natCast] at hx
        have hd : cs.drop i = cs.getD i ByteArray.empty :: cs.drop (i + 1) := by
          have hh : i < cs.length := by have := HM.out; omega
          rw [List.drop_eq_getElem_cons hh, List.getD_eq_getElem?_getD, List.getElem?_eq_getElem hh]; rfl
        obtain ⟨x, hxx⟩ : ∃ x, cs.getD i ByteArray.empty = x := ⟨_, rfl⟩
        rw [hxx] at hd hx
        have hf := HF.out
        rw [hd] at hf
        unfold findN at hf
        have HFF := Aside0.mk hf
        have i4 : wrap64 ((i : Int) + 1) = ((i + 1 : Nat) : Int) := by unfold wrap64; omega
        clear hf hd hxx HF
        by_cases hs : b < x.size
        · have b3 : decide ((b : Int) < (x.size : Int)) = true := decide_eq_true (by omega)
          go_wp2
          go_ret2
          have hf := HFF.out
          rw [if_pos hs] at hf
          rw [← hf]
          exact ⟨rfl, by repeat (first | (with_reducible first | exact HB.out | apply below_alloc | apply pw_below_drewN | apply below_drew1) | exact HB.out)⟩
        · have b3 : decide ((b : Int) < (x.size : Int)) = false := decide_eq_false (by omega)
          have i5 : wrap64 ((b : Int) - (x.size : Int)) = ((b - x.size : Nat) : Int) := by unfold wrap64; omega
          have HF2 : Aside0 (findN (cs.drop (i + 1)) (i + 1) (b - x.size) = F) := ⟨by have hf := HFF.out; rw [if_neg hs] at hf; exact hf⟩
          go_wp2
          go_roundg k1
          case measure => omega
          case rel => exact ⟨i + 1, b - x.size, by first | rfl | rw [i5] | exact congrArg (Value.int .i64) (by omega), by first | rfl | rw [i4] | exact congrArg (Value.int .i64) (by omega), HF2, ⟨by omega, by omega, by omega⟩, ⟨by repeat (first | (with_reducible first | exact HB.out | apply below_alloc | apply pw_below_drewN | apply below_drew1) | exact HB.out)⟩⟩
      · have b1 : decide ((i : Int) < (m : Int)) = false := decide_eq_false (by omega)
        have b2 : decide (i < m) = false := decide_eq_false hi
        have hf := HF.out
        rw [List.drop_eq_nil_of_le (by have := HM.out; omega)] at hf
        unfold findN at hf
        have HFF := Aside0.mk hf
        clear hf
        obtain ⟨x0, x1, -, -⟩ := Ro.two (blk_below HX.out HB.out)
        go_wp2
        go_ret2
        rw [← HFF.out]
        exact ⟨by have := HM.out; simp only [show i = m by omega]; first | rfl | simp, by repeat (first | (with_reducible first | exact HB.out | apply below_alloc | apply pw_below_drewN | apply below_drew1) | exact HB.out)⟩
end Go.Proofs.YtdnhbbgahipbdaaDoor.G
