/- Small facts on Go's numbers: a mask by &, the rest of a division by an unsigned number. -/
import Derived.Test.YtbkkcoppncgegabGx0
import Derived.Laws.BitsLemmas
namespace Go.Proofs.Ytbkkcoppncgegab.Pl
open Go.RowKit
theorem and_mask (a : Int) (m : Nat) (hm : m < 4611686018427387904) : 0 ≤ Go.bits .and .i64 a (m : Int) ∧ Go.bits .and .i64 a (m : Int) ≤ (m : Int) := by
  have h1 : ∀ x y : BitVec 64, y.toNat = m → (x &&& y).toNat ≤ m := by
    intro x y hy; rw [BitVec.toNat_and, hy]; exact Nat.and_le_right
  have h2 := h1 (BitVec.ofInt 64 a) (BitVec.ofInt 64 (m : Int)) (by rw [BitVec.ofInt_natCast, BitVec.toNat_ofNat]; exact Nat.mod_eq_of_lt (by omega))
  have h3 : Go.bits .and .i64 a (m : Int) = IntKind.i64.wrap ((BitVec.ofInt 64 a &&& BitVec.ofInt 64 (m : Int)).toNat : Int) := rfl
  rw [h3, IntKind.wrap_i64]
  omega
end Go.Proofs.Ytbkkcoppncgegab.Pl
