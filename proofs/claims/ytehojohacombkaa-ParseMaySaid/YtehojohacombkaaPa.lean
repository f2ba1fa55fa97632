/- The laws of parse: awake. -/
import Derived.Test.YtehojohacombkaaLa
import Derived.Laws.BitsLemmas
import Derived.Test.YtehojohacombkaaGMinuetlaw11qawake
namespace Go.Proofs.Ytehojohacombkaa.Pl
open Go.RowKit Go.Proofs.Ytehojohacombkaa.G Go.Proofs.Ytehojohacombkaa.Lx Go.Proofs.YtehojohacombkaaW.PrintWords Go.Proofs.YtehojohacombkaaW.PrintLast Go.Proofs.YtehojohacombkaaW.PrintMore
set_option linter.unusedVariables false
set_option linter.unusedSimpArgs false
set_option maxRecDepth 100000 in
theorem awake11_at : minuetlaw11_awake.f 12 = some true := by decide +kernel
theorem awake11 : Ev (fun k => minuetlaw11_awake.f k) true := Ev.of minuetlaw11_awake.mono awake11_at
theorem awake11_k (k : Nat) (h : 12 ≤ k) : minuetlaw11_awake.f k = some true := at_rounds minuetlaw11_awake.mono h awake11_at
theorem umod11 (a n : Int) (h : 0 < n) (h1 : n ≤ 4096) : 0 ≤ Int.tmod (IntKind.u64.wrap a) n ∧ Int.tmod (IntKind.u64.wrap a) n < n ∧ wrap64 (Int.tmod (IntKind.u64.wrap a) n) = Int.tmod (IntKind.u64.wrap a) n := by
  have h0 : 0 ≤ IntKind.u64.wrap a := by simp only [IntKind.wrap, IntKind.signed, IntKind.bits]; first | omega | (simp; omega)
  have a1 : 0 ≤ Int.tmod (IntKind.u64.wrap a) n := Int.tmod_nonneg _ h0
  have a2 : Int.tmod (IntKind.u64.wrap a) n < n := Int.tmod_lt_of_pos _ h
  exact ⟨a1, a2, w64 (by omega) (by omega)⟩
theorem and_mask (a : Int) (m : Nat) (hm : m < 4611686018427387904) : 0 ≤ Go.bits .and .i64 a (m : Int) ∧ Go.bits .and .i64 a (m : Int) ≤ (m : Int) := by
  have h1 : ∀ x y : BitVec 64, y.toNat = m → (x &&& y).toNat ≤ m := by
    intro x y hy; rw [BitVec.toNat_and, hy]; exact Nat.and_le_right
  have h2 := h1 (BitVec.ofInt 64 a) (BitVec.ofInt 64 (m : Int)) (by rw [BitVec.ofInt_natCast, BitVec.toNat_ofNat]; exact Nat.mod_eq_of_lt (by omega))
  have h3 : Go.bits .and .i64 a (m : Int) = IntKind.i64.wrap ((BitVec.ofInt 64 a &&& BitVec.ofInt 64 (m : Int)).toNat : Int) := rfl
  rw [h3, IntKind.wrap_i64]
  omega
end Go.Proofs.Ytehojohacombkaa.Pl
