/- The plain law GoodTexts: two closed tables. -/
import Derived.Test.YtnhkdpcncjkmlaaGa
import Derived.Test.YtnhkdpcncjkmlaaGMinuetlaw12PGoodTexts
namespace Go.Proofs.Ytnhkdpcncjkmlaa.Pl
open Go.RowKit Go.Proofs.Ytnhkdpcncjkmlaa.G Go.Proofs.Ytnhkdpcncjkmlaa.Lx Go.Proofs.YtnhkdpcncjkmlaaW.PrintWords Go.Proofs.YtnhkdpcncjkmlaaW.PrintLast Go.Proofs.YtnhkdpcncjkmlaaW.PrintMore
set_option linter.unusedVariables false
set_option linter.unusedSimpArgs false
def gIn : List ByteArray := ([(⟨#[49]⟩ : ByteArray), (⟨#[34, 97, 34]⟩ : ByteArray), (⟨#[116, 114, 117, 101]⟩ : ByteArray), (⟨#[32, 110, 117, 108, 108, 32]⟩ : ByteArray), (⟨#[91, 93]⟩ : ByteArray), (⟨#[123, 125]⟩ : ByteArray), (⟨#[91, 49, 44, 32, 50, 44, 32, 51, 93]⟩ : ByteArray), (⟨#[123, 34, 97, 34, 58, 32, 49, 44, 32, 34, 97, 34, 58, 32, 50, 125]⟩ : ByteArray), (⟨#[91, 91, 93, 44, 32, 123, 125, 44, 32, 91, 123, 125, 93, 93]⟩ : ByteArray), (⟨#[47, 47, 32, 120, 10, 49]⟩ : ByteArray), (⟨#[49, 32, 47, 47, 32, 120]⟩ : ByteArray), (⟨#[47, 42, 32, 97, 32, 42, 47, 32, 91, 32, 47, 42, 32, 98, 32, 42, 47, 32, 93, 32, 47, 42, 32, 99, 32, 42, 47]⟩ : ByteArray), (⟨#[45, 49, 46, 53, 101, 45, 51]⟩ : ByteArray), (⟨#[123, 34, 34, 58, 32, 91, 116, 114, 117, 101, 44, 32, 102, 97, 108, 115, 101, 44, 32, 110, 117, 108, 108, 93, 125]⟩ : ByteArray)] : List ByteArray)
def gOut : List ByteArray := ([(⟨#[]⟩ : ByteArray), (⟨#[32]⟩ : ByteArray), (⟨#[110, 117, 108]⟩ : ByteArray), (⟨#[49, 32, 50]⟩ : ByteArray), (⟨#[91]⟩ : ByteArray), (⟨#[93]⟩ : ByteArray), (⟨#[91, 49]⟩ : ByteArray), (⟨#[91, 49, 44, 93]⟩ : ByteArray), (⟨#[91, 44, 49, 93]⟩ : ByteArray), (⟨#[123, 34, 97, 34, 125]⟩ : ByteArray), (⟨#[123, 34, 97, 34, 58, 32, 125]⟩ : ByteArray), (⟨#[123, 97, 58, 32, 49, 125]⟩ : ByteArray), (⟨#[123, 49, 58, 32, 50, 125]⟩ : ByteArray), (⟨#[91, 49, 32, 50, 93]⟩ : ByteArray), (⟨#[123, 34, 97, 34, 58, 32, 49, 44, 125]⟩ : ByteArray), (⟨#[48, 49]⟩ : ByteArray), (⟨#[34, 97]⟩ : ByteArray), (⟨#[47, 42, 32, 97]⟩ : ByteArray), (⟨#[91, 49, 93, 32, 93]⟩ : ByteArray), (⟨#[123, 34, 97, 34, 58, 32, 49, 32, 34, 98, 34, 58, 32, 50, 125]⟩ : ByteArray), (⟨#[45]⟩ : ByteArray), (⟨#[49, 46]⟩ : ByteArray), (⟨#[39, 97, 39]⟩ : ByteArray)] : List ByteArray)
set_option maxRecDepth 100000 in
theorem in_table : ∀ m : Fin 14, good_Good.f (gIn.getD m.val ByteArray.empty) = some (true, 0) := by decide +kernel
set_option maxRecDepth 100000 in
theorem out_table : ∀ m : Fin 23, good_Good.f (gOut.getD m.val ByteArray.empty) = some (false, 0) := by decide +kernel
theorem GoodTexts_pure (a0 : Int) (hw : (Lit.int .i64 a0).wf = true) : ∃ _k : Nat, minuetlaw12_GoodTexts.f a0 = some true := by
  refine ⟨0, ?_⟩
  rw [minuetlaw12_GoodTexts.f, awake12, opt_some, if_pos rfl]
  show (some gIn).bind (fun y102 => (some gOut).bind _) = some true
  simp only [opt_some]
  obtain ⟨m0, m1, m2⟩ := umod12 a0 14 (by decide) (by decide)
  obtain ⟨n0, n1, n2⟩ := umod12 a0 23 (by decide) (by decide)
  rw [m2, n2]
  generalize Int.tmod (IntKind.u64.wrap a0) 14 = m at m0 m1
  generalize Int.tmod (IntKind.u64.wrap a0) 23 = n at n0 n1
  obtain ⟨m, rfl⟩ := Int.eq_ofNat_of_zero_le m0
  obtain ⟨n, rfl⟩ := Int.eq_ofNat_of_zero_le n0
  have l1 : ((m : Nat) : Int) < (gIn.length : Int) := by rw [show gIn.length = 14 from rfl]; omega
  have l2 : ((n : Nat) : Int) < (gOut.length : Int) := by rw [show gOut.length = 23 from rfl]; omega
  have e1 : rdOf ByteArray.empty gIn ((m : Nat) : Int) = gIn.getD m ByteArray.empty := by simp [rdOf]
  have e2 : rdOf ByteArray.empty gOut ((n : Nat) : Int) = gOut.getD n ByteArray.empty := by simp [rdOf]
  have t1 := in_table ⟨m, by omega⟩
  have t2 := out_table ⟨n, by omega⟩
  simp only at t1 t2
  simp only [if_pos m0, if_pos n0, if_pos l1, if_pos l2, e1, e2, t1, t2, opt_some, num_eq, if_true, Bool.false_eq_true, if_false]
  rfl
end Go.Proofs.Ytnhkdpcncjkmlaa.Pl
