/- The plain law LexSplits: a closed table. -/
import Derived.Test.YtjcoahipcgeoiaaLa
import Derived.Test.YtjcoahipcgeoiaaGMinuetlaw9PLexSplits
namespace Go.Proofs.Ytjcoahipcgeoiaa.Pl
open Go.RowKit Go.Proofs.Ytjcoahipcgeoiaa.G Go.Proofs.Ytjcoahipcgeoiaa.Lx Go.Proofs.YtjcoahipcgeoiaaW.PrintWords Go.Proofs.YtjcoahipcgeoiaaW.PrintLast
set_option linter.unusedVariables false
set_option linter.unusedSimpArgs false
def sS : List ByteArray := ([(⟨#[48, 49]⟩ : ByteArray), (⟨#[49, 46]⟩ : ByteArray), (⟨#[49, 46, 101, 53]⟩ : ByteArray), (⟨#[49, 101]⟩ : ByteArray), (⟨#[49, 101, 43]⟩ : ByteArray), (⟨#[45, 45, 49]⟩ : ByteArray), (⟨#[45, 97]⟩ : ByteArray), (⟨#[116, 114, 117, 101, 102, 97, 108, 115, 101, 49]⟩ : ByteArray), (⟨#[34, 97, 10, 98, 34]⟩ : ByteArray), (⟨#[34, 92, 10, 34]⟩ : ByteArray), (⟨#[47, 47, 97, 10, 98]⟩ : ByteArray), (⟨#[47, 42, 32, 97, 32, 42, 47, 98]⟩ : ByteArray), (⟨#[47, 42, 42, 47, 42, 47]⟩ : ByteArray), (⟨#[49, 47, 50]⟩ : ByteArray), (⟨#[97, 255, 98]⟩ : ByteArray), (⟨#[123, 125, 91, 93]⟩ : ByteArray), (⟨#[110, 117, 108, 32, 108]⟩ : ByteArray), (⟨#[49, 45, 50]⟩ : ByteArray), (⟨#[48, 120, 49]⟩ : ByteArray), (⟨#[34, 97, 34, 34, 98, 34]⟩ : ByteArray)] : List ByteArray)
def sE : List (List Int) := ([(([1, 2] : List Int)), (([1, 2] : List Int)), (([1, 2, 3, 4] : List Int)), (([1, 2] : List Int)), (([1, 2, 3] : List Int)), (([1, 3] : List Int)), (([1, 2] : List Int)), (([9, 10] : List Int)), (([2, 3, 4, 5] : List Int)), (([2, 3, 4] : List Int)), (([3, 4, 5] : List Int)), (([7, 8] : List Int)), (([4, 5, 6] : List Int)), (([1, 2, 3] : List Int)), (([1, 2, 3] : List Int)), (([1, 2, 3, 4] : List Int)), (([3, 4, 5] : List Int)), (([1, 3] : List Int)), (([1, 2, 3] : List Int)), (([3, 6] : List Int))] : List (List Int))
set_option maxRecDepth 100000 in
theorem splits_table : ∀ m : Fin 20, (sS.getD m.val ByteArray.empty).size ≤ 300 ∧ (toks (byt (sS.getD m.val ByteArray.empty))).length = (sE.getD m.val []).length ∧ minuetlaw9_LexSplits.l0 10 sE (m.val : Int) (toks (byt (sS.getD m.val ByteArray.empty))) 0 0 = some true := by decide +kernel
theorem umod20 (a n : Int) (h : 0 < n) (h1 : n ≤ 4096) : 0 ≤ Int.tmod (IntKind.u64.wrap a) n ∧ Int.tmod (IntKind.u64.wrap a) n < n ∧ wrap64 (Int.tmod (IntKind.u64.wrap a) n) = Int.tmod (IntKind.u64.wrap a) n := by
  have h0 : 0 ≤ IntKind.u64.wrap a := by simp only [IntKind.wrap, IntKind.signed, IntKind.bits]; first | omega | (simp; omega)
  have a1 : 0 ≤ Int.tmod (IntKind.u64.wrap a) n := Int.tmod_nonneg _ h0
  have a2 : Int.tmod (IntKind.u64.wrap a) n < n := Int.tmod_lt_of_pos _ h
  exact ⟨a1, a2, w64 (by omega) (by omega)⟩
theorem Ev_mono {α : Type} {g : Nat → Option α} {r : α} (hm : ∀ k, LeO (g k) (g (k + 1))) (n : Nat) (h : g n = some r) : Ev g r := by
  refine ⟨n, fun k hk => ?_⟩
  obtain ⟨d, rfl⟩ := Nat.exists_eq_add_of_le hk
  clear hk
  induction d with
  | zero => exact h
  | succ d ih => exact hm (n + d) r ih
theorem LexSplits_pure (a0 : Int) (hw : (Lit.int .i64 a0).wf = true) : ∃ k, minuetlaw9_LexSplits.f k a0 = some true := by
  refine Ev.rounds (Ev.congr (fun k => by rw [minuetlaw9_LexSplits.f]) ?_)
  refine Ev.bind awake_ev ?_
  simp only [if_true]
  obtain ⟨m0, m1, m2⟩ := umod20 a0 20 (by decide) (by decide)
  generalize Int.tmod (IntKind.u64.wrap a0) 20 = m at m0 m1 m2
  obtain ⟨m, rfl⟩ := Int.eq_ofNat_of_zero_le m0
  refine Ev.bind (show Ev (fun k => some sS) sS from Ev.now _) ?_
  refine Ev.bind (show Ev (fun k => some sE) sE from Ev.now _) ?_
  have hm : m < 20 := by omega
  obtain ⟨t1, t2, t3⟩ := splits_table ⟨m, hm⟩
  have l1 : ((m : Nat) : Int) < (sS.length : Int) := by rw [show sS.length = 20 from rfl]; omega
  have l2 : ((m : Nat) : Int) < (sE.length : Int) := by rw [show sE.length = 20 from rfl]; omega
  have e1 : rdOf ByteArray.empty sS ((m : Nat) : Int) = sS.getD m ByteArray.empty := by simp [rdOf]
  have e2 : rd_L4 sE ((m : Nat) : Int) = sE.getD m [] := by simp [rd_L4]
  simp only [m2, if_pos m0, if_pos l1, e1]
  rw [tok_ev t1]
  simp only [opt_some, num_eq, if_true, if_pos l2, e2, t2]
  refine Ev.step (fun k => by rw [minuetlaw9_LexSplits.j0]) ?_
  simp only [bne_self_eq_false, Bool.false_eq_true, if_false]
  exact Ev_mono (fun k => (minuetlaw9_LexSplits.mono_l k).2 _ _ _ _ _) 10 t3
end Go.Proofs.Ytjcoahipcgeoiaa.Pl
