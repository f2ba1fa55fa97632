/- The plain law LexKinds: a closed table. -/
import Derived.Test.YtjcoahipcgeoiaaLa
import Derived.Test.YtjcoahipcgeoiaaGMinuetlaw9PLexKinds
namespace Go.Proofs.Ytjcoahipcgeoiaa.Pl
open Go.RowKit Go.Proofs.Ytjcoahipcgeoiaa.G Go.Proofs.Ytjcoahipcgeoiaa.Lx Go.Proofs.YtjcoahipcgeoiaaW.PrintWords Go.Proofs.YtjcoahipcgeoiaaW.PrintLast
set_option linter.unusedVariables false
set_option linter.unusedSimpArgs false
def kS : List ByteArray := ([(⟨#[123]⟩ : ByteArray), (⟨#[125]⟩ : ByteArray), (⟨#[91]⟩ : ByteArray), (⟨#[93]⟩ : ByteArray), (⟨#[58]⟩ : ByteArray), (⟨#[44]⟩ : ByteArray), (⟨#[32, 9, 10, 13, 32]⟩ : ByteArray), (⟨#[34, 34]⟩ : ByteArray), (⟨#[34, 97, 32, 98, 34]⟩ : ByteArray), (⟨#[34, 92, 34, 34]⟩ : ByteArray), (⟨#[34, 92, 92, 34]⟩ : ByteArray), (⟨#[48]⟩ : ByteArray), (⟨#[45, 48]⟩ : ByteArray), (⟨#[49, 50]⟩ : ByteArray), (⟨#[45, 49, 50, 46, 53, 48]⟩ : ByteArray), (⟨#[49, 101, 53]⟩ : ByteArray), (⟨#[49, 69, 43, 53]⟩ : ByteArray), (⟨#[48, 46, 53, 101, 45, 49, 48]⟩ : ByteArray), (⟨#[116, 114, 117, 101]⟩ : ByteArray), (⟨#[102, 97, 108, 115, 101]⟩ : ByteArray), (⟨#[110, 117, 108, 108]⟩ : ByteArray), (⟨#[110, 117, 108]⟩ : ByteArray), (⟨#[84, 114, 117, 101]⟩ : ByteArray), (⟨#[95]⟩ : ByteArray), (⟨#[47, 47, 32, 97]⟩ : ByteArray), (⟨#[47, 47]⟩ : ByteArray), (⟨#[47, 42, 32, 42, 47]⟩ : ByteArray), (⟨#[47, 42, 42, 42, 47]⟩ : ByteArray), (⟨#[47, 42, 42, 47]⟩ : ByteArray), (⟨#[47, 42]⟩ : ByteArray), (⟨#[47, 42, 32, 42]⟩ : ByteArray), (⟨#[47]⟩ : ByteArray), (⟨#[45]⟩ : ByteArray), (⟨#[34]⟩ : ByteArray), (⟨#[34, 97]⟩ : ByteArray), (⟨#[34, 92]⟩ : ByteArray), (⟨#[34, 92, 34]⟩ : ByteArray), (⟨#[46]⟩ : ByteArray), (⟨#[43]⟩ : ByteArray), (⟨#[255]⟩ : ByteArray), (⟨#[0]⟩ : ByteArray), (⟨#[42]⟩ : ByteArray)] : List ByteArray)
def kK : List Int := ([0, 1, 2, 3, 4, 5, 10, 6, 6, 6, 6, 7, 7, 7, 7, 7, 7, 7, 8, 8, 8, 11, 11, 11, 9, 9, 9, 9, 9, 11, 11, 11, 11, 11, 11, 11, 11, 11, 11, 11, 11, 11] : List Int)
def tri (t : Tk) : Int × Int × Int := (t.f0, t.f1, t.f2)
theorem tri_inj : ∀ {xs ys : List Tk}, xs.map tri = ys.map tri → xs = ys := by
  intro xs
  induction xs with
  | nil => intro ys h; cases ys with | nil => rfl | cons _ _ => cases h
  | cons x xs ih =>
    intro ys h
    cases ys with
    | nil => cases h
    | cons y ys =>
      simp only [List.map_cons, List.cons.injEq] at h
      obtain ⟨h1, h2⟩ := h
      rw [ih h2]
      cases x; cases y
      simp only [tri, Prod.mk.injEq] at h1
      obtain ⟨rfl, rfl, rfl⟩ := h1
      rfl
set_option maxRecDepth 100000 in
theorem kinds_table : ∀ m : Fin 42, (kS.getD m.val ByteArray.empty).size ≤ 300 ∧ (toks (byt (kS.getD m.val ByteArray.empty))).map tri = [(kK.getD m.val 0, 0, ((kS.getD m.val ByteArray.empty).size : Int))] := by decide +kernel
theorem umod (a n : Int) (h : 0 < n) (h1 : n ≤ 4096) : 0 ≤ Int.tmod (IntKind.u64.wrap a) n ∧ Int.tmod (IntKind.u64.wrap a) n < n ∧ wrap64 (Int.tmod (IntKind.u64.wrap a) n) = Int.tmod (IntKind.u64.wrap a) n := by
  have h0 : 0 ≤ IntKind.u64.wrap a := by simp only [IntKind.wrap, IntKind.signed, IntKind.bits]; first | omega | (simp; omega)
  have a1 : 0 ≤ Int.tmod (IntKind.u64.wrap a) n := Int.tmod_nonneg _ h0
  have a2 : Int.tmod (IntKind.u64.wrap a) n < n := Int.tmod_lt_of_pos _ h
  exact ⟨a1, a2, w64 (by omega) (by omega)⟩
theorem LexKinds_pure (a0 : Int) (hw : (Lit.int .i64 a0).wf = true) : ∃ k, minuetlaw9_LexKinds.f k a0 = some true := by
  refine Ev.rounds (Ev.congr (fun k => by rw [minuetlaw9_LexKinds.f]) ?_)
  refine Ev.bind awake_ev ?_
  simp only [if_true]
  obtain ⟨m0, m1, m2⟩ := umod a0 42 (by decide) (by decide)
  generalize Int.tmod (IntKind.u64.wrap a0) 42 = m at m0 m1 m2
  obtain ⟨m, rfl⟩ := Int.eq_ofNat_of_zero_le m0
  refine Ev.bind (show Ev (fun k => some kS) kS from Ev.now _) ?_
  refine Ev.bind (show Ev (fun k => some kK) kK from Ev.now _) ?_
  have hm : m < 42 := by omega
  obtain ⟨t1, t2⟩ := kinds_table ⟨m, hm⟩
  have l1 : ((m : Nat) : Int) < (kS.length : Int) := by rw [show kS.length = 42 from rfl]; omega
  have l2 : ((m : Nat) : Int) < (kK.length : Int) := by rw [show kK.length = 42 from rfl]; omega
  have e1 : rdOf ByteArray.empty kS ((m : Nat) : Int) = kS.getD m ByteArray.empty := by simp [rdOf]
  have e2 : rd kK ((m : Nat) : Int) = kK.getD m 0 := by simp [rd]
  simp only [m2, if_pos m0, if_pos l1, e1]
  rw [tok_ev t1]
  simp only [opt_some, num_eq, if_true, if_pos l2, e2]
  refine Ev.bind (Same_of (tri_inj (by rw [t2]; rfl)) (by simp)) ?_
  exact Ev.now _
end Go.Proofs.Ytjcoahipcgeoiaa.Pl
