/- The plain law LexNumbers. -/
import Derived.Test.YtjcoahipcgeoiaaLd
import Derived.Laws.BitsLemmas
import Derived.Test.YtjcoahipcgeoiaaGMinuetlaw9PLexNumbers
namespace Go.Proofs.Ytjcoahipcgeoiaa.Pl
open Go.RowKit Go.Proofs.Ytjcoahipcgeoiaa.G Go.Proofs.Ytjcoahipcgeoiaa.Lx Go.Proofs.YtjcoahipcgeoiaaW.PrintWords Go.Proofs.YtjcoahipcgeoiaaW.PrintLast
set_option linter.unusedVariables false
set_option linter.unusedSimpArgs false
theorem and_mask (a : Int) (m : Nat) (hm : m < 4611686018427387904) : 0 ≤ Go.bits .and .i64 a (m : Int) ∧ Go.bits .and .i64 a (m : Int) ≤ (m : Int) := by
  have h1 : ∀ x y : BitVec 64, y.toNat = m → (x &&& y).toNat ≤ m := by
    intro x y hy; rw [BitVec.toNat_and, hy]; exact Nat.and_le_right
  have h2 := h1 (BitVec.ofInt 64 a) (BitVec.ofInt 64 (m : Int)) (by rw [BitVec.ofInt_natCast, BitVec.toNat_ofNat]; exact Nat.mod_eq_of_lt (by omega))
  have h3 : Go.bits .and .i64 a (m : Int) = IntKind.i64.wrap ((BitVec.ofInt 64 a &&& BitVec.ofInt 64 (m : Int)).toNat : Int) := rfl
  rw [h3, IntKind.wrap_i64]
  omega
theorem byt_app (a b : ByteArray) : byt (a ++ b) = byt a ++ byt b := by simp [byt]
def pS : List ByteArray := [(⟨#[101]⟩ : ByteArray), (⟨#[69]⟩ : ByteArray), (⟨#[101, 43]⟩ : ByteArray), (⟨#[69, 45]⟩ : ByteArray)]
theorem pS_pow (i : Int) (h0 : 0 ≤ i) (h1 : i ≤ 3) : (∀ Q, digs Q → powT (byt (rdOf ByteArray.empty pS i) ++ Q)) ∧ (rdOf ByteArray.empty pS i).size ≤ 2 := by
  have : i = 0 ∨ i = 1 ∨ i = 2 ∨ i = 3 := by omega
  rcases this with rfl | rfl | rfl | rfl
  · exact ⟨fun Q hQ => Or.inr ⟨101, Q, rfl, hQ, Or.inl rfl⟩, by decide⟩
  · exact ⟨fun Q hQ => Or.inr ⟨69, Q, rfl, hQ, Or.inl rfl⟩, by decide⟩
  · exact ⟨fun Q hQ => Or.inr ⟨101, Q, rfl, hQ, Or.inr ⟨43, rfl, rfl⟩⟩, by decide⟩
  · exact ⟨fun Q hQ => Or.inr ⟨69, Q, rfl, hQ, Or.inr ⟨45, rfl, rfl⟩⟩, by decide⟩
/-- A number between brackets. -/
theorem brackets {sg W P E : List UInt8} (hs : sg = [] ∨ sg = [45]) (hW : whole W) (hP : partT P) (hE : powT E) (s : ByteArray) (e : byt s = sg ++ (W ++ (P ++ E))) (hl : s.size ≤ 200) :
    lex_Tokens.f (((⟨#[91]⟩ : ByteArray) ++ s) ++ (⟨#[93]⟩ : ByteArray)) = some ([(⟨2, 0, 1⟩ : Tk), ⟨7, 1, wrap64 (1 + (s.size : Int))⟩, ⟨3, wrap64 (1 + (s.size : Int)), wrap64 (2 + (s.size : Int))⟩], 0) := by
  have t := toks_num hs hW hP hE (byt s) e
  have hz : (((⟨#[91]⟩ : ByteArray) ++ s) ++ (⟨#[93]⟩ : ByteArray)).size = 1 + s.size + 1 := by simp only [ByteArray.size_append]; rfl
  rw [tok_ev (by rw [hz]; omega)]
  rw [byt_app, byt_app]
  rw [show byt (⟨#[91]⟩ : ByteArray) ++ byt s ++ byt (⟨#[93]⟩ : ByteArray) = 91 :: (byt s ++ [93]) from rfl, t, byt_len]
  rw [w64 (x := 1 + (s.size : Int)) (by omega) (by omega), w64 (x := 2 + (s.size : Int)) (by omega) (by omega)]
theorem j1_ev {sg W P : List UInt8} (hs : sg = [] ∨ sg = [45]) (hW : whole W) (hP : partT P) (x3 x4 : Int) (s : ByteArray) (e : byt s = sg ++ (W ++ P)) (hl : s.size ≤ 100) :
    Ev (fun k => minuetlaw9_LexNumbers.j1 k x3 x4 s) true := by
  refine Ev.step (fun k => by rw [minuetlaw9_LexNumbers.j1]) ?_
  refine Ev_ite (fun c => ?_) (fun c => ?_)
  · refine Ev.bind (show Ev (fun k => some pS) pS from Ev.now _) ?_
    obtain ⟨m0, m1⟩ := and_mask (x4 / 4) 3 (by decide)
    have m0' : 0 ≤ Go.bits .and .i64 (x4 / 4) 3 := m0
    have m1' : Go.bits .and .i64 (x4 / 4) 3 ≤ 3 := m1
    generalize Go.bits .and .i64 (x4 / 4) 3 = i at m0' m1' ⊢
    obtain ⟨p1, p2⟩ := pS_pow i m0' m1'
    have hi : i < (pS.length : Int) := by rw [show pS.length = 4 from rfl]; omega
    simp only [if_pos m0', if_pos hi]
    generalize rdOf ByteArray.empty pS i = q at p1 p2 ⊢
    simp only [if_pos (show s.size + q.size ≤ 9223372036854775807 by omega)]
    have d0 : 0 ≤ Go.bits .and .i64 x3 255 := (and_mask x3 255 (by decide)).1
    have d1 : Go.bits .and .i64 x3 255 ≤ 255 := (and_mask x3 255 (by decide)).2
    obtain ⟨t, t1, t2, t3⟩ := Decimal_ev (Go.bits .and .i64 x3 255) d0 (by omega)
    refine Ev.bind t1 ?_
    have z1 : (s ++ q).size = s.size + q.size := ByteArray.size_append
    have z2 : ((s ++ q) ++ t).size = s.size + q.size + t.size := by rw [ByteArray.size_append, z1]
    have z3 : ((⟨#[91]⟩ : ByteArray) ++ ((s ++ q) ++ t)).size = 1 + (s.size + q.size + t.size) := by rw [ByteArray.size_append, z2]; rfl
    simp only [if_pos (show (s ++ q).size + t.size ≤ 9223372036854775807 by omega), if_pos (show 1 + ((s ++ q) ++ t).size ≤ 9223372036854775807 by omega), if_pos (show ((⟨#[91]⟩ : ByteArray) ++ ((s ++ q) ++ t)).size + 1 ≤ 9223372036854775807 by omega)]
    rw [brackets hs hW hP (p1 _ t2.1) ((s ++ q) ++ t) (by rw [byt_app, byt_app, e]; simp) (by omega)]
    simp only [opt_some, num_eq, if_true]
    refine Ev.bind (Same_refl _ (by simp)) ?_
    exact Ev.now _
  · have z3 : ((⟨#[91]⟩ : ByteArray) ++ s).size = 1 + s.size := by rw [ByteArray.size_append]; rfl
    simp only [if_pos (show 1 + s.size ≤ 9223372036854775807 by omega), if_pos (show ((⟨#[91]⟩ : ByteArray) ++ s).size + 1 ≤ 9223372036854775807 by omega)]
    rw [brackets hs hW hP (Or.inl rfl) s (by rw [e]; simp) (by omega)]
    simp only [opt_some, num_eq, if_true]
    refine Ev.bind (Same_refl _ (by simp)) ?_
    exact Ev.now _
theorem j0_ev {sg W : List UInt8} (hs : sg = [] ∨ sg = [45]) (hW : whole W) (x2 x3 x4 : Int) (s : ByteArray) (e : byt s = sg ++ W) (hl : s.size ≤ 50) :
    Ev (fun k => minuetlaw9_LexNumbers.j0 k x2 x3 x4 s) true := by
  refine Ev.step (fun k => by rw [minuetlaw9_LexNumbers.j0]) ?_
  refine Ev_ite (fun c => ?_) (fun c => ?_)
  · simp only [if_pos (show s.size + 1 ≤ 9223372036854775807 by omega)]
    have d0 : 0 ≤ Go.bits .and .i64 x2 4095 := (and_mask x2 4095 (by decide)).1
    have d1 : Go.bits .and .i64 x2 4095 ≤ 4095 := (and_mask x2 4095 (by decide)).2
    obtain ⟨t, t1, t2, t3⟩ := Decimal_ev (Go.bits .and .i64 x2 4095) d0 (by omega)
    refine Ev.bind t1 ?_
    have z1 : (s ++ (⟨#[46]⟩ : ByteArray)).size = s.size + 1 := ByteArray.size_append
    have z2 : ((s ++ (⟨#[46]⟩ : ByteArray)) ++ t).size = s.size + 1 + t.size := by rw [ByteArray.size_append, z1]
    simp only [if_pos (show (s ++ (⟨#[46]⟩ : ByteArray)).size + t.size ≤ 9223372036854775807 by omega)]
    exact j1_ev hs hW (Or.inr ⟨byt t, t2.1, rfl⟩) x3 x4 _ (by rw [byt_app, byt_app, e, show byt (⟨#[46]⟩ : ByteArray) = [46] from rfl]; simp) (by omega)
  · exact j1_ev hs hW (Or.inl rfl) x3 x4 s (by rw [e]; simp) (by omega)
theorem LexNumbers_pure (minus : Bool) (a1 a2 a3 a4 : Int) (_h1 : (Lit.int .i64 a1).wf = true) (_h2 : (Lit.int .i64 a2).wf = true) (_h3 : (Lit.int .i64 a3).wf = true) (_h4 : (Lit.int .i64 a4).wf = true) : ∃ k, minuetlaw9_LexNumbers.f k minus a1 a2 a3 a4 = some true := by
  refine Ev.rounds (Ev.congr (fun k => by rw [minuetlaw9_LexNumbers.f]) ?_)
  refine Ev.bind awake_ev ?_
  simp only [if_true]
  have d0 : 0 ≤ Go.bits .and .i64 a1 1048575 := (and_mask a1 1048575 (by decide)).1
  have d1 : Go.bits .and .i64 a1 1048575 ≤ 1048575 := (and_mask a1 1048575 (by decide)).2
  obtain ⟨t, t1, t2, t3⟩ := Decimal_ev (Go.bits .and .i64 a1 1048575) d0 (by omega)
  refine Ev.bind t1 ?_
  refine Ev_ite (fun c => ?_) (fun c => ?_)
  · have z1 : ((⟨#[45]⟩ : ByteArray) ++ t).size = 1 + t.size := ByteArray.size_append
    simp only [if_pos (show 1 + t.size ≤ 9223372036854775807 by omega)]
    exact j0_ev (Or.inr rfl) t2 a2 a3 a4 _ (by rw [byt_app]) (by omega)
  · exact j0_ev (Or.inl rfl) t2 a2 a3 a4 t rfl (by omega)
end Go.Proofs.Ytjcoahipcgeoiaa.Pl
