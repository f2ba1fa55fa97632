/- The reference's four pieces added. -/
import Derived.Test.YtldaokclpkcmmabE0
import Derived.Test.YtldaokclpkcmmabGMinuetref1PAdd
namespace Go.Proofs.Ytldaokclpkcmmab.Pl
open Go.RowKit Go.Proofs.Ytldaokclpkcmmab.G Go.Proofs.YtldaokclpkcmmabW.PrintWords Go.Proofs.YtldaokclpkcmmabW.PrintLast Go.Proofs.YtldaokclpkcmmabW.PrintMore
set_option linter.unusedVariables false
set_option linter.unusedSimpArgs false
theorem r4 {α : Type} {a : Int} {p : ByteArray} {c b : Int} (ha : 0 ≤ a) (hc : 0 ≤ c) (hb : 0 ≤ b) (ht : a + (p.size : Int) + c + b ≤ 4611686018427387) {f : Nat → List Cm → Option α} {r : α} (h : Ev (fun k => f k (mk4 a p c b)) r) :
    Ev (fun k => (minuetref1_Add.f k ([] : List Cm) 0 a (⟨#[]⟩ : ByteArray)).bind fun t1 => (minuetref1_Add.f k t1 1 0 p).bind fun t2 => (minuetref1_Add.f k t2 2 c (⟨#[]⟩ : ByteArray)).bind fun t3 => (minuetref1_Add.f k t3 0 b (⟨#[]⟩ : ByteArray)).bind fun t4 => f k t4) r := by
  have g := raw4_good (p := p) ha hc hb
  have e0 : (⟨#[]⟩ : ByteArray).size = 0 := rfl
  have g1 := g ⟨0, a, ⟨#[]⟩⟩ (by simp [raw4]); have g2 := g ⟨1, 0, p⟩ (by simp [raw4]); have g3 := g ⟨2, c, ⟨#[]⟩⟩ (by simp [raw4]); have g4 := g ⟨0, b, ⟨#[]⟩⟩ (by simp [raw4])
  have z1 : sz (⟨0, a, ⟨#[]⟩⟩ : Cm) = a := by simp [sz, e0]
  have z2 : sz (⟨1, 0, p⟩ : Cm) = (p.size : Int) := by simp [sz]
  have z3 : sz (⟨2, c, ⟨#[]⟩⟩ : Cm) = c := by simp [sz, e0]
  have z4 : sz (⟨0, b, ⟨#[]⟩⟩ : Cm) = b := by simp [sz, e0]
  have o1 := add_good no_good g1; have o2 := add_good o1 g2; have o3 := add_good o2 g3
  have l1 := add_len [] (⟨0, a, ⟨#[]⟩⟩ : Cm); have l2 := add_len (add [] (⟨0, a, ⟨#[]⟩⟩ : Cm)) ⟨1, 0, p⟩; have l3 := add_len (add (add [] (⟨0, a, ⟨#[]⟩⟩ : Cm)) ⟨1, 0, p⟩) ⟨2, c, ⟨#[]⟩⟩
  have t1 := tot_add no_good g1; have t2 := tot_add o1 g2; have t3 := tot_add o2 g3
  have e1 : tot ([] : List Cm) = 0 := rfl
  simp only [List.length_nil] at l1
  refine Ev.bind (rAdd_ev [] ⟨0, a, ⟨#[]⟩⟩ no_good g1 (by omega) (by simp)) ?_
  refine Ev.bind (rAdd_ev _ ⟨1, 0, p⟩ o1 g2 (by omega) (by omega)) ?_
  refine Ev.bind (rAdd_ev _ ⟨2, c, ⟨#[]⟩⟩ o2 g3 (by omega) (by omega)) ?_
  refine Ev.bind (rAdd_ev _ ⟨0, b, ⟨#[]⟩⟩ o3 g4 (by omega) (by omega)) ?_
  exact h
end Go.Proofs.Ytldaokclpkcmmab.Pl
