/- (*good.row).value, its closures and rest by their contracts: one level over the other. -/
import Derived.Test.YtehojohacombkaaGd2
import Derived.Deep.RegionWith
import Derived.Deep.QuietTactic
namespace Go.Proofs.Ytehojohacombkaa.G
open Go.RowKit Go.Proofs.YtehojohacombkaaW.PrintWords Go.Proofs.YtehojohacombkaaW.PrintLast Go.Proofs.YtehojohacombkaaW.PrintMore
open Go.Proofs.Ytehojohacombkaa.Lx (Tk)
open Go.Proofs.Ytehojohacombkaa.Gd (hdk lp rs one1 val Less)
set_option linter.unusedVariables false
set_option linter.unusedSimpArgs false
def VPost (w0 w : World) (g : Nat) (o : Option (List Tk)) (e : Ending) (w' : World) : Prop :=
  GStep w0 w w' g ∧ (match o with | some r => e = .returned (.bool true) ∧ IsRow w0 w' g r | none => e = .returned (.bool false) ∧ ∃ ts', IsRow w0 w' g ts')
theorem VPost.yes {w0 w w' : World} {g : Nat} {r : List Tk} (h : GStep w0 w w' g) (hr : IsRow w0 w' g r) : VPost w0 w g (some r) (.returned (.bool true)) w' := ⟨h, rfl, hr⟩
theorem VPost.no {w0 w w' : World} {g : Nat} {r : List Tk} (h : GStep w0 w w' g) (hr : IsRow w0 w' g r) : VPost w0 w g none (.returned (.bool false)) w' := ⟨h, rfl, r, hr⟩
theorem VPost.after {w0 w w1 w' : World} {g : Nat} {o : Option (List Tk)} {e : Ending} (h : GStep w0 w w1 g) (k : VPost w0 w1 g o e w') : VPost w0 w g o e w' := ⟨h.trans k.1, k.2⟩
/-- The value's contract at so many levels. -/
def VC (k : Nat) : Prop := ∀ (g : Nat) (ts : List Tk) (d : Int) (w0 w : World), d = 13 - (k : Int) → Below w0.heap.size w0 w → IsRow w0 w g ts →
  Calls Try.prog 27 #[.pointer (some ⟨g, 0, none⟩), .int .i64 d] w (VPost w0 w g (val k ts))
theorem VC.at {k : Nat} (h : VC k) (g : Nat) (ts : List Tk) (d : Int) (w0 w : World) (hd : d = 13 - (k : Int)) (hB : Below w0.heap.size w0 w) (hr : IsRow w0 w g ts) :
    Calls Try.prog 27 #[.pointer (some ⟨g, 0, none⟩), .int .i64 d] w (VPost w0 w g (val k ts)) := h g ts d w0 w hd hB hr
/-- The boxes of what the closures hold. -/
structure Caps (W : World) (g p q : Nat) (d : Int) : Prop where
  hp : W.heap[p]? = some (.cells #[.pointer (some ⟨g, 0, none⟩)] 86 (0, 0))
  hq : W.heap[q]? = some (.cells #[.int .i64 d] 3 (0, 0))
  pg : ¬ p = g
  qg : ¬ q = g
theorem Caps.step {w0 w w' : World} {g p q : Nat} {d : Int} (h : Caps w g p q d) (k : GStep w0 w w' g) : Caps w' g p q d := ⟨blk_kept h.hp k.kept h.pg, blk_kept h.hq k.kept h.qg, h.pg, h.qg⟩
theorem Caps.cells {W : World} {g p q : Nat} {d : Int} (h : Caps W g p q d) : W.cell? ⟨p, 0, none⟩ = some (.pointer (some ⟨g, 0, none⟩)) ∧ W.cell? ⟨q, 0, none⟩ = some (.int .i64 d) ∧ W.frozen? ⟨p, 0, none⟩ = false ∧ W.frozen? ⟨q, 0, none⟩ = false :=
  ⟨(blk_cell h.hp 0).trans rfl, (blk_cell h.hq 0).trans rfl, blk_frozen h.hp 0, blk_frozen h.hq 0⟩
set_option maxHeartbeats 4000000 in
set_option maxRecDepth 100000 in
theorem Gd.c2_any (k : Nat) (hV : VC k) (g p q : Nat) (d : Int) (hd : d = 12 - (k : Int)) (d0 : 0 ≤ d) (d1 : d ≤ 12) (ts : List Tk) (w0 w : World) (hB : Below w0.heap.size w0 w) (h : IsRow w0 w g ts) (hc : Caps w g p q d) :
    Calls Try.prog 54 #[.pointer (some ⟨p, 0, none⟩), .pointer (some ⟨q, 0, none⟩)] w (VPost w0 w g (val k ts)) := by
  have HR := Aside0.mk h
  have HB := Aside0.mk hB
  obtain ⟨x0, x1, f0, f1⟩ := hc.cells
  have HD : Aside0 (d + 1 = 13 - (k : Int)) := ⟨by omega⟩
  have HV := Aside0.mk (hV g ts (d + 1) w0 w HD.out hB h)
  clear h hB hc hd hV
  cases hv : val k ts with
  | some us =>
    rw [hv] at HV
    clear hv
    go_enter Try.func54, Try.ntmps54
    go_wp2_with (first | (go_at_call 27; (with_reducible refine HV.out.mono ?_); rintro e w9 ⟨hs_, rfl, hr_⟩; have HS := Aside0.mk hs_; have HR2 := Aside0.mk hr_; clear hs_ hr_))
    go_ret
    exact VPost.yes HS.out HR2.out
  | none =>
    rw [hv] at HV
    clear hv
    go_enter Try.func54, Try.ntmps54
    go_wp2_with (first | (go_at_call 27; (with_reducible refine HV.out.mono ?_); rintro e w9 ⟨hs_, rfl, ts_, hr_⟩; have HS := Aside0.mk hs_; have HR2 := Aside0.mk hr_; clear hs_ hr_))
    go_ret
    exact VPost.no HS.out HR2.out
set_option maxHeartbeats 4000000 in
set_option maxRecDepth 100000 in
theorem Gd.c1_any (k : Nat) (hV : VC k) (g p q : Nat) (d : Int) (hd : d = 12 - (k : Int)) (d0 : 0 ≤ d) (d1 : d ≤ 12) (ts : List Tk) (w0 w : World) (hB : Below w0.heap.size w0 w) (h : IsRow w0 w g ts) (hc : Caps w g p q d) :
    Calls Try.prog 53 #[.pointer (some ⟨p, 0, none⟩), .pointer (some ⟨q, 0, none⟩)] w (VPost w0 w g (one1 (val k) ts)) := by
  have HR := Aside0.mk h
  have HS := Aside0.mk (GStep.refl hB (g := g))
  have HC := Aside0.mk hc
  obtain ⟨x0, x1, f0, f1⟩ := hc.cells
  have HD : Aside0 (d + 1 = 13 - (k : Int)) := ⟨by omega⟩
  have HV := Aside0.mk hV
  clear h hB hc hd hV
  unfold Go.Proofs.Ytehojohacombkaa.Gd.one1
  cases h6 : hdk ts 6 with
  | false =>
    have M6 := Aside0.mk h6
    clear h6
    simp only [Bool.false_eq_true, if_false]
    go_enter Try.func53, Try.ntmps53
    go_wp2_with (first | (go_at_call 51; (with_reducible refine (Gd.take_miss g 6 ts M6.out w0 _ HS.out.below HR.out).mono ?_); rintro e w9 ⟨rfl, hr_, hs_⟩; have n0_ := Aside0.mk (HS.out.trans hs_); have n1_ := Aside0.mk hr_; have n2_ := Aside0.mk (HC.out.step hs_); clear HS HR HC hs_ hr_ x0 x1 f0 f1; have HS := n0_; have HR := n1_; have HC := n2_; clear n0_ n1_ n2_; obtain ⟨x0, x1, f0, f1⟩ := HC.out.cells))
    go_ret
    exact VPost.no HS.out HR.out
  | true =>
    have M6 := Aside0.mk h6
    clear h6
    simp only [if_true]
    cases h4 : hdk ts.tail 4 with
    | false =>
      have M4 := Aside0.mk h4
      clear h4
      simp only [Bool.false_eq_true, if_false]
      go_enter Try.func53, Try.ntmps53
      go_wp2_with (first | (go_at_call 51; (with_reducible refine (Gd.take_hit g 6 ts M6.out w0 _ HS.out.below HR.out).mono ?_); rintro e w9 ⟨rfl, hr_, hs_⟩; have n0_ := Aside0.mk (HS.out.trans hs_); have n1_ := Aside0.mk hr_; have n2_ := Aside0.mk (HC.out.step hs_); clear HS HR HC hs_ hr_ x0 x1 f0 f1; have HS := n0_; have HR := n1_; have HC := n2_; clear n0_ n1_ n2_; obtain ⟨x0, x1, f0, f1⟩ := HC.out.cells) | (go_at_call 51; (with_reducible refine (Gd.take_miss g 4 ts.tail M4.out w0 _ HS.out.below HR.out).mono ?_); rintro e w9 ⟨rfl, hr_, hs_⟩; have n0_ := Aside0.mk (HS.out.trans hs_); have n1_ := Aside0.mk hr_; have n2_ := Aside0.mk (HC.out.step hs_); clear HS HR HC hs_ hr_ x0 x1 f0 f1; have HS := n0_; have HR := n1_; have HC := n2_; clear n0_ n1_ n2_; obtain ⟨x0, x1, f0, f1⟩ := HC.out.cells))
      go_ret
      exact VPost.no HS.out HR.out
    | true =>
      have M4 := Aside0.mk h4
      clear h4
      simp only [if_true]
      cases hv : val k ts.tail.tail with
      | some us =>
        have HVV := Aside0.mk hv
        clear hv
        go_enter Try.func53, Try.ntmps53
        go_wp2_with (first | (go_at_call 51; (with_reducible refine (Gd.take_hit g 6 ts M6.out w0 _ HS.out.below HR.out).mono ?_); rintro e w9 ⟨rfl, hr_, hs_⟩; have n0_ := Aside0.mk (HS.out.trans hs_); have n1_ := Aside0.mk hr_; have n2_ := Aside0.mk (HC.out.step hs_); clear HS HR HC hs_ hr_ x0 x1 f0 f1; have HS := n0_; have HR := n1_; have HC := n2_; clear n0_ n1_ n2_; obtain ⟨x0, x1, f0, f1⟩ := HC.out.cells) | (go_at_call 51; (with_reducible refine (Gd.take_hit g 4 ts.tail M4.out w0 _ HS.out.below HR.out).mono ?_); rintro e w9 ⟨rfl, hr_, hs_⟩; have n0_ := Aside0.mk (HS.out.trans hs_); have n1_ := Aside0.mk hr_; have n2_ := Aside0.mk (HC.out.step hs_); clear HS HR HC hs_ hr_ x0 x1 f0 f1; have HS := n0_; have HR := n1_; have HC := n2_; clear n0_ n1_ n2_; obtain ⟨x0, x1, f0, f1⟩ := HC.out.cells) | (go_at_call 27; (with_reducible refine (VC.at HV.out g ts.tail.tail (d + 1) w0 _ HD.out HS.out.below HR.out).mono ?_); rw [HVV.out]; rintro e w9 ⟨hs_, rfl, hr_⟩; have n0_ := Aside0.mk (HS.out.trans hs_); have n1_ := Aside0.mk hr_; have n2_ := Aside0.mk (HC.out.step hs_); clear HS HR HC hs_ hr_ x0 x1 f0 f1; have HS := n0_; have HR := n1_; have HC := n2_; clear n0_ n1_ n2_; obtain ⟨x0, x1, f0, f1⟩ := HC.out.cells))
        go_ret
        exact VPost.yes HS.out HR.out
      | none =>
        have HVV := Aside0.mk hv
        clear hv
        go_enter Try.func53, Try.ntmps53
        go_wp2_with (first | (go_at_call 51; (with_reducible refine (Gd.take_hit g 6 ts M6.out w0 _ HS.out.below HR.out).mono ?_); rintro e w9 ⟨rfl, hr_, hs_⟩; have n0_ := Aside0.mk (HS.out.trans hs_); have n1_ := Aside0.mk hr_; have n2_ := Aside0.mk (HC.out.step hs_); clear HS HR HC hs_ hr_ x0 x1 f0 f1; have HS := n0_; have HR := n1_; have HC := n2_; clear n0_ n1_ n2_; obtain ⟨x0, x1, f0, f1⟩ := HC.out.cells) | (go_at_call 51; (with_reducible refine (Gd.take_hit g 4 ts.tail M4.out w0 _ HS.out.below HR.out).mono ?_); rintro e w9 ⟨rfl, hr_, hs_⟩; have n0_ := Aside0.mk (HS.out.trans hs_); have n1_ := Aside0.mk hr_; have n2_ := Aside0.mk (HC.out.step hs_); clear HS HR HC hs_ hr_ x0 x1 f0 f1; have HS := n0_; have HR := n1_; have HC := n2_; clear n0_ n1_ n2_; obtain ⟨x0, x1, f0, f1⟩ := HC.out.cells) | (go_at_call 27; (with_reducible refine (VC.at HV.out g ts.tail.tail (d + 1) w0 _ HD.out HS.out.below HR.out).mono ?_); rw [HVV.out]; rintro e w9 ⟨hs_, rfl, ts_, hr_⟩; have n0_ := Aside0.mk (HS.out.trans hs_); have n1_ := Aside0.mk hr_; have n2_ := Aside0.mk (HC.out.step hs_); clear HS HR HC hs_ hr_ x0 x1 f0 f1; have HS := n0_; have HR := n1_; have HC := n2_; clear n0_ n1_ n2_; obtain ⟨x0, x1, f0, f1⟩ := HC.out.cells))
        go_ret
        exact VPost.no HS.out HR.out
end Go.Proofs.Ytehojohacombkaa.G
