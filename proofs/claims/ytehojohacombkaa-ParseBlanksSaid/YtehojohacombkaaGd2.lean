/- Rows of tokens: (*good.row).take by its contract. -/
import Derived.Test.YtehojohacombkaaGd1
import Derived.Test.YtehojohacombkaaLc8
import Derived.RegionTactic
import Derived.Tactics2
namespace Go.Proofs.Ytehojohacombkaa.G
open Go.RowKit Go.Proofs.YtehojohacombkaaW.PrintWords Go.Proofs.YtehojohacombkaaW.PrintLast Go.Proofs.YtehojohacombkaaW.PrintMore
open Go.Proofs.Ytehojohacombkaa.Lx (Tk)
open Go.Proofs.Ytehojohacombkaa.Gd (hdk lp rs one1 val Less)
set_option linter.unusedVariables false
set_option linter.unusedSimpArgs false
/-- A row of tokens at block g of W; the tokens lie in what came in by w0. -/
def IsRow (w0 W : World) (g : Nat) (ts : List Tk) : Prop :=
  ∃ A c, W.heap[g]? = some (.cells #[.slice A ts.length c] 59 (0, 0)) ∧ w0.heap.size ≤ g ∧ Kd.C k46 w0 A ts.length ts ∧ ts.length ≤ c
structure GStep (w0 w w' : World) (g : Nat) : Prop where
  below : Below w0.heap.size w0 w'
  kept : Kept w w' (fun k_ => k_ = g)
theorem GStep.refl {w0 w : World} {g : Nat} (h : Below w0.heap.size w0 w) : GStep w0 w w g := ⟨h, Kept.refl _ _⟩
theorem GStep.trans {w0 w w1 w2 : World} {g : Nat} (h : GStep w0 w w1 g) (k : GStep w0 w1 w2 g) : GStep w0 w w2 g := ⟨k.below, h.kept.then_ k.kept (fun _ hk => .inl hk)⟩
theorem GStep.more {w0 w w1 w2 : World} {g : Nat} (h : GStep w0 w w1 g) (k : Below w1.heap.size w1 w2) : GStep w0 w w2 g := ⟨below_step h.below k, h.kept.below k⟩
theorem IsRow.lt {w0 W : World} {g : Nat} {ts : List Tk} (h : IsRow w0 W g ts) : g < W.heap.size := by obtain ⟨_, _, h, _⟩ := h; exact blk_lt h
theorem IsRow.below {w0 W W2 : World} {g : Nat} {ts : List Tk} (h : IsRow w0 W g ts) (k : Below W.heap.size W W2) : IsRow w0 W2 g ts := by
  obtain ⟨A, c, h1, h2, h3, h4⟩ := h; exact ⟨A, c, blk_below h1 k, h2, h3, h4⟩
theorem Gd.cells {w0 W : World} (hB : Below w0.heap.size w0 W) {A : Option Addr} {c : Tk} {r : List Tk} (h : Kd.C k46 w0 A (c :: r).length (c :: r)) :
    ∃ ad, A = some ad ∧ W.cell? ad = some (.int .i64 c.f0) := by
  obtain ⟨ad, e, x0, x1, x2⟩ := at_T46 h 0 (by omega) (by simp only [List.length_cons]; omega)
  have e0 : ad.add ((0 : Int).toNat * 3) = ad := by simp [Addr.add]
  have e1 : rd_T46 (c :: r) 0 = c := rfl
  rw [e0, e1] at x0
  exact ⟨ad, e, (hB.cell (World.block_lt_of_cell? _ _ x0)).trans x0⟩
theorem Gd.cut {P : Program} (t e : TypeId) {i : TypeInfo} (ht : P.underlying t = some (.slice e)) (hi : P.info? e = some i) (size : Nat) (hsz : i.size = size) (A : Option Addr) (n c : Nat) (h1 : 1 ≤ n) :
    ∀ W : World, (Instr.slice t (.slice A n c) (some (.int .i64 1)) none none).run P W = .ok (.slice (if c = 1 then A else A.map (·.add (1 * size))) (n - 1) (c - 1)) W := by
  intro W
  have hel : P.elem t = e := by simp [Program.elem, ht]
  have hu : P.underlying t = some (.slice (P.elem t)) := by rw [hel]; exact ht
  rw [run_slice_l W t A n c hu .i64 1 (by omega) (by omega), hel]
  simp [sizeOf, typeInfo, hi, hsz, sliced, Result.andThen]
set_option maxHeartbeats 4000000 in
theorem Gd.take_nil (g : Nat) (k : Int) (w0 w : World) (hB : Below w0.heap.size w0 w) (h : IsRow w0 w g []) :
    Calls Try.prog 51 #[.pointer (some ⟨g, 0, none⟩), .int .i64 k] w fun e w' => e = .returned (.bool false) ∧ IsRow w0 w' g [] ∧ GStep w0 w w' g := by
  have HR := Aside0.mk h
  have HS := Aside0.mk (GStep.refl hB (g := g))
  obtain ⟨A, c, hb, hg, hK, hl⟩ := h
  have x0 : w.cell? ⟨g, 0, none⟩ = some (.slice A 0 c) := (blk_cell hb 0).trans rfl
  have f0 := blk_frozen hb 0
  clear hb hg hK hl hB
  go_enter Try.func51, Try.ntmps51
  go_wp2
  go_ret
  exact ⟨rfl, HR.out, HS.out⟩
set_option maxHeartbeats 4000000 in
theorem Gd.take_other (g : Nat) (k : Int) (d : Tk) (r : List Tk) (hk : ¬ d.f0 = k) (w0 w : World) (hB : Below w0.heap.size w0 w) (h : IsRow w0 w g (d :: r)) :
    Calls Try.prog 51 #[.pointer (some ⟨g, 0, none⟩), .int .i64 k] w fun e w' => e = .returned (.bool false) ∧ IsRow w0 w' g (d :: r) ∧ GStep w0 w w' g := by
  have HR := Aside0.mk h
  have HS := Aside0.mk (GStep.refl hB (g := g))
  obtain ⟨A, c, hb, hg, hK, hl⟩ := h
  obtain ⟨ad, rfl, y0⟩ := Gd.cells hB hK
  have x0 : w.cell? ⟨g, 0, none⟩ = some (.slice (some ad) (d :: r).length c) := (blk_cell hb 0).trans rfl
  have f0 := blk_frozen hb 0
  have q0 := eq_true (show (0 : Int) < ((d :: r).length : Int) by simp only [List.length_cons]; omega)
  have q1 := eq_true (show 0 < (d :: r).length by simp)
  have q2 : (((d :: r).length : Int) == 0) = false := beq_eq_false_iff_ne.mpr (by simp only [List.length_cons]; omega)
  have q3 : ((d :: r).length == 0) = false := beq_eq_false_iff_ne.mpr (by simp)
  have c0 : (d.f0 == k) = false := beq_eq_false_iff_ne.mpr hk
  have c1 : (d.f0 != k) = true := bne_iff_ne.mpr hk
  clear hb hg hK hl hB hk
  generalize (d :: r).length = n at *
  go_enter Try.func51, Try.ntmps51
  go_wp2
  go_ret
  exact ⟨rfl, HR.out, HS.out⟩
theorem Gd.take_miss (g : Nat) (k : Int) (ts : List Tk) (hk : hdk ts k = false) (w0 w : World) (hB : Below w0.heap.size w0 w) (h : IsRow w0 w g ts) :
    Calls Try.prog 51 #[.pointer (some ⟨g, 0, none⟩), .int .i64 k] w fun e w' => e = .returned (.bool false) ∧ IsRow w0 w' g ts ∧ GStep w0 w w' g := by
  cases ts with
  | nil => exact Gd.take_nil g k w0 w hB h
  | cons d r => exact Gd.take_other g k d r (fun e => by rw [show hdk (d :: r) k = (d.f0 == k) from rfl, beq_iff_eq.mpr e] at hk; cases hk) w0 w hB h
set_option maxHeartbeats 4000000 in
theorem Gd.take_hit (g : Nat) (k : Int) (ts : List Tk) (hk : hdk ts k = true) (w0 w : World) (hB : Below w0.heap.size w0 w) (h : IsRow w0 w g ts) :
    Calls Try.prog 51 #[.pointer (some ⟨g, 0, none⟩), .int .i64 k] w fun e w' => e = .returned (.bool true) ∧ IsRow w0 w' g ts.tail ∧ GStep w0 w w' g := by
  cases ts with
  | nil => cases hk
  | cons d r =>
  have hk : d.f0 = k := beq_iff_eq.mp hk
  simp only [List.tail_cons]
  have HS := Aside0.mk (GStep.refl hB (g := g))
  obtain ⟨A, c, hb, hg, hK, hl⟩ := h
  obtain ⟨ad, rfl, y0⟩ := Gd.cells hB hK
  have x0 : w.cell? ⟨g, 0, none⟩ = some (.slice (some ad) (d :: r).length c) := (blk_cell hb 0).trans rfl
  have f0 := blk_frozen hb 0
  have hdrop := Kd.C_drop (m := 1) hK (by simp only [List.length_cons]; omega) hl
  obtain ⟨i0, hi0, _, hsz0, _⟩ := info_parts info46
  obtain ⟨n, hn⟩ : ∃ n, n = (d :: r).length := ⟨_, rfl⟩
  have hcut := Gd.cut (P := Try.prog) 59 46 Try.underlying59 hi0 3 hsz0 (some ad) n c (by rw [hn]; simp)
  have q0 := eq_true (show (0 : Int) < ((d :: r).length : Int) by simp only [List.length_cons]; omega)
  have q1 := eq_true (show 0 < (d :: r).length by simp)
  have q2 : (((d :: r).length : Int) == 0) = false := beq_eq_false_iff_ne.mpr (by simp only [List.length_cons]; omega)
  have q3 : ((d :: r).length == 0) = false := beq_eq_false_iff_ne.mpr (by simp)
  have c0 : (d.f0 == k) = true := beq_iff_eq.mpr hk
  have c1 : (d.f0 != k) = false := bne_eq_false_iff_eq.mpr hk
  have ez : k46.sz = 3 := rfl
  rw [ez] at hdrop
  obtain ⟨B, hBe⟩ : ∃ B, B = (if c = 1 then some ad else (some ad).map (·.add (1 * 3))) := ⟨_, rfl⟩
  rw [← hBe] at hcut hdrop
  have er : n - 1 = r.length := by rw [hn]; simp
  rw [er] at hcut
  rw [← hn] at x0 q0 q1 q2 q3
  have HX := Aside0.mk hb
  have HG := Aside0.mk hg
  have HD := Aside0.mk hdrop
  have HL : Aside0 (r.length ≤ c - 1) := ⟨by simp only [List.length_cons] at hl; omega⟩
  clear hb hg hK hl hB hk hi0 hsz0 hdrop hBe ez hn er
  go_enter Try.func51, Try.ntmps51
  go_wp2
  go_ret
  exact ⟨rfl, ⟨B, c - 1, (blk_set HX.out 0 _).trans rfl, HG.out, HD.out, HL.out⟩, ⟨below_set HS.out.below HG.out, HS.out.kept.setCell (.inl rfl) _⟩⟩
end Go.Proofs.Ytehojohacombkaa.G
