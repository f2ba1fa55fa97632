/- The reference's goodness: kind and take by their contracts. -/
import Derived.Test.YtnhkdpcncjkmlaaGd1
import Derived.Test.YtnhkdpcncjkmlaaLc8
import Derived.RegionTactic
import Derived.Tactics2
import Derived.Deep.RegionWith
import Derived.Deep.QuietTactic
namespace Go.Proofs.Ytnhkdpcncjkmlaa.G
open Go.RowKit Go.Proofs.YtnhkdpcncjkmlaaW.PrintWords Go.Proofs.YtnhkdpcncjkmlaaW.PrintLast Go.Proofs.YtnhkdpcncjkmlaaW.PrintMore
open Go.Proofs.Ytnhkdpcncjkmlaa.Lx (Tk)
open Go.Proofs.Ytnhkdpcncjkmlaa.Gd (hdk lp rs one1 val Less)
set_option linter.unusedVariables false
set_option linter.unusedSimpArgs false
/-- A goodness at block g: what is left of its tokens. -/
def IsGn (w0 W : World) (g : Nat) (ts us : List Tk) : Prop :=
  ∃ (v : Value) (i : Nat), W.heap[g]? = some (.cells #[v, .int .i64 (i : Int)] 78 (0, 0)) ∧ w0.heap.size ≤ g ∧ Kd.R k34 34 W w0.heap.size (fun k_ => k_ ≠ g) v ts ∧ i ≤ ts.length ∧ ts.length ≤ 300 ∧ ts.drop i = us
theorem IsGn.drewN {w0 W : World} {g : Nat} {ts us : List Tk} (h : IsGn w0 W g ts us) (n : Nat) : IsGn w0 (W.drewN n) g ts us := by
  obtain ⟨v, i, h1, h2, h3, h4⟩ := h; exact ⟨v, i, blk_drewN h1 n, h2, Kd.R_drewN h3 n, h4⟩
theorem Gr.kind_nil (g : Nat) (ts : List Tk) (w0 w : World) (h : IsGn w0 w g ts []) :
    Calls Try.prog 60 #[.pointer (some ⟨g, 0, none⟩)] w fun e w' => e = .returned (.int .i64 (-1)) ∧ ∃ n, w' = w.drewN n := by
  obtain ⟨v, i, hb, hg, hR, hi, hl, hd⟩ := h
  obtain ⟨A, c, rfl⟩ := Kd.R_slice hR
  have x0 : w.cell? ⟨g, 0, none⟩ = some (.slice A ts.length c) := (blk_cell hb 0).trans rfl
  have x1 : w.cell? ⟨g, 1, none⟩ = some (.int .i64 (i : Int)) := (blk_cell hb 1).trans rfl
  have e : i = ts.length := by have := congrArg List.length hd; rw [List.length_drop] at this; simp at this; omega
  clear hb hg hR hi hd hl
  subst e
  generalize ts.length = n at *
  have c1 : decide ((n : Int) ≤ (n : Int)) = true := decide_eq_true (Int.le_refl _)
  go_enter Try.func60, Try.ntmps60
  go_wp2
  go_region
  all_goals (try go_wp2)
  all_goals (try go_ret)
  all_goals exact ⟨rfl, 1, rfl⟩
set_option maxHeartbeats 4000000 in
theorem Gr.kind_cons (g : Nat) (d : Tk) (ts r : List Tk) (w0 w : World) (h : IsGn w0 w g ts (d :: r)) :
    Calls Try.prog 60 #[.pointer (some ⟨g, 0, none⟩)] w fun e w' => e = .returned (.int .i64 d.f0) ∧ ∃ n, w' = w.drewN n := by
  obtain ⟨v, i, hb, hg, hR, hi, hl, hd⟩ := h
  obtain ⟨A, c, rfl⟩ := Kd.R_slice hR
  have x0 : w.cell? ⟨g, 0, none⟩ = some (.slice A ts.length c) := (blk_cell hb 0).trans rfl
  have x1 : w.cell? ⟨g, 1, none⟩ = some (.int .i64 (i : Int)) := (blk_cell hb 1).trans rfl
  have hlt : i < ts.length := by
    rcases Nat.lt_or_ge i ts.length with h' | h'
    · exact h'
    · rw [List.drop_eq_nil_of_le h'] at hd; cases hd
  have e : d = rd_T34 ts (i : Int) := by
    have := List.drop_eq_getElem_cons hlt
    rw [hd] at this
    show d = ts.getD i z34
    rw [List.getD_eq_getElem?_getD, List.getElem?_eq_getElem hlt]
    exact (List.cons.inj this).1
  obtain ⟨ad, rfl, y0, y1, y2⟩ := at_T34 (Kd.R_reads' hR).2.2 (i : Int) (by omega) (by omega)
  rw [← e] at y0
  have p0 := eq_true (show (0 : Int) ≤ (i : Int) by omega)
  have p1 := eq_true (show (i : Int) < (ts.length : Int) by omega)
  have p2 := eq_true hlt
  have c1 : decide ((ts.length : Int) ≤ (i : Int)) = false := decide_eq_false (by omega)
  have c2 : decide (ts.length ≤ i) = false := decide_eq_false (by omega)
  have p3 : (0 : Int) ≤ (i : Int) := by omega
  obtain ⟨j, hj⟩ : ∃ j, (i : Int) = j := ⟨_, rfl⟩
  rw [hj] at x1 y0 p0 p1 c1 p3
  clear hb hg hR hi hd hl y1 y2 e hj c2 p2 hlt
  generalize ts.length = n at *
  go_enter Try.func60, Try.ntmps60
  go_wp2
  go_region
  all_goals (try go_wp2)
  all_goals (try go_region)
  all_goals (try go_wp2)
  all_goals (try go_ret)
  all_goals exact ⟨rfl, 2, rfl⟩
theorem Gr.take_miss (g : Nat) (ts us : List Tk) (k : Int) (hk : hdk us k = false ∧ k ≠ -1) (w0 w : World) (hB : Below w0.heap.size w0 w) (h : IsGn w0 w g ts us) :
    Calls Try.prog 50 #[.pointer (some ⟨g, 0, none⟩), .int .i64 k] w fun e w' => e = .returned (.bool false) ∧ IsGn w0 w' g ts us ∧ Below w0.heap.size w0 w' := by
  have HI := Aside0.mk h
  have HB := Aside0.mk hB
  cases us with
  | nil =>
    have c0 : ((-1 : Int) == k) = false := beq_eq_false_iff_ne.mpr (fun e => hk.2 e.symm)
    clear h hB hk
    go_enter Try.func50, Try.ntmps50
    go_wp2_with (first | (go_at_call 60; (with_reducible refine (Gr.kind_nil g ts w0 w HI.out).mono ?_); rintro e w9 ⟨rfl, n_, rfl⟩))
    go_ret
    exact ⟨rfl, HI.out.drewN _, pw_below_drewN HB.out _⟩
  | cons d r =>
    have c0 : (d.f0 == k) = false := hk.1
    clear h hB hk
    go_enter Try.func50, Try.ntmps50
    go_wp2_with (first | (go_at_call 60; (with_reducible refine (Gr.kind_cons g d ts r w0 w HI.out).mono ?_); rintro e w9 ⟨rfl, n_, rfl⟩))
    go_ret
    exact ⟨rfl, HI.out.drewN _, pw_below_drewN HB.out _⟩
theorem Gr.take_hit (g : Nat) (ts us : List Tk) (k : Int) (hk : hdk us k = true) (w0 w : World) (hB : Below w0.heap.size w0 w) (h : IsGn w0 w g ts us) :
    Calls Try.prog 50 #[.pointer (some ⟨g, 0, none⟩), .int .i64 k] w fun e w' => e = .returned (.bool true) ∧ IsGn w0 w' g ts us.tail ∧ Below w0.heap.size w0 w' := by
  have HI := Aside0.mk h
  have HB := Aside0.mk hB
  cases us with
  | nil => cases hk
  | cons d r =>
    have c0 : (d.f0 == k) = true := hk
    clear h hB hk
    go_enter Try.func50, Try.ntmps50
    go_upto_region 2 with (go_at_call 60; (with_reducible refine (Gr.kind_cons g d ts r w0 w HI.out).mono ?_); rintro e w9 ⟨rfl, n_, rfl⟩)
    have n0_ := Aside0.mk (HI.out.drewN n_)
    have n1_ := Aside0.mk (pw_below_drewN HB.out n_)
    clear HI HB
    generalize w.drewN n_ = w2 at n0_ n1_ ⊢
    obtain ⟨v, i, hb, hg, hR, hi, hl, hd⟩ := n0_.out
    have x1 : w2.cell? ⟨g, 1, none⟩ = some (.int .i64 (i : Int)) := (blk_cell hb 1).trans rfl
    have f1 := blk_frozen hb 1
    have hlt : i < ts.length := by
      rcases Nat.lt_or_ge i ts.length with h' | h'
      · exact h'
      · rw [List.drop_eq_nil_of_le h'] at hd; cases hd
    have i1 : i ≤ 300 := by omega
    have HX := Aside0.mk hb
    have HG := Aside0.mk hg
    have HR := Aside0.mk hR
    have HD := Aside0.mk hd
    have HL := Aside0.mk hl
    have HT := Aside0.mk hlt
    clear hb hg hR hi hl hd hlt n0_
    go_wp2
    go_ret
    refine ⟨rfl, ⟨v, i + 1, (blk_set HX.out 1 _).trans rfl, HG.out, ?_, HT.out, HL.out, ?_⟩, below_set n1_.out HG.out⟩
    · exact Kd.R_mono (Kd.R_far (p := ⟨g, 1, none⟩) (Kd.R_mono HR.out (fun k_ hk => (⟨hk, hk⟩ : _ ∧ k_ ≠ g))) (fun _ hk => hk.2) _) (fun _ hk => hk.1)
    · have := congrArg List.tail HD.out
      rw [List.tail_drop] at this
      exact this
end Go.Proofs.Ytnhkdpcncjkmlaa.G
