/- The reference's goodness: value and rest by their contracts. -/
import Derived.Test.YtnhkdpcncjkmlaaGr0
namespace Go.Proofs.Ytnhkdpcncjkmlaa.G
open Go.RowKit Go.Proofs.YtnhkdpcncjkmlaaW.PrintWords Go.Proofs.YtnhkdpcncjkmlaaW.PrintLast Go.Proofs.YtnhkdpcncjkmlaaW.PrintMore
open Go.Proofs.Ytnhkdpcncjkmlaa.Lx (Tk)
open Go.Proofs.Ytnhkdpcncjkmlaa.Gd (hdk lp rs one1 val Less)
set_option linter.unusedVariables false
set_option linter.unusedSimpArgs false
def GPost (w0 : World) (g : Nat) (ts : List Tk) (o : Option (List Tk)) (e : Ending) (w' : World) : Prop :=
  Below w0.heap.size w0 w' ∧ (match o with | some r => e = .returned (.bool true) ∧ IsGn w0 w' g ts r | none => e = .returned (.bool false) ∧ ∃ us, IsGn w0 w' g ts us)
theorem GPost.yes {w0 w' : World} {g : Nat} {ts r : List Tk} (h : Below w0.heap.size w0 w') (hr : IsGn w0 w' g ts r) : GPost w0 g ts (some r) (.returned (.bool true)) w' := ⟨h, rfl, hr⟩
theorem GPost.no {w0 w' : World} {g : Nat} {ts r : List Tk} (h : Below w0.heap.size w0 w') (hr : IsGn w0 w' g ts r) : GPost w0 g ts none (.returned (.bool false)) w' := ⟨h, rfl, r, hr⟩
def GC (k : Nat) : Prop := ∀ (g : Nat) (ts us : List Tk) (d : Int) (w0 w : World), d = 13 - (k : Int) → Below w0.heap.size w0 w → IsGn w0 w g ts us →
  Calls Try.prog 34 #[.pointer (some ⟨g, 0, none⟩), .int .i64 d] w (GPost w0 g ts (val k us))
theorem GC.at {k : Nat} (h : GC k) (g : Nat) (ts us : List Tk) (d : Int) (w0 w : World) (hd : d = 13 - (k : Int)) (hB : Below w0.heap.size w0 w) (hr : IsGn w0 w g ts us) :
    Calls Try.prog 34 #[.pointer (some ⟨g, 0, none⟩), .int .i64 d] w (GPost w0 g ts (val k us)) := h g ts us d w0 w hd hB hr
theorem Gr.tail_le (ts : List Tk) : ts.tail.length ≤ ts.length := by cases ts <;> simp
set_option maxHeartbeats 8000000 in
set_option maxRecDepth 100000 in
theorem Gr.rest1 (k : Nat) (hV : GC k) (g : Nat) (ts us : List Tk) (d : Int) (hd : d = 12 - (k : Int)) (d0 : 0 ≤ d) (d1 : d ≤ 12) (w0 w : World) (hB : Below w0.heap.size w0 w) (h : IsGn w0 w g ts us) :
    Calls Try.prog 51 #[.pointer (some ⟨g, 0, none⟩), .int .i64 1, .int .i64 d] w (GPost w0 g ts (rs (one1 (val k)) 1 us)) := by
  have HI := Aside0.mk h
  have HB := Aside0.mk hB
  have HD : Aside0 (d + 1 = 13 - (k : Int)) := ⟨by omega⟩
  have HV := Aside0.mk hV
  clear h hB hd hV
  unfold Go.Proofs.Ytnhkdpcncjkmlaa.Gd.rs
  cases h6 : hdk us 1 with
  | true =>
    have M6 := Aside0.mk h6
    clear h6
    simp only [if_true]
    go_enter Try.func51, Try.ntmps51
    go_wp2_with (first | (go_at_call 50; (with_reducible refine (Gr.take_hit g ts us 1 M6.out w0 _ HB.out HI.out).mono ?_); rintro e w9 ⟨rfl, hi_, hb_⟩; have n0_ := Aside0.mk hi_; have n1_ := Aside0.mk hb_; clear HI HB hi_ hb_; have HI := n0_; have HB := n1_; clear n0_ n1_))
    go_ret
    exact GPost.yes HB.out HI.out
  | false =>
    have M6 := Aside0.mk (show hdk us 1 = false ∧ (1 : Int) ≠ -1 from ⟨h6, by decide⟩)
    clear h6
    simp only [Bool.false_eq_true, if_false]
    obtain ⟨R, hR⟩ : ∃ R, lp (one1 (val k)) 1 (us.length + 1) us = R := ⟨_, rfl⟩
    rw [hR]
    have HRR := Aside0.mk hR
    clear hR
    go_enter Try.func51, Try.ntmps51
    go_wp2_with (first | (go_at_call 50; (with_reducible refine (Gr.take_miss g ts us 1 M6.out w0 _ HB.out HI.out).mono ?_); rintro e w9 ⟨rfl, hi_, hb_⟩; have n0_ := Aside0.mk hi_; have n1_ := Aside0.mk hb_; clear HI HB hi_ hb_; have HI := n0_; have HB := n1_; clear n0_ n1_))
    go_loopg [] (us.length + 1) (fun kq wr => ∃ (us : List Tk) (n : Nat), Aside0 (lp (one1 (val k)) 1 n us = R) ∧ Aside0 (us.length < n ∧ n ≤ kq) ∧ Aside0 (IsGn w0 wr g ts us) ∧ Aside0 (Below w0.heap.size w0 wr))
    case atStart => exact ⟨us, us.length + 1, HRR, ⟨Nat.lt_succ_self _, Nat.le_refl _⟩, HI, HB⟩
    case round =>
      clear HI HB HRR M6
      obtain ⟨us, n, HRR, HN, HI, HB⟩ := hrel
      cases gk with
      | zero => exact absurd HN.out (by omega)
      | succ k1 =>
        cases n with
        | zero => exact absurd HN.out (by omega)
        | succ n =>
          have hl := HRR.out
          rw [Go.Proofs.Ytnhkdpcncjkmlaa.Gd.lp] at hl
          clear HRR
          cases h61 : hdk us 6 with
          | false =>
            have ho : one1 (val k) us = none := by unfold Go.Proofs.Ytnhkdpcncjkmlaa.Gd.one1; rw [h61]; rfl
            rw [ho] at hl
            have K6 := Aside0.mk (show hdk us 6 = false ∧ (6 : Int) ≠ -1 from ⟨h61, by decide⟩)
            clear h61
            have HL := Aside0.mk hl
            clear hl ho
            go_wp2_with (first | (go_at_call 50; (with_reducible refine (Gr.take_miss g ts us 6 K6.out w0 _ HB.out HI.out).mono ?_); rintro e w9 ⟨rfl, hi_, hb_⟩; have n0_ := Aside0.mk hi_; have n1_ := Aside0.mk hb_; clear HI HB hi_ hb_; have HI := n0_; have HB := n1_; clear n0_ n1_))
            go_ret
            rw [← HL.out]
            exact GPost.no HB.out HI.out
          | true =>
            have K6 := Aside0.mk h61
            clear h61
            cases h41 : hdk us.tail 4 with
            | false =>
              have ho : one1 (val k) us = none := by unfold Go.Proofs.Ytnhkdpcncjkmlaa.Gd.one1; rw [K6.out, h41]; rfl
              rw [ho] at hl
              have K4 := Aside0.mk (show hdk us.tail 4 = false ∧ (4 : Int) ≠ -1 from ⟨h41, by decide⟩)
              clear h41
              have HL := Aside0.mk hl
              clear hl ho
              go_wp2_with (first | (go_at_call 50; (with_reducible refine (Gr.take_hit g ts us 6 K6.out w0 _ HB.out HI.out).mono ?_); rintro e w9 ⟨rfl, hi_, hb_⟩; have n0_ := Aside0.mk hi_; have n1_ := Aside0.mk hb_; clear HI HB hi_ hb_; have HI := n0_; have HB := n1_; clear n0_ n1_) | (go_at_call 50; (with_reducible refine (Gr.take_miss g ts us.tail 4 K4.out w0 _ HB.out HI.out).mono ?_); rintro e w9 ⟨rfl, hi_, hb_⟩; have n0_ := Aside0.mk hi_; have n1_ := Aside0.mk hb_; clear HI HB hi_ hb_; have HI := n0_; have HB := n1_; clear n0_ n1_))
              go_ret
              rw [← HL.out]
              exact GPost.no HB.out HI.out
            | true =>
              have K4 := Aside0.mk h41
              clear h41
              cases hv : val k us.tail.tail with
              | none =>
                have ho : one1 (val k) us = none := by unfold Go.Proofs.Ytnhkdpcncjkmlaa.Gd.one1; rw [K6.out, K4.out]; exact hv
                rw [ho] at hl
                have HX := Aside0.mk hv
                clear hv
                have HL := Aside0.mk hl
                clear hl ho
                go_wp2_with (first | (go_at_call 50; (with_reducible refine (Gr.take_hit g ts us 6 K6.out w0 _ HB.out HI.out).mono ?_); rintro e w9 ⟨rfl, hi_, hb_⟩; have n0_ := Aside0.mk hi_; have n1_ := Aside0.mk hb_; clear HI HB hi_ hb_; have HI := n0_; have HB := n1_; clear n0_ n1_) | (go_at_call 50; (with_reducible refine (Gr.take_hit g ts us.tail 4 K4.out w0 _ HB.out HI.out).mono ?_); rintro e w9 ⟨rfl, hi_, hb_⟩; have n0_ := Aside0.mk hi_; have n1_ := Aside0.mk hb_; clear HI HB hi_ hb_; have HI := n0_; have HB := n1_; clear n0_ n1_) | (go_at_call 34; (with_reducible refine (GC.at HV.out g ts us.tail.tail (d + 1) w0 _ HD.out HB.out HI.out).mono ?_); rw [HX.out]; rintro e w9 ⟨hb_, rfl, us_, hi_⟩; have n0_ := Aside0.mk hi_; have n1_ := Aside0.mk hb_; clear HI HB hi_ hb_; have HI := n0_; have HB := n1_; clear n0_ n1_))
                go_ret
                rw [← HL.out]
                exact GPost.no HB.out HI.out
              | some vs =>
                have ho : one1 (val k) us = some vs := by unfold Go.Proofs.Ytnhkdpcncjkmlaa.Gd.one1; rw [K6.out, K4.out]; exact hv
                rw [ho] at hl
                simp only at hl
                have HX := Aside0.mk hv
                clear hv
                have HLS : Aside0 (vs.length < us.length) := ⟨Go.Proofs.Ytnhkdpcncjkmlaa.Gd.one1_less (Go.Proofs.Ytnhkdpcncjkmlaa.Gd.val_less k) us vs ho⟩
                clear ho
                cases h7 : hdk vs 1 with
                | true =>
                  rw [h7, if_pos rfl] at hl
                  have M7 := Aside0.mk h7
                  have HL := Aside0.mk hl
                  clear h7 hl
                  go_wp2_with (first | (go_at_call 50; (with_reducible refine (Gr.take_hit g ts us 6 K6.out w0 _ HB.out HI.out).mono ?_); rintro e w9 ⟨rfl, hi_, hb_⟩; have n0_ := Aside0.mk hi_; have n1_ := Aside0.mk hb_; clear HI HB hi_ hb_; have HI := n0_; have HB := n1_; clear n0_ n1_) | (go_at_call 50; (with_reducible refine (Gr.take_hit g ts us.tail 4 K4.out w0 _ HB.out HI.out).mono ?_); rintro e w9 ⟨rfl, hi_, hb_⟩; have n0_ := Aside0.mk hi_; have n1_ := Aside0.mk hb_; clear HI HB hi_ hb_; have HI := n0_; have HB := n1_; clear n0_ n1_) | (go_at_call 34; (with_reducible refine (GC.at HV.out g ts us.tail.tail (d + 1) w0 _ HD.out HB.out HI.out).mono ?_); rw [HX.out]; rintro e w9 ⟨hb_, rfl, hi_⟩; have n0_ := Aside0.mk hi_; have n1_ := Aside0.mk hb_; clear HI HB hi_ hb_; have HI := n0_; have HB := n1_; clear n0_ n1_) | (go_at_call 50; (with_reducible refine (Gr.take_hit g ts vs 1 M7.out w0 _ HB.out HI.out).mono ?_); rintro e w9 ⟨rfl, hi_, hb_⟩; have n0_ := Aside0.mk hi_; have n1_ := Aside0.mk hb_; clear HI HB hi_ hb_; have HI := n0_; have HB := n1_; clear n0_ n1_))
                  go_ret
                  rw [← HL.out]
                  exact GPost.yes HB.out HI.out
                | false =>
                  rw [h7, if_neg (by decide)] at hl
                  have M7 := Aside0.mk (show hdk vs 1 = false ∧ (1 : Int) ≠ -1 from ⟨h7, by decide⟩)
                  clear h7
                  cases h8 : hdk vs 5 with
                  | true =>
                    rw [h8, if_pos rfl] at hl
                    have M8 := Aside0.mk h8
                    have HL := Aside0.mk hl
                    clear h8 hl
                    go_wp2_with (first | (go_at_call 50; (with_reducible refine (Gr.take_hit g ts us 6 K6.out w0 _ HB.out HI.out).mono ?_); rintro e w9 ⟨rfl, hi_, hb_⟩; have n0_ := Aside0.mk hi_; have n1_ := Aside0.mk hb_; clear HI HB hi_ hb_; have HI := n0_; have HB := n1_; clear n0_ n1_) | (go_at_call 50; (with_reducible refine (Gr.take_hit g ts us.tail 4 K4.out w0 _ HB.out HI.out).mono ?_); rintro e w9 ⟨rfl, hi_, hb_⟩; have n0_ := Aside0.mk hi_; have n1_ := Aside0.mk hb_; clear HI HB hi_ hb_; have HI := n0_; have HB := n1_; clear n0_ n1_) | (go_at_call 34; (with_reducible refine (GC.at HV.out g ts us.tail.tail (d + 1) w0 _ HD.out HB.out HI.out).mono ?_); rw [HX.out]; rintro e w9 ⟨hb_, rfl, hi_⟩; have n0_ := Aside0.mk hi_; have n1_ := Aside0.mk hb_; clear HI HB hi_ hb_; have HI := n0_; have HB := n1_; clear n0_ n1_) | (go_at_call 50; (with_reducible refine (Gr.take_miss g ts vs 1 M7.out w0 _ HB.out HI.out).mono ?_); rintro e w9 ⟨rfl, hi_, hb_⟩; have n0_ := Aside0.mk hi_; have n1_ := Aside0.mk hb_; clear HI HB hi_ hb_; have HI := n0_; have HB := n1_; clear n0_ n1_) | (go_at_call 50; (with_reducible refine (Gr.take_hit g ts vs 5 M8.out w0 _ HB.out HI.out).mono ?_); rintro e w9 ⟨rfl, hi_, hb_⟩; have n0_ := Aside0.mk hi_; have n1_ := Aside0.mk hb_; clear HI HB hi_ hb_; have HI := n0_; have HB := n1_; clear n0_ n1_))
                    go_roundg k1
                    case measure => have := HN.out; omega
                    case rel => exact ⟨vs.tail, n, HL, ⟨by have := HN.out; have := HLS.out; have := Gr.tail_le vs; omega, by have := HN.out; omega⟩, HI, HB⟩
                  | false =>
                    rw [h8, if_neg (by decide)] at hl
                    have M8 := Aside0.mk (show hdk vs 5 = false ∧ (5 : Int) ≠ -1 from ⟨h8, by decide⟩)
                    have HL := Aside0.mk hl
                    clear h8 hl
                    go_wp2_with (first | (go_at_call 50; (with_reducible refine (Gr.take_hit g ts us 6 K6.out w0 _ HB.out HI.out).mono ?_); rintro e w9 ⟨rfl, hi_, hb_⟩; have n0_ := Aside0.mk hi_; have n1_ := Aside0.mk hb_; clear HI HB hi_ hb_; have HI := n0_; have HB := n1_; clear n0_ n1_) | (go_at_call 50; (with_reducible refine (Gr.take_hit g ts us.tail 4 K4.out w0 _ HB.out HI.out).mono ?_); rintro e w9 ⟨rfl, hi_, hb_⟩; have n0_ := Aside0.mk hi_; have n1_ := Aside0.mk hb_; clear HI HB hi_ hb_; have HI := n0_; have HB := n1_; clear n0_ n1_) | (go_at_call 34; (with_reducible refine (GC.at HV.out g ts us.tail.tail (d + 1) w0 _ HD.out HB.out HI.out).mono ?_); rw [HX.out]; rintro e w9 ⟨hb_, rfl, hi_⟩; have n0_ := Aside0.mk hi_; have n1_ := Aside0.mk hb_; clear HI HB hi_ hb_; have HI := n0_; have HB := n1_; clear n0_ n1_) | (go_at_call 50; (with_reducible refine (Gr.take_miss g ts vs 1 M7.out w0 _ HB.out HI.out).mono ?_); rintro e w9 ⟨rfl, hi_, hb_⟩; have n0_ := Aside0.mk hi_; have n1_ := Aside0.mk hb_; clear HI HB hi_ hb_; have HI := n0_; have HB := n1_; clear n0_ n1_) | (go_at_call 50; (with_reducible refine (Gr.take_miss g ts vs 5 M8.out w0 _ HB.out HI.out).mono ?_); rintro e w9 ⟨rfl, hi_, hb_⟩; have n0_ := Aside0.mk hi_; have n1_ := Aside0.mk hb_; clear HI HB hi_ hb_; have HI := n0_; have HB := n1_; clear n0_ n1_))
                    go_ret
                    rw [← HL.out]
                    exact GPost.no HB.out HI.out
set_option maxHeartbeats 8000000 in
set_option maxRecDepth 100000 in
theorem Gr.rest2 (k : Nat) (hV : GC k) (g : Nat) (ts us : List Tk) (d : Int) (hd : d = 12 - (k : Int)) (d0 : 0 ≤ d) (d1 : d ≤ 12) (w0 w : World) (hB : Below w0.heap.size w0 w) (h : IsGn w0 w g ts us) :
    Calls Try.prog 51 #[.pointer (some ⟨g, 0, none⟩), .int .i64 3, .int .i64 d] w (GPost w0 g ts (rs (val k) 3 us)) := by
  have HI := Aside0.mk h
  have HB := Aside0.mk hB
  have HD : Aside0 (d + 1 = 13 - (k : Int)) := ⟨by omega⟩
  have HV := Aside0.mk hV
  clear h hB hd hV
  unfold Go.Proofs.Ytnhkdpcncjkmlaa.Gd.rs
  cases h6 : hdk us 3 with
  | true =>
    have M6 := Aside0.mk h6
    clear h6
    simp only [if_true]
    go_enter Try.func51, Try.ntmps51
    go_wp2_with (first | (go_at_call 50; (with_reducible refine (Gr.take_hit g ts us 3 M6.out w0 _ HB.out HI.out).mono ?_); rintro e w9 ⟨rfl, hi_, hb_⟩; have n0_ := Aside0.mk hi_; have n1_ := Aside0.mk hb_; clear HI HB hi_ hb_; have HI := n0_; have HB := n1_; clear n0_ n1_))
    go_ret
    exact GPost.yes HB.out HI.out
  | false =>
    have M6 := Aside0.mk (show hdk us 3 = false ∧ (3 : Int) ≠ -1 from ⟨h6, by decide⟩)
    clear h6
    simp only [Bool.false_eq_true, if_false]
    obtain ⟨R, hR⟩ : ∃ R, lp (val k) 3 (us.length + 1) us = R := ⟨_, rfl⟩
    rw [hR]
    have HRR := Aside0.mk hR
    clear hR
    go_enter Try.func51, Try.ntmps51
    go_wp2_with (first | (go_at_call 50; (with_reducible refine (Gr.take_miss g ts us 3 M6.out w0 _ HB.out HI.out).mono ?_); rintro e w9 ⟨rfl, hi_, hb_⟩; have n0_ := Aside0.mk hi_; have n1_ := Aside0.mk hb_; clear HI HB hi_ hb_; have HI := n0_; have HB := n1_; clear n0_ n1_))
    go_loopg [] (us.length + 1) (fun kq wr => ∃ (us : List Tk) (n : Nat), Aside0 (lp (val k) 3 n us = R) ∧ Aside0 (us.length < n ∧ n ≤ kq) ∧ Aside0 (IsGn w0 wr g ts us) ∧ Aside0 (Below w0.heap.size w0 wr))
    case atStart => exact ⟨us, us.length + 1, HRR, ⟨Nat.lt_succ_self _, Nat.le_refl _⟩, HI, HB⟩
    case round =>
      clear HI HB HRR M6
      obtain ⟨us, n, HRR, HN, HI, HB⟩ := hrel
      cases gk with
      | zero => exact absurd HN.out (by omega)
      | succ k1 =>
        cases n with
        | zero => exact absurd HN.out (by omega)
        | succ n =>
          have hl := HRR.out
          rw [Go.Proofs.Ytnhkdpcncjkmlaa.Gd.lp] at hl
          clear HRR
          cases ho : val k us with
          | none =>
            rw [ho] at hl
            have HX := Aside0.mk ho
            have HL := Aside0.mk hl
            clear hl ho
            go_wp2_with (first | (go_at_call 34; (with_reducible refine (GC.at HV.out g ts us (d + 1) w0 _ HD.out HB.out HI.out).mono ?_); rw [HX.out]; rintro e w9 ⟨hb_, rfl, us_, hi_⟩; have n0_ := Aside0.mk hi_; have n1_ := Aside0.mk hb_; clear HI HB hi_ hb_; have HI := n0_; have HB := n1_; clear n0_ n1_))
            go_ret
            rw [← HL.out]
            exact GPost.no HB.out HI.out
          | some vs =>
            rw [ho] at hl
            simp only at hl
            have HX := Aside0.mk ho
            have HLS : Aside0 (vs.length < us.length) := ⟨Go.Proofs.Ytnhkdpcncjkmlaa.Gd.val_less k us vs ho⟩
            clear ho
            cases h7 : hdk vs 3 with
            | true =>
              rw [h7, if_pos rfl] at hl
              have M7 := Aside0.mk h7
              have HL := Aside0.mk hl
              clear h7 hl
              go_wp2_with (first | (go_at_call 34; (with_reducible refine (GC.at HV.out g ts us (d + 1) w0 _ HD.out HB.out HI.out).mono ?_); rw [HX.out]; rintro e w9 ⟨hb_, rfl, hi_⟩; have n0_ := Aside0.mk hi_; have n1_ := Aside0.mk hb_; clear HI HB hi_ hb_; have HI := n0_; have HB := n1_; clear n0_ n1_) | (go_at_call 50; (with_reducible refine (Gr.take_hit g ts vs 3 M7.out w0 _ HB.out HI.out).mono ?_); rintro e w9 ⟨rfl, hi_, hb_⟩; have n0_ := Aside0.mk hi_; have n1_ := Aside0.mk hb_; clear HI HB hi_ hb_; have HI := n0_; have HB := n1_; clear n0_ n1_))
              go_ret
              rw [← HL.out]
              exact GPost.yes HB.out HI.out
            | false =>
              rw [h7, if_neg (by decide)] at hl
              have M7 := Aside0.mk (show hdk vs 3 = false ∧ (3 : Int) ≠ -1 from ⟨h7, by decide⟩)
              clear h7
              cases h8 : hdk vs 5 with
              | true =>
                rw [h8, if_pos rfl] at hl
                have M8 := Aside0.mk h8
                have HL := Aside0.mk hl
                clear h8 hl
                go_wp2_with (first | (go_at_call 34; (with_reducible refine (GC.at HV.out g ts us (d + 1) w0 _ HD.out HB.out HI.out).mono ?_); rw [HX.out]; rintro e w9 ⟨hb_, rfl, hi_⟩; have n0_ := Aside0.mk hi_; have n1_ := Aside0.mk hb_; clear HI HB hi_ hb_; have HI := n0_; have HB := n1_; clear n0_ n1_) | (go_at_call 50; (with_reducible refine (Gr.take_miss g ts vs 3 M7.out w0 _ HB.out HI.out).mono ?_); rintro e w9 ⟨rfl, hi_, hb_⟩; have n0_ := Aside0.mk hi_; have n1_ := Aside0.mk hb_; clear HI HB hi_ hb_; have HI := n0_; have HB := n1_; clear n0_ n1_) | (go_at_call 50; (with_reducible refine (Gr.take_hit g ts vs 5 M8.out w0 _ HB.out HI.out).mono ?_); rintro e w9 ⟨rfl, hi_, hb_⟩; have n0_ := Aside0.mk hi_; have n1_ := Aside0.mk hb_; clear HI HB hi_ hb_; have HI := n0_; have HB := n1_; clear n0_ n1_))
                go_roundg k1
                case measure => have := HN.out; omega
                case rel => exact ⟨vs.tail, n, HL, ⟨by have := HN.out; have := HLS.out; have := Gr.tail_le vs; omega, by have := HN.out; omega⟩, HI, HB⟩
              | false =>
                rw [h8, if_neg (by decide)] at hl
                have M8 := Aside0.mk (show hdk vs 5 = false ∧ (5 : Int) ≠ -1 from ⟨h8, by decide⟩)
                have HL := Aside0.mk hl
                clear h8 hl
                go_wp2_with (first | (go_at_call 34; (with_reducible refine (GC.at HV.out g ts us (d + 1) w0 _ HD.out HB.out HI.out).mono ?_); rw [HX.out]; rintro e w9 ⟨hb_, rfl, hi_⟩; have n0_ := Aside0.mk hi_; have n1_ := Aside0.mk hb_; clear HI HB hi_ hb_; have HI := n0_; have HB := n1_; clear n0_ n1_) | (go_at_call 50; (with_reducible refine (Gr.take_miss g ts vs 3 M7.out w0 _ HB.out HI.out).mono ?_); rintro e w9 ⟨rfl, hi_, hb_⟩; have n0_ := Aside0.mk hi_; have n1_ := Aside0.mk hb_; clear HI HB hi_ hb_; have HI := n0_; have HB := n1_; clear n0_ n1_) | (go_at_call 50; (with_reducible refine (Gr.take_miss g ts vs 5 M8.out w0 _ HB.out HI.out).mono ?_); rintro e w9 ⟨rfl, hi_, hb_⟩; have n0_ := Aside0.mk hi_; have n1_ := Aside0.mk hb_; clear HI HB hi_ hb_; have HI := n0_; have HB := n1_; clear n0_ n1_))
                go_ret
                rw [← HL.out]
                exact GPost.no HB.out HI.out
set_option maxHeartbeats 8000000 in
set_option maxRecDepth 100000 in
theorem Gr.value_zero : GC 0 := by
  intro g ts us d w0 w hd hB h
  obtain ⟨o, ho⟩ : ∃ o, val 0 us = o := ⟨_, rfl⟩
  rw [ho]
  rw [Go.Proofs.Ytnhkdpcncjkmlaa.Gd.val] at ho
  have HOO := Aside0.mk ho
  clear ho
  have HI := Aside0.mk h
  have HB := Aside0.mk hB
  have d0 : 0 ≤ d := by omega
  have d1 : 12 < d := by omega
  clear hd h hB
  go_enter Try.func34, Try.ntmps34
  cases h6 : hdk us 6 with
  | true =>
    have M6 := Aside0.mk h6
    clear h6
    go_wp2_with (first | (go_at_call 50; (with_reducible refine (Gr.take_hit g ts us 6 M6.out w0 _ HB.out HI.out).mono ?_); rintro e w9 ⟨rfl, hi_, hb_⟩; have n0_ := Aside0.mk hi_; have n1_ := Aside0.mk hb_; clear HI HB hi_ hb_; have HI := n0_; have HB := n1_; clear n0_ n1_))
    go_ret
    have e_ := HOO.out
    rw [if_pos (.inl M6.out)] at e_
    rw [← e_]
    exact GPost.yes HB.out HI.out
  | false =>
    have M6 := Aside0.mk (show hdk us 6 = false ∧ (6 : Int) ≠ -1 from ⟨h6, by decide⟩)
    clear h6
    cases h7 : hdk us 7 with
    | true =>
      have M7 := Aside0.mk h7
      clear h7
      go_wp2_with (first | (go_at_call 50; (with_reducible refine (Gr.take_miss g ts us 6 M6.out w0 _ HB.out HI.out).mono ?_); rintro e w9 ⟨rfl, hi_, hb_⟩; have n0_ := Aside0.mk hi_; have n1_ := Aside0.mk hb_; clear HI HB hi_ hb_; have HI := n0_; have HB := n1_; clear n0_ n1_) | (go_at_call 50; (with_reducible refine (Gr.take_hit g ts us 7 M7.out w0 _ HB.out HI.out).mono ?_); rintro e w9 ⟨rfl, hi_, hb_⟩; have n0_ := Aside0.mk hi_; have n1_ := Aside0.mk hb_; clear HI HB hi_ hb_; have HI := n0_; have HB := n1_; clear n0_ n1_))
      go_ret
      have e_ := HOO.out
      rw [if_pos (.inr (.inl M7.out))] at e_
      rw [← e_]
      exact GPost.yes HB.out HI.out
    | false =>
      have M7 := Aside0.mk (show hdk us 7 = false ∧ (7 : Int) ≠ -1 from ⟨h7, by decide⟩)
      clear h7
      cases h8 : hdk us 8 with
      | true =>
        have M8 := Aside0.mk h8
        clear h8
        go_wp2_with (first | (go_at_call 50; (with_reducible refine (Gr.take_miss g ts us 6 M6.out w0 _ HB.out HI.out).mono ?_); rintro e w9 ⟨rfl, hi_, hb_⟩; have n0_ := Aside0.mk hi_; have n1_ := Aside0.mk hb_; clear HI HB hi_ hb_; have HI := n0_; have HB := n1_; clear n0_ n1_) | (go_at_call 50; (with_reducible refine (Gr.take_miss g ts us 7 M7.out w0 _ HB.out HI.out).mono ?_); rintro e w9 ⟨rfl, hi_, hb_⟩; have n0_ := Aside0.mk hi_; have n1_ := Aside0.mk hb_; clear HI HB hi_ hb_; have HI := n0_; have HB := n1_; clear n0_ n1_) | (go_at_call 50; (with_reducible refine (Gr.take_hit g ts us 8 M8.out w0 _ HB.out HI.out).mono ?_); rintro e w9 ⟨rfl, hi_, hb_⟩; have n0_ := Aside0.mk hi_; have n1_ := Aside0.mk hb_; clear HI HB hi_ hb_; have HI := n0_; have HB := n1_; clear n0_ n1_))
        go_ret
        have e_ := HOO.out
        rw [if_pos (.inr (.inr M8.out))] at e_
        rw [← e_]
        exact GPost.yes HB.out HI.out
      | false =>
        have M8 := Aside0.mk (show hdk us 8 = false ∧ (8 : Int) ≠ -1 from ⟨h8, by decide⟩)
        clear h8
        go_wp2_with (first | (go_at_call 50; (with_reducible refine (Gr.take_miss g ts us 6 M6.out w0 _ HB.out HI.out).mono ?_); rintro e w9 ⟨rfl, hi_, hb_⟩; have n0_ := Aside0.mk hi_; have n1_ := Aside0.mk hb_; clear HI HB hi_ hb_; have HI := n0_; have HB := n1_; clear n0_ n1_) | (go_at_call 50; (with_reducible refine (Gr.take_miss g ts us 7 M7.out w0 _ HB.out HI.out).mono ?_); rintro e w9 ⟨rfl, hi_, hb_⟩; have n0_ := Aside0.mk hi_; have n1_ := Aside0.mk hb_; clear HI HB hi_ hb_; have HI := n0_; have HB := n1_; clear n0_ n1_) | (go_at_call 50; (with_reducible refine (Gr.take_miss g ts us 8 M8.out w0 _ HB.out HI.out).mono ?_); rintro e w9 ⟨rfl, hi_, hb_⟩; have n0_ := Aside0.mk hi_; have n1_ := Aside0.mk hb_; clear HI HB hi_ hb_; have HI := n0_; have HB := n1_; clear n0_ n1_))
        go_ret
        have e_ := HOO.out
        rw [if_neg (by rw [M6.out.1, M7.out.1, M8.out.1]; simp)] at e_
        rw [← e_]
        exact GPost.no HB.out HI.out
set_option maxHeartbeats 8000000 in
set_option maxRecDepth 100000 in
theorem Gr.value_succ (k : Nat) (hk : k < 12) (hV : GC k) : GC (k + 1) := by
  intro g ts us d w0 w hd hB h
  obtain ⟨o, ho⟩ : ∃ o, val (k + 1) us = o := ⟨_, rfl⟩
  rw [ho]
  rw [Go.Proofs.Ytnhkdpcncjkmlaa.Gd.val] at ho
  have HOO := Aside0.mk ho
  clear ho
  have HI := Aside0.mk h
  have HB := Aside0.mk hB
  have d0 : 0 ≤ d := by omega
  have d1 : d ≤ 12 := by omega
  have HD : Aside0 (d = 12 - (k : Int)) := ⟨by omega⟩
  have HV := Aside0.mk hV
  clear hV
  clear hd h hB
  go_enter Try.func34, Try.ntmps34
  cases h6 : hdk us 6 with
  | true =>
    have M6 := Aside0.mk h6
    clear h6
    go_wp2_with (first | (go_at_call 50; (with_reducible refine (Gr.take_hit g ts us 6 M6.out w0 _ HB.out HI.out).mono ?_); rintro e w9 ⟨rfl, hi_, hb_⟩; have n0_ := Aside0.mk hi_; have n1_ := Aside0.mk hb_; clear HI HB hi_ hb_; have HI := n0_; have HB := n1_; clear n0_ n1_))
    go_ret
    have e_ := HOO.out
    rw [if_pos (.inl M6.out)] at e_
    rw [← e_]
    exact GPost.yes HB.out HI.out
  | false =>
    have M6 := Aside0.mk (show hdk us 6 = false ∧ (6 : Int) ≠ -1 from ⟨h6, by decide⟩)
    clear h6
    cases h7 : hdk us 7 with
    | true =>
      have M7 := Aside0.mk h7
      clear h7
      go_wp2_with (first | (go_at_call 50; (with_reducible refine (Gr.take_miss g ts us 6 M6.out w0 _ HB.out HI.out).mono ?_); rintro e w9 ⟨rfl, hi_, hb_⟩; have n0_ := Aside0.mk hi_; have n1_ := Aside0.mk hb_; clear HI HB hi_ hb_; have HI := n0_; have HB := n1_; clear n0_ n1_) | (go_at_call 50; (with_reducible refine (Gr.take_hit g ts us 7 M7.out w0 _ HB.out HI.out).mono ?_); rintro e w9 ⟨rfl, hi_, hb_⟩; have n0_ := Aside0.mk hi_; have n1_ := Aside0.mk hb_; clear HI HB hi_ hb_; have HI := n0_; have HB := n1_; clear n0_ n1_))
      go_ret
      have e_ := HOO.out
      rw [if_pos (.inr (.inl M7.out))] at e_
      rw [← e_]
      exact GPost.yes HB.out HI.out
    | false =>
      have M7 := Aside0.mk (show hdk us 7 = false ∧ (7 : Int) ≠ -1 from ⟨h7, by decide⟩)
      clear h7
      cases h8 : hdk us 8 with
      | true =>
        have M8 := Aside0.mk h8
        clear h8
        go_wp2_with (first | (go_at_call 50; (with_reducible refine (Gr.take_miss g ts us 6 M6.out w0 _ HB.out HI.out).mono ?_); rintro e w9 ⟨rfl, hi_, hb_⟩; have n0_ := Aside0.mk hi_; have n1_ := Aside0.mk hb_; clear HI HB hi_ hb_; have HI := n0_; have HB := n1_; clear n0_ n1_) | (go_at_call 50; (with_reducible refine (Gr.take_miss g ts us 7 M7.out w0 _ HB.out HI.out).mono ?_); rintro e w9 ⟨rfl, hi_, hb_⟩; have n0_ := Aside0.mk hi_; have n1_ := Aside0.mk hb_; clear HI HB hi_ hb_; have HI := n0_; have HB := n1_; clear n0_ n1_) | (go_at_call 50; (with_reducible refine (Gr.take_hit g ts us 8 M8.out w0 _ HB.out HI.out).mono ?_); rintro e w9 ⟨rfl, hi_, hb_⟩; have n0_ := Aside0.mk hi_; have n1_ := Aside0.mk hb_; clear HI HB hi_ hb_; have HI := n0_; have HB := n1_; clear n0_ n1_))
        go_ret
        have e_ := HOO.out
        rw [if_pos (.inr (.inr M8.out))] at e_
        rw [← e_]
        exact GPost.yes HB.out HI.out
      | false =>
        have M8 := Aside0.mk (show hdk us 8 = false ∧ (8 : Int) ≠ -1 from ⟨h8, by decide⟩)
        clear h8
        cases h0 : hdk us 0 with
        | true =>
          have M0 := Aside0.mk h0
          clear h0
          cases hr : rs (one1 (val k)) 1 us.tail with
          | some vs =>
            have HX := Aside0.mk hr
            clear hr
            go_wp2_with (first | (go_at_call 50; (with_reducible refine (Gr.take_miss g ts us 6 M6.out w0 _ HB.out HI.out).mono ?_); rintro e w9 ⟨rfl, hi_, hb_⟩; have n0_ := Aside0.mk hi_; have n1_ := Aside0.mk hb_; clear HI HB hi_ hb_; have HI := n0_; have HB := n1_; clear n0_ n1_) | (go_at_call 50; (with_reducible refine (Gr.take_miss g ts us 7 M7.out w0 _ HB.out HI.out).mono ?_); rintro e w9 ⟨rfl, hi_, hb_⟩; have n0_ := Aside0.mk hi_; have n1_ := Aside0.mk hb_; clear HI HB hi_ hb_; have HI := n0_; have HB := n1_; clear n0_ n1_) | (go_at_call 50; (with_reducible refine (Gr.take_miss g ts us 8 M8.out w0 _ HB.out HI.out).mono ?_); rintro e w9 ⟨rfl, hi_, hb_⟩; have n0_ := Aside0.mk hi_; have n1_ := Aside0.mk hb_; clear HI HB hi_ hb_; have HI := n0_; have HB := n1_; clear n0_ n1_) | (go_at_call 50; (with_reducible refine (Gr.take_hit g ts us 0 M0.out w0 _ HB.out HI.out).mono ?_); rintro e w9 ⟨rfl, hi_, hb_⟩; have n0_ := Aside0.mk hi_; have n1_ := Aside0.mk hb_; clear HI HB hi_ hb_; have HI := n0_; have HB := n1_; clear n0_ n1_) | (go_at_call 51; (with_reducible refine (Gr.rest1 k HV.out g ts us.tail d HD.out d0 d1 w0 _ HB.out HI.out).mono ?_); rw [HX.out]; rintro e w9 ⟨hb_, rfl, hi_⟩; have n0_ := Aside0.mk hi_; have n1_ := Aside0.mk hb_; clear HI HB hi_ hb_; have HI := n0_; have HB := n1_; clear n0_ n1_))
            go_ret
            have e_ := HOO.out
            rw [if_neg (by rw [M6.out.1, M7.out.1, M8.out.1]; simp), if_pos M0.out, HX.out] at e_
            rw [← e_]
            exact GPost.yes HB.out HI.out
          | none =>
            have HX := Aside0.mk hr
            clear hr
            go_wp2_with (first | (go_at_call 50; (with_reducible refine (Gr.take_miss g ts us 6 M6.out w0 _ HB.out HI.out).mono ?_); rintro e w9 ⟨rfl, hi_, hb_⟩; have n0_ := Aside0.mk hi_; have n1_ := Aside0.mk hb_; clear HI HB hi_ hb_; have HI := n0_; have HB := n1_; clear n0_ n1_) | (go_at_call 50; (with_reducible refine (Gr.take_miss g ts us 7 M7.out w0 _ HB.out HI.out).mono ?_); rintro e w9 ⟨rfl, hi_, hb_⟩; have n0_ := Aside0.mk hi_; have n1_ := Aside0.mk hb_; clear HI HB hi_ hb_; have HI := n0_; have HB := n1_; clear n0_ n1_) | (go_at_call 50; (with_reducible refine (Gr.take_miss g ts us 8 M8.out w0 _ HB.out HI.out).mono ?_); rintro e w9 ⟨rfl, hi_, hb_⟩; have n0_ := Aside0.mk hi_; have n1_ := Aside0.mk hb_; clear HI HB hi_ hb_; have HI := n0_; have HB := n1_; clear n0_ n1_) | (go_at_call 50; (with_reducible refine (Gr.take_hit g ts us 0 M0.out w0 _ HB.out HI.out).mono ?_); rintro e w9 ⟨rfl, hi_, hb_⟩; have n0_ := Aside0.mk hi_; have n1_ := Aside0.mk hb_; clear HI HB hi_ hb_; have HI := n0_; have HB := n1_; clear n0_ n1_) | (go_at_call 51; (with_reducible refine (Gr.rest1 k HV.out g ts us.tail d HD.out d0 d1 w0 _ HB.out HI.out).mono ?_); rw [HX.out]; rintro e w9 ⟨hb_, rfl, us_, hi_⟩; have n0_ := Aside0.mk hi_; have n1_ := Aside0.mk hb_; clear HI HB hi_ hb_; have HI := n0_; have HB := n1_; clear n0_ n1_))
            go_ret
            have e_ := HOO.out
            rw [if_neg (by rw [M6.out.1, M7.out.1, M8.out.1]; simp), if_pos M0.out, HX.out] at e_
            rw [← e_]
            exact GPost.no HB.out HI.out
        | false =>
          have M0 := Aside0.mk (show hdk us 0 = false ∧ (0 : Int) ≠ -1 from ⟨h0, by decide⟩)
          clear h0
          cases h2 : hdk us 2 with
          | true =>
            have M2 := Aside0.mk h2
            clear h2
            cases hr : rs (val k) 3 us.tail with
            | some vs =>
              have HX := Aside0.mk hr
              clear hr
              go_wp2_with (first | (go_at_call 50; (with_reducible refine (Gr.take_miss g ts us 6 M6.out w0 _ HB.out HI.out).mono ?_); rintro e w9 ⟨rfl, hi_, hb_⟩; have n0_ := Aside0.mk hi_; have n1_ := Aside0.mk hb_; clear HI HB hi_ hb_; have HI := n0_; have HB := n1_; clear n0_ n1_) | (go_at_call 50; (with_reducible refine (Gr.take_miss g ts us 7 M7.out w0 _ HB.out HI.out).mono ?_); rintro e w9 ⟨rfl, hi_, hb_⟩; have n0_ := Aside0.mk hi_; have n1_ := Aside0.mk hb_; clear HI HB hi_ hb_; have HI := n0_; have HB := n1_; clear n0_ n1_) | (go_at_call 50; (with_reducible refine (Gr.take_miss g ts us 8 M8.out w0 _ HB.out HI.out).mono ?_); rintro e w9 ⟨rfl, hi_, hb_⟩; have n0_ := Aside0.mk hi_; have n1_ := Aside0.mk hb_; clear HI HB hi_ hb_; have HI := n0_; have HB := n1_; clear n0_ n1_) | (go_at_call 50; (with_reducible refine (Gr.take_miss g ts us 0 M0.out w0 _ HB.out HI.out).mono ?_); rintro e w9 ⟨rfl, hi_, hb_⟩; have n0_ := Aside0.mk hi_; have n1_ := Aside0.mk hb_; clear HI HB hi_ hb_; have HI := n0_; have HB := n1_; clear n0_ n1_) | (go_at_call 50; (with_reducible refine (Gr.take_hit g ts us 2 M2.out w0 _ HB.out HI.out).mono ?_); rintro e w9 ⟨rfl, hi_, hb_⟩; have n0_ := Aside0.mk hi_; have n1_ := Aside0.mk hb_; clear HI HB hi_ hb_; have HI := n0_; have HB := n1_; clear n0_ n1_) | (go_at_call 51; (with_reducible refine (Gr.rest2 k HV.out g ts us.tail d HD.out d0 d1 w0 _ HB.out HI.out).mono ?_); rw [HX.out]; rintro e w9 ⟨hb_, rfl, hi_⟩; have n0_ := Aside0.mk hi_; have n1_ := Aside0.mk hb_; clear HI HB hi_ hb_; have HI := n0_; have HB := n1_; clear n0_ n1_))
              go_ret
              have e_ := HOO.out
              rw [if_neg (by rw [M6.out.1, M7.out.1, M8.out.1]; simp), if_neg (by rw [M0.out.1]; decide), if_pos M2.out, HX.out] at e_
              rw [← e_]
              exact GPost.yes HB.out HI.out
            | none =>
              have HX := Aside0.mk hr
              clear hr
              go_wp2_with (first | (go_at_call 50; (with_reducible refine (Gr.take_miss g ts us 6 M6.out w0 _ HB.out HI.out).mono ?_); rintro e w9 ⟨rfl, hi_, hb_⟩; have n0_ := Aside0.mk hi_; have n1_ := Aside0.mk hb_; clear HI HB hi_ hb_; have HI := n0_; have HB := n1_; clear n0_ n1_) | (go_at_call 50; (with_reducible refine (Gr.take_miss g ts us 7 M7.out w0 _ HB.out HI.out).mono ?_); rintro e w9 ⟨rfl, hi_, hb_⟩; have n0_ := Aside0.mk hi_; have n1_ := Aside0.mk hb_; clear HI HB hi_ hb_; have HI := n0_; have HB := n1_; clear n0_ n1_) | (go_at_call 50; (with_reducible refine (Gr.take_miss g ts us 8 M8.out w0 _ HB.out HI.out).mono ?_); rintro e w9 ⟨rfl, hi_, hb_⟩; have n0_ := Aside0.mk hi_; have n1_ := Aside0.mk hb_; clear HI HB hi_ hb_; have HI := n0_; have HB := n1_; clear n0_ n1_) | (go_at_call 50; (with_reducible refine (Gr.take_miss g ts us 0 M0.out w0 _ HB.out HI.out).mono ?_); rintro e w9 ⟨rfl, hi_, hb_⟩; have n0_ := Aside0.mk hi_; have n1_ := Aside0.mk hb_; clear HI HB hi_ hb_; have HI := n0_; have HB := n1_; clear n0_ n1_) | (go_at_call 50; (with_reducible refine (Gr.take_hit g ts us 2 M2.out w0 _ HB.out HI.out).mono ?_); rintro e w9 ⟨rfl, hi_, hb_⟩; have n0_ := Aside0.mk hi_; have n1_ := Aside0.mk hb_; clear HI HB hi_ hb_; have HI := n0_; have HB := n1_; clear n0_ n1_) | (go_at_call 51; (with_reducible refine (Gr.rest2 k HV.out g ts us.tail d HD.out d0 d1 w0 _ HB.out HI.out).mono ?_); rw [HX.out]; rintro e w9 ⟨hb_, rfl, us_, hi_⟩; have n0_ := Aside0.mk hi_; have n1_ := Aside0.mk hb_; clear HI HB hi_ hb_; have HI := n0_; have HB := n1_; clear n0_ n1_))
              go_ret
              have e_ := HOO.out
              rw [if_neg (by rw [M6.out.1, M7.out.1, M8.out.1]; simp), if_neg (by rw [M0.out.1]; decide), if_pos M2.out, HX.out] at e_
              rw [← e_]
              exact GPost.no HB.out HI.out
          | false =>
            have M2 := Aside0.mk (show hdk us 2 = false ∧ (2 : Int) ≠ -1 from ⟨h2, by decide⟩)
            clear h2
            go_wp2_with (first | (go_at_call 50; (with_reducible refine (Gr.take_miss g ts us 6 M6.out w0 _ HB.out HI.out).mono ?_); rintro e w9 ⟨rfl, hi_, hb_⟩; have n0_ := Aside0.mk hi_; have n1_ := Aside0.mk hb_; clear HI HB hi_ hb_; have HI := n0_; have HB := n1_; clear n0_ n1_) | (go_at_call 50; (with_reducible refine (Gr.take_miss g ts us 7 M7.out w0 _ HB.out HI.out).mono ?_); rintro e w9 ⟨rfl, hi_, hb_⟩; have n0_ := Aside0.mk hi_; have n1_ := Aside0.mk hb_; clear HI HB hi_ hb_; have HI := n0_; have HB := n1_; clear n0_ n1_) | (go_at_call 50; (with_reducible refine (Gr.take_miss g ts us 8 M8.out w0 _ HB.out HI.out).mono ?_); rintro e w9 ⟨rfl, hi_, hb_⟩; have n0_ := Aside0.mk hi_; have n1_ := Aside0.mk hb_; clear HI HB hi_ hb_; have HI := n0_; have HB := n1_; clear n0_ n1_) | (go_at_call 50; (with_reducible refine (Gr.take_miss g ts us 0 M0.out w0 _ HB.out HI.out).mono ?_); rintro e w9 ⟨rfl, hi_, hb_⟩; have n0_ := Aside0.mk hi_; have n1_ := Aside0.mk hb_; clear HI HB hi_ hb_; have HI := n0_; have HB := n1_; clear n0_ n1_) | (go_at_call 50; (with_reducible refine (Gr.take_miss g ts us 2 M2.out w0 _ HB.out HI.out).mono ?_); rintro e w9 ⟨rfl, hi_, hb_⟩; have n0_ := Aside0.mk hi_; have n1_ := Aside0.mk hb_; clear HI HB hi_ hb_; have HI := n0_; have HB := n1_; clear n0_ n1_))
            go_ret
            have e_ := HOO.out
            rw [if_neg (by rw [M6.out.1, M7.out.1, M8.out.1]; simp), if_neg (by rw [M0.out.1]; decide), if_neg (by rw [M2.out.1]; decide)] at e_
            rw [← e_]
            exact GPost.no HB.out HI.out
theorem Gr.value_all (k : Nat) : k ≤ 12 → GC k := by
  induction k with
  | zero => intro _; exact Gr.value_zero
  | succ k ih => intro h; exact Gr.value_succ k (by omega) (ih (by omega))
end Go.Proofs.Ytnhkdpcncjkmlaa.G
