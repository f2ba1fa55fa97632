/- (*good.row).rest and value by their contracts. -/
import Derived.Test.YtehojohacombkaaGd3
namespace Go.Proofs.Ytehojohacombkaa.G
open Go.RowKit Go.Proofs.YtehojohacombkaaW.PrintWords Go.Proofs.YtehojohacombkaaW.PrintLast Go.Proofs.YtehojohacombkaaW.PrintMore
open Go.Proofs.Ytehojohacombkaa.Lx (Tk)
open Go.Proofs.Ytehojohacombkaa.Gd (hdk lp rs one1 val Less)
set_option linter.unusedVariables false
set_option linter.unusedSimpArgs false
theorem Gd.tail_le (ts : List Tk) : ts.tail.length ≤ ts.length := by cases ts <;> simp
set_option maxHeartbeats 8000000 in
set_option maxRecDepth 100000 in
theorem Gd.rest1 (k : Nat) (hV : VC k) (g p q : Nat) (d c : Int) (hd : d = 12 - (k : Int)) (d0 : 0 ≤ d) (d1 : d ≤ 12) (ts : List Tk) (w0 w : World) (hB : Below w0.heap.size w0 w) (h : IsRow w0 w g ts) (hc : Caps w g p q d) :
    Calls Try.prog 52 #[.pointer (some ⟨g, 0, none⟩), .int .i64 c, .func (.func 53) #[] #[.pointer (some ⟨p, 0, none⟩), .pointer (some ⟨q, 0, none⟩)]] w (VPost w0 w g (rs (one1 (val k)) c ts)) := by
  have HR := Aside0.mk h
  have HS := Aside0.mk (GStep.refl hB (g := g))
  have HC := Aside0.mk hc
  obtain ⟨x0, x1, f0, f1⟩ := hc.cells
  have HD := Aside0.mk hd
  have HV := Aside0.mk hV
  clear h hB hc hd hV
  unfold Go.Proofs.Ytehojohacombkaa.Gd.rs
  cases h6 : hdk ts c with
  | true =>
    have M6 := Aside0.mk h6
    clear h6
    simp only [if_true]
    go_enter Try.func52, Try.ntmps52
    go_wp2_with (first | (go_at_call 51; (with_reducible refine (Gd.take_hit g c ts M6.out w0 _ HS.out.below HR.out).mono ?_); rintro e w9 ⟨rfl, hr_, hs_⟩; have n0_ := Aside0.mk (HS.out.trans hs_); have n1_ := Aside0.mk hr_; have n2_ := Aside0.mk (HC.out.step hs_); clear HS HR HC hs_ hr_ x0 x1 f0 f1; have HS := n0_; have HR := n1_; have HC := n2_; clear n0_ n1_ n2_; obtain ⟨x0, x1, f0, f1⟩ := HC.out.cells))
    go_ret
    exact VPost.yes HS.out HR.out
  | false =>
    have M6 := Aside0.mk h6
    clear h6
    simp only [Bool.false_eq_true, if_false]
    obtain ⟨R, hR⟩ : ∃ R, lp (one1 (val k)) c (ts.length + 1) ts = R := ⟨_, rfl⟩
    rw [hR]
    have HRR := Aside0.mk hR
    clear hR
    go_enter Try.func52, Try.ntmps52
    go_wp2_with (first | (go_at_call 51; (with_reducible refine (Gd.take_miss g c ts M6.out w0 _ HS.out.below HR.out).mono ?_); rintro e w9 ⟨rfl, hr_, hs_⟩; have n0_ := Aside0.mk (HS.out.trans hs_); have n1_ := Aside0.mk hr_; have n2_ := Aside0.mk (HC.out.step hs_); clear HS HR HC hs_ hr_ x0 x1 f0 f1; have HS := n0_; have HR := n1_; have HC := n2_; clear n0_ n1_ n2_; obtain ⟨x0, x1, f0, f1⟩ := HC.out.cells))
    go_loopg [] (ts.length + 1) (fun kq wr => ∃ (us : List Tk) (n : Nat), Aside0 (lp (one1 (val k)) c n us = R) ∧ Aside0 (us.length < n ∧ n ≤ kq) ∧ Aside0 (GStep w0 w wr g) ∧ Aside0 (IsRow w0 wr g us) ∧ Aside0 (Caps wr g p q d))
    case atStart => exact ⟨ts, ts.length + 1, HRR, ⟨Nat.lt_succ_self _, Nat.le_refl _⟩, HS, HR, HC⟩
    case round =>
      clear HS HR HC x0 x1 f0 f1 HRR M6
      obtain ⟨us, n, HRR, HN, HS, HR, HC⟩ := hrel
      obtain ⟨x0, x1, f0, f1⟩ := HC.out.cells
      cases gk with
      | zero => exact absurd HN.out (by omega)
      | succ k1 =>
        cases n with
        | zero => exact absurd HN.out (by omega)
        | succ n =>
          have hl := HRR.out
          rw [Go.Proofs.Ytehojohacombkaa.Gd.lp] at hl
          cases ho : (one1 (val k)) us with
          | none =>
            rw [ho] at hl
            have HO := Aside0.mk ho
            have HL := Aside0.mk hl
            clear ho hl HRR
            go_wp2_with (first | (go_at_call 53; (with_reducible refine (Gd.c1_any k HV.out g p q d HD.out d0 d1 us w0 _ HS.out.below HR.out HC.out).mono ?_); rw [HO.out]; rintro e w9 ⟨hs_, rfl, ts_, hr_⟩; have n0_ := Aside0.mk (HS.out.trans hs_); have n1_ := Aside0.mk hr_; have n2_ := Aside0.mk (HC.out.step hs_); clear HS HR HC hs_ hr_ x0 x1 f0 f1; have HS := n0_; have HR := n1_; have HC := n2_; clear n0_ n1_ n2_; obtain ⟨x0, x1, f0, f1⟩ := HC.out.cells))
            go_ret
            rw [← HL.out]
            exact VPost.no HS.out HR.out
          | some vs =>
            rw [ho] at hl
            simp only at hl
            have HLS : Aside0 (vs.length < us.length) := ⟨Go.Proofs.Ytehojohacombkaa.Gd.one1_less (Go.Proofs.Ytehojohacombkaa.Gd.val_less k) us vs ho⟩
            have HO := Aside0.mk ho
            clear ho
            cases h7 : hdk vs c with
            | true =>
              rw [h7, if_pos rfl] at hl
              have M7 := Aside0.mk h7
              have HL := Aside0.mk hl
              clear h7 hl HRR
              go_wp2_with (first | (go_at_call 53; (with_reducible refine (Gd.c1_any k HV.out g p q d HD.out d0 d1 us w0 _ HS.out.below HR.out HC.out).mono ?_); rw [HO.out]; rintro e w9 ⟨hs_, rfl, hr_⟩; have n0_ := Aside0.mk (HS.out.trans hs_); have n1_ := Aside0.mk hr_; have n2_ := Aside0.mk (HC.out.step hs_); clear HS HR HC hs_ hr_ x0 x1 f0 f1; have HS := n0_; have HR := n1_; have HC := n2_; clear n0_ n1_ n2_; obtain ⟨x0, x1, f0, f1⟩ := HC.out.cells) | (go_at_call 51; (with_reducible refine (Gd.take_hit g c vs M7.out w0 _ HS.out.below HR.out).mono ?_); rintro e w9 ⟨rfl, hr_, hs_⟩; have n0_ := Aside0.mk (HS.out.trans hs_); have n1_ := Aside0.mk hr_; have n2_ := Aside0.mk (HC.out.step hs_); clear HS HR HC hs_ hr_ x0 x1 f0 f1; have HS := n0_; have HR := n1_; have HC := n2_; clear n0_ n1_ n2_; obtain ⟨x0, x1, f0, f1⟩ := HC.out.cells))
              go_ret
              rw [← HL.out]
              exact VPost.yes HS.out HR.out
            | false =>
              rw [h7, if_neg (by decide)] at hl
              have M7 := Aside0.mk h7
              clear h7
              cases h8 : hdk vs 5 with
              | true =>
                rw [h8, if_pos rfl] at hl
                have M8 := Aside0.mk h8
                have HL := Aside0.mk hl
                clear h8 hl HRR
                go_wp2_with (first | (go_at_call 53; (with_reducible refine (Gd.c1_any k HV.out g p q d HD.out d0 d1 us w0 _ HS.out.below HR.out HC.out).mono ?_); rw [HO.out]; rintro e w9 ⟨hs_, rfl, hr_⟩; have n0_ := Aside0.mk (HS.out.trans hs_); have n1_ := Aside0.mk hr_; have n2_ := Aside0.mk (HC.out.step hs_); clear HS HR HC hs_ hr_ x0 x1 f0 f1; have HS := n0_; have HR := n1_; have HC := n2_; clear n0_ n1_ n2_; obtain ⟨x0, x1, f0, f1⟩ := HC.out.cells) | (go_at_call 51; (with_reducible refine (Gd.take_miss g c vs M7.out w0 _ HS.out.below HR.out).mono ?_); rintro e w9 ⟨rfl, hr_, hs_⟩; have n0_ := Aside0.mk (HS.out.trans hs_); have n1_ := Aside0.mk hr_; have n2_ := Aside0.mk (HC.out.step hs_); clear HS HR HC hs_ hr_ x0 x1 f0 f1; have HS := n0_; have HR := n1_; have HC := n2_; clear n0_ n1_ n2_; obtain ⟨x0, x1, f0, f1⟩ := HC.out.cells) | (go_at_call 51; (with_reducible refine (Gd.take_hit g 5 vs M8.out w0 _ HS.out.below HR.out).mono ?_); rintro e w9 ⟨rfl, hr_, hs_⟩; have n0_ := Aside0.mk (HS.out.trans hs_); have n1_ := Aside0.mk hr_; have n2_ := Aside0.mk (HC.out.step hs_); clear HS HR HC hs_ hr_ x0 x1 f0 f1; have HS := n0_; have HR := n1_; have HC := n2_; clear n0_ n1_ n2_; obtain ⟨x0, x1, f0, f1⟩ := HC.out.cells))
                go_roundg k1
                case measure => have := HN.out; omega
                case rel => exact ⟨vs.tail, n, HL, ⟨by have := HN.out; have := HLS.out; have := Gd.tail_le vs; omega, by have := HN.out; omega⟩, HS, HR, HC⟩
              | false =>
                rw [h8, if_neg (by decide)] at hl
                have M8 := Aside0.mk h8
                have HL := Aside0.mk hl
                clear h8 hl HRR
                go_wp2_with (first | (go_at_call 53; (with_reducible refine (Gd.c1_any k HV.out g p q d HD.out d0 d1 us w0 _ HS.out.below HR.out HC.out).mono ?_); rw [HO.out]; rintro e w9 ⟨hs_, rfl, hr_⟩; have n0_ := Aside0.mk (HS.out.trans hs_); have n1_ := Aside0.mk hr_; have n2_ := Aside0.mk (HC.out.step hs_); clear HS HR HC hs_ hr_ x0 x1 f0 f1; have HS := n0_; have HR := n1_; have HC := n2_; clear n0_ n1_ n2_; obtain ⟨x0, x1, f0, f1⟩ := HC.out.cells) | (go_at_call 51; (with_reducible refine (Gd.take_miss g c vs M7.out w0 _ HS.out.below HR.out).mono ?_); rintro e w9 ⟨rfl, hr_, hs_⟩; have n0_ := Aside0.mk (HS.out.trans hs_); have n1_ := Aside0.mk hr_; have n2_ := Aside0.mk (HC.out.step hs_); clear HS HR HC hs_ hr_ x0 x1 f0 f1; have HS := n0_; have HR := n1_; have HC := n2_; clear n0_ n1_ n2_; obtain ⟨x0, x1, f0, f1⟩ := HC.out.cells) | (go_at_call 51; (with_reducible refine (Gd.take_miss g 5 vs M8.out w0 _ HS.out.below HR.out).mono ?_); rintro e w9 ⟨rfl, hr_, hs_⟩; have n0_ := Aside0.mk (HS.out.trans hs_); have n1_ := Aside0.mk hr_; have n2_ := Aside0.mk (HC.out.step hs_); clear HS HR HC hs_ hr_ x0 x1 f0 f1; have HS := n0_; have HR := n1_; have HC := n2_; clear n0_ n1_ n2_; obtain ⟨x0, x1, f0, f1⟩ := HC.out.cells))
                go_ret
                rw [← HL.out]
                exact VPost.no HS.out HR.out
set_option maxHeartbeats 8000000 in
set_option maxRecDepth 100000 in
theorem Gd.rest2 (k : Nat) (hV : VC k) (g p q : Nat) (d c : Int) (hd : d = 12 - (k : Int)) (d0 : 0 ≤ d) (d1 : d ≤ 12) (ts : List Tk) (w0 w : World) (hB : Below w0.heap.size w0 w) (h : IsRow w0 w g ts) (hc : Caps w g p q d) :
    Calls Try.prog 52 #[.pointer (some ⟨g, 0, none⟩), .int .i64 c, .func (.func 54) #[] #[.pointer (some ⟨p, 0, none⟩), .pointer (some ⟨q, 0, none⟩)]] w (VPost w0 w g (rs (val k) c ts)) := by
  have HR := Aside0.mk h
  have HS := Aside0.mk (GStep.refl hB (g := g))
  have HC := Aside0.mk hc
  obtain ⟨x0, x1, f0, f1⟩ := hc.cells
  have HD := Aside0.mk hd
  have HV := Aside0.mk hV
  clear h hB hc hd hV
  unfold Go.Proofs.Ytehojohacombkaa.Gd.rs
  cases h6 : hdk ts c with
  | true =>
    have M6 := Aside0.mk h6
    clear h6
    simp only [if_true]
    go_enter Try.func52, Try.ntmps52
    go_wp2_with (first | (go_at_call 51; (with_reducible refine (Gd.take_hit g c ts M6.out w0 _ HS.out.below HR.out).mono ?_); rintro e w9 ⟨rfl, hr_, hs_⟩; have n0_ := Aside0.mk (HS.out.trans hs_); have n1_ := Aside0.mk hr_; have n2_ := Aside0.mk (HC.out.step hs_); clear HS HR HC hs_ hr_ x0 x1 f0 f1; have HS := n0_; have HR := n1_; have HC := n2_; clear n0_ n1_ n2_; obtain ⟨x0, x1, f0, f1⟩ := HC.out.cells))
    go_ret
    exact VPost.yes HS.out HR.out
  | false =>
    have M6 := Aside0.mk h6
    clear h6
    simp only [Bool.false_eq_true, if_false]
    obtain ⟨R, hR⟩ : ∃ R, lp (val k) c (ts.length + 1) ts = R := ⟨_, rfl⟩
    rw [hR]
    have HRR := Aside0.mk hR
    clear hR
    go_enter Try.func52, Try.ntmps52
    go_wp2_with (first | (go_at_call 51; (with_reducible refine (Gd.take_miss g c ts M6.out w0 _ HS.out.below HR.out).mono ?_); rintro e w9 ⟨rfl, hr_, hs_⟩; have n0_ := Aside0.mk (HS.out.trans hs_); have n1_ := Aside0.mk hr_; have n2_ := Aside0.mk (HC.out.step hs_); clear HS HR HC hs_ hr_ x0 x1 f0 f1; have HS := n0_; have HR := n1_; have HC := n2_; clear n0_ n1_ n2_; obtain ⟨x0, x1, f0, f1⟩ := HC.out.cells))
    go_loopg [] (ts.length + 1) (fun kq wr => ∃ (us : List Tk) (n : Nat), Aside0 (lp (val k) c n us = R) ∧ Aside0 (us.length < n ∧ n ≤ kq) ∧ Aside0 (GStep w0 w wr g) ∧ Aside0 (IsRow w0 wr g us) ∧ Aside0 (Caps wr g p q d))
    case atStart => exact ⟨ts, ts.length + 1, HRR, ⟨Nat.lt_succ_self _, Nat.le_refl _⟩, HS, HR, HC⟩
    case round =>
      clear HS HR HC x0 x1 f0 f1 HRR M6
      obtain ⟨us, n, HRR, HN, HS, HR, HC⟩ := hrel
      obtain ⟨x0, x1, f0, f1⟩ := HC.out.cells
      cases gk with
      | zero => exact absurd HN.out (by omega)
      | succ k1 =>
        cases n with
        | zero => exact absurd HN.out (by omega)
        | succ n =>
          have hl := HRR.out
          rw [Go.Proofs.Ytehojohacombkaa.Gd.lp] at hl
          cases ho : (val k) us with
          | none =>
            rw [ho] at hl
            have HO := Aside0.mk ho
            have HL := Aside0.mk hl
            clear ho hl HRR
            go_wp2_with (first | (go_at_call 54; (with_reducible refine (Gd.c2_any k HV.out g p q d HD.out d0 d1 us w0 _ HS.out.below HR.out HC.out).mono ?_); rw [HO.out]; rintro e w9 ⟨hs_, rfl, ts_, hr_⟩; have n0_ := Aside0.mk (HS.out.trans hs_); have n1_ := Aside0.mk hr_; have n2_ := Aside0.mk (HC.out.step hs_); clear HS HR HC hs_ hr_ x0 x1 f0 f1; have HS := n0_; have HR := n1_; have HC := n2_; clear n0_ n1_ n2_; obtain ⟨x0, x1, f0, f1⟩ := HC.out.cells))
            go_ret
            rw [← HL.out]
            exact VPost.no HS.out HR.out
          | some vs =>
            rw [ho] at hl
            simp only at hl
            have HLS : Aside0 (vs.length < us.length) := ⟨Go.Proofs.Ytehojohacombkaa.Gd.val_less k us vs ho⟩
            have HO := Aside0.mk ho
            clear ho
            cases h7 : hdk vs c with
            | true =>
              rw [h7, if_pos rfl] at hl
              have M7 := Aside0.mk h7
              have HL := Aside0.mk hl
              clear h7 hl HRR
              go_wp2_with (first | (go_at_call 54; (with_reducible refine (Gd.c2_any k HV.out g p q d HD.out d0 d1 us w0 _ HS.out.below HR.out HC.out).mono ?_); rw [HO.out]; rintro e w9 ⟨hs_, rfl, hr_⟩; have n0_ := Aside0.mk (HS.out.trans hs_); have n1_ := Aside0.mk hr_; have n2_ := Aside0.mk (HC.out.step hs_); clear HS HR HC hs_ hr_ x0 x1 f0 f1; have HS := n0_; have HR := n1_; have HC := n2_; clear n0_ n1_ n2_; obtain ⟨x0, x1, f0, f1⟩ := HC.out.cells) | (go_at_call 51; (with_reducible refine (Gd.take_hit g c vs M7.out w0 _ HS.out.below HR.out).mono ?_); rintro e w9 ⟨rfl, hr_, hs_⟩; have n0_ := Aside0.mk (HS.out.trans hs_); have n1_ := Aside0.mk hr_; have n2_ := Aside0.mk (HC.out.step hs_); clear HS HR HC hs_ hr_ x0 x1 f0 f1; have HS := n0_; have HR := n1_; have HC := n2_; clear n0_ n1_ n2_; obtain ⟨x0, x1, f0, f1⟩ := HC.out.cells))
              go_ret
              rw [← HL.out]
              exact VPost.yes HS.out HR.out
            | false =>
              rw [h7, if_neg (by decide)] at hl
              have M7 := Aside0.mk h7
              clear h7
              cases h8 : hdk vs 5 with
              | true =>
                rw [h8, if_pos rfl] at hl
                have M8 := Aside0.mk h8
                have HL := Aside0.mk hl
                clear h8 hl HRR
                go_wp2_with (first | (go_at_call 54; (with_reducible refine (Gd.c2_any k HV.out g p q d HD.out d0 d1 us w0 _ HS.out.below HR.out HC.out).mono ?_); rw [HO.out]; rintro e w9 ⟨hs_, rfl, hr_⟩; have n0_ := Aside0.mk (HS.out.trans hs_); have n1_ := Aside0.mk hr_; have n2_ := Aside0.mk (HC.out.step hs_); clear HS HR HC hs_ hr_ x0 x1 f0 f1; have HS := n0_; have HR := n1_; have HC := n2_; clear n0_ n1_ n2_; obtain ⟨x0, x1, f0, f1⟩ := HC.out.cells) | (go_at_call 51; (with_reducible refine (Gd.take_miss g c vs M7.out w0 _ HS.out.below HR.out).mono ?_); rintro e w9 ⟨rfl, hr_, hs_⟩; have n0_ := Aside0.mk (HS.out.trans hs_); have n1_ := Aside0.mk hr_; have n2_ := Aside0.mk (HC.out.step hs_); clear HS HR HC hs_ hr_ x0 x1 f0 f1; have HS := n0_; have HR := n1_; have HC := n2_; clear n0_ n1_ n2_; obtain ⟨x0, x1, f0, f1⟩ := HC.out.cells) | (go_at_call 51; (with_reducible refine (Gd.take_hit g 5 vs M8.out w0 _ HS.out.below HR.out).mono ?_); rintro e w9 ⟨rfl, hr_, hs_⟩; have n0_ := Aside0.mk (HS.out.trans hs_); have n1_ := Aside0.mk hr_; have n2_ := Aside0.mk (HC.out.step hs_); clear HS HR HC hs_ hr_ x0 x1 f0 f1; have HS := n0_; have HR := n1_; have HC := n2_; clear n0_ n1_ n2_; obtain ⟨x0, x1, f0, f1⟩ := HC.out.cells))
                go_roundg k1
                case measure => have := HN.out; omega
                case rel => exact ⟨vs.tail, n, HL, ⟨by have := HN.out; have := HLS.out; have := Gd.tail_le vs; omega, by have := HN.out; omega⟩, HS, HR, HC⟩
              | false =>
                rw [h8, if_neg (by decide)] at hl
                have M8 := Aside0.mk h8
                have HL := Aside0.mk hl
                clear h8 hl HRR
                go_wp2_with (first | (go_at_call 54; (with_reducible refine (Gd.c2_any k HV.out g p q d HD.out d0 d1 us w0 _ HS.out.below HR.out HC.out).mono ?_); rw [HO.out]; rintro e w9 ⟨hs_, rfl, hr_⟩; have n0_ := Aside0.mk (HS.out.trans hs_); have n1_ := Aside0.mk hr_; have n2_ := Aside0.mk (HC.out.step hs_); clear HS HR HC hs_ hr_ x0 x1 f0 f1; have HS := n0_; have HR := n1_; have HC := n2_; clear n0_ n1_ n2_; obtain ⟨x0, x1, f0, f1⟩ := HC.out.cells) | (go_at_call 51; (with_reducible refine (Gd.take_miss g c vs M7.out w0 _ HS.out.below HR.out).mono ?_); rintro e w9 ⟨rfl, hr_, hs_⟩; have n0_ := Aside0.mk (HS.out.trans hs_); have n1_ := Aside0.mk hr_; have n2_ := Aside0.mk (HC.out.step hs_); clear HS HR HC hs_ hr_ x0 x1 f0 f1; have HS := n0_; have HR := n1_; have HC := n2_; clear n0_ n1_ n2_; obtain ⟨x0, x1, f0, f1⟩ := HC.out.cells) | (go_at_call 51; (with_reducible refine (Gd.take_miss g 5 vs M8.out w0 _ HS.out.below HR.out).mono ?_); rintro e w9 ⟨rfl, hr_, hs_⟩; have n0_ := Aside0.mk (HS.out.trans hs_); have n1_ := Aside0.mk hr_; have n2_ := Aside0.mk (HC.out.step hs_); clear HS HR HC hs_ hr_ x0 x1 f0 f1; have HS := n0_; have HR := n1_; have HC := n2_; clear n0_ n1_ n2_; obtain ⟨x0, x1, f0, f1⟩ := HC.out.cells))
                go_ret
                rw [← HL.out]
                exact VPost.no HS.out HR.out
set_option maxHeartbeats 8000000 in
set_option maxRecDepth 100000 in
theorem Gd.value_zero : VC 0 := by
  intro g ts d w0 w hd hB h
  obtain ⟨o, ho⟩ : ∃ o, val 0 ts = o := ⟨_, rfl⟩
  rw [ho]
  rw [Go.Proofs.Ytehojohacombkaa.Gd.val] at ho
  have HOO := Aside0.mk ho
  clear ho
  have HR := Aside0.mk h
  have HS := Aside0.mk (GStep.refl hB (g := g))
  have hlt := h.lt
  have d0 : 0 ≤ d := by omega
  have d1 : 12 < d := by omega
  clear hd h hB
  go_enter Try.func27, Try.ntmps27
  go_upto_region 1 with (fail)
  have es : (w.alloc (.cells #[.pointer (some ⟨g, 0, none⟩)] 86)).heap.size = w.heap.size + 1 := by simp
  have b1_ : Below w.heap.size w ((w.alloc (.cells #[.pointer (some ⟨g, 0, none⟩)] 86)).alloc (.cells #[.int .i64 d] 3)) := below_alloc (below_alloc (Below.refl _ _) _) _
  have n0_ := Aside0.mk (HS.out.more b1_)
  have n1_ := Aside0.mk (HR.out.below b1_)
  have n2_ : Aside0 (Caps ((w.alloc (.cells #[.pointer (some ⟨g, 0, none⟩)] 86)).alloc (.cells #[.int .i64 d] 3)) g w.heap.size (w.heap.size + 1) d) := ⟨⟨blk_alloc (blk_new w _) _, by have := blk_new (w.alloc (.cells #[.pointer (some ⟨g, 0, none⟩)] 86)) (.cells #[.int .i64 d] 3); rw [es] at this; exact this, by omega, by omega⟩⟩
  obtain ⟨p, ep⟩ : ∃ p, w.heap.size = p := ⟨_, rfl⟩
  obtain ⟨q, eq_⟩ : ∃ q, p + 1 = q := ⟨_, rfl⟩
  rw [ep] at n2_ ⊢
  rw [eq_] at n2_ ⊢
  generalize ((w.alloc (.cells #[.pointer (some ⟨g, 0, none⟩)] 86)).alloc (.cells #[.int .i64 d] 3)) = w2 at n0_ n1_ n2_ ⊢
  clear es b1_ ep eq_ HS HR hlt
  have HS := n0_
  have HR := n1_
  have HC := n2_
  clear n0_ n1_ n2_
  obtain ⟨x0, x1, f0, f1⟩ := HC.out.cells
  cases h6 : hdk ts 6 with
  | true =>
    have M6 := Aside0.mk h6
    clear h6
    go_wp2_with (first | (go_at_call 51; (with_reducible refine (Gd.take_hit g 6 ts M6.out w0 _ HS.out.below HR.out).mono ?_); rintro e w9 ⟨rfl, hr_, hs_⟩; have n0_ := Aside0.mk (HS.out.trans hs_); have n1_ := Aside0.mk hr_; have n2_ := Aside0.mk (HC.out.step hs_); clear HS HR HC hs_ hr_ x0 x1 f0 f1; have HS := n0_; have HR := n1_; have HC := n2_; clear n0_ n1_ n2_; obtain ⟨x0, x1, f0, f1⟩ := HC.out.cells))
    go_ret
    have e_ := HOO.out
    rw [if_pos (.inl M6.out)] at e_
    rw [← e_]
    exact VPost.yes HS.out HR.out
  | false =>
    have M6 := Aside0.mk h6
    clear h6
    cases h7 : hdk ts 7 with
    | true =>
      have M7 := Aside0.mk h7
      clear h7
      go_wp2_with (first | (go_at_call 51; (with_reducible refine (Gd.take_miss g 6 ts M6.out w0 _ HS.out.below HR.out).mono ?_); rintro e w9 ⟨rfl, hr_, hs_⟩; have n0_ := Aside0.mk (HS.out.trans hs_); have n1_ := Aside0.mk hr_; have n2_ := Aside0.mk (HC.out.step hs_); clear HS HR HC hs_ hr_ x0 x1 f0 f1; have HS := n0_; have HR := n1_; have HC := n2_; clear n0_ n1_ n2_; obtain ⟨x0, x1, f0, f1⟩ := HC.out.cells) | (go_at_call 51; (with_reducible refine (Gd.take_hit g 7 ts M7.out w0 _ HS.out.below HR.out).mono ?_); rintro e w9 ⟨rfl, hr_, hs_⟩; have n0_ := Aside0.mk (HS.out.trans hs_); have n1_ := Aside0.mk hr_; have n2_ := Aside0.mk (HC.out.step hs_); clear HS HR HC hs_ hr_ x0 x1 f0 f1; have HS := n0_; have HR := n1_; have HC := n2_; clear n0_ n1_ n2_; obtain ⟨x0, x1, f0, f1⟩ := HC.out.cells))
      go_ret
      have e_ := HOO.out
      rw [if_pos (.inr (.inl M7.out))] at e_
      rw [← e_]
      exact VPost.yes HS.out HR.out
    | false =>
      have M7 := Aside0.mk h7
      clear h7
      cases h8 : hdk ts 8 with
      | true =>
        have M8 := Aside0.mk h8
        clear h8
        go_wp2_with (first | (go_at_call 51; (with_reducible refine (Gd.take_miss g 6 ts M6.out w0 _ HS.out.below HR.out).mono ?_); rintro e w9 ⟨rfl, hr_, hs_⟩; have n0_ := Aside0.mk (HS.out.trans hs_); have n1_ := Aside0.mk hr_; have n2_ := Aside0.mk (HC.out.step hs_); clear HS HR HC hs_ hr_ x0 x1 f0 f1; have HS := n0_; have HR := n1_; have HC := n2_; clear n0_ n1_ n2_; obtain ⟨x0, x1, f0, f1⟩ := HC.out.cells) | (go_at_call 51; (with_reducible refine (Gd.take_miss g 7 ts M7.out w0 _ HS.out.below HR.out).mono ?_); rintro e w9 ⟨rfl, hr_, hs_⟩; have n0_ := Aside0.mk (HS.out.trans hs_); have n1_ := Aside0.mk hr_; have n2_ := Aside0.mk (HC.out.step hs_); clear HS HR HC hs_ hr_ x0 x1 f0 f1; have HS := n0_; have HR := n1_; have HC := n2_; clear n0_ n1_ n2_; obtain ⟨x0, x1, f0, f1⟩ := HC.out.cells) | (go_at_call 51; (with_reducible refine (Gd.take_hit g 8 ts M8.out w0 _ HS.out.below HR.out).mono ?_); rintro e w9 ⟨rfl, hr_, hs_⟩; have n0_ := Aside0.mk (HS.out.trans hs_); have n1_ := Aside0.mk hr_; have n2_ := Aside0.mk (HC.out.step hs_); clear HS HR HC hs_ hr_ x0 x1 f0 f1; have HS := n0_; have HR := n1_; have HC := n2_; clear n0_ n1_ n2_; obtain ⟨x0, x1, f0, f1⟩ := HC.out.cells))
        go_ret
        have e_ := HOO.out
        rw [if_pos (.inr (.inr M8.out))] at e_
        rw [← e_]
        exact VPost.yes HS.out HR.out
      | false =>
        have M8 := Aside0.mk h8
        clear h8
        go_wp2_with (first | (go_at_call 51; (with_reducible refine (Gd.take_miss g 6 ts M6.out w0 _ HS.out.below HR.out).mono ?_); rintro e w9 ⟨rfl, hr_, hs_⟩; have n0_ := Aside0.mk (HS.out.trans hs_); have n1_ := Aside0.mk hr_; have n2_ := Aside0.mk (HC.out.step hs_); clear HS HR HC hs_ hr_ x0 x1 f0 f1; have HS := n0_; have HR := n1_; have HC := n2_; clear n0_ n1_ n2_; obtain ⟨x0, x1, f0, f1⟩ := HC.out.cells) | (go_at_call 51; (with_reducible refine (Gd.take_miss g 7 ts M7.out w0 _ HS.out.below HR.out).mono ?_); rintro e w9 ⟨rfl, hr_, hs_⟩; have n0_ := Aside0.mk (HS.out.trans hs_); have n1_ := Aside0.mk hr_; have n2_ := Aside0.mk (HC.out.step hs_); clear HS HR HC hs_ hr_ x0 x1 f0 f1; have HS := n0_; have HR := n1_; have HC := n2_; clear n0_ n1_ n2_; obtain ⟨x0, x1, f0, f1⟩ := HC.out.cells) | (go_at_call 51; (with_reducible refine (Gd.take_miss g 8 ts M8.out w0 _ HS.out.below HR.out).mono ?_); rintro e w9 ⟨rfl, hr_, hs_⟩; have n0_ := Aside0.mk (HS.out.trans hs_); have n1_ := Aside0.mk hr_; have n2_ := Aside0.mk (HC.out.step hs_); clear HS HR HC hs_ hr_ x0 x1 f0 f1; have HS := n0_; have HR := n1_; have HC := n2_; clear n0_ n1_ n2_; obtain ⟨x0, x1, f0, f1⟩ := HC.out.cells))
        go_ret
        have e_ := HOO.out
        rw [if_neg (by rw [M6.out, M7.out, M8.out]; simp)] at e_
        rw [← e_]
        exact VPost.no HS.out HR.out
set_option maxHeartbeats 8000000 in
set_option maxRecDepth 100000 in
theorem Gd.value_succ (k : Nat) (hk : k < 12) (hV : VC k) : VC (k + 1) := by
  intro g ts d w0 w hd hB h
  have HD : Aside0 (d = 12 - (k : Int)) := ⟨by omega⟩
  have HV := Aside0.mk hV
  clear hV
  obtain ⟨o, ho⟩ : ∃ o, val (k + 1) ts = o := ⟨_, rfl⟩
  rw [ho]
  rw [Go.Proofs.Ytehojohacombkaa.Gd.val] at ho
  have HOO := Aside0.mk ho
  clear ho
  have HR := Aside0.mk h
  have HS := Aside0.mk (GStep.refl hB (g := g))
  have hlt := h.lt
  have d0 : 0 ≤ d := by omega
  have d1 : d ≤ 12 := by omega
  clear hd h hB
  go_enter Try.func27, Try.ntmps27
  go_upto_region 1 with (fail)
  have es : (w.alloc (.cells #[.pointer (some ⟨g, 0, none⟩)] 86)).heap.size = w.heap.size + 1 := by simp
  have b1_ : Below w.heap.size w ((w.alloc (.cells #[.pointer (some ⟨g, 0, none⟩)] 86)).alloc (.cells #[.int .i64 d] 3)) := below_alloc (below_alloc (Below.refl _ _) _) _
  have n0_ := Aside0.mk (HS.out.more b1_)
  have n1_ := Aside0.mk (HR.out.below b1_)
  have n2_ : Aside0 (Caps ((w.alloc (.cells #[.pointer (some ⟨g, 0, none⟩)] 86)).alloc (.cells #[.int .i64 d] 3)) g w.heap.size (w.heap.size + 1) d) := ⟨⟨blk_alloc (blk_new w _) _, by have := blk_new (w.alloc (.cells #[.pointer (some ⟨g, 0, none⟩)] 86)) (.cells #[.int .i64 d] 3); rw [es] at this; exact this, by omega, by omega⟩⟩
  obtain ⟨p, ep⟩ : ∃ p, w.heap.size = p := ⟨_, rfl⟩
  obtain ⟨q, eq_⟩ : ∃ q, p + 1 = q := ⟨_, rfl⟩
  rw [ep] at n2_ ⊢
  rw [eq_] at n2_ ⊢
  generalize ((w.alloc (.cells #[.pointer (some ⟨g, 0, none⟩)] 86)).alloc (.cells #[.int .i64 d] 3)) = w2 at n0_ n1_ n2_ ⊢
  clear es b1_ ep eq_ HS HR hlt
  have HS := n0_
  have HR := n1_
  have HC := n2_
  clear n0_ n1_ n2_
  obtain ⟨x0, x1, f0, f1⟩ := HC.out.cells
  cases h6 : hdk ts 6 with
  | true =>
    have M6 := Aside0.mk h6
    clear h6
    go_wp2_with (first | (go_at_call 51; (with_reducible refine (Gd.take_hit g 6 ts M6.out w0 _ HS.out.below HR.out).mono ?_); rintro e w9 ⟨rfl, hr_, hs_⟩; have n0_ := Aside0.mk (HS.out.trans hs_); have n1_ := Aside0.mk hr_; have n2_ := Aside0.mk (HC.out.step hs_); clear HS HR HC hs_ hr_ x0 x1 f0 f1; have HS := n0_; have HR := n1_; have HC := n2_; clear n0_ n1_ n2_; obtain ⟨x0, x1, f0, f1⟩ := HC.out.cells))
    go_ret
    have e_ := HOO.out
    rw [if_pos (.inl M6.out)] at e_
    rw [← e_]
    exact VPost.yes HS.out HR.out
  | false =>
    have M6 := Aside0.mk h6
    clear h6
    cases h7 : hdk ts 7 with
    | true =>
      have M7 := Aside0.mk h7
      clear h7
      go_wp2_with (first | (go_at_call 51; (with_reducible refine (Gd.take_miss g 6 ts M6.out w0 _ HS.out.below HR.out).mono ?_); rintro e w9 ⟨rfl, hr_, hs_⟩; have n0_ := Aside0.mk (HS.out.trans hs_); have n1_ := Aside0.mk hr_; have n2_ := Aside0.mk (HC.out.step hs_); clear HS HR HC hs_ hr_ x0 x1 f0 f1; have HS := n0_; have HR := n1_; have HC := n2_; clear n0_ n1_ n2_; obtain ⟨x0, x1, f0, f1⟩ := HC.out.cells) | (go_at_call 51; (with_reducible refine (Gd.take_hit g 7 ts M7.out w0 _ HS.out.below HR.out).mono ?_); rintro e w9 ⟨rfl, hr_, hs_⟩; have n0_ := Aside0.mk (HS.out.trans hs_); have n1_ := Aside0.mk hr_; have n2_ := Aside0.mk (HC.out.step hs_); clear HS HR HC hs_ hr_ x0 x1 f0 f1; have HS := n0_; have HR := n1_; have HC := n2_; clear n0_ n1_ n2_; obtain ⟨x0, x1, f0, f1⟩ := HC.out.cells))
      go_ret
      have e_ := HOO.out
      rw [if_pos (.inr (.inl M7.out))] at e_
      rw [← e_]
      exact VPost.yes HS.out HR.out
    | false =>
      have M7 := Aside0.mk h7
      clear h7
      cases h8 : hdk ts 8 with
      | true =>
        have M8 := Aside0.mk h8
        clear h8
        go_wp2_with (first | (go_at_call 51; (with_reducible refine (Gd.take_miss g 6 ts M6.out w0 _ HS.out.below HR.out).mono ?_); rintro e w9 ⟨rfl, hr_, hs_⟩; have n0_ := Aside0.mk (HS.out.trans hs_); have n1_ := Aside0.mk hr_; have n2_ := Aside0.mk (HC.out.step hs_); clear HS HR HC hs_ hr_ x0 x1 f0 f1; have HS := n0_; have HR := n1_; have HC := n2_; clear n0_ n1_ n2_; obtain ⟨x0, x1, f0, f1⟩ := HC.out.cells) | (go_at_call 51; (with_reducible refine (Gd.take_miss g 7 ts M7.out w0 _ HS.out.below HR.out).mono ?_); rintro e w9 ⟨rfl, hr_, hs_⟩; have n0_ := Aside0.mk (HS.out.trans hs_); have n1_ := Aside0.mk hr_; have n2_ := Aside0.mk (HC.out.step hs_); clear HS HR HC hs_ hr_ x0 x1 f0 f1; have HS := n0_; have HR := n1_; have HC := n2_; clear n0_ n1_ n2_; obtain ⟨x0, x1, f0, f1⟩ := HC.out.cells) | (go_at_call 51; (with_reducible refine (Gd.take_hit g 8 ts M8.out w0 _ HS.out.below HR.out).mono ?_); rintro e w9 ⟨rfl, hr_, hs_⟩; have n0_ := Aside0.mk (HS.out.trans hs_); have n1_ := Aside0.mk hr_; have n2_ := Aside0.mk (HC.out.step hs_); clear HS HR HC hs_ hr_ x0 x1 f0 f1; have HS := n0_; have HR := n1_; have HC := n2_; clear n0_ n1_ n2_; obtain ⟨x0, x1, f0, f1⟩ := HC.out.cells))
        go_ret
        have e_ := HOO.out
        rw [if_pos (.inr (.inr M8.out))] at e_
        rw [← e_]
        exact VPost.yes HS.out HR.out
      | false =>
        have M8 := Aside0.mk h8
        clear h8
        cases h0 : hdk ts 0 with
        | true =>
          have M0 := Aside0.mk h0
          clear h0
          cases hr : rs (one1 (val k)) 1 ts.tail with
          | some us =>
            have HX := Aside0.mk hr
            clear hr
            go_wp2_with (first | (go_at_call 51; (with_reducible refine (Gd.take_miss g 6 ts M6.out w0 _ HS.out.below HR.out).mono ?_); rintro e w9 ⟨rfl, hr_, hs_⟩; have n0_ := Aside0.mk (HS.out.trans hs_); have n1_ := Aside0.mk hr_; have n2_ := Aside0.mk (HC.out.step hs_); clear HS HR HC hs_ hr_ x0 x1 f0 f1; have HS := n0_; have HR := n1_; have HC := n2_; clear n0_ n1_ n2_; obtain ⟨x0, x1, f0, f1⟩ := HC.out.cells) | (go_at_call 51; (with_reducible refine (Gd.take_miss g 7 ts M7.out w0 _ HS.out.below HR.out).mono ?_); rintro e w9 ⟨rfl, hr_, hs_⟩; have n0_ := Aside0.mk (HS.out.trans hs_); have n1_ := Aside0.mk hr_; have n2_ := Aside0.mk (HC.out.step hs_); clear HS HR HC hs_ hr_ x0 x1 f0 f1; have HS := n0_; have HR := n1_; have HC := n2_; clear n0_ n1_ n2_; obtain ⟨x0, x1, f0, f1⟩ := HC.out.cells) | (go_at_call 51; (with_reducible refine (Gd.take_miss g 8 ts M8.out w0 _ HS.out.below HR.out).mono ?_); rintro e w9 ⟨rfl, hr_, hs_⟩; have n0_ := Aside0.mk (HS.out.trans hs_); have n1_ := Aside0.mk hr_; have n2_ := Aside0.mk (HC.out.step hs_); clear HS HR HC hs_ hr_ x0 x1 f0 f1; have HS := n0_; have HR := n1_; have HC := n2_; clear n0_ n1_ n2_; obtain ⟨x0, x1, f0, f1⟩ := HC.out.cells) | (go_at_call 51; (with_reducible refine (Gd.take_hit g 0 ts M0.out w0 _ HS.out.below HR.out).mono ?_); rintro e w9 ⟨rfl, hr_, hs_⟩; have n0_ := Aside0.mk (HS.out.trans hs_); have n1_ := Aside0.mk hr_; have n2_ := Aside0.mk (HC.out.step hs_); clear HS HR HC hs_ hr_ x0 x1 f0 f1; have HS := n0_; have HR := n1_; have HC := n2_; clear n0_ n1_ n2_; obtain ⟨x0, x1, f0, f1⟩ := HC.out.cells) | (go_at_call 52; (with_reducible refine (Gd.rest1 k HV.out g p q d 1 HD.out d0 d1 ts.tail w0 _ HS.out.below HR.out HC.out).mono ?_); rw [HX.out]; rintro e w9 ⟨hs_, rfl, hr_⟩; have n0_ := Aside0.mk (HS.out.trans hs_); have n1_ := Aside0.mk hr_; have n2_ := Aside0.mk (HC.out.step hs_); clear HS HR HC hs_ hr_ x0 x1 f0 f1; have HS := n0_; have HR := n1_; have HC := n2_; clear n0_ n1_ n2_; obtain ⟨x0, x1, f0, f1⟩ := HC.out.cells))
            go_ret
            have e_ := HOO.out
            rw [if_neg (by rw [M6.out, M7.out, M8.out]; simp), if_pos M0.out, HX.out] at e_
            rw [← e_]
            exact VPost.yes HS.out HR.out
          | none =>
            have HX := Aside0.mk hr
            clear hr
            go_wp2_with (first | (go_at_call 51; (with_reducible refine (Gd.take_miss g 6 ts M6.out w0 _ HS.out.below HR.out).mono ?_); rintro e w9 ⟨rfl, hr_, hs_⟩; have n0_ := Aside0.mk (HS.out.trans hs_); have n1_ := Aside0.mk hr_; have n2_ := Aside0.mk (HC.out.step hs_); clear HS HR HC hs_ hr_ x0 x1 f0 f1; have HS := n0_; have HR := n1_; have HC := n2_; clear n0_ n1_ n2_; obtain ⟨x0, x1, f0, f1⟩ := HC.out.cells) | (go_at_call 51; (with_reducible refine (Gd.take_miss g 7 ts M7.out w0 _ HS.out.below HR.out).mono ?_); rintro e w9 ⟨rfl, hr_, hs_⟩; have n0_ := Aside0.mk (HS.out.trans hs_); have n1_ := Aside0.mk hr_; have n2_ := Aside0.mk (HC.out.step hs_); clear HS HR HC hs_ hr_ x0 x1 f0 f1; have HS := n0_; have HR := n1_; have HC := n2_; clear n0_ n1_ n2_; obtain ⟨x0, x1, f0, f1⟩ := HC.out.cells) | (go_at_call 51; (with_reducible refine (Gd.take_miss g 8 ts M8.out w0 _ HS.out.below HR.out).mono ?_); rintro e w9 ⟨rfl, hr_, hs_⟩; have n0_ := Aside0.mk (HS.out.trans hs_); have n1_ := Aside0.mk hr_; have n2_ := Aside0.mk (HC.out.step hs_); clear HS HR HC hs_ hr_ x0 x1 f0 f1; have HS := n0_; have HR := n1_; have HC := n2_; clear n0_ n1_ n2_; obtain ⟨x0, x1, f0, f1⟩ := HC.out.cells) | (go_at_call 51; (with_reducible refine (Gd.take_hit g 0 ts M0.out w0 _ HS.out.below HR.out).mono ?_); rintro e w9 ⟨rfl, hr_, hs_⟩; have n0_ := Aside0.mk (HS.out.trans hs_); have n1_ := Aside0.mk hr_; have n2_ := Aside0.mk (HC.out.step hs_); clear HS HR HC hs_ hr_ x0 x1 f0 f1; have HS := n0_; have HR := n1_; have HC := n2_; clear n0_ n1_ n2_; obtain ⟨x0, x1, f0, f1⟩ := HC.out.cells) | (go_at_call 52; (with_reducible refine (Gd.rest1 k HV.out g p q d 1 HD.out d0 d1 ts.tail w0 _ HS.out.below HR.out HC.out).mono ?_); rw [HX.out]; rintro e w9 ⟨hs_, rfl, ts_, hr_⟩; have n0_ := Aside0.mk (HS.out.trans hs_); have n1_ := Aside0.mk hr_; have n2_ := Aside0.mk (HC.out.step hs_); clear HS HR HC hs_ hr_ x0 x1 f0 f1; have HS := n0_; have HR := n1_; have HC := n2_; clear n0_ n1_ n2_; obtain ⟨x0, x1, f0, f1⟩ := HC.out.cells))
            go_ret
            have e_ := HOO.out
            rw [if_neg (by rw [M6.out, M7.out, M8.out]; simp), if_pos M0.out, HX.out] at e_
            rw [← e_]
            exact VPost.no HS.out HR.out
        | false =>
          have M0 := Aside0.mk h0
          clear h0
          cases h2 : hdk ts 2 with
          | true =>
            have M2 := Aside0.mk h2
            clear h2
            cases hr : rs (val k) 3 ts.tail with
            | some us =>
              have HX := Aside0.mk hr
              clear hr
              go_wp2_with (first | (go_at_call 51; (with_reducible refine (Gd.take_miss g 6 ts M6.out w0 _ HS.out.below HR.out).mono ?_); rintro e w9 ⟨rfl, hr_, hs_⟩; have n0_ := Aside0.mk (HS.out.trans hs_); have n1_ := Aside0.mk hr_; have n2_ := Aside0.mk (HC.out.step hs_); clear HS HR HC hs_ hr_ x0 x1 f0 f1; have HS := n0_; have HR := n1_; have HC := n2_; clear n0_ n1_ n2_; obtain ⟨x0, x1, f0, f1⟩ := HC.out.cells) | (go_at_call 51; (with_reducible refine (Gd.take_miss g 7 ts M7.out w0 _ HS.out.below HR.out).mono ?_); rintro e w9 ⟨rfl, hr_, hs_⟩; have n0_ := Aside0.mk (HS.out.trans hs_); have n1_ := Aside0.mk hr_; have n2_ := Aside0.mk (HC.out.step hs_); clear HS HR HC hs_ hr_ x0 x1 f0 f1; have HS := n0_; have HR := n1_; have HC := n2_; clear n0_ n1_ n2_; obtain ⟨x0, x1, f0, f1⟩ := HC.out.cells) | (go_at_call 51; (with_reducible refine (Gd.take_miss g 8 ts M8.out w0 _ HS.out.below HR.out).mono ?_); rintro e w9 ⟨rfl, hr_, hs_⟩; have n0_ := Aside0.mk (HS.out.trans hs_); have n1_ := Aside0.mk hr_; have n2_ := Aside0.mk (HC.out.step hs_); clear HS HR HC hs_ hr_ x0 x1 f0 f1; have HS := n0_; have HR := n1_; have HC := n2_; clear n0_ n1_ n2_; obtain ⟨x0, x1, f0, f1⟩ := HC.out.cells) | (go_at_call 51; (with_reducible refine (Gd.take_miss g 0 ts M0.out w0 _ HS.out.below HR.out).mono ?_); rintro e w9 ⟨rfl, hr_, hs_⟩; have n0_ := Aside0.mk (HS.out.trans hs_); have n1_ := Aside0.mk hr_; have n2_ := Aside0.mk (HC.out.step hs_); clear HS HR HC hs_ hr_ x0 x1 f0 f1; have HS := n0_; have HR := n1_; have HC := n2_; clear n0_ n1_ n2_; obtain ⟨x0, x1, f0, f1⟩ := HC.out.cells) | (go_at_call 51; (with_reducible refine (Gd.take_hit g 2 ts M2.out w0 _ HS.out.below HR.out).mono ?_); rintro e w9 ⟨rfl, hr_, hs_⟩; have n0_ := Aside0.mk (HS.out.trans hs_); have n1_ := Aside0.mk hr_; have n2_ := Aside0.mk (HC.out.step hs_); clear HS HR HC hs_ hr_ x0 x1 f0 f1; have HS := n0_; have HR := n1_; have HC := n2_; clear n0_ n1_ n2_; obtain ⟨x0, x1, f0, f1⟩ := HC.out.cells) | (go_at_call 52; (with_reducible refine (Gd.rest2 k HV.out g p q d 3 HD.out d0 d1 ts.tail w0 _ HS.out.below HR.out HC.out).mono ?_); rw [HX.out]; rintro e w9 ⟨hs_, rfl, hr_⟩; have n0_ := Aside0.mk (HS.out.trans hs_); have n1_ := Aside0.mk hr_; have n2_ := Aside0.mk (HC.out.step hs_); clear HS HR HC hs_ hr_ x0 x1 f0 f1; have HS := n0_; have HR := n1_; have HC := n2_; clear n0_ n1_ n2_; obtain ⟨x0, x1, f0, f1⟩ := HC.out.cells))
              go_ret
              have e_ := HOO.out
              rw [if_neg (by rw [M6.out, M7.out, M8.out]; simp), if_neg (by rw [M0.out]; decide), if_pos M2.out, HX.out] at e_
              rw [← e_]
              exact VPost.yes HS.out HR.out
            | none =>
              have HX := Aside0.mk hr
              clear hr
              go_wp2_with (first | (go_at_call 51; (with_reducible refine (Gd.take_miss g 6 ts M6.out w0 _ HS.out.below HR.out).mono ?_); rintro e w9 ⟨rfl, hr_, hs_⟩; have n0_ := Aside0.mk (HS.out.trans hs_); have n1_ := Aside0.mk hr_; have n2_ := Aside0.mk (HC.out.step hs_); clear HS HR HC hs_ hr_ x0 x1 f0 f1; have HS := n0_; have HR := n1_; have HC := n2_; clear n0_ n1_ n2_; obtain ⟨x0, x1, f0, f1⟩ := HC.out.cells) | (go_at_call 51; (with_reducible refine (Gd.take_miss g 7 ts M7.out w0 _ HS.out.below HR.out).mono ?_); rintro e w9 ⟨rfl, hr_, hs_⟩; have n0_ := Aside0.mk (HS.out.trans hs_); have n1_ := Aside0.mk hr_; have n2_ := Aside0.mk (HC.out.step hs_); clear HS HR HC hs_ hr_ x0 x1 f0 f1; have HS := n0_; have HR := n1_; have HC := n2_; clear n0_ n1_ n2_; obtain ⟨x0, x1, f0, f1⟩ := HC.out.cells) | (go_at_call 51; (with_reducible refine (Gd.take_miss g 8 ts M8.out w0 _ HS.out.below HR.out).mono ?_); rintro e w9 ⟨rfl, hr_, hs_⟩; have n0_ := Aside0.mk (HS.out.trans hs_); have n1_ := Aside0.mk hr_; have n2_ := Aside0.mk (HC.out.step hs_); clear HS HR HC hs_ hr_ x0 x1 f0 f1; have HS := n0_; have HR := n1_; have HC := n2_; clear n0_ n1_ n2_; obtain ⟨x0, x1, f0, f1⟩ := HC.out.cells) | (go_at_call 51; (with_reducible refine (Gd.take_miss g 0 ts M0.out w0 _ HS.out.below HR.out).mono ?_); rintro e w9 ⟨rfl, hr_, hs_⟩; have n0_ := Aside0.mk (HS.out.trans hs_); have n1_ := Aside0.mk hr_; have n2_ := Aside0.mk (HC.out.step hs_); clear HS HR HC hs_ hr_ x0 x1 f0 f1; have HS := n0_; have HR := n1_; have HC := n2_; clear n0_ n1_ n2_; obtain ⟨x0, x1, f0, f1⟩ := HC.out.cells) | (go_at_call 51; (with_reducible refine (Gd.take_hit g 2 ts M2.out w0 _ HS.out.below HR.out).mono ?_); rintro e w9 ⟨rfl, hr_, hs_⟩; have n0_ := Aside0.mk (HS.out.trans hs_); have n1_ := Aside0.mk hr_; have n2_ := Aside0.mk (HC.out.step hs_); clear HS HR HC hs_ hr_ x0 x1 f0 f1; have HS := n0_; have HR := n1_; have HC := n2_; clear n0_ n1_ n2_; obtain ⟨x0, x1, f0, f1⟩ := HC.out.cells) | (go_at_call 52; (with_reducible refine (Gd.rest2 k HV.out g p q d 3 HD.out d0 d1 ts.tail w0 _ HS.out.below HR.out HC.out).mono ?_); rw [HX.out]; rintro e w9 ⟨hs_, rfl, ts_, hr_⟩; have n0_ := Aside0.mk (HS.out.trans hs_); have n1_ := Aside0.mk hr_; have n2_ := Aside0.mk (HC.out.step hs_); clear HS HR HC hs_ hr_ x0 x1 f0 f1; have HS := n0_; have HR := n1_; have HC := n2_; clear n0_ n1_ n2_; obtain ⟨x0, x1, f0, f1⟩ := HC.out.cells))
              go_ret
              have e_ := HOO.out
              rw [if_neg (by rw [M6.out, M7.out, M8.out]; simp), if_neg (by rw [M0.out]; decide), if_pos M2.out, HX.out] at e_
              rw [← e_]
              exact VPost.no HS.out HR.out
          | false =>
            have M2 := Aside0.mk h2
            clear h2
            go_wp2_with (first | (go_at_call 51; (with_reducible refine (Gd.take_miss g 6 ts M6.out w0 _ HS.out.below HR.out).mono ?_); rintro e w9 ⟨rfl, hr_, hs_⟩; have n0_ := Aside0.mk (HS.out.trans hs_); have n1_ := Aside0.mk hr_; have n2_ := Aside0.mk (HC.out.step hs_); clear HS HR HC hs_ hr_ x0 x1 f0 f1; have HS := n0_; have HR := n1_; have HC := n2_; clear n0_ n1_ n2_; obtain ⟨x0, x1, f0, f1⟩ := HC.out.cells) | (go_at_call 51; (with_reducible refine (Gd.take_miss g 7 ts M7.out w0 _ HS.out.below HR.out).mono ?_); rintro e w9 ⟨rfl, hr_, hs_⟩; have n0_ := Aside0.mk (HS.out.trans hs_); have n1_ := Aside0.mk hr_; have n2_ := Aside0.mk (HC.out.step hs_); clear HS HR HC hs_ hr_ x0 x1 f0 f1; have HS := n0_; have HR := n1_; have HC := n2_; clear n0_ n1_ n2_; obtain ⟨x0, x1, f0, f1⟩ := HC.out.cells) | (go_at_call 51; (with_reducible refine (Gd.take_miss g 8 ts M8.out w0 _ HS.out.below HR.out).mono ?_); rintro e w9 ⟨rfl, hr_, hs_⟩; have n0_ := Aside0.mk (HS.out.trans hs_); have n1_ := Aside0.mk hr_; have n2_ := Aside0.mk (HC.out.step hs_); clear HS HR HC hs_ hr_ x0 x1 f0 f1; have HS := n0_; have HR := n1_; have HC := n2_; clear n0_ n1_ n2_; obtain ⟨x0, x1, f0, f1⟩ := HC.out.cells) | (go_at_call 51; (with_reducible refine (Gd.take_miss g 0 ts M0.out w0 _ HS.out.below HR.out).mono ?_); rintro e w9 ⟨rfl, hr_, hs_⟩; have n0_ := Aside0.mk (HS.out.trans hs_); have n1_ := Aside0.mk hr_; have n2_ := Aside0.mk (HC.out.step hs_); clear HS HR HC hs_ hr_ x0 x1 f0 f1; have HS := n0_; have HR := n1_; have HC := n2_; clear n0_ n1_ n2_; obtain ⟨x0, x1, f0, f1⟩ := HC.out.cells) | (go_at_call 51; (with_reducible refine (Gd.take_miss g 2 ts M2.out w0 _ HS.out.below HR.out).mono ?_); rintro e w9 ⟨rfl, hr_, hs_⟩; have n0_ := Aside0.mk (HS.out.trans hs_); have n1_ := Aside0.mk hr_; have n2_ := Aside0.mk (HC.out.step hs_); clear HS HR HC hs_ hr_ x0 x1 f0 f1; have HS := n0_; have HR := n1_; have HC := n2_; clear n0_ n1_ n2_; obtain ⟨x0, x1, f0, f1⟩ := HC.out.cells))
            go_ret
            have e_ := HOO.out
            rw [if_neg (by rw [M6.out, M7.out, M8.out]; simp), if_neg (by rw [M0.out]; decide), if_neg (by rw [M2.out]; decide)] at e_
            rw [← e_]
            exact VPost.no HS.out HR.out
theorem Gd.value_all (k : Nat) : k ≤ 12 → VC k := by
  induction k with
  | zero => intro _; exact Gd.value_zero
  | succ k ih => intro h; exact Gd.value_succ k (by omega) (ih (by omega))
end Go.Proofs.Ytehojohacombkaa.G
