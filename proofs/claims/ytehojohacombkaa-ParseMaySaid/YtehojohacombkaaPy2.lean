/- parse.alone by its contract. (Written by mkpy.py of this session.) -/
import Derived.Test.YtehojohacombkaaPm2
import Derived.Test.YtehojohacombkaaPp1
import Derived.Test.YtehojohacombkaaGParseqleaf
import Derived.BigQuiet
namespace Go.Proofs.Ytehojohacombkaa.G
open Go.RowKit Go.Proofs.YtehojohacombkaaW.PrintWords Go.Proofs.YtehojohacombkaaW.PrintLast Go.Proofs.YtehojohacombkaaW.PrintMore
open Go.Proofs.Ytehojohacombkaa.Ps (Nd leafB rootB aloneB)
set_option linter.unusedVariables false
set_option linter.unusedSimpArgs false
theorem Ps.leaf_any (k : Int) (w : World) : Calls Try.prog 62 #[.int .i64 k] w fun e w' => e = .returned (.bool (leafB k)) ∧ ∃ n, w' = w.drewN n := by
  have h : parse_leaf.f k = some (leafB k) := by
    unfold parse_leaf.f leafB
    by_cases h4 : k = 4
    · simp [h4]
    · by_cases h5 : k = 5
      · simp [h5]
      · rw [if_neg h4, if_neg h5, beq_eq_false_iff_ne.mpr h4, beq_eq_false_iff_ne.mpr h5]; rfl
  exact (parse_leaf.calls k _ w h).mono fun e w' ⟨h1, h2⟩ => ⟨h1, h2.out⟩
/-- The cells of a tree's block and of a node's. -/
structure NodeAt (W : World) (bt : Nat) (root next : Int) (A : Option Addr) (n c : Nat) (ad : Addr) (x : Nd) (A4 : Option Addr) (c4 : Nat) : Prop where
  t : W.heap[bt]? = some (.cells #[.int .i64 root, .int .i64 next, .slice A n c] 28 (0, 0))
  y0 : W.cell? ad = some (.int .i64 x.f0)
  y1 : W.cell? ⟨ad.block, ad.off + 1, none⟩ = some (.int .i64 x.f1)
  y2 : W.cell? ⟨ad.block, ad.off + 2, none⟩ = some (.int .i64 x.f2)
  y3 : W.cell? ⟨ad.block, ad.off + 3, none⟩ = some (.int .i64 x.f3)
  y4 : W.cell? ⟨ad.block, ad.off + 4, none⟩ = some (.slice A4 x.f4.length c4)
set_option maxHeartbeats 64000000 in
set_option maxRecDepth 100000 in
theorem Ps.alone_any (bt : Nat) (root next size before : Int) (A : Option Addr) (n c : Nat) (ad : Addr) (x : Nd) (A4 : Option Addr) (c4 : Nat) (w : World) (h : NodeAt w bt root next A n c ad x A4 c4) :
    Calls Try.prog 45 #[.pointer (some ⟨bt, 0, none⟩), .pointer (some ad), .int .i64 before, .int .i64 size] w fun e w' => e = .returned (.bool (aloneB root next size x before)) ∧ ∃ n, w' = w.drewN n := by
  obtain ⟨ht, y0, y1, y2, y3, y4⟩ := h
  obtain ⟨x0, x1, x2, -, -, -⟩ := Ps.three ht
  obtain ⟨L, hL⟩ : ∃ L, leafB x.f1 = L := ⟨_, rfl⟩
  have HL : Aside0 (∀ w, Calls Try.prog 62 #[.int .i64 x.f1] w fun e w' => e = .returned (.bool L) ∧ ∃ n, w' = w.drewN n) := ⟨fun w => by rw [← hL]; exact Ps.leaf_any x.f1 w⟩
  have e0 : aloneB root next size x before = (((x.f1 != 0) || (((x.f0 == root) && (x.f2 == 0)) && (x.f3 == size))) && (decide (x.f0 > before) && (decide (x.f0 < next) && (decide (x.f1 ≥ 0) && (decide (x.f1 ≤ 7) && (decide (x.f2 ≥ 0) && (decide (x.f2 ≤ x.f3) && (decide (x.f3 ≤ size) && (!L || ((x.f4.length : Int) == 0)))))))))) := by
    unfold aloneB rootB
    rw [hL]
    have : (x.f4.length == 0) = ((x.f4.length : Int) == 0) := by rw [Bool.eq_iff_iff]; simp only [beq_iff_eq]; omega
    rw [this]
  rw [e0]
  clear e0 ht hL
  obtain ⟨m, hm⟩ : ∃ m, m = x.f4.length := ⟨_, rfl⟩
  rw [← hm] at y4 ⊢
  clear hm
  obtain ⟨q0, h0⟩ : ∃ q, (x.f1 != 0) = q := ⟨_, rfl⟩
  obtain ⟨q1, h1⟩ : ∃ q, (x.f0 == root) = q := ⟨_, rfl⟩
  obtain ⟨q2, h2⟩ : ∃ q, (x.f2 == 0) = q := ⟨_, rfl⟩
  obtain ⟨q3, h3⟩ : ∃ q, (x.f3 == size) = q := ⟨_, rfl⟩
  obtain ⟨q4, h4⟩ : ∃ q, decide (before < x.f0) = q := ⟨_, rfl⟩
  obtain ⟨q5, h5⟩ : ∃ q, decide (x.f0 < next) = q := ⟨_, rfl⟩
  obtain ⟨q6, h6⟩ : ∃ q, decide (0 ≤ x.f1) = q := ⟨_, rfl⟩
  obtain ⟨q7, h7⟩ : ∃ q, decide (x.f1 ≤ 7) = q := ⟨_, rfl⟩
  obtain ⟨q8, h8⟩ : ∃ q, decide (0 ≤ x.f2) = q := ⟨_, rfl⟩
  obtain ⟨q9, h9⟩ : ∃ q, decide (x.f2 ≤ x.f3) = q := ⟨_, rfl⟩
  obtain ⟨qa, ha⟩ : ∃ q, decide (x.f3 ≤ size) = q := ⟨_, rfl⟩
  obtain ⟨qb, hb⟩ : ∃ q, ((m : Int) == 0) = q := ⟨_, rfl⟩
  simp only [h0, h1, h2, h3, show (x.f0 > before) = (before < x.f0) from rfl, h4, h5, show (x.f1 ≥ 0) = (0 ≤ x.f1) from rfl, h6, h7, show (x.f2 ≥ 0) = (0 ≤ x.f2) from rfl, h8, h9, ha, hb]
  obtain ⟨B, hB⟩ : ∃ B, (q0 || (q1 && q2 && q3)) = B := ⟨_, rfl⟩
  have HB := Aside0.mk hB
  rw [hB]
  clear hB
  go_enter Try.func45, Try.ntmps45
  go_upto_region 1 with (fail)
  go_cut [9] (fun v9 wc => ∃ (nc : Nat), v9 = .bool B ∧ wc = w.drewN nc)
  case first =>
    have hB := HB.out
    clear h4 h5 h6 h7 h8 h9 ha hb y4 HB
    cases q0 with
    | true =>
      obtain rfl : B = true := by rw [← hB]; rfl
      clear hB
      go_quiet (fail)
      go_wp2
      go_meet
      case rel => exact ⟨_, rfl, rfl⟩
    | false =>
      cases q1 with
      | false =>
        obtain rfl : B = false := by rw [← hB]; rfl
        clear hB
        go_quiet (fail)
        go_wp2
        go_meet
        case rel => exact ⟨_, rfl, rfl⟩
      | true =>
        cases q2 with
        | false =>
          obtain rfl : B = false := by rw [← hB]; rfl
          clear hB
          go_quiet (fail)
          go_wp2
          go_meet
          case rel => exact ⟨_, rfl, rfl⟩
        | true =>
          cases q3 with
          | false =>
            obtain rfl : B = false := by rw [← hB]; rfl
            clear hB
            go_quiet (fail)
            go_wp2
            go_meet
            case rel => exact ⟨_, rfl, rfl⟩
          | true =>
            obtain rfl : B = true := by rw [← hB]; rfl
            clear hB
            go_quiet (fail)
            go_wp2
            go_meet
            case rel => exact ⟨_, rfl, rfl⟩
  case rest =>
    obtain ⟨nc, rfl, rfl⟩ := hcut
    clear h0 h1 h2 h3 HB
    go_upto_region 2 with (fail)
    simp only [List.append_eq, List.cons_append, List.nil_append]
    refine wp_region_quiet_lit (by kernel_rfl) (by kernel_rfl) ?_
    cases B with
    | false =>
      repeat (go_big_quiet_step ((go_at_call 62; exact ((HL.out _).mono fun e w2 ⟨h1_, n_, h2_⟩ => ⟨h1_, by rw [h2_, World.drewN_drewN, Nat.add_assoc]; exact ⟨_, rfl⟩⟩))))
      refine wpQuiet_nil ?_
      intro _ hw'
      obtain ⟨nq, hw''⟩ := hw'
      subst hw''
      go_wp2
      go_ret
      exact ⟨rfl, _, by first | rfl | exact World.drewN_drewN _ _ _⟩
    | true =>
      cases q4 with
      | false =>
        repeat (go_big_quiet_step ((go_at_call 62; exact ((HL.out _).mono fun e w2 ⟨h1_, n_, h2_⟩ => ⟨h1_, by rw [h2_, World.drewN_drewN, Nat.add_assoc]; exact ⟨_, rfl⟩⟩))))
        refine wpQuiet_nil ?_
        intro _ hw'
        obtain ⟨nq, hw''⟩ := hw'
        subst hw''
        go_wp2
        go_ret
        exact ⟨rfl, _, by first | rfl | exact World.drewN_drewN _ _ _⟩
      | true =>
        cases q5 with
        | false =>
          repeat (go_big_quiet_step ((go_at_call 62; exact ((HL.out _).mono fun e w2 ⟨h1_, n_, h2_⟩ => ⟨h1_, by rw [h2_, World.drewN_drewN, Nat.add_assoc]; exact ⟨_, rfl⟩⟩))))
          refine wpQuiet_nil ?_
          intro _ hw'
          obtain ⟨nq, hw''⟩ := hw'
          subst hw''
          go_wp2
          go_ret
          exact ⟨rfl, _, by first | rfl | exact World.drewN_drewN _ _ _⟩
        | true =>
          cases q6 with
          | false =>
            repeat (go_big_quiet_step ((go_at_call 62; exact ((HL.out _).mono fun e w2 ⟨h1_, n_, h2_⟩ => ⟨h1_, by rw [h2_, World.drewN_drewN, Nat.add_assoc]; exact ⟨_, rfl⟩⟩))))
            refine wpQuiet_nil ?_
            intro _ hw'
            obtain ⟨nq, hw''⟩ := hw'
            subst hw''
            go_wp2
            go_ret
            exact ⟨rfl, _, by first | rfl | exact World.drewN_drewN _ _ _⟩
          | true =>
            cases q7 with
            | false =>
              repeat (go_big_quiet_step ((go_at_call 62; exact ((HL.out _).mono fun e w2 ⟨h1_, n_, h2_⟩ => ⟨h1_, by rw [h2_, World.drewN_drewN, Nat.add_assoc]; exact ⟨_, rfl⟩⟩))))
              refine wpQuiet_nil ?_
              intro _ hw'
              obtain ⟨nq, hw''⟩ := hw'
              subst hw''
              go_wp2
              go_ret
              exact ⟨rfl, _, by first | rfl | exact World.drewN_drewN _ _ _⟩
            | true =>
              cases q8 with
              | false =>
                repeat (go_big_quiet_step ((go_at_call 62; exact ((HL.out _).mono fun e w2 ⟨h1_, n_, h2_⟩ => ⟨h1_, by rw [h2_, World.drewN_drewN, Nat.add_assoc]; exact ⟨_, rfl⟩⟩))))
                refine wpQuiet_nil ?_
                intro _ hw'
                obtain ⟨nq, hw''⟩ := hw'
                subst hw''
                go_wp2
                go_ret
                exact ⟨rfl, _, by first | rfl | exact World.drewN_drewN _ _ _⟩
              | true =>
                cases q9 with
                | false =>
                  repeat (go_big_quiet_step ((go_at_call 62; exact ((HL.out _).mono fun e w2 ⟨h1_, n_, h2_⟩ => ⟨h1_, by rw [h2_, World.drewN_drewN, Nat.add_assoc]; exact ⟨_, rfl⟩⟩))))
                  refine wpQuiet_nil ?_
                  intro _ hw'
                  obtain ⟨nq, hw''⟩ := hw'
                  subst hw''
                  go_wp2
                  go_ret
                  exact ⟨rfl, _, by first | rfl | exact World.drewN_drewN _ _ _⟩
                | true =>
                  cases qa with
                  | false =>
                    repeat (go_big_quiet_step ((go_at_call 62; exact ((HL.out _).mono fun e w2 ⟨h1_, n_, h2_⟩ => ⟨h1_, by rw [h2_, World.drewN_drewN, Nat.add_assoc]; exact ⟨_, rfl⟩⟩))))
                    refine wpQuiet_nil ?_
                    intro _ hw'
                    obtain ⟨nq, hw''⟩ := hw'
                    subst hw''
                    go_wp2
                    go_ret
                    exact ⟨rfl, _, by first | rfl | exact World.drewN_drewN _ _ _⟩
                  | true =>
                    cases L with
                    | false =>
                      repeat (go_big_quiet_step ((go_at_call 62; exact ((HL.out _).mono fun e w2 ⟨h1_, n_, h2_⟩ => ⟨h1_, by rw [h2_, World.drewN_drewN, Nat.add_assoc]; exact ⟨_, rfl⟩⟩))))
                      refine wpQuiet_nil ?_
                      intro _ hw'
                      obtain ⟨nq, hw''⟩ := hw'
                      subst hw''
                      go_wp2
                      go_ret
                      exact ⟨rfl, _, by first | rfl | exact World.drewN_drewN _ _ _⟩
                    | true =>
                      cases qb with
                      | false =>
                        repeat (go_big_quiet_step ((go_at_call 62; exact ((HL.out _).mono fun e w2 ⟨h1_, n_, h2_⟩ => ⟨h1_, by rw [h2_, World.drewN_drewN, Nat.add_assoc]; exact ⟨_, rfl⟩⟩))))
                        refine wpQuiet_nil ?_
                        intro _ hw'
                        obtain ⟨nq, hw''⟩ := hw'
                        subst hw''
                        go_wp2
                        go_ret
                        exact ⟨rfl, _, by first | rfl | exact World.drewN_drewN _ _ _⟩
                      | true =>
                        repeat (go_big_quiet_step ((go_at_call 62; exact ((HL.out _).mono fun e w2 ⟨h1_, n_, h2_⟩ => ⟨h1_, by rw [h2_, World.drewN_drewN, Nat.add_assoc]; exact ⟨_, rfl⟩⟩))))
                        refine wpQuiet_nil ?_
                        intro _ hw'
                        obtain ⟨nq, hw''⟩ := hw'
                        subst hw''
                        go_wp2
                        go_ret
                        exact ⟨rfl, _, by first | rfl | exact World.drewN_drewN _ _ _⟩
end Go.Proofs.Ytehojohacombkaa.G
