/- The lexer's number by its contract. -/
import Derived.Test.YtehojohacombkaaLc5
namespace Go.Proofs.Ytehojohacombkaa.G
open Go.RowKit Go.Maps Go.Proofs.YtehojohacombkaaW.PrintWords Go.Proofs.YtehojohacombkaaW.PrintLast Go.Proofs.YtehojohacombkaaW.PrintMore
open Go.Proofs.Ytehojohacombkaa.Lx (run at_ num txt rmk tk tks toks isB isD isL word sign shut nWhole nPart nPow)
set_option linter.unusedVariables false
set_option linter.unusedSimpArgs false
theorem u8_all {p q : UInt8 → Bool} (h : ∀ i : Fin 256, p (UInt8.ofNat i.val) = q (UInt8.ofNat i.val)) : p = q := by
  funext b
  have := h ⟨b.toNat, b.toNat_lt⟩
  simpa using this
theorem in_minus : inSet ⟨#[45]⟩ = fun b => b == 45 := u8_all (by decide +kernel)
theorem in_digits : inSet ⟨#[48, 49, 50, 51, 52, 53, 54, 55, 56, 57]⟩ = isD := u8_all (by decide +kernel)
theorem in_zero : inSet ⟨#[48]⟩ = fun b => b == 48 := u8_all (by decide +kernel)
theorem in_dot : inSet ⟨#[46]⟩ = fun b => b == 46 := u8_all (by decide +kernel)
theorem in_e : inSet ⟨#[101, 69]⟩ = fun b => b == 101 || b == 69 := u8_all (by decide +kernel)
theorem in_pm : inSet ⟨#[43, 45]⟩ = fun b => b == 43 || b == 45 := u8_all (by decide +kernel)
theorem cls_digit : clsIs 3 = isD := u8_all (by decide +kernel)
theorem cls_blank : clsIs 2 = isB := u8_all (by decide +kernel)
theorem cls_letter : clsIs 4 = isL := u8_all (by decide +kernel)
theorem at_drop (p : UInt8 → Bool) (L : List UInt8) (a i : Nat) : at_ p (L.drop a) i = at_ p L (a + i) := by unfold at_; rw [List.getElem?_drop]
theorem nWhole_drop (L : List UInt8) (a i : Nat) : nWhole L (a + i) = a + nWhole (L.drop a) i := by
  unfold nWhole; rw [at_drop, List.drop_drop]; split <;> omega
theorem nPart_drop (L : List UInt8) (a i : Nat) : nPart L (a + i) = a + nPart (L.drop a) i := by
  unfold nPart; rw [at_drop, at_drop, List.drop_drop, show a + (i + 1) = a + i + 1 by omega]; split <;> omega
theorem nPow_drop (L : List UInt8) (a i : Nat) : nPow L (a + i) = a + nPow (L.drop a) i := by
  unfold nPow; simp only [at_drop, List.drop_drop, show a + (i + 1) = a + i + 1 by omega, show a + (i + 2) = a + i + 2 by omega]
  split
  · split
    · split <;> omega
    · split <;> omega
  · rfl
/-- The same from a place of the whole text on. -/
def numAt (L : List UInt8) (a : Nat) : Nat :=
  if at_ isD L (if at_ (fun b => b == 45) L a = true then a + 1 else a) = true then nPow L (nPart L (nWhole L (if at_ (fun b => b == 45) L a = true then a + 1 else a))) else a
theorem numAt_drop (L : List UInt8) (a : Nat) : numAt L a = a + num (L.drop a) := by
  unfold numAt num
  simp only
  have h0 : at_ (fun b => b == 45) (L.drop a) 0 = at_ (fun b => b == 45) L a := by rw [at_drop]; rfl
  rw [h0]
  generalize hm : (if at_ (fun b => b == 45) L a = true then 1 else 0) = m
  have hm' : (if at_ (fun b => b == 45) L a = true then a + 1 else a) = a + m := by rw [← hm]; split <;> omega
  rw [hm', at_drop]
  split
  · rw [nWhole_drop, nPart_drop, nPow_drop]
  · omega
theorem Lx.run_p (g : Nat) (s : ByteArray) (a c j : Int) (p : UInt8 → Bool) (hp : clsIs c = p) (hs : s.size ≤ 300) (h0 : 0 ≤ a) (h1 : a ≤ (s.size : Int)) (hj : a + ((run p ((byt s).drop a.toNat) : Nat) : Int) = j) (w0 w : World) (hB : Below w0.heap.size w0 w) (h : IsLx w0 w g s) :
    Calls Try.prog 74 #[.pointer (some ⟨g, 0, none⟩), .int .i64 a, .int .u8 c] w fun e w' => e = .returned (.int .i64 j) ∧ LxStep w0 w w' g s := by
  subst hp hj; exact Lx.run_any g s a c hs h0 h1 w0 w hB h
theorem Lx.is_p (g : Nat) (s some_ : ByteArray) (p : UInt8 → Bool) (hp : inSet some_ = p) (a : Int) (h0 : 0 ≤ a) (w0 w : World) (h : IsLx w0 w g s) :
    Calls Try.prog 84 #[.pointer (some ⟨g, 0, none⟩), .int .i64 a, .string some_] w fun e w' => e = .returned (.bool (at_ p (byt s) a.toNat)) ∧ w = w' := by
  subst hp; exact Lx.is_any g s some_ a h0 w0 w h
set_option maxRecDepth 100000 in
set_option maxHeartbeats 8000000 in
theorem Lx.number_any (g : Nat) (s : ByteArray) (a : Int) (hs : s.size ≤ 300) (h0 : 0 ≤ a) (h1 : a < (s.size : Int)) (w0 w : World) (hB : Below w0.heap.size w0 w) (h : IsLx w0 w g s) :
    Calls Try.prog 77 #[.pointer (some ⟨g, 0, none⟩), .int .i64 a] w fun e w' => e = .returned (.int .i64 ((numAt (byt s) a.toNat : Nat) : Int)) ∧ LxStep w0 w w' g s := by
  have HI := Aside0.mk h
  have HB := Aside0.mk hB
  clear h hB
  obtain ⟨n, hn⟩ : ∃ n, numAt (byt s) a.toNat = n := ⟨_, rfl⟩
  rw [hn]
  have HN := Aside0.mk hn
  clear hn
  have a1 : wrap64 (a + 1) = a + 1 := by unfold wrap64; omega
  go_enter Try.func77, Try.ntmps77
  go_upto_if 10 with (go_at_call 84; refine (Lx.is_p g s _ _ in_minus a h0 w0 _ HI.out).mono ?_; rintro e w' ⟨rfl, rfl⟩)
  go_cut [5] (fun v5 wc => ∃ j : Int, v5 = .int .i64 j ∧ Aside0 (j.toNat = (if at_ (fun b => b == 45) (byt s) a.toNat = true then a.toNat + 1 else a.toNat) ∧ (0 ≤ j ∧ j ≤ (s.size : Int))) ∧ w = wc)
  case first =>
    by_cases c : at_ (fun b => b == 45) (byt s) a.toNat = true
    · rw [c]
      go_wp2
      go_meet
      case rel => exact ⟨a + 1, by first | rfl | rw [a1], ⟨by rw [if_pos c]; omega, by omega⟩, rfl⟩
    · rw [Bool.eq_false_iff.mpr c]
      go_wp2
      go_meet
      case rel => exact ⟨a, rfl, ⟨by rw [if_neg c], by omega⟩, rfl⟩
  case rest =>
    obtain ⟨j, rfl, HJ, rfl⟩ := hcut
    obtain ⟨hj, hj0⟩ := HJ.out
    have hn := HN.out
    unfold numAt at hn
    rw [← hj] at hn
    have HS := Aside0.mk (LxStep.refl HI.out HB.out)
    by_cases d : at_ isD (byt s) j.toNat = true
    · rw [if_pos d] at hn
      have HN2 := Aside0.mk hn
      obtain ⟨wl, wu⟩ := Go.Proofs.Ytehojohacombkaa.Lx.nWhole_le d
      rw [byt_len] at wu
      have D := Aside0.mk d
      clear hn hj HJ HN
      have j1 : wrap64 (j + 1) = j + 1 := by unfold wrap64; omega
      go_upto_if 20 with (first | (go_at_call 84; (with_reducible refine (Lx.is_p g s _ _ in_digits j hj0.1 w0 _ HI.out).mono ?_); rintro e w' ⟨rfl, rfl⟩; rw [D.out]) | (go_at_call 84; (with_reducible refine (Lx.is_p g s _ _ in_zero j hj0.1 w0 _ HI.out).mono ?_); rintro e w' ⟨rfl, rfl⟩))
      go_cut [5] (fun v5 wc => ∃ j2 : Int, v5 = .int .i64 j2 ∧ Aside0 (j2.toNat = nWhole (byt s) j.toNat ∧ 0 ≤ j2 ∧ j2 ≤ (s.size : Int)) ∧ Aside0 (LxStep w0 w wc g s))
      case first =>
        by_cases z : at_ (fun b => b == 48) (byt s) j.toNat = true
        · rw [z]
          go_wp2
          go_meet
          case rel => exact ⟨j + 1, by first | rfl | rw [j1], ⟨by unfold nWhole; rw [if_pos z]; omega, by omega, by have := Go.Proofs.Ytehojohacombkaa.Lx.at_lt D.out; rw [byt_len] at this; omega⟩, HS⟩
        · rw [Bool.eq_false_iff.mpr z]
          obtain ⟨j9, hj9⟩ : ∃ j9, j + ((run isD ((byt s).drop j.toNat) : Nat) : Int) = j9 := ⟨_, rfl⟩
          have Hj9 := Aside0.mk hj9
          clear hj9
          have lt_ := Go.Proofs.Ytehojohacombkaa.Lx.at_lt D.out
          rw [byt_len] at lt_
          go_wp2_with (go_at_call 74; (with_reducible refine (Lx.run_p g s j 3 j9 isD cls_digit hs (by omega) (by omega) Hj9.out w0 _ HS.out.below HS.out.is).mono ?_); rintro e w' ⟨rfl, hst⟩; have n0_ := Aside0.mk (HS.out.trans hst); clear HS hst; have HS := n0_; clear n0_)
          go_meet
          case rel => exact ⟨j9, rfl, ⟨by have := Hj9.out; unfold nWhole; rw [if_neg z]; omega, by have := Hj9.out; omega, by have := Hj9.out; unfold nWhole at wu; rw [if_neg z] at wu; omega⟩, HS⟩
      case rest =>
        clear HS
        obtain ⟨j2, rfl, HJ2, HS⟩ := hcut
        obtain ⟨e2, l2, u2⟩ := HJ2.out
        have hn2 := HN2.out
        rw [← e2] at hn2
        have HN3 := Aside0.mk hn2
        clear hn2 e2 HJ2 HN2 wl wu D d HI HB
        have i1 : wrap64 (j2 + 1) = j2 + 1 := by unfold wrap64; omega
        have t1 : (j2 + 1).toNat = j2.toNat + 1 := by omega
        have T1 := Aside0.mk t1
        clear t1
        by_cases hd : at_ (fun b => b == 46) (byt s) j2.toNat = true
        · have lt0_ := Go.Proofs.Ytehojohacombkaa.Lx.at_lt hd
          rw [byt_len] at lt0_
          have HD := Aside0.mk hd
          clear hd
          by_cases hg : at_ isD (byt s) (j2 + 1).toNat = true
          · have ltg_ := Go.Proofs.Ytehojohacombkaa.Lx.at_lt hg
            rw [byt_len] at ltg_
            have HG := Aside0.mk hg
            clear hg
            obtain ⟨j3, hj3⟩ : ∃ j3, j2 + 1 + ((run isD ((byt s).drop (j2 + 1).toNat) : Nat) : Int) = j3 := ⟨_, rfl⟩
            have Hj3 := Aside0.mk hj3
            have hle3 := Go.Proofs.Ytehojohacombkaa.Lx.run_drop_le isD (byt s) (j2 + 1).toNat (by rw [byt_len]; omega)
            rw [byt_len] at hle3
            have l3 : 0 ≤ j3 := by omega
            have u3 : j3 ≤ (s.size : Int) := by omega
            clear hj3 hle3
            have k1 : (j3 + 1).toNat = j3.toNat + 1 := by omega
            have k2 : (j3 + 1 + 1).toNat = j3.toNat + 2 := by omega
            have K1 := Aside0.mk k1
            have K2 := Aside0.mk k2
            clear k1 k2
            by_cases he : at_ (fun b => b == 101 || b == 69) (byt s) j3.toNat = true
            · have lt1_ := Go.Proofs.Ytehojohacombkaa.Lx.at_lt he
              rw [byt_len] at lt1_
              have HE := Aside0.mk he
              clear he
              by_cases hp : at_ (fun b => b == 43 || b == 45) (byt s) (j3 + 1).toNat = true
              · have lt2_ := Go.Proofs.Ytehojohacombkaa.Lx.at_lt hp
                rw [byt_len] at lt2_
                have HP := Aside0.mk hp
                clear hp
                by_cases hq : at_ isD (byt s) (j3 + 1 + 1).toNat = true
                · have lt3_ := Go.Proofs.Ytehojohacombkaa.Lx.at_lt hq
                  rw [byt_len] at lt3_
                  have HQ := Aside0.mk hq
                  obtain ⟨j4, hj4⟩ : ∃ j4, j3 + 1 + 1 + ((run isD ((byt s).drop (j3 + 1 + 1).toNat) : Nat) : Int) = j4 := ⟨_, rfl⟩
                  have Hj4 := Aside0.mk hj4
                  clear hj4 hq
                  go_wp2_with (first | (go_at_call 84; (with_reducible refine (Lx.is_p g s _ _ in_dot j2 (by omega) w0 _ HS.out.is).mono ?_); rintro e w' ⟨rfl, rfl⟩; rw [HD.out]) | (go_at_call 84; (with_reducible refine (Lx.is_p g s _ _ in_digits (j2 + 1) (by omega) w0 _ HS.out.is).mono ?_); rintro e w' ⟨rfl, rfl⟩; rw [HG.out]) | (go_at_call 74; (with_reducible refine (Lx.run_p g s (j2 + 1) 3 j3 isD cls_digit hs (by omega) (by omega) Hj3.out w0 _ HS.out.below HS.out.is).mono ?_); rintro e w' ⟨rfl, hst⟩; have n0_ := Aside0.mk (HS.out.trans hst); clear HS hst; have HS := n0_; clear n0_) | (go_at_call 84; (with_reducible refine (Lx.is_p g s _ _ in_e j3 (by omega) w0 _ HS.out.is).mono ?_); rintro e w' ⟨rfl, rfl⟩; rw [HE.out]) | (go_at_call 84; (with_reducible refine (Lx.is_p g s _ _ in_pm (j3 + 1) (by omega) w0 _ HS.out.is).mono ?_); rintro e w' ⟨rfl, rfl⟩; rw [HP.out]) | (go_at_call 84; (with_reducible refine (Lx.is_p g s _ _ in_digits (j3 + 1 + 1) (by omega) w0 _ HS.out.is).mono ?_); rintro e w' ⟨rfl, rfl⟩; rw [HQ.out]) | (go_at_call 74; (with_reducible refine (Lx.run_p g s (j3 + 1 + 1) 3 j4 isD cls_digit hs (by omega) (by omega) Hj4.out w0 _ HS.out.below HS.out.is).mono ?_); rintro e w' ⟨rfl, hst⟩; have n0_ := Aside0.mk (HS.out.trans hst); clear HS hst; have HS := n0_; clear n0_))
                  go_ret
                  exact ⟨congrArg (fun v => Ending.returned (.int .i64 v)) (show j4 = (n : Int) by have hn := HN3.out; have t1 := T1.out; have h3 := Hj3.out; unfold nPart at hn; rw [← t1, if_pos ⟨HD.out, HG.out⟩, show (j2 + 1).toNat + run isD ((byt s).drop (j2 + 1).toNat) = j3.toNat by omega] at hn; unfold nPow at hn; rw [if_pos HE.out, ← K1.out, if_pos HP.out, ← K2.out, if_pos HQ.out] at hn; have := K1.out; have := K2.out; have := Hj4.out; omega), HS.out⟩
                · have HQ := Aside0.mk (Bool.eq_false_iff.mpr hq)
                  clear hq
                  go_wp2_with (first | (go_at_call 84; (with_reducible refine (Lx.is_p g s _ _ in_dot j2 (by omega) w0 _ HS.out.is).mono ?_); rintro e w' ⟨rfl, rfl⟩; rw [HD.out]) | (go_at_call 84; (with_reducible refine (Lx.is_p g s _ _ in_digits (j2 + 1) (by omega) w0 _ HS.out.is).mono ?_); rintro e w' ⟨rfl, rfl⟩; rw [HG.out]) | (go_at_call 74; (with_reducible refine (Lx.run_p g s (j2 + 1) 3 j3 isD cls_digit hs (by omega) (by omega) Hj3.out w0 _ HS.out.below HS.out.is).mono ?_); rintro e w' ⟨rfl, hst⟩; have n0_ := Aside0.mk (HS.out.trans hst); clear HS hst; have HS := n0_; clear n0_) | (go_at_call 84; (with_reducible refine (Lx.is_p g s _ _ in_e j3 (by omega) w0 _ HS.out.is).mono ?_); rintro e w' ⟨rfl, rfl⟩; rw [HE.out]) | (go_at_call 84; (with_reducible refine (Lx.is_p g s _ _ in_pm (j3 + 1) (by omega) w0 _ HS.out.is).mono ?_); rintro e w' ⟨rfl, rfl⟩; rw [HP.out]) | (go_at_call 84; (with_reducible refine (Lx.is_p g s _ _ in_digits (j3 + 1 + 1) (by omega) w0 _ HS.out.is).mono ?_); rintro e w' ⟨rfl, rfl⟩; rw [HQ.out]))
                  go_ret
                  exact ⟨congrArg (fun v => Ending.returned (.int .i64 v)) (show j3 = (n : Int) by have hn := HN3.out; have t1 := T1.out; have h3 := Hj3.out; unfold nPart at hn; rw [← t1, if_pos ⟨HD.out, HG.out⟩, show (j2 + 1).toNat + run isD ((byt s).drop (j2 + 1).toNat) = j3.toNat by omega] at hn; unfold nPow at hn; rw [if_pos HE.out, ← K1.out, if_pos HP.out, ← K2.out, if_neg (by rw [HQ.out]; decide)] at hn; have := K1.out; have := K2.out; omega), HS.out⟩
              · have HP := Aside0.mk (Bool.eq_false_iff.mpr hp)
                clear hp
                by_cases hq : at_ isD (byt s) (j3 + 1).toNat = true
                · have lt3_ := Go.Proofs.Ytehojohacombkaa.Lx.at_lt hq
                  rw [byt_len] at lt3_
                  have HQ := Aside0.mk hq
                  obtain ⟨j4, hj4⟩ : ∃ j4, j3 + 1 + ((run isD ((byt s).drop (j3 + 1).toNat) : Nat) : Int) = j4 := ⟨_, rfl⟩
                  have Hj4 := Aside0.mk hj4
                  clear hj4 hq
                  go_wp2_with (first | (go_at_call 84; (with_reducible refine (Lx.is_p g s _ _ in_dot j2 (by omega) w0 _ HS.out.is).mono ?_); rintro e w' ⟨rfl, rfl⟩; rw [HD.out]) | (go_at_call 84; (with_reducible refine (Lx.is_p g s _ _ in_digits (j2 + 1) (by omega) w0 _ HS.out.is).mono ?_); rintro e w' ⟨rfl, rfl⟩; rw [HG.out]) | (go_at_call 74; (with_reducible refine (Lx.run_p g s (j2 + 1) 3 j3 isD cls_digit hs (by omega) (by omega) Hj3.out w0 _ HS.out.below HS.out.is).mono ?_); rintro e w' ⟨rfl, hst⟩; have n0_ := Aside0.mk (HS.out.trans hst); clear HS hst; have HS := n0_; clear n0_) | (go_at_call 84; (with_reducible refine (Lx.is_p g s _ _ in_e j3 (by omega) w0 _ HS.out.is).mono ?_); rintro e w' ⟨rfl, rfl⟩; rw [HE.out]) | (go_at_call 84; (with_reducible refine (Lx.is_p g s _ _ in_pm (j3 + 1) (by omega) w0 _ HS.out.is).mono ?_); rintro e w' ⟨rfl, rfl⟩; rw [HP.out]) | (go_at_call 84; (with_reducible refine (Lx.is_p g s _ _ in_digits (j3 + 1) (by omega) w0 _ HS.out.is).mono ?_); rintro e w' ⟨rfl, rfl⟩; rw [HQ.out]) | (go_at_call 74; (with_reducible refine (Lx.run_p g s (j3 + 1) 3 j4 isD cls_digit hs (by omega) (by omega) Hj4.out w0 _ HS.out.below HS.out.is).mono ?_); rintro e w' ⟨rfl, hst⟩; have n0_ := Aside0.mk (HS.out.trans hst); clear HS hst; have HS := n0_; clear n0_))
                  go_ret
                  exact ⟨congrArg (fun v => Ending.returned (.int .i64 v)) (show j4 = (n : Int) by have hn := HN3.out; have t1 := T1.out; have h3 := Hj3.out; unfold nPart at hn; rw [← t1, if_pos ⟨HD.out, HG.out⟩, show (j2 + 1).toNat + run isD ((byt s).drop (j2 + 1).toNat) = j3.toNat by omega] at hn; unfold nPow at hn; rw [if_pos HE.out, ← K1.out, if_neg (by rw [HP.out]; decide), if_pos HQ.out] at hn; have := K1.out; have := K2.out; have := Hj4.out; omega), HS.out⟩
                · have HQ := Aside0.mk (Bool.eq_false_iff.mpr hq)
                  clear hq
                  go_wp2_with (first | (go_at_call 84; (with_reducible refine (Lx.is_p g s _ _ in_dot j2 (by omega) w0 _ HS.out.is).mono ?_); rintro e w' ⟨rfl, rfl⟩; rw [HD.out]) | (go_at_call 84; (with_reducible refine (Lx.is_p g s _ _ in_digits (j2 + 1) (by omega) w0 _ HS.out.is).mono ?_); rintro e w' ⟨rfl, rfl⟩; rw [HG.out]) | (go_at_call 74; (with_reducible refine (Lx.run_p g s (j2 + 1) 3 j3 isD cls_digit hs (by omega) (by omega) Hj3.out w0 _ HS.out.below HS.out.is).mono ?_); rintro e w' ⟨rfl, hst⟩; have n0_ := Aside0.mk (HS.out.trans hst); clear HS hst; have HS := n0_; clear n0_) | (go_at_call 84; (with_reducible refine (Lx.is_p g s _ _ in_e j3 (by omega) w0 _ HS.out.is).mono ?_); rintro e w' ⟨rfl, rfl⟩; rw [HE.out]) | (go_at_call 84; (with_reducible refine (Lx.is_p g s _ _ in_pm (j3 + 1) (by omega) w0 _ HS.out.is).mono ?_); rintro e w' ⟨rfl, rfl⟩; rw [HP.out]) | (go_at_call 84; (with_reducible refine (Lx.is_p g s _ _ in_digits (j3 + 1) (by omega) w0 _ HS.out.is).mono ?_); rintro e w' ⟨rfl, rfl⟩; rw [HQ.out]))
                  go_ret
                  exact ⟨congrArg (fun v => Ending.returned (.int .i64 v)) (show j3 = (n : Int) by have hn := HN3.out; have t1 := T1.out; have h3 := Hj3.out; unfold nPart at hn; rw [← t1, if_pos ⟨HD.out, HG.out⟩, show (j2 + 1).toNat + run isD ((byt s).drop (j2 + 1).toNat) = j3.toNat by omega] at hn; unfold nPow at hn; rw [if_pos HE.out, ← K1.out, if_neg (by rw [HP.out]; decide), if_neg (by rw [HQ.out]; decide)] at hn; have := K1.out; have := K2.out; omega), HS.out⟩
            · have HE := Aside0.mk (Bool.eq_false_iff.mpr he)
              clear he
              go_wp2_with (first | (go_at_call 84; (with_reducible refine (Lx.is_p g s _ _ in_dot j2 (by omega) w0 _ HS.out.is).mono ?_); rintro e w' ⟨rfl, rfl⟩; rw [HD.out]) | (go_at_call 84; (with_reducible refine (Lx.is_p g s _ _ in_digits (j2 + 1) (by omega) w0 _ HS.out.is).mono ?_); rintro e w' ⟨rfl, rfl⟩; rw [HG.out]) | (go_at_call 74; (with_reducible refine (Lx.run_p g s (j2 + 1) 3 j3 isD cls_digit hs (by omega) (by omega) Hj3.out w0 _ HS.out.below HS.out.is).mono ?_); rintro e w' ⟨rfl, hst⟩; have n0_ := Aside0.mk (HS.out.trans hst); clear HS hst; have HS := n0_; clear n0_) | (go_at_call 84; (with_reducible refine (Lx.is_p g s _ _ in_e j3 (by omega) w0 _ HS.out.is).mono ?_); rintro e w' ⟨rfl, rfl⟩; rw [HE.out]))
              go_ret
              exact ⟨congrArg (fun v => Ending.returned (.int .i64 v)) (show j3 = (n : Int) by have hn := HN3.out; have t1 := T1.out; have h3 := Hj3.out; unfold nPart at hn; rw [← t1, if_pos ⟨HD.out, HG.out⟩, show (j2 + 1).toNat + run isD ((byt s).drop (j2 + 1).toNat) = j3.toNat by omega] at hn; unfold nPow at hn; rw [if_neg (by rw [HE.out]; decide)] at hn; omega), HS.out⟩
          · have HG := Aside0.mk (Bool.eq_false_iff.mpr hg)
            clear hg
            have k1 : (j2 + 1).toNat = j2.toNat + 1 := by omega
            have k2 : (j2 + 1 + 1).toNat = j2.toNat + 2 := by omega
            have K1 := Aside0.mk k1
            have K2 := Aside0.mk k2
            clear k1 k2
            by_cases he : at_ (fun b => b == 101 || b == 69) (byt s) j2.toNat = true
            · have lt1_ := Go.Proofs.Ytehojohacombkaa.Lx.at_lt he
              rw [byt_len] at lt1_
              have HE := Aside0.mk he
              clear he
              by_cases hp : at_ (fun b => b == 43 || b == 45) (byt s) (j2 + 1).toNat = true
              · have lt2_ := Go.Proofs.Ytehojohacombkaa.Lx.at_lt hp
                rw [byt_len] at lt2_
                have HP := Aside0.mk hp
                clear hp
                by_cases hq : at_ isD (byt s) (j2 + 1 + 1).toNat = true
                · have lt3_ := Go.Proofs.Ytehojohacombkaa.Lx.at_lt hq
                  rw [byt_len] at lt3_
                  have HQ := Aside0.mk hq
                  obtain ⟨j4, hj4⟩ : ∃ j4, j2 + 1 + 1 + ((run isD ((byt s).drop (j2 + 1 + 1).toNat) : Nat) : Int) = j4 := ⟨_, rfl⟩
                  have Hj4 := Aside0.mk hj4
                  clear hj4 hq
                  go_wp2_with (first | (go_at_call 84; (with_reducible refine (Lx.is_p g s _ _ in_dot j2 (by omega) w0 _ HS.out.is).mono ?_); rintro e w' ⟨rfl, rfl⟩; rw [HD.out]) | (go_at_call 84; (with_reducible refine (Lx.is_p g s _ _ in_digits (j2 + 1) (by omega) w0 _ HS.out.is).mono ?_); rintro e w' ⟨rfl, rfl⟩; rw [HG.out]) | (go_at_call 84; (with_reducible refine (Lx.is_p g s _ _ in_e j2 (by omega) w0 _ HS.out.is).mono ?_); rintro e w' ⟨rfl, rfl⟩; rw [HE.out]) | (go_at_call 84; (with_reducible refine (Lx.is_p g s _ _ in_pm (j2 + 1) (by omega) w0 _ HS.out.is).mono ?_); rintro e w' ⟨rfl, rfl⟩; rw [HP.out]) | (go_at_call 84; (with_reducible refine (Lx.is_p g s _ _ in_digits (j2 + 1 + 1) (by omega) w0 _ HS.out.is).mono ?_); rintro e w' ⟨rfl, rfl⟩; rw [HQ.out]) | (go_at_call 74; (with_reducible refine (Lx.run_p g s (j2 + 1 + 1) 3 j4 isD cls_digit hs (by omega) (by omega) Hj4.out w0 _ HS.out.below HS.out.is).mono ?_); rintro e w' ⟨rfl, hst⟩; have n0_ := Aside0.mk (HS.out.trans hst); clear HS hst; have HS := n0_; clear n0_))
                  go_ret
                  exact ⟨congrArg (fun v => Ending.returned (.int .i64 v)) (show j4 = (n : Int) by have hn := HN3.out; have t1 := T1.out; unfold nPart at hn; rw [← t1, if_neg (by rw [HG.out]; simp)] at hn; unfold nPow at hn; rw [if_pos HE.out, ← K1.out, if_pos HP.out, ← K2.out, if_pos HQ.out] at hn; have := K1.out; have := K2.out; have := Hj4.out; omega), HS.out⟩
                · have HQ := Aside0.mk (Bool.eq_false_iff.mpr hq)
                  clear hq
                  go_wp2_with (first | (go_at_call 84; (with_reducible refine (Lx.is_p g s _ _ in_dot j2 (by omega) w0 _ HS.out.is).mono ?_); rintro e w' ⟨rfl, rfl⟩; rw [HD.out]) | (go_at_call 84; (with_reducible refine (Lx.is_p g s _ _ in_digits (j2 + 1) (by omega) w0 _ HS.out.is).mono ?_); rintro e w' ⟨rfl, rfl⟩; rw [HG.out]) | (go_at_call 84; (with_reducible refine (Lx.is_p g s _ _ in_e j2 (by omega) w0 _ HS.out.is).mono ?_); rintro e w' ⟨rfl, rfl⟩; rw [HE.out]) | (go_at_call 84; (with_reducible refine (Lx.is_p g s _ _ in_pm (j2 + 1) (by omega) w0 _ HS.out.is).mono ?_); rintro e w' ⟨rfl, rfl⟩; rw [HP.out]) | (go_at_call 84; (with_reducible refine (Lx.is_p g s _ _ in_digits (j2 + 1 + 1) (by omega) w0 _ HS.out.is).mono ?_); rintro e w' ⟨rfl, rfl⟩; rw [HQ.out]))
                  go_ret
                  exact ⟨congrArg (fun v => Ending.returned (.int .i64 v)) (show j2 = (n : Int) by have hn := HN3.out; have t1 := T1.out; unfold nPart at hn; rw [← t1, if_neg (by rw [HG.out]; simp)] at hn; unfold nPow at hn; rw [if_pos HE.out, ← K1.out, if_pos HP.out, ← K2.out, if_neg (by rw [HQ.out]; decide)] at hn; have := K1.out; have := K2.out; omega), HS.out⟩
              · have HP := Aside0.mk (Bool.eq_false_iff.mpr hp)
                clear hp
                by_cases hq : at_ isD (byt s) (j2 + 1).toNat = true
                · have lt3_ := Go.Proofs.Ytehojohacombkaa.Lx.at_lt hq
                  rw [byt_len] at lt3_
                  have HQ := Aside0.mk hq
                  obtain ⟨j4, hj4⟩ : ∃ j4, j2 + 1 + ((run isD ((byt s).drop (j2 + 1).toNat) : Nat) : Int) = j4 := ⟨_, rfl⟩
                  have Hj4 := Aside0.mk hj4
                  clear hj4 hq
                  exact absurd (HG.out.symm.trans HQ.out) (by decide)
                · have HQ := Aside0.mk (Bool.eq_false_iff.mpr hq)
                  clear hq
                  go_wp2_with (first | (go_at_call 84; (with_reducible refine (Lx.is_p g s _ _ in_dot j2 (by omega) w0 _ HS.out.is).mono ?_); rintro e w' ⟨rfl, rfl⟩; rw [HD.out]) | (go_at_call 84; (with_reducible refine (Lx.is_p g s _ _ in_digits (j2 + 1) (by omega) w0 _ HS.out.is).mono ?_); rintro e w' ⟨rfl, rfl⟩; rw [HG.out]) | (go_at_call 84; (with_reducible refine (Lx.is_p g s _ _ in_e j2 (by omega) w0 _ HS.out.is).mono ?_); rintro e w' ⟨rfl, rfl⟩; rw [HE.out]) | (go_at_call 84; (with_reducible refine (Lx.is_p g s _ _ in_pm (j2 + 1) (by omega) w0 _ HS.out.is).mono ?_); rintro e w' ⟨rfl, rfl⟩; rw [HP.out]) | (go_at_call 84; (with_reducible refine (Lx.is_p g s _ _ in_digits (j2 + 1) (by omega) w0 _ HS.out.is).mono ?_); rintro e w' ⟨rfl, rfl⟩; rw [HQ.out]))
                  go_ret
                  exact ⟨congrArg (fun v => Ending.returned (.int .i64 v)) (show j2 = (n : Int) by have hn := HN3.out; have t1 := T1.out; unfold nPart at hn; rw [← t1, if_neg (by rw [HG.out]; simp)] at hn; unfold nPow at hn; rw [if_pos HE.out, ← K1.out, if_neg (by rw [HP.out]; decide), if_neg (by rw [HQ.out]; decide)] at hn; have := K1.out; have := K2.out; omega), HS.out⟩
            · have HE := Aside0.mk (Bool.eq_false_iff.mpr he)
              clear he
              go_wp2_with (first | (go_at_call 84; (with_reducible refine (Lx.is_p g s _ _ in_dot j2 (by omega) w0 _ HS.out.is).mono ?_); rintro e w' ⟨rfl, rfl⟩; rw [HD.out]) | (go_at_call 84; (with_reducible refine (Lx.is_p g s _ _ in_digits (j2 + 1) (by omega) w0 _ HS.out.is).mono ?_); rintro e w' ⟨rfl, rfl⟩; rw [HG.out]) | (go_at_call 84; (with_reducible refine (Lx.is_p g s _ _ in_e j2 (by omega) w0 _ HS.out.is).mono ?_); rintro e w' ⟨rfl, rfl⟩; rw [HE.out]))
              go_ret
              exact ⟨congrArg (fun v => Ending.returned (.int .i64 v)) (show j2 = (n : Int) by have hn := HN3.out; have t1 := T1.out; unfold nPart at hn; rw [← t1, if_neg (by rw [HG.out]; simp)] at hn; unfold nPow at hn; rw [if_neg (by rw [HE.out]; decide)] at hn; omega), HS.out⟩
        · have HD := Aside0.mk (Bool.eq_false_iff.mpr hd)
          clear hd
          have k1 : (j2 + 1).toNat = j2.toNat + 1 := by omega
          have k2 : (j2 + 1 + 1).toNat = j2.toNat + 2 := by omega
          have K1 := Aside0.mk k1
          have K2 := Aside0.mk k2
          clear k1 k2
          by_cases he : at_ (fun b => b == 101 || b == 69) (byt s) j2.toNat = true
          · have lt1_ := Go.Proofs.Ytehojohacombkaa.Lx.at_lt he
            rw [byt_len] at lt1_
            have HE := Aside0.mk he
            clear he
            by_cases hp : at_ (fun b => b == 43 || b == 45) (byt s) (j2 + 1).toNat = true
            · have lt2_ := Go.Proofs.Ytehojohacombkaa.Lx.at_lt hp
              rw [byt_len] at lt2_
              have HP := Aside0.mk hp
              clear hp
              by_cases hq : at_ isD (byt s) (j2 + 1 + 1).toNat = true
              · have lt3_ := Go.Proofs.Ytehojohacombkaa.Lx.at_lt hq
                rw [byt_len] at lt3_
                have HQ := Aside0.mk hq
                obtain ⟨j4, hj4⟩ : ∃ j4, j2 + 1 + 1 + ((run isD ((byt s).drop (j2 + 1 + 1).toNat) : Nat) : Int) = j4 := ⟨_, rfl⟩
                have Hj4 := Aside0.mk hj4
                clear hj4 hq
                go_wp2_with (first | (go_at_call 84; (with_reducible refine (Lx.is_p g s _ _ in_dot j2 (by omega) w0 _ HS.out.is).mono ?_); rintro e w' ⟨rfl, rfl⟩; rw [HD.out]) | (go_at_call 84; (with_reducible refine (Lx.is_p g s _ _ in_e j2 (by omega) w0 _ HS.out.is).mono ?_); rintro e w' ⟨rfl, rfl⟩; rw [HE.out]) | (go_at_call 84; (with_reducible refine (Lx.is_p g s _ _ in_pm (j2 + 1) (by omega) w0 _ HS.out.is).mono ?_); rintro e w' ⟨rfl, rfl⟩; rw [HP.out]) | (go_at_call 84; (with_reducible refine (Lx.is_p g s _ _ in_digits (j2 + 1 + 1) (by omega) w0 _ HS.out.is).mono ?_); rintro e w' ⟨rfl, rfl⟩; rw [HQ.out]) | (go_at_call 74; (with_reducible refine (Lx.run_p g s (j2 + 1 + 1) 3 j4 isD cls_digit hs (by omega) (by omega) Hj4.out w0 _ HS.out.below HS.out.is).mono ?_); rintro e w' ⟨rfl, hst⟩; have n0_ := Aside0.mk (HS.out.trans hst); clear HS hst; have HS := n0_; clear n0_))
                go_ret
                exact ⟨congrArg (fun v => Ending.returned (.int .i64 v)) (show j4 = (n : Int) by have hn := HN3.out; have t1 := T1.out; unfold nPart at hn; rw [if_neg (by rw [HD.out]; simp)] at hn; unfold nPow at hn; rw [if_pos HE.out, ← K1.out, if_pos HP.out, ← K2.out, if_pos HQ.out] at hn; have := K1.out; have := K2.out; have := Hj4.out; omega), HS.out⟩
              · have HQ := Aside0.mk (Bool.eq_false_iff.mpr hq)
                clear hq
                go_wp2_with (first | (go_at_call 84; (with_reducible refine (Lx.is_p g s _ _ in_dot j2 (by omega) w0 _ HS.out.is).mono ?_); rintro e w' ⟨rfl, rfl⟩; rw [HD.out]) | (go_at_call 84; (with_reducible refine (Lx.is_p g s _ _ in_e j2 (by omega) w0 _ HS.out.is).mono ?_); rintro e w' ⟨rfl, rfl⟩; rw [HE.out]) | (go_at_call 84; (with_reducible refine (Lx.is_p g s _ _ in_pm (j2 + 1) (by omega) w0 _ HS.out.is).mono ?_); rintro e w' ⟨rfl, rfl⟩; rw [HP.out]) | (go_at_call 84; (with_reducible refine (Lx.is_p g s _ _ in_digits (j2 + 1 + 1) (by omega) w0 _ HS.out.is).mono ?_); rintro e w' ⟨rfl, rfl⟩; rw [HQ.out]))
                go_ret
                exact ⟨congrArg (fun v => Ending.returned (.int .i64 v)) (show j2 = (n : Int) by have hn := HN3.out; have t1 := T1.out; unfold nPart at hn; rw [if_neg (by rw [HD.out]; simp)] at hn; unfold nPow at hn; rw [if_pos HE.out, ← K1.out, if_pos HP.out, ← K2.out, if_neg (by rw [HQ.out]; decide)] at hn; have := K1.out; have := K2.out; omega), HS.out⟩
            · have HP := Aside0.mk (Bool.eq_false_iff.mpr hp)
              clear hp
              by_cases hq : at_ isD (byt s) (j2 + 1).toNat = true
              · have lt3_ := Go.Proofs.Ytehojohacombkaa.Lx.at_lt hq
                rw [byt_len] at lt3_
                have HQ := Aside0.mk hq
                obtain ⟨j4, hj4⟩ : ∃ j4, j2 + 1 + ((run isD ((byt s).drop (j2 + 1).toNat) : Nat) : Int) = j4 := ⟨_, rfl⟩
                have Hj4 := Aside0.mk hj4
                clear hj4 hq
                go_wp2_with (first | (go_at_call 84; (with_reducible refine (Lx.is_p g s _ _ in_dot j2 (by omega) w0 _ HS.out.is).mono ?_); rintro e w' ⟨rfl, rfl⟩; rw [HD.out]) | (go_at_call 84; (with_reducible refine (Lx.is_p g s _ _ in_e j2 (by omega) w0 _ HS.out.is).mono ?_); rintro e w' ⟨rfl, rfl⟩; rw [HE.out]) | (go_at_call 84; (with_reducible refine (Lx.is_p g s _ _ in_pm (j2 + 1) (by omega) w0 _ HS.out.is).mono ?_); rintro e w' ⟨rfl, rfl⟩; rw [HP.out]) | (go_at_call 84; (with_reducible refine (Lx.is_p g s _ _ in_digits (j2 + 1) (by omega) w0 _ HS.out.is).mono ?_); rintro e w' ⟨rfl, rfl⟩; rw [HQ.out]) | (go_at_call 74; (with_reducible refine (Lx.run_p g s (j2 + 1) 3 j4 isD cls_digit hs (by omega) (by omega) Hj4.out w0 _ HS.out.below HS.out.is).mono ?_); rintro e w' ⟨rfl, hst⟩; have n0_ := Aside0.mk (HS.out.trans hst); clear HS hst; have HS := n0_; clear n0_))
                go_ret
                exact ⟨congrArg (fun v => Ending.returned (.int .i64 v)) (show j4 = (n : Int) by have hn := HN3.out; have t1 := T1.out; unfold nPart at hn; rw [if_neg (by rw [HD.out]; simp)] at hn; unfold nPow at hn; rw [if_pos HE.out, ← K1.out, if_neg (by rw [HP.out]; decide), if_pos HQ.out] at hn; have := K1.out; have := K2.out; have := Hj4.out; omega), HS.out⟩
              · have HQ := Aside0.mk (Bool.eq_false_iff.mpr hq)
                clear hq
                go_wp2_with (first | (go_at_call 84; (with_reducible refine (Lx.is_p g s _ _ in_dot j2 (by omega) w0 _ HS.out.is).mono ?_); rintro e w' ⟨rfl, rfl⟩; rw [HD.out]) | (go_at_call 84; (with_reducible refine (Lx.is_p g s _ _ in_e j2 (by omega) w0 _ HS.out.is).mono ?_); rintro e w' ⟨rfl, rfl⟩; rw [HE.out]) | (go_at_call 84; (with_reducible refine (Lx.is_p g s _ _ in_pm (j2 + 1) (by omega) w0 _ HS.out.is).mono ?_); rintro e w' ⟨rfl, rfl⟩; rw [HP.out]) | (go_at_call 84; (with_reducible refine (Lx.is_p g s _ _ in_digits (j2 + 1) (by omega) w0 _ HS.out.is).mono ?_); rintro e w' ⟨rfl, rfl⟩; rw [HQ.out]))
                go_ret
                exact ⟨congrArg (fun v => Ending.returned (.int .i64 v)) (show j2 = (n : Int) by have hn := HN3.out; have t1 := T1.out; unfold nPart at hn; rw [if_neg (by rw [HD.out]; simp)] at hn; unfold nPow at hn; rw [if_pos HE.out, ← K1.out, if_neg (by rw [HP.out]; decide), if_neg (by rw [HQ.out]; decide)] at hn; have := K1.out; have := K2.out; omega), HS.out⟩
          · have HE := Aside0.mk (Bool.eq_false_iff.mpr he)
            clear he
            go_wp2_with (first | (go_at_call 84; (with_reducible refine (Lx.is_p g s _ _ in_dot j2 (by omega) w0 _ HS.out.is).mono ?_); rintro e w' ⟨rfl, rfl⟩; rw [HD.out]) | (go_at_call 84; (with_reducible refine (Lx.is_p g s _ _ in_e j2 (by omega) w0 _ HS.out.is).mono ?_); rintro e w' ⟨rfl, rfl⟩; rw [HE.out]))
            go_ret
            exact ⟨congrArg (fun v => Ending.returned (.int .i64 v)) (show j2 = (n : Int) by have hn := HN3.out; have t1 := T1.out; unfold nPart at hn; rw [if_neg (by rw [HD.out]; simp)] at hn; unfold nPow at hn; rw [if_neg (by rw [HE.out]; decide)] at hn; omega), HS.out⟩
    · rw [if_neg d] at hn
      have D := Aside0.mk (Bool.eq_false_iff.mpr d)
      have hn2 := Aside0.mk hn
      clear hn hj HJ HN d
      go_wp2_with (go_at_call 84; (with_reducible refine (Lx.is_p g s _ _ in_digits j hj0.1 w0 _ HI.out).mono ?_); rintro e w' ⟨rfl, rfl⟩; rw [D.out])
      go_ret
      exact ⟨congrArg (fun v => Ending.returned (.int .i64 v)) (show a = (n : Int) by have := hn2.out; omega), HS.out⟩
end Go.Proofs.Ytehojohacombkaa.G
