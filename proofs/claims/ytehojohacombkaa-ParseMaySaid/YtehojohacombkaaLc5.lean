/- The lexer's helpers by their contracts: run, is, text. -/
import Derived.Test.YtehojohacombkaaLc4
import Derived.Test.YtehojohacombkaaX1
import Derived.Test.YtehojohacombkaaSh
namespace Go.Proofs.Ytehojohacombkaa.G
open Go.RowKit Go.Maps Go.Proofs.YtehojohacombkaaW.PrintWords Go.Proofs.YtehojohacombkaaW.PrintLast Go.Proofs.YtehojohacombkaaW.PrintMore
open Go.Proofs.Ytehojohacombkaa.Lx (run at_ num txt rmk tk tks toks isB isD isL word sign shut)
set_option linter.unusedVariables false
set_option linter.unusedSimpArgs false
/-- The bytes of a text. -/
abbrev byt (s : ByteArray) : List UInt8 := s.data.toList
theorem byt_len (s : ByteArray) : (byt s).length = s.size := by simp [byt]
theorem byt_at (s : ByteArray) (i : Nat) (h : i < s.size) : (byt s)[i]? = some s[i] := by
  have hl : i < (byt s).length := by rw [byt_len]; exact h
  rw [List.getElem?_eq_getElem hl]; simp; rfl
theorem byt_drop (s : ByteArray) (i : Nat) (h : i < s.size) : (byt s).drop i = s[i] :: (byt s).drop (i + 1) := by
  have hl : i < (byt s).length := by rw [byt_len]; exact h
  rw [List.drop_eq_getElem_cons hl]; congr 1
theorem bt_eq (s : ByteArray) (i : Int) (h0 : 0 ≤ i) (h : i < (s.size : Int)) : bt s i = ((s[i.toNat]'(by omega)).toNat : Int) := (bt_at s i (by omega)).symm
def clsIs (c : Int) (b : UInt8) : Bool := Lx.cls b.toNat == c
set_option maxRecDepth 100000 in
set_option maxHeartbeats 4000000 in
theorem Lx.run_any (g : Nat) (s : ByteArray) (a c : Int) (hs : s.size ≤ 300) (h0 : 0 ≤ a) (h1 : a ≤ (s.size : Int)) (w0 w : World) (hB : Below w0.heap.size w0 w) (h : IsLx w0 w g s) :
    Calls Try.prog 74 #[.pointer (some ⟨g, 0, none⟩), .int .i64 a, .int .u8 c] w fun e w' => e = .returned (.int .i64 (a + (run (clsIs c) ((byt s).drop a.toNat) : Int))) ∧ LxStep w0 w w' g s := by
  have HS := Aside0.mk (LxStep.refl h hB)
  clear h hB
  go_enter Try.func74, Try.ntmps74
  go_wp2
  go_loopg [1] (s.size + 1) (fun kq v1 wr => ∃ i : Int, v1 = .int .i64 i ∧ Aside0 (0 ≤ i ∧ i ≤ (s.size : Int) ∧ (s.size : Int) - i < (kq : Int) ∧ i + (run (clsIs c) ((byt s).drop i.toNat) : Int) = a + (run (clsIs c) ((byt s).drop a.toNat) : Int)) ∧ Aside0 (LxStep w0 w wr g s))
  case atStart => exact ⟨a, rfl, ⟨h0, h1, by omega, rfl⟩, HS⟩
  case round =>
    clear HS
    obtain ⟨i, rfl, HI, HS⟩ := hrel
    obtain ⟨i0, i1, i2, i3⟩ := HI.out
    cases gk with
    | zero => omega
    | succ k1 =>
      have c0 := HS.out.is.text
      by_cases hi : i < (s.size : Int)
      · have b1 : decide (i < (s.size : Int)) = true := decide_eq_true hi
        have p1 := eq_true i0
        have q1 := eq_true hi
        have hx := bt_at s i
        have hr := bt_range s i
        have HE := Aside0.mk (bt_eq s i i0 hi)
        have hd := byt_drop s i.toNat (by omega)
        have HD := Aside0.mk hd
        obtain ⟨z, hz⟩ : ∃ z, bt s i = z := ⟨_, rfl⟩
        rw [hz] at hx hr HE
        obtain ⟨z0, z1⟩ := hr
        have hcz : clsIs c (s[i.toNat]'(by omega)) = (Lx.cls z.toNat == c) := by
          unfold clsIs; rw [show z.toNat = (s[i.toNat]'(by omega)).toNat by have := HE.out; omega]
        rw [hd] at i3
        simp only [run, hcz] at i3
        have HI3 := Aside0.mk i3
        clear i3 hd hcz hz
        have i4 : wrap64 (i + 1) = i + 1 := by unfold wrap64; omega
        by_cases hc : (Lx.cls z.toNat == c) = true
        · go_wp2_with (go_at_call 72; refine (Lx.class_any g s z z0 (by omega) w0 _ HS.out.below HS.out.is).mono ?_; rintro e w2 ⟨rfl, hst⟩; have n0_ := Aside0.mk (HS.out.trans hst); clear HS c0 hst; have HS := n0_; clear n0_)
          go_roundg k1
          case measure => omega
          case rel => exact ⟨i + 1, by first | rfl | rw [i4], ⟨by omega, by omega, by omega, by have := HI3.out; rw [if_pos hc] at this; rw [show (i + 1).toNat = i.toNat + 1 by omega]; omega⟩, HS⟩
        · have hc' : (Lx.cls z.toNat == c) = false := Bool.eq_false_iff.mpr hc
          go_wp2_with (go_at_call 72; refine (Lx.class_any g s z z0 (by omega) w0 _ HS.out.below HS.out.is).mono ?_; rintro e w2 ⟨rfl, hst⟩; have n0_ := Aside0.mk (HS.out.trans hst); clear HS c0 hst; have HS := n0_; clear n0_)
          go_ret
          exact ⟨by have := HI3.out; rw [if_neg hc] at this; rw [← this]; simp, HS.out⟩
      · have b1 : decide (i < (s.size : Int)) = false := decide_eq_false hi
        go_wp2
        go_ret
        refine ⟨?_, HS.out⟩
        rw [List.drop_eq_nil_of_le (by rw [byt_len]; omega)] at i3
        rw [← i3]; simp [run]
def inSet (some_ : ByteArray) (b : UInt8) : Bool := decide (0 ≤ Lib.indexByte some_.data.toList b)
theorem at_byt (p : UInt8 → Bool) (s : ByteArray) (i : Nat) (h : i < s.size) : at_ p (byt s) i = p s[i] := by unfold at_; rw [byt_at s i h]
theorem at_out (p : UInt8 → Bool) (s : ByteArray) (i : Nat) (h : ¬ i < s.size) : at_ p (byt s) i = false := by unfold at_; rw [List.getElem?_eq_none (by rw [byt_len]; omega)]
set_option maxRecDepth 100000 in
set_option maxHeartbeats 4000000 in
theorem Lx.is_any (g : Nat) (s some_ : ByteArray) (a : Int) (h0 : 0 ≤ a) (w0 w : World) (h : IsLx w0 w g s) :
    Calls Try.prog 84 #[.pointer (some ⟨g, 0, none⟩), .int .i64 a, .string some_] w fun e w' => e = .returned (.bool (at_ (inSet some_) (byt s) a.toNat)) ∧ w = w' := by
  have c0 := h.text
  clear h
  by_cases hi : a < (s.size : Int)
  · have b1 : decide (a < (s.size : Int)) = true := decide_eq_true hi
    have p1 := eq_true h0
    have q1 := eq_true hi
    have hx := bt_at s a
    have HE := Aside0.mk (bt_eq s a h0 hi)
    have HA : Aside0 (at_ (inSet some_) (byt s) a.toNat = decide (0 ≤ Lib.indexByte some_.data.toList ((bt s a).toNat).toUInt8)) := ⟨by
      rw [at_byt _ s a.toNat (by omega)]; unfold inSet
      rw [show (bt s a).toNat = (s[a.toNat]'(by omega)).toNat by have := HE.out; omega]; simp⟩
    obtain ⟨z, hz⟩ : ∃ z, bt s a = z := ⟨_, rfl⟩
    rw [hz] at hx HA
    clear hz HE
    go_enter Try.func84, Try.ntmps84
    go_wp2_with (go_at_call 73; refine (Sh.strings_IndexByte some_ z _).mono ?_; rintro e w' ⟨rfl, rfl⟩)
    all_goals go_ret
    all_goals exact ⟨by rw [HA.out] <;> first | rfl | simp [*], rfl⟩
  · have b1 : decide (a < (s.size : Int)) = false := decide_eq_false hi
    have HA := Aside0.mk (at_out (inSet some_) s a.toNat (by omega))
    go_enter Try.func84, Try.ntmps84
    go_wp2
    go_ret
    exact ⟨by rw [HA.out]; rfl, rfl⟩
theorem u8_ne {b : UInt8} {z : Int} (h : z = (b.toNat : Int)) (n : Nat) (hn : n < 256) : b = UInt8.ofNat n ↔ z = (n : Int) := by
  rw [h]
  constructor
  · intro e; rw [e]; simp; omega
  · intro e
    have : b.toNat = n := by omega
    rw [← this]; simp
set_option maxRecDepth 100000 in
set_option maxHeartbeats 4000000 in
theorem Lx.text_any (g : Nat) (s : ByteArray) (a : Int) (hs : s.size ≤ 300) (h0 : 0 ≤ a) (h1 : a < (s.size : Int)) (w0 w : World) (h : IsLx w0 w g s) :
    Calls Try.prog 75 #[.pointer (some ⟨g, 0, none⟩), .int .i64 a] w fun e w' => e = .returned (.tuple #[.int .i64 (a + 1 + ((txt ((byt s).drop (a.toNat + 1))).1 : Int)), .bool (txt ((byt s).drop (a.toNat + 1))).2]) ∧ w = w' := by
  have c0 := h.text
  clear h
  have a4 : wrap64 (a + 1) = a + 1 := by unfold wrap64; omega
  obtain ⟨T, hT⟩ : ∃ T, txt ((byt s).drop (a.toNat + 1)) = T := ⟨_, rfl⟩
  rw [hT]
  have HT := Aside0.mk hT
  clear hT
  go_enter Try.func75, Try.ntmps75
  go_wp2
  go_loopg [1] (s.size + 1) (fun kq v1 wr => ∃ i : Int, v1 = .int .i64 i ∧ Aside0 (0 ≤ i ∧ i ≤ (s.size : Int) ∧ (s.size : Int) - i < (kq : Int) ∧ i + ((txt ((byt s).drop i.toNat)).1 : Int) = a + 1 + (T.1 : Int) ∧ (txt ((byt s).drop i.toNat)).2 = T.2) ∧ w = wr)
  case atStart => exact ⟨a + 1, by first | rfl | rw [a4], ⟨by omega, by omega, by omega, by rw [show (a + 1).toNat = a.toNat + 1 by omega, HT.out], by rw [show (a + 1).toNat = a.toNat + 1 by omega, HT.out]⟩, rfl⟩
  case round =>
    obtain ⟨i, rfl, HI, rfl⟩ := hrel
    obtain ⟨i0, i1, i2, i3, i5⟩ := HI.out
    cases gk with
    | zero => omega
    | succ k1 =>
      by_cases hi : i < (s.size : Int)
      · have b1 : decide (i < (s.size : Int)) = true := decide_eq_true hi
        have p1 := eq_true i0
        have q1 := eq_true hi
        have hx := bt_at s i
        have hr := bt_range s i
        have hd := byt_drop s i.toNat (by omega)
        have e1 := bt_eq s i i0 hi
        obtain ⟨z, hz⟩ : ∃ z, bt s i = z := ⟨_, rfl⟩
        rw [hz] at hx hr e1
        obtain ⟨z0, z1⟩ := hr
        have n10 : (s[i.toNat]'(by omega)) = (10 : UInt8) ↔ z = 10 := u8_ne e1 10 (by omega)
        have n34 : (s[i.toNat]'(by omega)) = (34 : UInt8) ↔ z = 34 := u8_ne e1 34 (by omega)
        have n92 : (s[i.toNat]'(by omega)) = (92 : UInt8) ↔ z = 92 := u8_ne e1 92 (by omega)
        rw [hd, txt.eq_def] at i3 i5
        simp only at i3 i5
        have HI3 := Aside0.mk i3
        have HI5 := Aside0.mk i5
        have N10 := Aside0.mk n10
        have N34 := Aside0.mk n34
        have N92 := Aside0.mk n92
        have i4 : wrap64 (i + 1) = i + 1 := by unfold wrap64; omega
        clear i3 i5 hd hz n10 n34 n92 e1
        by_cases c10 : z = 10
        · have b2 : (z != 10) = false := bne_eq_false_iff_eq.mpr c10
          go_wp2
          go_ret2
          refine ⟨?_, rfl⟩
          have x3 := HI3.out; have x5 := HI5.out
          rw [if_pos (N10.out.2 c10)] at x3 x5
          rw [← x5, show a + 1 + (T.1 : Int) = i by have := x3; simp only at this; omega]
          rfl
        · have b2 : (z != 10) = true := bne_iff_ne.mpr c10
          by_cases c34 : z = 34
          · have b3 : (z == 34) = true := beq_iff_eq.mpr c34
            go_wp2
            go_ret2
            refine ⟨?_, rfl⟩
            have x3 := HI3.out; have x5 := HI5.out
            rw [if_neg (fun h => c10 (N10.out.1 h)), if_pos (N34.out.2 c34)] at x3 x5
            rw [← x5, show a + 1 + (T.1 : Int) = i + 1 by have := x3; simp only at this; omega]
            rfl
          · have b3 : (z == 34) = false := beq_eq_false_iff_ne.mpr c34
            by_cases c92 : z = 92
            · have b4 : (z == 92) = true := beq_iff_eq.mpr c92
              have x3 := HI3.out; have x5 := HI5.out
              rw [if_neg (fun h => c10 (N10.out.1 h)), if_neg (fun h => c34 (N34.out.1 h)), if_pos (N92.out.2 c92)] at x3 x5
              by_cases hj : i + 1 < (s.size : Int)
              · have b5 : decide (i + 1 < (s.size : Int)) = true := decide_eq_true hj
                have p2 := eq_true (show 0 ≤ i + 1 by omega)
                have q2 := eq_true hj
                have hx2 := bt_at s (i + 1)
                have hr2 := bt_range s (i + 1)
                have hd2 := byt_drop s (i.toNat + 1) (by omega)
                have e2 := bt_eq s (i + 1) (by omega) hj
                obtain ⟨y, hy⟩ : ∃ y, bt s (i + 1) = y := ⟨_, rfl⟩
                rw [hy] at hx2 hr2 e2
                obtain ⟨y0, y1⟩ := hr2
                have e2' : y = ((s[i.toNat + 1]'(by omega)).toNat : Int) := by rw [e2]; congr 2; simp only [show (i + 1).toNat = i.toNat + 1 by omega]
                have m10 : (s[i.toNat + 1]'(by omega)) = (10 : UInt8) ↔ y = 10 := u8_ne e2' 10 (by omega)
                have HD2 := Aside0.mk hd2
                rw [hd2] at x3 x5
                simp only at x3 x5
                have M10 := Aside0.mk m10
                have X3 := Aside0.mk x3
                have X5 := Aside0.mk x5
                clear x3 x5 hd2 e2 e2' m10 hy
                have i6 : wrap64 (i + 1 + 1) = i + 1 + 1 := by unfold wrap64; omega
                by_cases d10 : y = 10
                · have b6 : (y != 10) = false := bne_eq_false_iff_eq.mpr d10
                  go_wp2
                  go_roundg k1
                  case measure => omega
                  case rel => exact ⟨i + 1, by first | rfl | rw [i4], ⟨by omega, by omega, by omega, by have := X3.out; rw [if_pos (M10.out.2 d10)] at this; rw [show (i + 1).toNat = i.toNat + 1 by omega, HD2.out, txt.eq_def]; simp only; rw [if_pos (M10.out.2 d10)]; simp only at this ⊢; omega, by have := X5.out; rw [if_pos (M10.out.2 d10)] at this; rw [show (i + 1).toNat = i.toNat + 1 by omega, HD2.out, txt.eq_def]; simp only; rw [if_pos (M10.out.2 d10)]; exact this⟩, rfl⟩
                · have b6 : (y != 10) = true := bne_iff_ne.mpr d10
                  go_wp2
                  go_roundg k1
                  case measure => omega
                  case rel => exact ⟨i + 1 + 1, by first | rfl | rw [i6] | (rw [i4, i6]), ⟨by omega, by omega, by omega, by have := X3.out; rw [if_neg (fun h => d10 (M10.out.1 h))] at this; rw [show (i + 1 + 1).toNat = i.toNat + 1 + 1 by omega]; simp only at this; omega, by have := X5.out; rw [if_neg (fun h => d10 (M10.out.1 h))] at this; rw [show (i + 1 + 1).toNat = i.toNat + 1 + 1 by omega]; exact this⟩, rfl⟩
              · have b5 : decide (i + 1 < (s.size : Int)) = false := decide_eq_false hj
                have hd2 : (byt s).drop (i.toNat + 1) = [] := List.drop_eq_nil_of_le (by rw [byt_len]; omega)
                have HD2 := Aside0.mk hd2
                rw [hd2] at x3 x5
                simp only at x3 x5
                have X3 := Aside0.mk x3
                have X5 := Aside0.mk x5
                clear x3 x5 hd2
                go_wp2
                go_roundg k1
                case measure => omega
                case rel => exact ⟨i + 1, by first | rfl | rw [i4], ⟨by omega, by omega, by omega, by have := X3.out; rw [show (i + 1).toNat = i.toNat + 1 by omega, HD2.out, txt]; simp only; omega, by have := X5.out; rw [show (i + 1).toNat = i.toNat + 1 by omega, HD2.out, txt]; exact this⟩, rfl⟩
            · have b4 : (z == 92) = false := beq_eq_false_iff_ne.mpr c92
              go_wp2
              go_roundg k1
              case measure => omega
              case rel => exact ⟨i + 1, by first | rfl | rw [i4], ⟨by omega, by omega, by omega, by have := HI3.out; rw [if_neg (fun h => c10 (N10.out.1 h)), if_neg (fun h => c34 (N34.out.1 h)), if_neg (fun h => c92 (N92.out.1 h))] at this; rw [show (i + 1).toNat = i.toNat + 1 by omega]; simp only at this; omega, by have := HI5.out; rw [if_neg (fun h => c10 (N10.out.1 h)), if_neg (fun h => c34 (N34.out.1 h)), if_neg (fun h => c92 (N92.out.1 h))] at this; rw [show (i + 1).toNat = i.toNat + 1 by omega]; exact this⟩, rfl⟩
      · have b1 : decide (i < (s.size : Int)) = false := decide_eq_false hi
        go_wp2
        go_ret2
        refine ⟨?_, rfl⟩
        rw [List.drop_eq_nil_of_le (by rw [byt_len]; omega), txt] at i3 i5
        rw [← i5, show a + 1 + (T.1 : Int) = i by simp only at i3; omega]
        rfl
end Go.Proofs.Ytehojohacombkaa.G
