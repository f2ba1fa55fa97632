/- Line, Place by their contracts. -/
import Derived.Test.YtdnhbbgahipbdaaDoorRw6
namespace Go.Proofs.YtdnhbbgahipbdaaDoor.G
open Go.RowKit Go.Proofs.YtdnhbbgahipbdaaDoorW.PrintWords Go.Proofs.YtdnhbbgahipbdaaDoorW.PrintLast Go.Proofs.YtdnhbbgahipbdaaDoorW.PrintMore
open Go.Proofs.YtdnhbbgahipbdaaDoor.Ro (T cutN cutB layS layN findN aheadN behindN Ck byt)
set_option linter.unusedVariables false
set_option linter.unusedSimpArgs false
/-- The library's one variable holds a number. -/
def MaxOk (w : World) : Prop := ∃ m : Int, w.cell? ⟨0, 0, none⟩ = some (.int .i64 m)
theorem MaxOk.of {w w1 : World} (h : MaxOk w) (hb : Below w.heap.size w w1) : MaxOk w1 := by obtain ⟨m, hm⟩ := h; exact ⟨m, pw_cell_below hb hm⟩
theorem MaxOk.lt {w : World} (h : MaxOk w) : 0 < w.heap.size := by obtain ⟨m, hm⟩ := h; exact World.block_lt_of_cell? _ _ hm
def lineN (s : ByteArray) (a : Nat) : Int := ((Lib.countByte (s.extract 0 a).data.toList 10 : Nat) : Int)
def lastN (s : ByteArray) (a : Nat) : Int := Lib.lastIndexByte (s.extract 0 a) 10
def linesN (s : ByteArray) : List ByteArray := Lib.splitB ⟨#[10]⟩ 0 (Lib.countB s ⟨#[10]⟩) s
def plFrom : List ByteArray → Int → Int
  | [], a => a
  | x :: r, a => plFrom r (wrap64 (a + wrap64 ((x.size : Int) + 1)))
set_option maxHeartbeats 8000000 in
set_option maxRecDepth 100000 in
theorem Ro.line_any (g : Nat) (s : ByteArray) (a : Nat) (w : World) (h : IsR w g s) (ha : a ≤ s.size) :
    Calls Tryd.prog 13 #[.pointer (some ⟨g, 0, none⟩), .int .i64 (a : Int)] w fun e w' => e = .returned (.tuple #[.int .i64 (lineN s a), .int .i64 (wrap64 (wrap64 ((a : Int) - lastN s a) - 1)), .int .i64 0]) ∧ Below w.heap.size w w' := by
  have HB := Aside0.mk (Below.refl w.heap.size w)
  have hs := h.choose_spec.2.2.2
  have HT : Aside0 (∀ w2, Below w.heap.size w w2 → Calls Tryd.prog 18 #[.pointer (some ⟨g, 0, none⟩)] w2 fun e w' => e = .returned (.string s) ∧ Below w2.heap.size w2 w') := ⟨fun w2 k => Ro.text_any g s w2 (h.below k)⟩
  obtain ⟨cs, hI, -⟩ := h
  obtain ⟨A, c, hb, -, -⟩ := hI.cells
  obtain ⟨x0, x1, -, -⟩ := Ro.two hb
  obtain ⟨u, hu⟩ : ∃ u, s.extract 0 a = u := ⟨_, rfl⟩
  have HU := Aside0.mk hu
  have us : u.size ≤ 4096 := by rw [← hu, ByteArray.size_extract]; omega
  obtain ⟨n1, hn1⟩ : ∃ n1 : Int, lineN s a = n1 := ⟨_, rfl⟩
  obtain ⟨n2, hn2⟩ : ∃ n2 : Int, lastN s a = n2 := ⟨_, rfl⟩
  have HC : Aside0 (∀ w2, Calls Tryd.prog 25 #[.string u, .string ⟨#[10]⟩] w2 fun e w' => e = .returned (.int .i64 n1) ∧ w' = w2) := ⟨fun w2 => by rw [← hn1, ← hu]; exact Sh.strings_Count_one _ 10 w2⟩
  have HL : Aside0 (∀ w2, Calls Tryd.prog 26 #[.string u, .string ⟨#[10]⟩] w2 fun e w' => e = .returned (.int .i64 n2) ∧ w' = w2) := ⟨fun w2 => by rw [← hn2, ← hu]; exact Sh.strings_LastIndex_one _ ⟨#[10]⟩ rfl (by rw [hu]; omega) w2⟩
  rw [hn1, hn2]
  have b1 : decide ((a : Int) < 0) = false := decide_eq_false (by omega)
  have b2 : decide ((s.size : Int) < (a : Int)) = false := decide_eq_false (by omega)
  have b2n : decide (s.size < a) = false := decide_eq_false (by omega)
  have p1 := eq_true (show (0 : Int) ≤ (a : Int) by omega)
  have q1 := eq_true (show (a : Int) ≤ (s.size : Int) by omega)
  clear hI hb hn1 hn2 us
  go_enter Tryd.func13, Tryd.ntmps13
  go_wp2_with (first | (go_at_call 18; refine (HT.out _ (by repeat (first | (with_reducible first | exact HB.out | apply below_alloc | apply pw_below_drewN | apply below_drew1) | exact HB.out))).mono ?_; rintro e w2 ⟨rfl, hb2⟩; have n0_ := Aside0.mk (below_step HB.out hb2); clear HB hb2; have HB := n0_; clear n0_) | (go_at_call 25; refine (HC.out _).mono ?_; rintro e w3 ⟨rfl, rfl⟩) | (go_at_call 26; refine (HL.out _).mono ?_; rintro e w3 ⟨rfl, rfl⟩))
  go_ret3
  exact ⟨rfl, by repeat (first | (with_reducible first | exact HB.out | apply below_alloc | apply pw_below_drewN | apply below_drew1) | exact HB.out)⟩
set_option maxHeartbeats 8000000 in
set_option maxRecDepth 100000 in
theorem Ro.line_bad (g : Nat) (s : ByteArray) (a : Int) (w : World) (h : IsR w g s) (hbad : a < 0 ∨ (s.size : Int) < a) :
    Calls Tryd.prog 13 #[.pointer (some ⟨g, 0, none⟩), .int .i64 a] w fun e w' => e = .returned (.tuple #[.int .i64 0, .int .i64 0, .int .i64 100]) ∧ Below w.heap.size w w' := by
  have HB := Aside0.mk (Below.refl w.heap.size w)
  obtain ⟨cs, hI, -⟩ := h
  obtain ⟨A, c, hb, -, -⟩ := hI.cells
  obtain ⟨x0, x1, -, -⟩ := Ro.two hb
  clear hI hb
  by_cases h1 : a < 0
  · have b1 : decide (a < 0) = true := decide_eq_true h1
    clear hbad
    go_enter Tryd.func13, Tryd.ntmps13
    go_wp2
    go_ret3
    exact ⟨rfl, by repeat (first | (with_reducible first | exact HB.out | apply below_alloc | apply pw_below_drewN | apply below_drew1) | exact HB.out)⟩
  · have b1 : decide (a < 0) = false := decide_eq_false h1
    have h2 := hbad.resolve_left h1
    have b2 : decide ((s.size : Int) < a) = true := decide_eq_true h2
    clear hbad
    go_enter Tryd.func13, Tryd.ntmps13
    go_wp2
    go_ret3
    exact ⟨rfl, by repeat (first | (with_reducible first | exact HB.out | apply below_alloc | apply pw_below_drewN | apply below_drew1) | exact HB.out)⟩
theorem Ro.split_lines (s : ByteArray) (w : World) (hs : s.size ≤ 4096) (hm : MaxOk w) :
    Calls Tryd.prog 27 #[.string s, .string ⟨#[10]⟩] w fun e w' => ∃ v, e = .returned v ∧ Reads w' v (linesN s) ∧ Below w.heap.size w w' := by
  obtain ⟨m, hm⟩ := hm
  have hl : (linesN s).length ≤ Lib.countB s ⟨#[10]⟩ + 1 := Lib.splitB_length_le _ _ _ _
  have hl2 : Lib.countB s ⟨#[10]⟩ + 1 = (linesN s).length := (Lib.splitB_all ⟨#[10]⟩ (by decide) 0 _ s rfl).symm
  have hle := Lib.countB_le ⟨#[10]⟩ (by decide) s.size s (Nat.le_refl _)
  refine (Sh.strings_Split s ⟨#[10]⟩ m w (by omega) hm (by decide)).mono ?_
  rintro e w' ⟨rfl, rfl⟩
  refine ⟨_, rfl, ?_, below_alloc (Below.refl _ _) _⟩
  rw [hl2]
  exact Ro.reads_own (base := w.heap.size) (olds := ((linesN s).map Value.string).toArray.toList) (by simp) rfl (World.ownsRow_lit w _ _ (Nat.le_refl _) (by simp only [maxLen]; omega) (by simp; rfl))
set_option maxHeartbeats 8000000 in
set_option maxRecDepth 100000 in
theorem Ro.place_any (g : Nat) (s : ByteArray) (l c : Nat) (w : World) (h : IsR w g s) (hm : MaxOk w) (hl : l < (linesN s).length) (hc : c ≤ ((linesN s).getD l ByteArray.empty).size) (hc2 : c ≤ 100000) (hls : (linesN s).length ≤ 100000) :
    Calls Tryd.prog 15 #[.pointer (some ⟨g, 0, none⟩), .int .i64 (l : Int), .int .i64 (c : Int)] w fun e w' => e = .returned (.tuple #[.int .i64 (plFrom ((linesN s).take l) (c : Int)), .int .i64 0]) ∧ Below w.heap.size w w' := by
  have HB := Aside0.mk (Below.refl w.heap.size w)
  have hs := h.choose_spec.2.2.2
  have HT : Aside0 (∀ w2, Below w.heap.size w w2 → Calls Tryd.prog 18 #[.pointer (some ⟨g, 0, none⟩)] w2 fun e w' => e = .returned (.string s) ∧ Below w2.heap.size w2 w') := ⟨fun w2 k => Ro.text_any g s w2 (h.below k)⟩
  have HSP : Aside0 (∀ w2, Below w.heap.size w w2 → Calls Tryd.prog 27 #[.string s, .string ⟨#[10]⟩] w2 fun e w' => ∃ v, e = .returned v ∧ Reads w' v (linesN s) ∧ Below w2.heap.size w2 w') := ⟨fun w2 k => Ro.split_lines s w2 hs (hm.of k)⟩
  obtain ⟨L, hL⟩ : ∃ L, linesN s = L := ⟨_, rfl⟩
  rw [hL] at HSP hl hc hls ⊢
  obtain ⟨m, hmm⟩ : ∃ m, m = L.length := ⟨_, rfl⟩
  have HM := Aside0.mk hmm
  obtain ⟨x, hx⟩ : ∃ x, L.getD l ByteArray.empty = x := ⟨_, rfl⟩
  rw [hx] at hc
  obtain ⟨F, hF⟩ : ∃ F, plFrom (L.take l) (c : Int) = F := ⟨_, rfl⟩
  rw [hF]
  have HF : Aside0 (plFrom ((L.take l).drop 0) (c : Int) = F) := ⟨hF⟩
  have HXX := Aside0.mk hx
  rw [← hmm] at hl hls
  have b1 : decide ((l : Int) < 0) = false := decide_eq_false (by omega)
  have b2 : decide ((m : Int) ≤ (l : Int)) = false := decide_eq_false (by omega)
  have b2n : decide (m ≤ l) = false := decide_eq_false (by omega)
  have b3 : decide ((c : Int) < 0) = false := decide_eq_false (by omega)
  have b4 : decide ((x.size : Int) < (c : Int)) = false := decide_eq_false (by omega)
  have b4n : decide (x.size < c) = false := decide_eq_false (by omega)
  have p1 := eq_true (show (0 : Int) ≤ (l : Int) by omega)
  have q1 := eq_true (show (l : Int) < (m : Int) by omega)
  have HH : Aside0 (l < m ∧ c ≤ x.size ∧ m ≤ 100000) := ⟨⟨hl, hc, hls⟩⟩
  clear h hL hx hF hmm hc hm hs
  go_enter Tryd.func15, Tryd.ntmps15
  go_upto_region 4 with (first | (go_at_call 18; refine (HT.out _ (by repeat (first | (with_reducible first | exact HB.out | apply below_alloc | apply pw_below_drewN | apply below_drew1) | exact HB.out))).mono ?_; rintro e w2 ⟨rfl, hb2⟩; have n0_ := Aside0.mk (below_step HB.out hb2); clear HB hb2; have HB := n0_; clear n0_) | (go_at_call 27; refine (HSP.out _ (by repeat (first | (with_reducible first | exact HB.out | apply below_alloc | apply pw_below_drewN | apply below_drew1) | exact HB.out))).mono ?_; rintro e w3 ⟨v3, rfl, hr, hb2⟩; have n0_ := Aside0.mk (below_step (by repeat (first | (with_reducible first | exact HB.out | apply below_alloc | apply pw_below_drewN | apply below_drew1) | exact HB.out)) hb2); clear HB hb2; have HB := n0_; clear n0_; have HR := Aside0.mk hr; clear hr; obtain ⟨A3, c3, rfl, hc3, hC3⟩ := id HR.out))
  have HC3 := Aside0.mk hC3
  obtain ⟨ad, rfl, hx0⟩ := Kd.at_string hC3 (l : Int) (by omega) (by have := HM.out; omega)
  rw [Ro.rd, Int.toNat_natCast, HXX.out] at hx0
  rw [← HM.out] at hc3 ⊢
  have q2 := eq_true (show (l : Int) ≤ (c3 : Int) by omega)
  have q3 := eq_true (show l ≤ c3 by omega)
  clear hC3
  go_upto_region 8 with (fail)
  go_loopg [9, 43] (l + 1) (fun kq v9 v43 wr => ∃ (i : Nat) (a : Int), v9 = .int .i64 a ∧ v43 = .int .i64 (i : Int) ∧ Aside0 (plFrom ((L.take l).drop i) a = F) ∧ Aside0 (i ≤ l ∧ l - i < kq) ∧ Aside0 (Below w.heap.size w wr) ∧ Aside0 (Kd.C Kd.string wr (some ad) L.length L))
  case atStart => exact ⟨0, (c : Int), rfl, rfl, HF, ⟨Nat.zero_le _, by omega⟩, ⟨by repeat (first | (with_reducible first | exact HB.out | apply below_alloc | apply pw_below_drewN | apply below_drew1) | exact HB.out)⟩, ⟨Kd.C_below HC3.out (by repeat (first | (with_reducible first | exact Below.refl _ _ | apply below_alloc | apply pw_below_drewN | apply below_drew1) | exact Below.refl _ _))⟩⟩
  case round =>
    clear HF HB HC3 hx0
    obtain ⟨i, a, rfl, rfl, HF, HI, HB, HC3⟩ := hrel
    obtain ⟨i0, i1⟩ := HI.out
    cases gk with
    | zero => omega
    | succ k1 =>
      by_cases hi : i < l
      · have c1 : decide ((i : Int) < (l : Int)) = true := decide_eq_true (by omega)
        have c2 : decide (i < l) = true := decide_eq_true hi
        have p2 := eq_true (show (0 : Int) ≤ (i : Int) by omega)
        have q4 := eq_true (show (i : Int) < (l : Int) by omega)
        obtain ⟨ad2, e2, hx2⟩ := Kd.at_string HC3.out (i : Int) (by omega) (by have := HM.out; omega)
        cases e2
        rw [Ro.rd, Int.toNat_natCast] at hx2
        obtain ⟨y, hy⟩ : ∃ y, L.getD i ByteArray.empty = y := ⟨_, rfl⟩
        have hd : (L.take l).drop i = y :: (L.take l).drop (i + 1) := by
          have hh : i < (L.take l).length := by rw [List.length_take]; have := HM.out; omega
          rw [List.drop_eq_getElem_cons hh, List.getElem_take, ← hy, List.getD_eq_getElem?_getD, List.getElem?_eq_getElem (by have := HM.out; omega)]; rfl
        rw [hy] at hx2
        have hf := HF.out
        rw [hd] at hf
        unfold plFrom at hf
        have HF2 := Aside0.mk hf
        clear hf hd hy HF
        go_wp2
        go_roundg k1
        case measure => omega
        case rel => exact ⟨i + 1, wrap64 (a + wrap64 ((y.size : Int) + 1)), by first | rfl | (simp only [i64_w]; done), by first | rfl | exact congrArg (Value.int .i64) (by omega), HF2, ⟨by omega, by omega⟩, ⟨by repeat (first | (with_reducible first | exact HB.out | apply below_alloc | apply pw_below_drewN | apply below_drew1) | exact HB.out)⟩, ⟨HC3.out⟩⟩
      · have c1 : decide ((i : Int) < (l : Int)) = false := decide_eq_false (by omega)
        have c2 : decide (i < l) = false := decide_eq_false hi
        have hf := HF.out
        rw [List.drop_eq_nil_of_le (by rw [List.length_take]; omega)] at hf
        have HFF : Aside0 (a = F) := ⟨hf⟩
        clear hf HF
        go_wp2
        go_ret2
        exact ⟨by rw [HFF.out]; rfl, by repeat (first | (with_reducible first | exact HB.out | apply below_alloc | apply pw_below_drewN | apply below_drew1) | exact HB.out)⟩
end Go.Proofs.YtdnhbbgahipbdaaDoor.G
