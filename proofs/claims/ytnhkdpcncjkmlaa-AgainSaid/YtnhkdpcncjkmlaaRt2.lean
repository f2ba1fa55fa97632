/- The reference's token by its contract. -/
import Derived.Test.YtnhkdpcncjkmlaaRt1
import Derived.Test.YtnhkdpcncjkmlaaLc8
namespace Go.Proofs.Ytnhkdpcncjkmlaa.G
open Go.RowKit Go.Maps Go.Proofs.YtnhkdpcncjkmlaaW.PrintWords Go.Proofs.YtnhkdpcncjkmlaaW.PrintLast Go.Proofs.YtnhkdpcncjkmlaaW.PrintMore
open Go.Proofs.Ytnhkdpcncjkmlaa.Lx (run at_ num txt rmk tk tks toks isB isD isL word sign shut nWhole nPart nPow)
set_option linter.unusedVariables false
set_option linter.unusedSimpArgs false
/-- Two blocks of the call: the result's, the token's. -/
structure RtS (w W : World) (gr gc : Nat) (cs : Array Value) : Prop where
  r : W.heap[gr]? = some (.cells #[.int .i64 0, .int .i64 0, .int .i64 0] 34 (0, 0))
  c : W.heap[gc]? = some (.cells cs 34 (0, 0))
  b : Below w.heap.size w W
theorem RtS.drewN {w W : World} {gr gc : Nat} {cs : Array Value} (h : RtS w W gr gc cs) (n : Nat) : RtS w (W.drewN n) gr gc cs := ⟨blk_drewN h.r n, blk_drewN h.c n, pw_below_drewN h.b n⟩
theorem RtS.set {w W : World} {gr gc : Nat} {cs : Array Value} (h : RtS w W gr gc cs) (hn : gr ≠ gc) (hg : w.heap.size ≤ gc) (i : Nat) (v : Value) {ds : Array Value} (e : cs.setIfInBounds i v = ds) : RtS w (W.setCell ⟨gc, i, none⟩ v) gr gc ds :=
  ⟨(Below.heap_setCell _ _ _ _ hn).trans h.r, by subst e; exact blk_set h.c i v, below_set h.b hg⟩
def six : ByteArray := ⟨#[123, 125, 91, 93, 58, 44]⟩
def noSign (z : Int) (i : Int) : Prop := ∀ j : Nat, (j : Int) < i → bt six (j : Int) ≠ z
set_option maxRecDepth 100000 in
theorem six_sign : ∀ b : Fin 256, (∀ j : Fin 6, bt six (j.val : Int) = (b.val : Int) → sign (UInt8.ofNat b.val) = some (j.val : Int)) ∧ ((∀ j : Fin 6, bt six (j.val : Int) ≠ (b.val : Int)) → sign (UInt8.ofNat b.val) = none) := by decide +kernel
theorem sign_at (b : UInt8) (i : Int) (h0 : 0 ≤ i) (h1 : i < 6) (h : bt six i = (b.toNat : Int)) : sign b = some i := by
  have := (six_sign ⟨b.toNat, b.toNat_lt⟩).1 ⟨i.toNat, by omega⟩ (by simp only; rw [show ((i.toNat : Nat) : Int) = i by omega]; exact h)
  simp only [show ((i.toNat : Nat) : Int) = i by omega] at this
  simpa using this
theorem sign_no (b : UInt8) (h : noSign (b.toNat : Int) 6) : sign b = none := by
  have := (six_sign ⟨b.toNat, b.toNat_lt⟩).2 (fun j => h j.val (by omega))
  simpa using this
theorem Rt.blank (z : Int) (B : Bool) (w : World) (h : minuetref9_blank.f z = some B) : Calls Try.prog 41 #[.int .u8 z] w fun e w' => e = .returned (.bool B) ∧ ∃ n, w' = w.drewN n :=
  (minuetref9_blank.calls z B w h).mono fun e w' ⟨h1, h2⟩ => ⟨h1, h2.out⟩
theorem Rt.letter (z : Int) (B : Bool) (w : World) (h : minuetref9_letter.f z = some B) : Calls Try.prog 44 #[.int .u8 z] w fun e w' => e = .returned (.bool B) ∧ ∃ n, w' = w.drewN n :=
  (minuetref9_letter.calls z B w h).mono fun e w' ⟨h1, h2⟩ => ⟨h1, h2.out⟩
theorem Rt.quoted (s : ByteArray) (a r1 : Int) (r2 : Bool) (h : Ev (fun k => minuetref9_quoted.f k s a) (r1, r2)) (w : World) : Calls Try.prog 42 #[.string s, .int .i64 a] w fun e w' => e = .returned (.tuple #[.int .i64 r1, .bool r2]) ∧ ∃ n, w' = w.drewN n := by
  obtain ⟨k, hk⟩ := Ev.rounds h
  exact (minuetref9_quoted.calls k s a r1 r2 w hk).mono fun e w' ⟨h1, h2⟩ => ⟨h1, h2.out⟩
theorem Rt.remark (s : ByteArray) (a r1 : Int) (r2 : Bool) (h : Ev (fun k => minuetref9_remark.f k s a) (r1, r2)) (w : World) : Calls Try.prog 43 #[.string s, .int .i64 a] w fun e w' => e = .returned (.tuple #[.int .i64 r1, .bool r2]) ∧ ∃ n, w' = w.drewN n := by
  obtain ⟨k, hk⟩ := Ev.rounds h
  exact (minuetref9_remark.calls k s a r1 r2 w hk).mono fun e w' ⟨h1, h2⟩ => ⟨h1, h2.out⟩
theorem Rt.number (s : ByteArray) (a r : Int) (h : Ev (fun k => minuetref9_number.f k s a) r) (w : World) : Calls Try.prog 45 #[.string s, .int .i64 a] w fun e w' => e = .returned (.int .i64 r) ∧ ∃ n, w' = w.drewN n := by
  obtain ⟨k, hk⟩ := Ev.rounds h
  exact (minuetref9_number.calls k s a r w hk).mono fun e w' ⟨h1, h2⟩ => ⟨h1, h2.out⟩
set_option maxRecDepth 100000 in
set_option maxHeartbeats 8000000 in
theorem Rt.token_any (s : ByteArray) (a : Int) (hs : s.size ≤ 300) (h0 : 0 ≤ a) (h1 : a < (s.size : Int)) (w : World) :
    Calls Try.prog 28 #[.string s, .int .i64 a] w fun e w' => e = .returned (.agg #[.int .i64 (tk ((byt s).drop a.toNat)).1, .int .i64 a, .int .i64 (a + (((tk ((byt s).drop a.toNat)).2 : Nat) : Int))]) ∧ Below w.heap.size w w' := by
  have HB := Aside0.mk (Below.refl w.heap.size w)
  have a1 : wrap64 (a + 1) = a + 1 := by unfold wrap64; omega
  obtain ⟨Tq, hT⟩ : ∃ T, tk ((byt s).drop a.toNat) = T := ⟨_, rfl⟩
  rw [hT]
  have hd := byt_drop s a.toNat (by omega)
  have HD := Aside0.mk hd
  have e1 := bt_eq s a h0 h1
  have p1 := eq_true h0
  have q1 := eq_true h1
  have hx := bt_at s a
  have hr := bt_range s a
  obtain ⟨z, hz⟩ : ∃ z, bt s a = z := ⟨_, rfl⟩
  rw [hz] at hx hr e1
  obtain ⟨z0, z1⟩ := hr
  obtain ⟨b, hb⟩ : ∃ b, s[a.toNat]'(by omega) = b := ⟨_, rfl⟩
  rw [hb] at e1
  have EB := Aside0.mk hb
  have EZ := Aside0.mk e1
  rw [hd, hb, Lx.tk] at hT
  rw [show b :: (byt s).drop (a.toNat + 1) = (byt s).drop a.toNat by rw [hd, hb]] at hT
  have HT := Aside0.mk hT
  clear hT hd e1 hz hb
  go_enter Try.func28, Try.ntmps28
  go_upto_block 0 with (fail)
  have BR : Aside0 ((w.alloc (.cells #[.int .i64 0, .int .i64 0, .int .i64 0] 34)).heap[w.heap.size]? = some (.cells #[.int .i64 0, .int .i64 0, .int .i64 0] 34 (0, 0))) := ⟨blk_new w _⟩
  have HB1 : Aside0 (Below w.heap.size w (w.alloc (.cells #[.int .i64 0, .int .i64 0, .int .i64 0] 34))) := ⟨below_alloc HB.out _⟩
  obtain ⟨gr, egr⟩ : ∃ gr, w.heap.size = gr := ⟨_, rfl⟩
  have GR : Aside0 (w.heap.size ≤ gr) := ⟨by omega⟩
  rw [egr] at BR ⊢
  generalize (w.alloc (.cells #[.int .i64 0, .int .i64 0, .int .i64 0] 34)) = w1 at BR HB1 ⊢
  clear egr HB
  go_cut [7] (fun v7 wc => ∃ i : Int, v7 = .int .i64 i ∧ Aside0 (noSign z 6) ∧ Aside0 (wc.heap[gr]? = some (.cells #[.int .i64 0, .int .i64 0, .int .i64 0] 34 (0, 0))) ∧ Aside0 (Below w.heap.size w wc))
  case first =>
    go_wp2
    go_loopg [7] 7 (fun kq v7 wr => ∃ i : Int, v7 = .int .i64 i ∧ Aside0 (0 ≤ i ∧ i ≤ 6 ∧ 6 - i < (kq : Int) ∧ noSign z i) ∧ Aside0 (wr.heap[gr]? = some (.cells #[.int .i64 0, .int .i64 0, .int .i64 0] 34 (0, 0))) ∧ Aside0 (Below w.heap.size w wr))
    case atStart => exact ⟨0, rfl, ⟨by omega, by omega, by omega, fun j hj => by omega⟩, BR, HB1⟩
    case round =>
      clear BR HB1
      obtain ⟨i, rfl, HI, BR, HB⟩ := hrel
      obtain ⟨i0, i1, i2, i3⟩ := HI.out
      clear i3
      cases gk with
      | zero => omega
      | succ k1 =>
        by_cases hi : i < 6
        · have c0 : decide (i < (6 : Int)) = true := decide_eq_true hi
          have p9 := eq_true i0
          have q9 := eq_true hi
          have hx9 := bt_at (⟨#[123, 125, 91, 93, 58, 44]⟩ : ByteArray) i
          have i4 : wrap64 (i + 1) = i + 1 := by unfold wrap64; omega
          by_cases e : bt (⟨#[123, 125, 91, 93, 58, 44]⟩ : ByteArray) i = z
          · have c10 : (bt (⟨#[123, 125, 91, 93, 58, 44]⟩ : ByteArray) i == z) = true := beq_iff_eq.mpr e
            have HE := Aside0.mk e
            clear e
            obtain ⟨v0, v1, v2, k0, k1_, k2⟩ := Tk.three BR.out
            go_wp2
            refine bodyPost_ret (results_cell_row rfl _ _ gr 34 #[.int .i64 i, .int .i64 a, .int .i64 (a + 1)] (0, 0) _ rfl (Tk.set3 BR.out) Try.underlying34 rfl (by kernel_rfl)) rfl ?_
            have hsg := sign_at b i i0 hi (by have := HE.out; have := EZ.out; unfold six; omega)
            have hT := HT.out
            rw [hsg] at hT
            refine ⟨?_, below_set (below_set (below_set HB.out GR.out) GR.out) GR.out⟩
            rw [← hT]; rfl
          · have c10 : (bt (⟨#[123, 125, 91, 93, 58, 44]⟩ : ByteArray) i == z) = false := beq_eq_false_iff_ne.mpr e
            have HE := Aside0.mk e
            clear e
            go_wp2
            go_roundg k1
            case measure => omega
            case rel => exact ⟨i + 1, rfl, ⟨by omega, by omega, by omega, fun j hj => by
              by_cases hj2 : (j : Int) < i
              · exact HI.out.2.2.2 j hj2
              · rw [show (j : Int) = i by omega]; exact HE.out⟩, BR, HB⟩
        · have c0 : decide (i < (6 : Int)) = false := decide_eq_false hi
          have HN := Aside0.mk (show noSign z 6 by have h_ := HI.out.2.2.2; rw [show i = 6 by omega] at h_; exact h_)
          go_wp2
          go_meet
          case rel => exact ⟨i, rfl, HN, BR, HB⟩
  case rest =>
    clear BR HB1
    obtain ⟨i, rfl, HN, BR, HB⟩ := hcut
    have hsg := sign_no b (by rw [← EZ.out]; exact HN.out)
    have hT := HT.out
    rw [hsg] at hT
    simp only at hT
    clear HT HN hsg
    have HT := Aside0.mk hT
    clear hT
    go_upto_region 9 with (fail)
    have HS : Aside0 (RtS w (wc.alloc (.cells #[.int .i64 11, .int .i64 a, .int .i64 (a + 1)] 34)) gr wc.heap.size #[.int .i64 11, .int .i64 a, .int .i64 (a + 1)]) := ⟨⟨blk_alloc BR.out _, blk_new wc _, below_alloc HB.out _⟩⟩
    obtain ⟨gc, egc⟩ : ∃ gc, wc.heap.size = gc := ⟨_, rfl⟩
    have GC : Aside0 (w.heap.size ≤ gc) := ⟨by have := HB.out.size; omega⟩
    have n1_ : gr ≠ gc := by have := blk_lt BR.out; omega
    have n2_ : gc ≠ gr := fun h => n1_ h.symm
    rw [egc] at HS ⊢
    generalize (wc.alloc (.cells #[.int .i64 11, .int .i64 a, .int .i64 (a + 1)] 34)) = w2 at HS ⊢
    clear egc BR HB
    obtain ⟨x0, x1, x2, f0, f1, f2⟩ := Tk.three HS.out.c
    have hbl : Go.Proofs.Ytnhkdpcncjkmlaa.G.minuetref9_blank.f z = some (isB b) := by rw [EZ.out]; exact Pl.blank_f b
    have hlt : Go.Proofs.Ytnhkdpcncjkmlaa.G.minuetref9_letter.f z = some (isL b) := by rw [EZ.out]; exact Pl.letter_f b
    by_cases k1 : isB b = true
    · rw [k1] at hbl
      have HBL := Aside0.mk hbl
      have hT := HT.out
      rw [if_pos k1] at hT
      have HT2 := Aside0.mk hT
      clear hT HT hbl hlt k1
      go_upto_block 4 with (first | (go_at_call 41; (with_reducible refine (Rt.blank z true _ HBL.out).mono ?_); rintro e w' ⟨rfl, ⟨nd_, rfl⟩⟩; have n0_ := Aside0.mk (HS.out.drewN nd_); clear HS x0 x1 x2 f0 f1 f2; generalize (World.drewN _ nd_) = w3 at n0_ ⊢; have HS := n0_; clear n0_; obtain ⟨x0, x1, x2, f0, f1, f2⟩ := Tk.three HS.out.c))
      have KB := Aside0.mk (show isB b = true by have h_ := HBL.out; rw [EZ.out, Pl.blank_f] at h_; exact Option.some.inj h_)
      have HL : Aside0 (RtS w ((w3).setCell ⟨gc, 0, none⟩ (.int .i64 10)) gr gc #[.int .i64 10, .int .i64 a, .int .i64 (a + 1)]) := ⟨HS.out.set n1_ GC.out 0 _ rfl⟩
      clear HS x0 x1 x2 f0 f1 f2
      generalize ((w3).setCell ⟨gc, 0, none⟩ (.int .i64 10)) = w4 at HL ⊢
      go_loopg [] (s.size + 1) (fun kq wr => ∃ j : Int, Aside0 (0 ≤ j ∧ j ≤ (s.size : Int) ∧ (s.size : Int) - j < (kq : Int) ∧ j + ((run isB ((byt s).drop j.toNat) : Nat) : Int) = a + ((run isB ((byt s).drop a.toNat) : Nat) : Int)) ∧ Aside0 (RtS w wr gr gc #[.int .i64 10, .int .i64 a, .int .i64 j]))
      case atStart => exact ⟨a + 1, ⟨by omega, by omega, by omega, by rw [HD.out, EB.out]; simp only [run, if_pos KB.out]; rw [show (a + 1).toNat = a.toNat + 1 by omega]; omega⟩, HL⟩
      case round =>
        clear HL
        obtain ⟨j, HJ, HS⟩ := hrel
        obtain ⟨j0, j1, j2, j3⟩ := HJ.out
        obtain ⟨x0, x1, x2, f0, f1, f2⟩ := Tk.three HS.out.c
        cases gk with
        | zero => omega
        | succ k1 =>
          by_cases hj : j < (s.size : Int)
          · have c0 : decide (j < (s.size : Int)) = true := decide_eq_true hj
            have p9 := eq_true j0
            have q9 := eq_true hj
            have hx9 := bt_at s j
            have j4 : wrap64 (j + 1) = j + 1 := by unfold wrap64; omega
            have hdj := byt_drop s j.toNat (by omega)
            have hfj : minuetref9_blank.f (bt s j) = some (isB (s[j.toNat]'(by omega))) := by rw [bt_eq s j j0 hj]; exact Pl.blank_f _
            rw [hdj] at j3
            simp only [run] at j3
            by_cases c : isB (s[j.toNat]'(by omega)) = true
            · rw [c] at hfj
              rw [if_pos c] at j3
              have HFJ := Aside0.mk hfj
              have HJ3 := Aside0.mk j3
              clear hfj j3 hdj c
              go_wp2_with (first | (go_at_call 41; (with_reducible refine (Rt.blank (bt s j) true _ HFJ.out).mono ?_); rintro e w' ⟨rfl, ⟨nd_, rfl⟩⟩; have n0_ := Aside0.mk (HS.out.drewN nd_); clear HS x0 x1 x2 f0 f1 f2; generalize (World.drewN _ nd_) = w5 at n0_ ⊢; have HS := n0_; clear n0_; obtain ⟨x0, x1, x2, f0, f1, f2⟩ := Tk.three HS.out.c))
              go_roundg k1
              case measure => omega
              case rel => exact ⟨j + 1, ⟨by omega, by omega, by omega, by have := HJ3.out; rw [show (j + 1).toNat = j.toNat + 1 by omega]; omega⟩, ⟨HS.out.set n1_ GC.out 2 _ rfl⟩⟩
            · rw [Bool.eq_false_iff.mpr c] at hfj
              rw [if_neg c] at j3
              have HFJ := Aside0.mk hfj
              have HJ3 : Aside0 (j = a + ((run isB ((byt s).drop a.toNat) : Nat) : Int)) := ⟨by omega⟩
              clear hfj j3 hdj c
              go_upto_region 32 with (first | (go_at_call 41; (with_reducible refine (Rt.blank (bt s j) false _ HFJ.out).mono ?_); rintro e w' ⟨rfl, ⟨nd_, rfl⟩⟩; have n0_ := Aside0.mk (HS.out.drewN nd_); clear HS x0 x1 x2 f0 f1 f2; generalize (World.drewN _ nd_) = w5 at n0_ ⊢; have HS := n0_; clear n0_; obtain ⟨x0, x1, x2, f0, f1, f2⟩ := Tk.three HS.out.c))
              have HF : Aside0 (RtS w (w5) gr gc #[.int .i64 10, .int .i64 a, .int .i64 j]) := ⟨HS.out⟩
              clear HS x0 x1 x2 f0 f1 f2
              generalize (w5) = w9 at HF ⊢
              obtain ⟨x0, x1, x2, f0, f1, f2⟩ := Tk.three HF.out.c
              obtain ⟨v0, v1, v2, k0, k1_, k2⟩ := Tk.three HF.out.r
              go_wp2
              refine bodyPost_ret (results_cell_row rfl _ _ gr 34 #[.int .i64 10, .int .i64 a, .int .i64 j] (0, 0) _ rfl (Tk.set3 HF.out.r) Try.underlying34 rfl (by kernel_rfl)) rfl ?_
              refine ⟨?_, below_set (below_set (below_set HF.out.b GR.out) GR.out) GR.out⟩
              have eK : 10 = Tq.1 := by rw [← HT2.out]
              have eT : j = a + ((Tq.2 : Nat) : Int) := by rw [← HT2.out]; exact HJ3.out
              rw [← eK, ← eT]
          · have c0 : decide (j < (s.size : Int)) = false := decide_eq_false hj
            have HJ3 : Aside0 (j = a + ((run isB ((byt s).drop a.toNat) : Nat) : Int)) := ⟨by rw [List.drop_eq_nil_of_le (by rw [byt_len]; omega)] at j3; simp only [run] at j3; omega⟩
            clear j3
            go_upto_region 32 with (fail)
            have HF : Aside0 (RtS w (wr) gr gc #[.int .i64 10, .int .i64 a, .int .i64 j]) := ⟨HS.out⟩
            clear HS x0 x1 x2 f0 f1 f2
            generalize (wr) = w9 at HF ⊢
            obtain ⟨x0, x1, x2, f0, f1, f2⟩ := Tk.three HF.out.c
            obtain ⟨v0, v1, v2, k0, k1_, k2⟩ := Tk.three HF.out.r
            go_wp2
            refine bodyPost_ret (results_cell_row rfl _ _ gr 34 #[.int .i64 10, .int .i64 a, .int .i64 j] (0, 0) _ rfl (Tk.set3 HF.out.r) Try.underlying34 rfl (by kernel_rfl)) rfl ?_
            refine ⟨?_, below_set (below_set (below_set HF.out.b GR.out) GR.out) GR.out⟩
            have eK : 10 = Tq.1 := by rw [← HT2.out]
            have eT : j = a + ((Tq.2 : Nat) : Int) := by rw [← HT2.out]; exact HJ3.out
            rw [← eK, ← eT]
    rw [Bool.eq_false_iff.mpr k1] at hbl
    have HBL := Aside0.mk hbl
    clear hbl
    have hT := HT.out
    rw [if_neg k1] at hT
    have HT1 := Aside0.mk hT
    clear hT HT k1
    by_cases k2 : b = 34
    · have hT := HT1.out
      rw [if_pos k2] at hT
      have c34 : (z == 34) = true := by rw [EZ.out, k2]; rfl
      obtain ⟨⟨u, B⟩, hq⟩ : ∃ q, txt ((byt s).drop (a.toNat + 1)) = q := ⟨_, rfl⟩
      rw [hq] at hT
      have hqe : Ev (fun k => minuetref9_quoted.f k s a) (a + 1 + (u : Int), B) := by
        have h_ := Pl.quoted_ev s hs a.toNat (by omega)
        rw [show ((a.toNat : Nat) : Int) = a by omega, hq] at h_
        simp only at h_
        rwa [show ((a.toNat + (u + 1) : Nat) : Int) = a + 1 + (u : Int) by omega] at h_
      have HQE := Aside0.mk hqe
      have HT2 := Aside0.mk hT
      clear hT HT1 hlt k2 hqe hq
      cases B with
      | true =>
        go_upto_region 32 with (first | (go_at_call 41; (with_reducible refine (Rt.blank z false _ HBL.out).mono ?_); rintro e w' ⟨rfl, ⟨nd_, rfl⟩⟩; have n0_ := Aside0.mk (HS.out.drewN nd_); clear HS x0 x1 x2 f0 f1 f2; generalize (World.drewN _ nd_) = w3 at n0_ ⊢; have HS := n0_; clear n0_; obtain ⟨x0, x1, x2, f0, f1, f2⟩ := Tk.three HS.out.c) | (go_at_call 42; (with_reducible refine (Rt.quoted s a _ _ HQE.out _).mono ?_); rintro e w' ⟨rfl, ⟨nd_, rfl⟩⟩; have n0_ := Aside0.mk (HS.out.drewN nd_); clear HS x0 x1 x2 f0 f1 f2; generalize (World.drewN _ nd_) = w4 at n0_ ⊢; have HS := n0_; clear n0_; obtain ⟨x0, x1, x2, f0, f1, f2⟩ := Tk.three HS.out.c))
        have HF : Aside0 (RtS w (((w4).setCell ⟨gc, 2, none⟩ (.int .i64 (a + 1 + (u : Int)))).setCell ⟨gc, 0, none⟩ (.int .i64 6)) gr gc #[.int .i64 6, .int .i64 a, .int .i64 (a + 1 + (u : Int))]) := ⟨(HS.out.set n1_ GC.out 2 _ rfl).set n1_ GC.out 0 _ rfl⟩
        clear HS x0 x1 x2 f0 f1 f2
        generalize (((w4).setCell ⟨gc, 2, none⟩ (.int .i64 (a + 1 + (u : Int)))).setCell ⟨gc, 0, none⟩ (.int .i64 6)) = w9 at HF ⊢
        obtain ⟨x0, x1, x2, f0, f1, f2⟩ := Tk.three HF.out.c
        obtain ⟨v0, v1, v2, k0, k1_, k2⟩ := Tk.three HF.out.r
        go_wp2
        refine bodyPost_ret (results_cell_row rfl _ _ gr 34 #[.int .i64 6, .int .i64 a, .int .i64 (a + 1 + (u : Int))] (0, 0) _ rfl (Tk.set3 HF.out.r) Try.underlying34 rfl (by kernel_rfl)) rfl ?_
        refine ⟨?_, below_set (below_set (below_set HF.out.b GR.out) GR.out) GR.out⟩
        have eK : 6 = Tq.1 := by rw [← HT2.out]; rfl
        have eT : (a + 1 + (u : Int)) = a + ((Tq.2 : Nat) : Int) := by rw [← HT2.out]; show a + 1 + (u : Int) = a + ((u + 1 : Nat) : Int); omega
        rw [← eK, ← eT]
      | false =>
        go_upto_region 32 with (first | (go_at_call 41; (with_reducible refine (Rt.blank z false _ HBL.out).mono ?_); rintro e w' ⟨rfl, ⟨nd_, rfl⟩⟩; have n0_ := Aside0.mk (HS.out.drewN nd_); clear HS x0 x1 x2 f0 f1 f2; generalize (World.drewN _ nd_) = w3 at n0_ ⊢; have HS := n0_; clear n0_; obtain ⟨x0, x1, x2, f0, f1, f2⟩ := Tk.three HS.out.c) | (go_at_call 42; (with_reducible refine (Rt.quoted s a _ _ HQE.out _).mono ?_); rintro e w' ⟨rfl, ⟨nd_, rfl⟩⟩; have n0_ := Aside0.mk (HS.out.drewN nd_); clear HS x0 x1 x2 f0 f1 f2; generalize (World.drewN _ nd_) = w4 at n0_ ⊢; have HS := n0_; clear n0_; obtain ⟨x0, x1, x2, f0, f1, f2⟩ := Tk.three HS.out.c))
        have HF : Aside0 (RtS w ((w4).setCell ⟨gc, 2, none⟩ (.int .i64 (a + 1 + (u : Int)))) gr gc #[.int .i64 11, .int .i64 a, .int .i64 (a + 1 + (u : Int))]) := ⟨HS.out.set n1_ GC.out 2 _ rfl⟩
        clear HS x0 x1 x2 f0 f1 f2
        generalize ((w4).setCell ⟨gc, 2, none⟩ (.int .i64 (a + 1 + (u : Int)))) = w9 at HF ⊢
        obtain ⟨x0, x1, x2, f0, f1, f2⟩ := Tk.three HF.out.c
        obtain ⟨v0, v1, v2, k0, k1_, k2⟩ := Tk.three HF.out.r
        go_wp2
        refine bodyPost_ret (results_cell_row rfl _ _ gr 34 #[.int .i64 11, .int .i64 a, .int .i64 (a + 1 + (u : Int))] (0, 0) _ rfl (Tk.set3 HF.out.r) Try.underlying34 rfl (by kernel_rfl)) rfl ?_
        refine ⟨?_, below_set (below_set (below_set HF.out.b GR.out) GR.out) GR.out⟩
        have eK : 11 = Tq.1 := by rw [← HT2.out]; rfl
        have eT : (a + 1 + (u : Int)) = a + ((Tq.2 : Nat) : Int) := by rw [← HT2.out]; show a + 1 + (u : Int) = a + ((u + 1 : Nat) : Int); omega
        rw [← eK, ← eT]
    have c34 : (z == 34) = false := beq_eq_false_iff_ne.mpr (fun h => k2 ((Pl.u8_val (b := b) (n := 34) (by omega)).1 (by rw [← EZ.out]; exact h)))
    by_cases k3 : b = 47
    · have hT := HT1.out
      rw [if_neg k2, if_pos k3] at hT
      have c47 : (z == 47) = true := by rw [EZ.out, k3]; rfl
      obtain ⟨⟨u, B⟩, hq⟩ : ∃ q, rmk ((byt s).drop a.toNat) = q := ⟨_, rfl⟩
      rw [hq] at hT
      have hqe : Ev (fun k => minuetref9_remark.f k s a) (a + (u : Int), B) := by
        have h_ := Pl.remark_ev s hs a.toNat (by omega) (by rw [EB.out]; exact k3)
        rw [show ((a.toNat : Nat) : Int) = a by omega, hq] at h_
        simp only at h_
        rwa [show ((a.toNat + u : Nat) : Int) = a + (u : Int) by omega] at h_
      have HQE := Aside0.mk hqe
      have HT2 := Aside0.mk hT
      clear hT HT1 hlt k2 k3 hqe hq
      cases B with
      | true =>
        go_upto_region 32 with (first | (go_at_call 41; (with_reducible refine (Rt.blank z false _ HBL.out).mono ?_); rintro e w' ⟨rfl, ⟨nd_, rfl⟩⟩; have n0_ := Aside0.mk (HS.out.drewN nd_); clear HS x0 x1 x2 f0 f1 f2; generalize (World.drewN _ nd_) = w3 at n0_ ⊢; have HS := n0_; clear n0_; obtain ⟨x0, x1, x2, f0, f1, f2⟩ := Tk.three HS.out.c) | (go_at_call 43; (with_reducible refine (Rt.remark s a _ _ HQE.out _).mono ?_); rintro e w' ⟨rfl, ⟨nd_, rfl⟩⟩; have n0_ := Aside0.mk (HS.out.drewN nd_); clear HS x0 x1 x2 f0 f1 f2; generalize (World.drewN _ nd_) = w4 at n0_ ⊢; have HS := n0_; clear n0_; obtain ⟨x0, x1, x2, f0, f1, f2⟩ := Tk.three HS.out.c))
        have HF : Aside0 (RtS w (((w4).setCell ⟨gc, 2, none⟩ (.int .i64 (a + (u : Int)))).setCell ⟨gc, 0, none⟩ (.int .i64 9)) gr gc #[.int .i64 9, .int .i64 a, .int .i64 (a + (u : Int))]) := ⟨(HS.out.set n1_ GC.out 2 _ rfl).set n1_ GC.out 0 _ rfl⟩
        clear HS x0 x1 x2 f0 f1 f2
        generalize (((w4).setCell ⟨gc, 2, none⟩ (.int .i64 (a + (u : Int)))).setCell ⟨gc, 0, none⟩ (.int .i64 9)) = w9 at HF ⊢
        obtain ⟨x0, x1, x2, f0, f1, f2⟩ := Tk.three HF.out.c
        obtain ⟨v0, v1, v2, k0, k1_, k2⟩ := Tk.three HF.out.r
        go_wp2
        refine bodyPost_ret (results_cell_row rfl _ _ gr 34 #[.int .i64 9, .int .i64 a, .int .i64 (a + (u : Int))] (0, 0) _ rfl (Tk.set3 HF.out.r) Try.underlying34 rfl (by kernel_rfl)) rfl ?_
        refine ⟨?_, below_set (below_set (below_set HF.out.b GR.out) GR.out) GR.out⟩
        have eK : 9 = Tq.1 := by rw [← HT2.out]; rfl
        have eT : (a + (u : Int)) = a + ((Tq.2 : Nat) : Int) := by rw [← HT2.out]
        rw [← eK, ← eT]
      | false =>
        go_upto_region 32 with (first | (go_at_call 41; (with_reducible refine (Rt.blank z false _ HBL.out).mono ?_); rintro e w' ⟨rfl, ⟨nd_, rfl⟩⟩; have n0_ := Aside0.mk (HS.out.drewN nd_); clear HS x0 x1 x2 f0 f1 f2; generalize (World.drewN _ nd_) = w3 at n0_ ⊢; have HS := n0_; clear n0_; obtain ⟨x0, x1, x2, f0, f1, f2⟩ := Tk.three HS.out.c) | (go_at_call 43; (with_reducible refine (Rt.remark s a _ _ HQE.out _).mono ?_); rintro e w' ⟨rfl, ⟨nd_, rfl⟩⟩; have n0_ := Aside0.mk (HS.out.drewN nd_); clear HS x0 x1 x2 f0 f1 f2; generalize (World.drewN _ nd_) = w4 at n0_ ⊢; have HS := n0_; clear n0_; obtain ⟨x0, x1, x2, f0, f1, f2⟩ := Tk.three HS.out.c))
        have HF : Aside0 (RtS w ((w4).setCell ⟨gc, 2, none⟩ (.int .i64 (a + (u : Int)))) gr gc #[.int .i64 11, .int .i64 a, .int .i64 (a + (u : Int))]) := ⟨HS.out.set n1_ GC.out 2 _ rfl⟩
        clear HS x0 x1 x2 f0 f1 f2
        generalize ((w4).setCell ⟨gc, 2, none⟩ (.int .i64 (a + (u : Int)))) = w9 at HF ⊢
        obtain ⟨x0, x1, x2, f0, f1, f2⟩ := Tk.three HF.out.c
        obtain ⟨v0, v1, v2, k0, k1_, k2⟩ := Tk.three HF.out.r
        go_wp2
        refine bodyPost_ret (results_cell_row rfl _ _ gr 34 #[.int .i64 11, .int .i64 a, .int .i64 (a + (u : Int))] (0, 0) _ rfl (Tk.set3 HF.out.r) Try.underlying34 rfl (by kernel_rfl)) rfl ?_
        refine ⟨?_, below_set (below_set (below_set HF.out.b GR.out) GR.out) GR.out⟩
        have eK : 11 = Tq.1 := by rw [← HT2.out]; rfl
        have eT : (a + (u : Int)) = a + ((Tq.2 : Nat) : Int) := by rw [← HT2.out]
        rw [← eK, ← eT]
    have c47 : (z == 47) = false := beq_eq_false_iff_ne.mpr (fun h => k3 ((Pl.u8_val (b := b) (n := 47) (by omega)).1 (by rw [← EZ.out]; exact h)))
    have hT := HT1.out
    rw [if_neg k2, if_neg k3] at hT
    clear HT1 k2 k3
    by_cases k4 : isL b = true
    · rw [if_pos k4] at hT
      have KB := Aside0.mk k4
      rw [k4] at hlt
      have HLT := Aside0.mk hlt
      have HT2 := Aside0.mk hT
      clear hT hlt k4
      go_upto_block 5 with (first | (go_at_call 41; (with_reducible refine (Rt.blank z false _ HBL.out).mono ?_); rintro e w' ⟨rfl, ⟨nd_, rfl⟩⟩; have n0_ := Aside0.mk (HS.out.drewN nd_); clear HS x0 x1 x2 f0 f1 f2; generalize (World.drewN _ nd_) = w3 at n0_ ⊢; have HS := n0_; clear n0_; obtain ⟨x0, x1, x2, f0, f1, f2⟩ := Tk.three HS.out.c) | (go_at_call 44; (with_reducible refine (Rt.letter z true _ HLT.out).mono ?_); rintro e w' ⟨rfl, ⟨nd_, rfl⟩⟩; have n0_ := Aside0.mk (HS.out.drewN nd_); clear HS x0 x1 x2 f0 f1 f2; generalize (World.drewN _ nd_) = w4 at n0_ ⊢; have HS := n0_; clear n0_; obtain ⟨x0, x1, x2, f0, f1, f2⟩ := Tk.three HS.out.c))
      have HL : Aside0 (RtS w (w4) gr gc #[.int .i64 11, .int .i64 a, .int .i64 (a + 1)]) := ⟨HS.out⟩
      clear HS x0 x1 x2 f0 f1 f2
      generalize (w4) = w4 at HL ⊢
      go_cut [] (fun wc => ∃ j : Int, Aside0 (j = a + ((run isL ((byt s).drop a.toNat) : Nat) : Int)) ∧ Aside0 (RtS w wc gr gc #[.int .i64 11, .int .i64 a, .int .i64 j]))
      case first =>
        go_wp2
        go_loopg [] (s.size + 1) (fun kq wr => ∃ j : Int, Aside0 (0 ≤ j ∧ j ≤ (s.size : Int) ∧ (s.size : Int) - j < (kq : Int) ∧ j + ((run isL ((byt s).drop j.toNat) : Nat) : Int) = a + ((run isL ((byt s).drop a.toNat) : Nat) : Int)) ∧ Aside0 (RtS w wr gr gc #[.int .i64 11, .int .i64 a, .int .i64 j]))
        case atStart => exact ⟨a + 1, ⟨by omega, by omega, by omega, by rw [HD.out, EB.out]; simp only [run, if_pos KB.out]; rw [show (a + 1).toNat = a.toNat + 1 by omega]; omega⟩, HL⟩
        case round =>
          clear HL
          obtain ⟨j, HJ, HS⟩ := hrel
          obtain ⟨j0, j1, j2, j3⟩ := HJ.out
          obtain ⟨x0, x1, x2, f0, f1, f2⟩ := Tk.three HS.out.c
          cases gk with
          | zero => omega
          | succ k1 =>
            by_cases hj : j < (s.size : Int)
            · have c0 : decide (j < (s.size : Int)) = true := decide_eq_true hj
              have p9 := eq_true j0
              have q9 := eq_true hj
              have hx9 := bt_at s j
              have j4 : wrap64 (j + 1) = j + 1 := by unfold wrap64; omega
              have hdj := byt_drop s j.toNat (by omega)
              have hfj : minuetref9_letter.f (bt s j) = some (isL (s[j.toNat]'(by omega))) := by rw [bt_eq s j j0 hj]; exact Pl.letter_f _
              rw [hdj] at j3
              simp only [run] at j3
              by_cases c : isL (s[j.toNat]'(by omega)) = true
              · rw [c] at hfj
                rw [if_pos c] at j3
                have HFJ := Aside0.mk hfj
                have HJ3 := Aside0.mk j3
                clear hfj j3 hdj c
                go_wp2_with (first | (go_at_call 44; (with_reducible refine (Rt.letter (bt s j) true _ HFJ.out).mono ?_); rintro e w' ⟨rfl, ⟨nd_, rfl⟩⟩; have n0_ := Aside0.mk (HS.out.drewN nd_); clear HS x0 x1 x2 f0 f1 f2; generalize (World.drewN _ nd_) = w5 at n0_ ⊢; have HS := n0_; clear n0_; obtain ⟨x0, x1, x2, f0, f1, f2⟩ := Tk.three HS.out.c))
                go_roundg k1
                case measure => omega
                case rel => exact ⟨j + 1, ⟨by omega, by omega, by omega, by have := HJ3.out; rw [show (j + 1).toNat = j.toNat + 1 by omega]; omega⟩, ⟨HS.out.set n1_ GC.out 2 _ rfl⟩⟩
              · rw [Bool.eq_false_iff.mpr c] at hfj
                rw [if_neg c] at j3
                have HFJ := Aside0.mk hfj
                have HJ3 : Aside0 (j = a + ((run isL ((byt s).drop a.toNat) : Nat) : Int)) := ⟨by omega⟩
                clear hfj j3 hdj c
                go_wp2_with (first | (go_at_call 44; (with_reducible refine (Rt.letter (bt s j) false _ HFJ.out).mono ?_); rintro e w' ⟨rfl, ⟨nd_, rfl⟩⟩; have n0_ := Aside0.mk (HS.out.drewN nd_); clear HS x0 x1 x2 f0 f1 f2; generalize (World.drewN _ nd_) = w5 at n0_ ⊢; have HS := n0_; clear n0_; obtain ⟨x0, x1, x2, f0, f1, f2⟩ := Tk.three HS.out.c))
                go_meet
                case rel => exact ⟨j, HJ3, HS⟩
            · have c0 : decide (j < (s.size : Int)) = false := decide_eq_false hj
              have HJ3 : Aside0 (j = a + ((run isL ((byt s).drop a.toNat) : Nat) : Int)) := ⟨by rw [List.drop_eq_nil_of_le (by rw [byt_len]; omega)] at j3; simp only [run] at j3; omega⟩
              clear j3
              go_wp2
              go_meet
              case rel => exact ⟨j, HJ3, HS⟩
      case rest =>
        clear HL
        obtain ⟨j, HJ3, HS⟩ := hcut
        obtain ⟨x0, x1, x2, f0, f1, f2⟩ := Tk.three HS.out.c
        have hle := Go.Proofs.Ytnhkdpcncjkmlaa.Lx.run_drop_le isL (byt s) a.toNat (by rw [byt_len]; omega)
        rw [byt_len] at hle
        have ja : a ≤ j := by have := HJ3.out; omega
        have jb : j ≤ (s.size : Int) := by have := HJ3.out; omega
        have HW : Aside0 ((s.extract a.toNat j.toNat).toList = ((byt s).drop a.toNat).take (run isL ((byt s).drop a.toNat))) := ⟨by rw [ByteArray.toList_eq, ByteArray.data_extract, Array.toList_extract, List.extract_eq_take_drop]; congr 1; have := HJ3.out; omega⟩
        clear hle
        have pj := eq_true ja
        have qj := eq_true jb
        have pj2 : decide (a ≤ j) = true := decide_eq_true ja
        have qj2 : decide (j ≤ (s.size : Int)) = true := decide_eq_true jb
        have pj3 := eq_true h0
        have pj4 : decide (0 ≤ a) = true := decide_eq_true h0
        go_upto_region 27 with (fail)
        generalize s.extract a.toNat j.toNat = G at HW ⊢
        by_cases q1 : G.toList = [116, 114, 117, 101]
        · skip
          have bq1 : (G.toList == ([116, 114, 117, 101] : List UInt8)) = true := beq_iff_eq.mpr q1
          have hwd : word G.toList = true := by rw [word_eq, bq1]; rfl
          have HWD := Aside0.mk hwd
          clear hwd q1
          go_upto_region 32 with (fail)
          have HF : Aside0 (RtS w ((wc).setCell ⟨gc, 0, none⟩ (.int .i64 8)) gr gc #[.int .i64 8, .int .i64 a, .int .i64 j]) := ⟨HS.out.set n1_ GC.out 0 _ rfl⟩
          clear HS x0 x1 x2 f0 f1 f2
          generalize ((wc).setCell ⟨gc, 0, none⟩ (.int .i64 8)) = w9 at HF ⊢
          obtain ⟨x0, x1, x2, f0, f1, f2⟩ := Tk.three HF.out.c
          obtain ⟨v0, v1, v2, k0, k1_, k2⟩ := Tk.three HF.out.r
          go_wp2
          refine bodyPost_ret (results_cell_row rfl _ _ gr 34 #[.int .i64 8, .int .i64 a, .int .i64 j] (0, 0) _ rfl (Tk.set3 HF.out.r) Try.underlying34 rfl (by kernel_rfl)) rfl ?_
          refine ⟨?_, below_set (below_set (below_set HF.out.b GR.out) GR.out) GR.out⟩
          have eK : 8 = Tq.1 := by rw [← HT2.out, ← HW.out, HWD.out]; rfl
          have eT : j = a + ((Tq.2 : Nat) : Int) := by rw [← HT2.out]; exact HJ3.out
          rw [← eK, ← eT]
        · by_cases q2 : G.toList = [102, 97, 108, 115, 101]
          · skip
            have bq1 : (G.toList == ([116, 114, 117, 101] : List UInt8)) = false := beq_eq_false_iff_ne.mpr q1
            have bq2 : (G.toList == ([102, 97, 108, 115, 101] : List UInt8)) = true := beq_iff_eq.mpr q2
            have hwd : word G.toList = true := by rw [word_eq, bq1, bq2]; rfl
            have HWD := Aside0.mk hwd
            clear hwd q1 q2
            go_upto_region 32 with (fail)
            have HF : Aside0 (RtS w ((wc).setCell ⟨gc, 0, none⟩ (.int .i64 8)) gr gc #[.int .i64 8, .int .i64 a, .int .i64 j]) := ⟨HS.out.set n1_ GC.out 0 _ rfl⟩
            clear HS x0 x1 x2 f0 f1 f2
            generalize ((wc).setCell ⟨gc, 0, none⟩ (.int .i64 8)) = w9 at HF ⊢
            obtain ⟨x0, x1, x2, f0, f1, f2⟩ := Tk.three HF.out.c
            obtain ⟨v0, v1, v2, k0, k1_, k2⟩ := Tk.three HF.out.r
            go_wp2
            refine bodyPost_ret (results_cell_row rfl _ _ gr 34 #[.int .i64 8, .int .i64 a, .int .i64 j] (0, 0) _ rfl (Tk.set3 HF.out.r) Try.underlying34 rfl (by kernel_rfl)) rfl ?_
            refine ⟨?_, below_set (below_set (below_set HF.out.b GR.out) GR.out) GR.out⟩
            have eK : 8 = Tq.1 := by rw [← HT2.out, ← HW.out, HWD.out]; rfl
            have eT : j = a + ((Tq.2 : Nat) : Int) := by rw [← HT2.out]; exact HJ3.out
            rw [← eK, ← eT]
          · by_cases q3 : G.toList = [110, 117, 108, 108]
            · skip
              have bq1 : (G.toList == ([116, 114, 117, 101] : List UInt8)) = false := beq_eq_false_iff_ne.mpr q1
              have bq2 : (G.toList == ([102, 97, 108, 115, 101] : List UInt8)) = false := beq_eq_false_iff_ne.mpr q2
              have bq3 : (G.toList == ([110, 117, 108, 108] : List UInt8)) = true := beq_iff_eq.mpr q3
              have hwd : word G.toList = true := by rw [word_eq, bq1, bq2, bq3]; rfl
              have HWD := Aside0.mk hwd
              clear hwd q1 q2 q3
              go_upto_region 32 with (fail)
              have HF : Aside0 (RtS w ((wc).setCell ⟨gc, 0, none⟩ (.int .i64 8)) gr gc #[.int .i64 8, .int .i64 a, .int .i64 j]) := ⟨HS.out.set n1_ GC.out 0 _ rfl⟩
              clear HS x0 x1 x2 f0 f1 f2
              generalize ((wc).setCell ⟨gc, 0, none⟩ (.int .i64 8)) = w9 at HF ⊢
              obtain ⟨x0, x1, x2, f0, f1, f2⟩ := Tk.three HF.out.c
              obtain ⟨v0, v1, v2, k0, k1_, k2⟩ := Tk.three HF.out.r
              go_wp2
              refine bodyPost_ret (results_cell_row rfl _ _ gr 34 #[.int .i64 8, .int .i64 a, .int .i64 j] (0, 0) _ rfl (Tk.set3 HF.out.r) Try.underlying34 rfl (by kernel_rfl)) rfl ?_
              refine ⟨?_, below_set (below_set (below_set HF.out.b GR.out) GR.out) GR.out⟩
              have eK : 8 = Tq.1 := by rw [← HT2.out, ← HW.out, HWD.out]; rfl
              have eT : j = a + ((Tq.2 : Nat) : Int) := by rw [← HT2.out]; exact HJ3.out
              rw [← eK, ← eT]
            · skip
              have bq1 : (G.toList == ([116, 114, 117, 101] : List UInt8)) = false := beq_eq_false_iff_ne.mpr q1
              have bq2 : (G.toList == ([102, 97, 108, 115, 101] : List UInt8)) = false := beq_eq_false_iff_ne.mpr q2
              have bq3 : (G.toList == ([110, 117, 108, 108] : List UInt8)) = false := beq_eq_false_iff_ne.mpr q3
              have hwd : word G.toList = false := by rw [word_eq, bq1, bq2, bq3]; rfl
              have HWD := Aside0.mk hwd
              clear hwd q1 q2 q3
              go_upto_region 32 with (fail)
              have HF : Aside0 (RtS w (wc) gr gc #[.int .i64 11, .int .i64 a, .int .i64 j]) := ⟨HS.out⟩
              clear HS x0 x1 x2 f0 f1 f2
              generalize (wc) = w9 at HF ⊢
              obtain ⟨x0, x1, x2, f0, f1, f2⟩ := Tk.three HF.out.c
              obtain ⟨v0, v1, v2, k0, k1_, k2⟩ := Tk.three HF.out.r
              go_wp2
              refine bodyPost_ret (results_cell_row rfl _ _ gr 34 #[.int .i64 11, .int .i64 a, .int .i64 j] (0, 0) _ rfl (Tk.set3 HF.out.r) Try.underlying34 rfl (by kernel_rfl)) rfl ?_
              refine ⟨?_, below_set (below_set (below_set HF.out.b GR.out) GR.out) GR.out⟩
              have eK : 11 = Tq.1 := by rw [← HT2.out, ← HW.out, HWD.out]; rfl
              have eT : j = a + ((Tq.2 : Nat) : Int) := by rw [← HT2.out]; exact HJ3.out
              rw [← eK, ← eT]
    rw [if_neg k4] at hT
    rw [Bool.eq_false_iff.mpr k4] at hlt
    have HLT := Aside0.mk hlt
    obtain ⟨n, hn⟩ : ∃ n, num ((byt s).drop a.toNat) = n := ⟨_, rfl⟩
    have hne : Ev (fun k => minuetref9_number.f k s a) (a + (n : Int)) := by
      have h_ := Pl.number_ev s hs a.toNat (by omega)
      rw [show ((a.toNat : Nat) : Int) = a by omega, hn] at h_
      rwa [show ((a.toNat + n : Nat) : Int) = a + (n : Int) by omega] at h_
    have HNE := Aside0.mk hne
    rw [hn] at hT
    clear hlt k4 hne hn
    by_cases k5 : n = 0
    · rw [if_pos k5] at hT
      have HT2 := Aside0.mk hT
      have c5 : decide (a < a + (n : Int)) = false := decide_eq_false (by omega)
      have c6 : decide (0 < n) = false := decide_eq_false (by omega)
      have c7 : decide (0 < (n : Int)) = false := decide_eq_false (by omega)
      clear hT k5
      go_upto_region 32 with (first | (go_at_call 41; (with_reducible refine (Rt.blank z false _ HBL.out).mono ?_); rintro e w' ⟨rfl, ⟨nd_, rfl⟩⟩; have n0_ := Aside0.mk (HS.out.drewN nd_); clear HS x0 x1 x2 f0 f1 f2; generalize (World.drewN _ nd_) = w3 at n0_ ⊢; have HS := n0_; clear n0_; obtain ⟨x0, x1, x2, f0, f1, f2⟩ := Tk.three HS.out.c) | (go_at_call 44; (with_reducible refine (Rt.letter z false _ HLT.out).mono ?_); rintro e w' ⟨rfl, ⟨nd_, rfl⟩⟩; have n0_ := Aside0.mk (HS.out.drewN nd_); clear HS x0 x1 x2 f0 f1 f2; generalize (World.drewN _ nd_) = w4 at n0_ ⊢; have HS := n0_; clear n0_; obtain ⟨x0, x1, x2, f0, f1, f2⟩ := Tk.three HS.out.c) | (go_at_call 45; (with_reducible refine (Rt.number s a _ HNE.out _).mono ?_); rintro e w' ⟨rfl, ⟨nd_, rfl⟩⟩; have n0_ := Aside0.mk (HS.out.drewN nd_); clear HS x0 x1 x2 f0 f1 f2; generalize (World.drewN _ nd_) = w5 at n0_ ⊢; have HS := n0_; clear n0_; obtain ⟨x0, x1, x2, f0, f1, f2⟩ := Tk.three HS.out.c))
      have HF : Aside0 (RtS w (w5) gr gc #[.int .i64 11, .int .i64 a, .int .i64 (a + 1)]) := ⟨HS.out⟩
      clear HS x0 x1 x2 f0 f1 f2
      generalize (w5) = w9 at HF ⊢
      obtain ⟨x0, x1, x2, f0, f1, f2⟩ := Tk.three HF.out.c
      obtain ⟨v0, v1, v2, k0, k1_, k2⟩ := Tk.three HF.out.r
      go_wp2
      refine bodyPost_ret (results_cell_row rfl _ _ gr 34 #[.int .i64 11, .int .i64 a, .int .i64 (a + 1)] (0, 0) _ rfl (Tk.set3 HF.out.r) Try.underlying34 rfl (by kernel_rfl)) rfl ?_
      refine ⟨?_, below_set (below_set (below_set HF.out.b GR.out) GR.out) GR.out⟩
      have eK : 11 = Tq.1 := by rw [← HT2.out]
      have eT : (a + 1) = a + ((Tq.2 : Nat) : Int) := by rw [← HT2.out]; rfl
      rw [← eK, ← eT]
    · rw [if_neg k5] at hT
      have HT2 := Aside0.mk hT
      have c5 : decide (a < a + (n : Int)) = true := decide_eq_true (by omega)
      have c6 : decide (0 < n) = true := decide_eq_true (by omega)
      have c7 : decide (0 < (n : Int)) = true := decide_eq_true (by omega)
      clear hT k5
      go_upto_region 31 with (first | (go_at_call 41; (with_reducible refine (Rt.blank z false _ HBL.out).mono ?_); rintro e w' ⟨rfl, ⟨nd_, rfl⟩⟩; have n0_ := Aside0.mk (HS.out.drewN nd_); clear HS x0 x1 x2 f0 f1 f2; generalize (World.drewN _ nd_) = w3 at n0_ ⊢; have HS := n0_; clear n0_; obtain ⟨x0, x1, x2, f0, f1, f2⟩ := Tk.three HS.out.c) | (go_at_call 44; (with_reducible refine (Rt.letter z false _ HLT.out).mono ?_); rintro e w' ⟨rfl, ⟨nd_, rfl⟩⟩; have n0_ := Aside0.mk (HS.out.drewN nd_); clear HS x0 x1 x2 f0 f1 f2; generalize (World.drewN _ nd_) = w4 at n0_ ⊢; have HS := n0_; clear n0_; obtain ⟨x0, x1, x2, f0, f1, f2⟩ := Tk.three HS.out.c) | (go_at_call 45; (with_reducible refine (Rt.number s a _ HNE.out _).mono ?_); rintro e w' ⟨rfl, ⟨nd_, rfl⟩⟩; have n0_ := Aside0.mk (HS.out.drewN nd_); clear HS x0 x1 x2 f0 f1 f2; generalize (World.drewN _ nd_) = w5 at n0_ ⊢; have HS := n0_; clear n0_; obtain ⟨x0, x1, x2, f0, f1, f2⟩ := Tk.three HS.out.c))
      have n0_ := Aside0.mk (HS.out.set n1_ GC.out 0 (.int .i64 7) (ds := #[.int .i64 7, .int .i64 a, .int .i64 (a + 1)]) rfl)
      clear HS x0 x1 x2 f0 f1 f2
      generalize ((w5).setCell ⟨gc, 0, none⟩ (.int .i64 7)) = w6 at n0_ ⊢
      have HS := n0_
      clear n0_
      obtain ⟨x0, x1, x2, f0, f1, f2⟩ := Tk.three HS.out.c
      go_upto_region 32 with (first | (go_at_call 45; (with_reducible refine (Rt.number s a _ HNE.out _).mono ?_); rintro e w' ⟨rfl, ⟨nd_, rfl⟩⟩; have n0_ := Aside0.mk (HS.out.drewN nd_); clear HS x0 x1 x2 f0 f1 f2; generalize (World.drewN _ nd_) = w7 at n0_ ⊢; have HS := n0_; clear n0_; obtain ⟨x0, x1, x2, f0, f1, f2⟩ := Tk.three HS.out.c))
      have HF : Aside0 (RtS w ((w7).setCell ⟨gc, 2, none⟩ (.int .i64 (a + (n : Int)))) gr gc #[.int .i64 7, .int .i64 a, .int .i64 (a + (n : Int))]) := ⟨HS.out.set n1_ GC.out 2 _ rfl⟩
      clear HS x0 x1 x2 f0 f1 f2
      generalize ((w7).setCell ⟨gc, 2, none⟩ (.int .i64 (a + (n : Int)))) = w9 at HF ⊢
      obtain ⟨x0, x1, x2, f0, f1, f2⟩ := Tk.three HF.out.c
      obtain ⟨v0, v1, v2, k0, k1_, k2⟩ := Tk.three HF.out.r
      go_wp2
      refine bodyPost_ret (results_cell_row rfl _ _ gr 34 #[.int .i64 7, .int .i64 a, .int .i64 (a + (n : Int))] (0, 0) _ rfl (Tk.set3 HF.out.r) Try.underlying34 rfl (by kernel_rfl)) rfl ?_
      refine ⟨?_, below_set (below_set (below_set HF.out.b GR.out) GR.out) GR.out⟩
      have eK : 7 = Tq.1 := by rw [← HT2.out]
      have eT : (a + (n : Int)) = a + ((Tq.2 : Nat) : Int) := by rw [← HT2.out]
      rw [← eK, ← eT]
end Go.Proofs.Ytnhkdpcncjkmlaa.G
