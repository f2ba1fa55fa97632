-- Laid by this session's own program gprint.py (wip/tools), out of the kit's print and of texts of this session. Lean checks it.
import Derived.Test.YtehojohacombkaaGx0
import Derived.Test.YtehojohacombkaaLc8
namespace Go.Proofs.Ytehojohacombkaa.G
open Go.RowKit Go.Proofs.YtehojohacombkaaW.PrintWords Go.Proofs.YtehojohacombkaaW.PrintLast Go.Proofs.YtehojohacombkaaW.PrintMore
set_option linter.unusedVariables false
set_option linter.unusedSimpArgs false

/-! ### lex_Tokens: function 50 -/
/-- The cell of the library's own bound holds some number. -/
def MaxOk (w : World) : Prop := ∃ m, w.cell? ⟨0, 0, none⟩ = some (.int .i64 m)
theorem MaxOk.of {w W : World} (h : MaxOk w) (hb : Below w.heap.size w W) : MaxOk W := h.elim fun m hm => ⟨m, pw_cell_below hb hm⟩
theorem lex_Tokens.typed {W : World} {base : Nat} {ok : Nat → Prop} {v : Value} {xs : List (S46)} (h : Kd.R k46 46 W base ok v xs) (k : Nat) (hk : v.ownBlock = some k) : ∃ cs, W.heap[k]? = some (.cells cs 46 (0, 0)) := by
 obtain ⟨h0, inner, hown, hr⟩ := h
 rcases hown.2 with ⟨rfl, _⟩ | ⟨g, cap, cur, rfl, _, hc, _⟩
 · simp [Value.ownBlock] at hk
 · have : g = k := by simpa [Value.ownBlock] using hk
   exact ⟨cur, this ▸ hc⟩
theorem lex_Tokens.grown {w0 W W1 : World} {g : Nat} {s : ByteArray} (h : IsLx w0 W g s) {row : Option Nat} (hg : W.grownBy W1 row) (ht : ∀ k, row = some k → ∃ cs, W.heap[k]? = some (.cells cs 46 (0, 0))) : IsLx w0 W1 g s := by
 have ne : ∀ {q t : Nat} {cs : Array Value}, t ≠ 46 → W.heap[q]? = some (.cells cs t (0, 0)) → some q ≠ row := by
  intro q t cs htt hq e
  obtain ⟨cs', hc⟩ := ht q e.symm
  exact blk_ne hq hc htt rfl
 refine ⟨h.1, h.2.elim (fun hf => .inl ?_) (fun ⟨gm, h1, h2, h3, h4⟩ => .inr ⟨gm, h1, h2, ?_, ?_⟩)⟩
 · exact blk_grown hf hg (ne (by decide) (show W.heap[g]? = some (.cells _ _ _) from hf))
 · exact blk_grown h3 hg (ne (by decide) (show W.heap[g]? = some (.cells _ _ _) from h3))
 · exact blk_grown h4 hg (ne (by decide) h4)
theorem lex_Tokens.tks_len : ∀ (n i : Nat) (l : List UInt8), (Go.Proofs.Ytehojohacombkaa.Lx.tks n i l).length ≤ n := by
 intro n
 induction n with
 | zero => intro i l; simp [Go.Proofs.Ytehojohacombkaa.Lx.tks]
 | succ n ih =>
  intro i l
  cases l with
  | nil => simp [Go.Proofs.Ytehojohacombkaa.Lx.tks]
  | cons b r => simp only [Go.Proofs.Ytehojohacombkaa.Lx.tks, List.length_cons]; have := ih (i + (Go.Proofs.Ytehojohacombkaa.Lx.tk (b :: r)).2) ((b :: r).drop (Go.Proofs.Ytehojohacombkaa.Lx.tk (b :: r)).2); omega
theorem lex_Tokens.tks_nil (n i : Nat) : Go.Proofs.Ytehojohacombkaa.Lx.tks n i [] = [] := by cases n <;> rfl
def lex_Tokens.f (a0 : ByteArray) : Option (List (S46) × Int) := if (a0.size : Int) > 300 then some ([], 900) else some (Go.Proofs.Ytehojohacombkaa.Lx.toks (byt a0), 0)
set_option maxRecDepth 100000 in
set_option maxHeartbeats 8000000 in
theorem lex_Tokens.calls (a0 : ByteArray) (r1 : List (S46)) (r2 : Int) (w : World) (hm : MaxOk w) (h : lex_Tokens.f a0 = some (r1, r2)) :
 Calls Try.prog 50 #[.string a0] w fun e w' => ∃ v0_ : Value, e = .returned (.tuple #[v0_, .int .i64 r2]) ∧ Kd.R k46 46 w' w.heap.size (fun _ => True) v0_ r1 ∧ Below w.heap.size w w' := by
 unfold lex_Tokens.f at h
 have HB := Aside0.mk (Below.refl w.heap.size w)
 by_cases hs : (a0.size : Int) > 300
 · rw [if_pos hs] at h
   simp only [Option.some.injEq, Prod.mk.injEq] at h
   obtain ⟨rfl, rfl⟩ := h
   have b1 : decide (300 < (a0.size : Int)) = true := decide_eq_true hs
   have b2 : decide (300 < a0.size) = true := decide_eq_true (by omega)
   go_enter Try.func50, Try.ntmps50
   go_wp2
   go_ret2
   exact ⟨_, rfl, Kd.R_nil _ _ _ _ _, HB.out⟩
 · rw [if_neg hs] at h
   simp only [Option.some.injEq, Prod.mk.injEq] at h
   obtain ⟨rfl, rfl⟩ := h
   have b1 : decide (300 < (a0.size : Int)) = false := decide_eq_false hs
   have b2 : decide (300 < a0.size) = false := decide_eq_false (by omega)
   obtain ⟨m, hm⟩ := hm
   have HM := Aside0.mk hm
   clear hm
   obtain ⟨T, hT⟩ : ∃ T, Go.Proofs.Ytehojohacombkaa.Lx.toks (byt a0) = T := ⟨_, rfl⟩
   rw [hT]
   have HT := Aside0.mk hT
   have HTL : Aside0 (T.length ≤ 300) := ⟨by rw [← hT]; have := lex_Tokens.tks_len (byt a0).length 0 (byt a0); rw [byt_len] at this; unfold Go.Proofs.Ytehojohacombkaa.Lx.toks; rw [byt_len]; omega⟩
   clear hT
   have hs3 : a0.size ≤ 300 := by omega
   go_enter Try.func50, Try.ntmps50
   go_wp2
   have HI : Aside0 (IsLx w (w.alloc (.cells #[.string a0, .int .u32 0, .int .i32 0, .int .u32 0, .slice none 0 0] 108)) w.heap.size a0) := ⟨⟨Nat.le_refl _, .inl (blk_new w _)⟩⟩
   have HB1 : Aside0 (Below w.heap.size w (w.alloc (.cells #[.string a0, .int .u32 0, .int .i32 0, .int .u32 0, .slice none 0 0] 108))) := ⟨below_alloc HB.out _⟩
   obtain ⟨g, eg⟩ : ∃ g, w.heap.size = g := ⟨_, rfl⟩
   have EG := Aside0.mk eg
   rw [eg] at HI ⊢
   generalize (w.alloc (.cells #[.string a0, .int .u32 0, .int .i32 0, .int .u32 0, .slice none 0 0] 108)) = w1 at HI HB1 ⊢
   clear eg HB
   go_loopg [5, 6] (a0.size + 1) (fun kq v5 v6 wr => ∃ (xs : List (S46)) (i : Int) (n : Nat), v6 = .int .i64 i ∧ Aside0 (0 ≤ i ∧ i ≤ (a0.size : Int) ∧ (a0.size : Int) - i < (kq : Int) ∧ (a0.size : Int) - i ≤ (n : Int) ∧ xs ++ Go.Proofs.Ytehojohacombkaa.Lx.tks n i.toNat ((byt a0).drop i.toNat) = T) ∧ Aside0 (Kd.R k46 46 wr w.heap.size (fun k_ => k_ ≠ g) v5 xs) ∧ Aside0 (IsLx w wr g a0) ∧ Aside0 (Below w.heap.size w wr))
   case atStart => exact ⟨[], 0, a0.size, rfl, ⟨by omega, by omega, by omega, by omega, by rw [← HT.out]; unfold Go.Proofs.Ytehojohacombkaa.Lx.toks; rw [byt_len]; rfl⟩, ⟨Kd.R_nil _ _ _ _ _⟩, HI, HB1⟩
   case round =>
    clear HI HB1
    obtain ⟨xs, i, n, rfl, HJ, HO, HI, HB⟩ := hrel
    obtain ⟨i0, i1, i2, i3, i4⟩ := HJ.out
    cases gk with
    | zero => omega
    | succ k1 =>
     by_cases hi : i < (a0.size : Int)
     · have c1 : decide (i < (a0.size : Int)) = true := decide_eq_true hi
       cases n with
       | zero => omega
       | succ n1 =>
        have hd := byt_drop a0 i.toNat (by omega)
        have htl := @Go.Proofs.Ytehojohacombkaa.Lx.tk_le (a0[i.toNat]'(by omega)) ((byt a0).drop (i.toNat + 1))
        rw [← hd, List.length_drop, byt_len] at htl
        rw [hd] at i4
        simp only [Go.Proofs.Ytehojohacombkaa.Lx.tks] at i4
        rw [← hd] at i4
        obtain ⟨⟨K, L⟩, hq⟩ : ∃ q, Go.Proofs.Ytehojohacombkaa.Lx.tk ((byt a0).drop i.toNat) = q := ⟨_, rfl⟩
        rw [hq] at htl i4
        simp only [List.drop_drop] at htl i4
        have HQ := Aside0.mk hq
        obtain ⟨j, hj⟩ : ∃ j, i + (L : Int) = j := ⟨_, rfl⟩
        have ej : ((i.toNat + L : Nat) : Int) = j := by omega
        have ej2 : i.toNat + L = j.toNat := by omega
        have ei : ((i.toNat : Nat) : Int) = i := by omega
        rw [ej, ej2, ei] at i4
        have HX := Aside0.mk i4
        have HJJ := Aside0.mk hj
        have hlen : xs.length < 300 := by
         have h_ := congrArg List.length i4
         simp only [List.length_append, List.length_cons] at h_
         have := HTL.out
         omega
        obtain ⟨ys, hys⟩ : ∃ ys, ys = xs ++ [(⟨K, i, j⟩ : S46)] := ⟨_, rfl⟩
        have HY := Aside0.mk hys
        have HL := Aside0.mk hlen
        have HTL2 := Aside0.mk htl
        have HMW := Aside0.mk (⟨m, HM.out⟩ : MaxOk w)
        clear i4 hq hd ej ej2 ei hj hys hlen htl
        go_upto_region 8 with (go_at_call 68; (with_reducible refine (Lx.token_any g a0 i m hs3 i0 hi w _ HB.out HI.out HM.out).mono ?_); rintro e w2 ⟨rfl, hst⟩; rw [HQ.out]; simp only [HJJ.out]; have n0_ := Aside0.mk hst.is; have n1_ := Aside0.mk hst.below; have n2_ := Aside0.mk (Kd.R_kept HO.out hst.kept (fun k_ hk_ e_ => hk_ e_)); clear HO HI HB hst; have HI := n0_; have HB := n1_; have HO := n2_; clear n0_ n1_ n2_)
        obtain ⟨gb, egb⟩ : ∃ gb, w2.heap.size = gb := ⟨_, rfl⟩
        have BK : Aside0 ((w2.alloc (.cells #[.int .i64 K, .int .i64 i, .int .i64 j] 46)).heap[gb]? = some (.cells #[.int .i64 K, .int .i64 i, .int .i64 j] 46 (0, 0))) := ⟨by rw [← egb]; exact blk_new w2 _⟩
        have HO2 : Aside0 (Kd.R k46 46 (w2.alloc (.cells #[.int .i64 K, .int .i64 i, .int .i64 j] 46)) w.heap.size (fun k_ => k_ ≠ gb ∧ k_ ≠ g) u5 xs) := ⟨Kd.R_alloc (Kd.R_mono (Kd.R_bound HO.out) (fun k_ hs_ => ⟨by have := hs_.2.2.1; omega, hs_.1⟩)) _⟩
        have HI2 : Aside0 (IsLx w (w2.alloc (.cells #[.int .i64 K, .int .i64 i, .int .i64 j] 46)) g a0) := ⟨HI.out.below (below_alloc (Below.refl _ _) _)⟩
        have HB2 : Aside0 (Below w.heap.size w (w2.alloc (.cells #[.int .i64 K, .int .i64 i, .int .i64 j] 46))) := ⟨below_alloc HB.out _⟩
        rw [egb]
        generalize (w2.alloc (.cells #[.int .i64 K, .int .i64 i, .int .i64 j] 46)) = w3 at BK HO2 HI2 HB2 ⊢
        clear egb HO HI HB
        have HO := HO2
        have HI := HI2
        have HB := HB2
        clear HO2 HI2 HB2
        have GG := Aside0.mk HI.out.lt
        have GB := Aside0.mk (blk_lt BK.out)
        obtain ⟨y0, y1, y2, f0, f1, f2⟩ := Tk.three BK.out
        go_wp2_with (first | ((with_reducible refine gate_builtin (b := .append) (xs := #[.tmp 21, .tmp 23]) rfl ?_); at_builtin; refine Kd.R_append k46 (w0 := w) w.heap.size rfl (.tmp 21) (.tmp 23) 42 46 (.agg #[(.int .i64 0), (.int .i64 0), (.int .i64 0)]) 24 rfl Try.underlying42 info46 rfl (by decide) (by omega) u5 xs (⟨K, i, j⟩ : S46) [.int .i64 K, .int .i64 i, .int .i64 j] (fun k_ => k_ ≠ gb ∧ k_ ≠ g) (fun _ => False) rfl (by first | (go_simp; done) | (go_simp; rfl)) ?aP (fun _ hk => hk.elim) ?aF ?aO ?aB ?aS ?aL ?_; (case aP => exact k46_mkM _ _ _ (⟨K, i, j⟩ : S46)); (case aB => exact HB.out); (case aF => exact (fun k_ hk => ⟨by have := GB.out; omega, by have := GG.out; omega⟩)); (case aO => exact HO.out); (case aS => exact HB.out.size); (case aL => have := HL.out; omega); intro v106 w9 ho hb hg hat; rw [← HY.out] at ho; have n0_ := Aside0.mk (blk_grown BK.out hg (fun e_ => (HO.out.1 gb e_.symm).1 rfl)); have n1_ := Aside0.mk hb; have n2_ := Aside0.mk (Kd.R_mono ho (fun _ hk => hk.2)); have n3_ := Aside0.mk (lex_Tokens.grown HI.out hg (lex_Tokens.typed HO.out)); clear BK HB HO HI ho hb hg hat y0 y1 y2 f0 f1 f2; have BK := n0_; have HB := n1_; have HO := n2_; have HI := n3_; clear n0_ n1_ n2_ n3_; obtain ⟨y0, y1, y2, f0, f1, f2⟩ := Tk.three BK.out))
        go_roundg k1
        case measure => have := HTL2.out.1; have := HJJ.out; omega
        case rel => exact ⟨ys, j, n1, rfl, ⟨by have := HTL2.out; have := HJJ.out; omega, by have := HTL2.out; have := HJJ.out; omega, by have := HTL2.out; have := HJJ.out; omega, by have := HTL2.out; have := HJJ.out; omega, by rw [HY.out, List.append_assoc]; exact HX.out⟩, HO, HI, HB⟩
     · have c1 : decide (i < (a0.size : Int)) = false := decide_eq_false hi
       rw [List.drop_eq_nil_of_le (by rw [byt_len]; omega), lex_Tokens.tks_nil, List.append_nil] at i4
       subst i4
       have HO2 := Aside0.mk (Kd.R_mono HO.out (fun _ _ => trivial))
       go_wp2
       go_ret2
       exact ⟨_, rfl, HO2.out, HB.out⟩


end Go.Proofs.Ytehojohacombkaa.G
