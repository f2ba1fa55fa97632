/- good.Good by its contract. -/
import Derived.Test.YtehojohacombkaaGd4
import Derived.Test.YtehojohacombkaaLa
import Derived.Test.YtehojohacombkaaGLexPSolid
namespace Go.Proofs.Ytehojohacombkaa.Pl
open Go.RowKit Go.Proofs.Ytehojohacombkaa.G Go.Proofs.Ytehojohacombkaa.Lx Go.Proofs.YtehojohacombkaaW.PrintWords Go.Proofs.YtehojohacombkaaW.PrintLast Go.Proofs.YtehojohacombkaaW.PrintMore
open Go.Proofs.Ytehojohacombkaa.Gd (solid)
set_option linter.unusedVariables false
set_option linter.unusedSimpArgs false
theorem solid_l0 (E : Int) (ts : List Tk) (hl : ts.length ≤ 300) : ∀ (suf pre acc : List Tk), ts = pre ++ suf → acc.length ≤ pre.length →
    Ev (fun k => lex_Solid.l0 k E acc ts (ts.length : Int) (pre.length : Int)) (acc ++ solid suf, E) := by
  intro suf
  induction suf with
  | nil =>
    intro pre acc e h
    refine Ev.step (fun k => by rw [lex_Solid.l0]) ?_
    rw [List.append_nil] at e
    subst e
    simp only [if_neg (show ¬ (ts.length : Int) < (ts.length : Int) by omega), solid, List.filter_nil, List.append_nil]
    exact Ev.now _
  | cons c suf ih =>
    intro pre acc e h
    have hlt := lt_of e
    have hlen : pre.length < 300 := by have := congrArg List.length e; simp at this; omega
    have hw : wrap64 ((pre.length : Int) + 1) = ((pre ++ [c]).length : Int) := by rw [w64 (by omega) (by omega)]; simp
    have e2 : ts = (pre ++ [c]) ++ suf := by rw [e]; simp
    refine Ev.step (fun k => by rw [lex_Solid.l0]) ?_
    simp only [if_pos hlt, if_pos (show (0 : Int) ≤ (pre.length : Int) by omega), rd_of e, hw]
    by_cases c1 : c.f0 = 10
    · simp only [if_pos c1]
      have := ih (pre ++ [c]) acc e2 (by simp; omega)
      rwa [show solid (c :: suf) = solid suf by simp [solid, c1]]
    · simp only [if_neg c1]
      by_cases c2 : c.f0 = 9
      · simp only [if_pos c2]
        have := ih (pre ++ [c]) acc e2 (by simp; omega)
        rwa [show solid (c :: suf) = solid suf by simp [solid, c2]]
      · simp only [if_neg c2, if_pos (show acc.length < 5864062014805 by omega)]
        have := ih (pre ++ [c]) (acc ++ [c]) e2 (by simp; omega)
        rw [show solid (c :: suf) = c :: solid suf by simp [solid, c1, c2]]
        rwa [List.append_assoc] at this
theorem solid_ev (s : ByteArray) (T : List Tk) (E : Int) (h : lex_Tokens.f s = some (T, E)) (hl : T.length ≤ 300) : Ev (fun k => lex_Solid.f k s) (solid T, E) := by
  refine Ev.congr (fun k => by rw [lex_Solid.f, h, opt_some]) ?_
  have := solid_l0 E T hl T [] [] rfl (by simp)
  simpa using this
end Go.Proofs.Ytehojohacombkaa.Pl
namespace Go.Proofs.Ytehojohacombkaa.G
open Go.RowKit Go.Proofs.YtehojohacombkaaW.PrintWords Go.Proofs.YtehojohacombkaaW.PrintLast Go.Proofs.YtehojohacombkaaW.PrintMore
open Go.Proofs.Ytehojohacombkaa.Lx (Tk toks)
open Go.Proofs.Ytehojohacombkaa.Gd (val solid good)
set_option linter.unusedVariables false
set_option linter.unusedSimpArgs false
theorem Gd.solid_any (s : ByteArray) (T : List Tk) (E : Int) (h : Ev (fun k => lex_Solid.f k s) (T, E)) (w : World) (hm : MaxOk w) :
    Calls Try.prog 26 #[.string s] w fun e w' => ∃ v0_ : Value, e = .returned (.tuple #[v0_, .int .i64 E]) ∧ Kd.R k46 46 w' w.heap.size (fun _ => True) v0_ T ∧ Below w.heap.size w w' := by
  obtain ⟨k, hk⟩ := Ev.rounds h
  exact lex_Solid.calls k s T E w hm hk
set_option maxRecDepth 100000 in
set_option maxHeartbeats 8000000 in
theorem Gd.long_any (s : ByteArray) (hs : ¬ s.size ≤ 300) (w : World) (hm : MaxOk w) :
    Calls Try.prog 13 #[.string s] w fun e w' => e = .returned (.tuple #[.bool false, .int .i64 1200]) ∧ Below w.heap.size w w' := by
  have HV := Aside0.mk (Pl.solid_ev s [] 900 (Pl.tok_big hs) (by simp))
  have HM := Aside0.mk hm
  clear hm
  go_enter Try.func13, Try.ntmps13
  go_wp2_with (first | (go_at_call 26; (with_reducible refine (Gd.solid_any s _ 900 HV.out w HM.out).mono ?_); rintro e w1 ⟨v, rfl, ho_, hb_⟩; have HB := Aside0.mk hb_; clear ho_ hb_))
  go_ret2
  exact ⟨rfl, HB.out⟩
set_option maxRecDepth 100000 in
set_option maxHeartbeats 8000000 in
theorem Gd.good_any (s : ByteArray) (hs : s.size ≤ 300) (w : World) (hm : MaxOk w) :
    Calls Try.prog 13 #[.string s] w fun e w' => e = .returned (.tuple #[.bool (good (byt s)), .int .i64 0]) ∧ Below w.heap.size w w' := by
  obtain ⟨T, hT⟩ : ∃ T, solid (toks (byt s)) = T := ⟨_, rfl⟩
  have hv := Pl.solid_ev s (toks (byt s)) 0 (Pl.tok_ev hs) (by have := Pl.toks_len (byt s); rw [byt_len] at this; omega)
  rw [hT] at hv
  have HV := Aside0.mk hv
  have HM := Aside0.mk hm
  have HVC := Aside0.mk (Gd.value_all 12 (Nat.le_refl _))
  obtain ⟨G, hG⟩ : ∃ G, good (byt s) = G := ⟨_, rfl⟩
  rw [hG]
  unfold Go.Proofs.Ytehojohacombkaa.Gd.good at hG
  rw [hT] at hG
  have HG := Aside0.mk hG
  clear hm hv hT hG
  go_enter Try.func13, Try.ntmps13
  go_upto_region 4 with (go_at_call 26; (with_reducible refine (Gd.solid_any s _ 0 HV.out w HM.out).mono ?_); rintro e w1 ⟨v, rfl, ho_, hb_⟩; have HB := Aside0.mk hb_; have HO := Aside0.mk ho_; clear ho_ hb_)
  obtain ⟨A0, c0, e0⟩ := Kd.R_slice HO.out
  subst e0
  have HK := Aside0.mk (Kd.R_reads' HO.out).2.2
  have HL := Aside0.mk (Kd.R_reads' HO.out).2.1
  clear HO
  go_upto_region 5 with (fail)
  have HR : Aside0 (IsRow w1 (w1.alloc (.cells #[.slice A0 T.length c0] 59)) w1.heap.size T) := ⟨⟨A0, c0, blk_new w1 _, Nat.le_refl _, HK.out, HL.out⟩⟩
  have HW : Aside0 (Below w1.heap.size w1 (w1.alloc (.cells #[.slice A0 T.length c0] 59))) := ⟨below_alloc (Below.refl _ _) _⟩
  obtain ⟨g, eg⟩ : ∃ g, w1.heap.size = g := ⟨_, rfl⟩
  rw [eg] at HR ⊢
  generalize (w1.alloc (.cells #[.slice A0 T.length c0] 59)) = w2 at HR HW ⊢
  clear eg
  cases hv : val 12 T with
  | none =>
    have HX := Aside0.mk hv
    clear hv
    go_wp2_with (first | (go_at_call 27; (with_reducible refine (VC.at HVC.out g T 1 w1 _ (by decide) HW.out HR.out).mono ?_); rw [HX.out]; rintro e w9 ⟨hs_, rfl, ts_, hr_⟩; have HS := Aside0.mk hs_; clear hs_ hr_))
    go_ret2
    have hG := HG.out
    rw [HX.out] at hG
    exact ⟨by rw [← hG]; rfl, below_step HB.out HS.out.below⟩
  | some us =>
    have HX := Aside0.mk hv
    clear hv
    cases us with
    | nil =>
      go_wp2_with (first | (go_at_call 27; (with_reducible refine (VC.at HVC.out g T 1 w1 _ (by decide) HW.out HR.out).mono ?_); rw [HX.out]; rintro e w9 ⟨hs_, rfl, hr_⟩; have HS := Aside0.mk hs_; obtain ⟨A1, c1, hb_, _, _, _⟩ := hr_; have x0 : w9.cell? ⟨g, 0, none⟩ = some (.slice A1 0 c1) := (blk_cell hb_ 0).trans rfl; clear hs_ hb_))
      go_ret2
      have hG := HG.out
      rw [HX.out] at hG
      exact ⟨by rw [← hG]; rfl, below_step HB.out HS.out.below⟩
    | cons d r =>
      have q2 : (((d :: r).length : Int) == 0) = false := beq_eq_false_iff_ne.mpr (by simp only [List.length_cons]; omega)
      have q3 : ((d :: r).length == 0) = false := beq_eq_false_iff_ne.mpr (by simp)
      obtain ⟨n, hn⟩ : ∃ n, (d :: r).length = n := ⟨_, rfl⟩
      rw [hn] at q2 q3
      have HN := Aside0.mk hn
      clear hn
      go_wp2_with (first | (go_at_call 27; (with_reducible refine (VC.at HVC.out g T 1 w1 _ (by decide) HW.out HR.out).mono ?_); rw [HX.out]; rintro e w9 ⟨hs_, rfl, hr_⟩; have HS := Aside0.mk hs_; obtain ⟨A1, c1, hb_, _, _, _⟩ := hr_; rw [HN.out] at hb_; have x0 : w9.cell? ⟨g, 0, none⟩ = some (.slice A1 n c1) := (blk_cell hb_ 0).trans rfl; clear hs_ hb_))
      go_ret2
      have hG := HG.out
      rw [HX.out] at hG
      exact ⟨by rw [← hG]; rfl, below_step HB.out HS.out.below⟩
end Go.Proofs.Ytehojohacombkaa.G
