/- The plain law Again. -/
import Derived.Test.YtnhkdpcncjkmlaaRag
import Derived.Test.YtnhkdpcncjkmlaaAb
import Derived.Test.YtnhkdpcncjkmlaaGMinuetlaw10PAgain
namespace Go.Proofs.Ytnhkdpcncjkmlaa.Pl
open Go.RowKit Go.Proofs.Ytnhkdpcncjkmlaa.G Go.Proofs.Ytnhkdpcncjkmlaa.Lx Go.Proofs.YtnhkdpcncjkmlaaW.PrintWords Go.Proofs.YtnhkdpcncjkmlaaW.PrintLast Go.Proofs.YtnhkdpcncjkmlaaW.PrintMore
set_option linter.unusedVariables false
set_option linter.unusedSimpArgs false
theorem KeptT_ev (x : List Tk) (hl : x.length < 4611686018427387904) : Ev (fun k => minuetlaw0_KeptTokens.f k x x) true :=
  Ev.congr (fun k => by rw [minuetlaw0_KeptTokens.f, if_pos rfl]) (Same_refl x hl)
theorem CopyT_is (a : List Tk) (h : a.length < 5864062014805) : minuetlaw0_CopyTokens.f a = some a := by
  unfold minuetlaw0_CopyTokens.f
  simp only [Option.bind_some, List.length_nil, Nat.zero_add, if_pos h, List.nil_append]
theorem lendT_eq (a : List Tk) (h : a.length * 24 ≤ 140737488351232) : minuetlaw0_LendTokens.f a = some a := by
  unfold minuetlaw0_LendTokens.f
  rw [CopyT_is a (by omega)]
  simp only [Option.bind_some, List.length_cons, List.length_nil, Nat.zero_add, List.length_append]
  rw [if_pos (by omega), if_pos (by omega), if_pos (by omega)]
  simp
theorem agM_len (s : ByteArray) (ts : List Tk) (a c : Int) (put : ByteArray) : (agM s ts a c put).1.length < 4611686018427387904 := by
  unfold agM
  split
  · split
    · rename_i h
      have := (toks_sz h).1
      show (toks (byt (edS s a c put))).length < _
      omega
    · simp
  · simp
theorem ag_j0 (ts T : List Tk) (hl : ts.length < 4611686018427387904) (hT : T.length < 4611686018427387904) : Ev (fun k => minuetlaw10_Again.j0 k ts ts T false) true := by
  refine Ev.step (fun k => by rw [minuetlaw10_Again.j0]) ?_
  simp only [Bool.false_eq_true, if_false]
  obtain ⟨ys, hy⟩ := SpoilT_ev T hT
  refine Ev.bind hy (Ev.bind (KeptT_ev ts hl) ?_)
  simp only [if_true]
  exact Ev.bind awake10_ev (Ev.now _)
theorem ag_j1 (ts T : List Tk) (hl : ts.length < 4611686018427387904) (hT : T.length < 4611686018427387904) : Ev (fun k => minuetlaw10_Again.j1 k ts ts T false) true := by
  refine Ev.step (fun k => by rw [minuetlaw10_Again.j1]) ?_
  simp only [Bool.false_eq_true, if_false]
  obtain ⟨ys, hy⟩ := SpoilT_ev T hT
  refine Ev.bind hy (Ev.bind (KeptT_ev ts hl) ?_)
  simp only [if_true]
  exact Ev.bind awake10_ev (Ev.now _)
theorem ag_j2 (ts T : List Tk) (hl : ts.length < 4611686018427387904) (hT : T.length < 4611686018427387904) : Ev (fun k => minuetlaw10_Again.j2 k ts ts T false) true := by
  refine Ev.step (fun k => by rw [minuetlaw10_Again.j2]) ?_
  simp only [Bool.false_eq_true, if_false]
  obtain ⟨ys, hy⟩ := SpoilT_ev T hT
  refine Ev.bind hy (Ev.bind (KeptT_ev ts hl) ?_)
  simp only [if_true]
  exact Ev.bind awake10_ev (Ev.now _)
theorem Again_pure {ok : Tk → Prop} (s : ByteArray) (ts : List Tk) (own : Bool) (a c : Int) (put : ByteArray) (hs : s.size ≤ 140737488351232) (_h : ∀ c ∈ ts, ok c) (hb : ts.length * 24 ≤ 140737488351232) (_h3 : (Lit.int .i64 a).wf = true) (_h4 : (Lit.int .i64 c).wf = true) (_h5 : put.size ≤ 140737488351232) : ∃ k, minuetlaw10_Again.f k s ts own a c put = some true := by
  refine Ev.rounds (Ev.congr (fun k => by rw [minuetlaw10_Again.f]) ?_)
  have hl : ts.length < 4611686018427387904 := by omega
  have lent : Ev (fun k => (minuetref9_Tokens.f k s)) ((if s.size ≤ 300 then toks (byt s) else []), (if s.size ≤ 300 then 0 else 900)) := by
    by_cases h : s.size ≤ 300
    · simp only [if_pos h]; exact rtok_ev h
    · simp only [if_neg h]; exact rtok_big h
  refine Ev_ite (fun _ => ?_) (fun _ => ?_)
  · refine Ev.bind lent ?_
    refine Ev_ite (fun h0 => ?_) (fun _ => ?_)
    · have hz : s.size ≤ 300 := by
        by_cases h : s.size ≤ 300
        · exact h
        · simp only [if_neg h] at h0; omega
      have hq := (toks_sz hz).1
      simp only [if_pos hz, lendT_eq (toks (byt s)) (by omega), opt_some]
      have hl' : (toks (byt s)).length < 4611686018427387904 := by have := (toks_sz hz).1; omega
      refine Ev.bind (Again_ev s (toks (byt s)) a c put hs) (Ev.bind (rag_ev s (toks (byt s)) a c put) ?_)
      refine Ev.bind (Same_refl _ (agM_len _ _ _ _ _)) ?_
      simp only [if_true, num_eq, opt_some]
      refine Ev.bind (KeptT_ev _ hl') ?_
      exact ag_j0 _ _ hl' (agM_len _ _ _ _ _)
    · simp only [lendT_eq ts hb, opt_some]
      refine Ev.bind (Again_ev s ts a c put hs) (Ev.bind (rag_ev s ts a c put) ?_)
      refine Ev.bind (Same_refl _ (agM_len _ _ _ _ _)) ?_
      simp only [if_true, num_eq, opt_some]
      refine Ev.bind (KeptT_ev _ hl) ?_
      exact ag_j1 _ _ hl (agM_len _ _ _ _ _)
  · simp only [lendT_eq ts hb, opt_some]
    refine Ev.bind (Again_ev s ts a c put hs) (Ev.bind (rag_ev s ts a c put) ?_)
    refine Ev.bind (Same_refl _ (agM_len _ _ _ _ _)) ?_
    simp only [if_true, num_eq, opt_some]
    refine Ev.bind (KeptT_ev _ hl) ?_
    exact ag_j2 _ _ hl (agM_len _ _ _ _ _)
end Go.Proofs.Ytnhkdpcncjkmlaa.Pl
