/- The plain law GoodTrees: a text is in the language just if its tree has no errors. -/
import Derived.Test.YtehojohacombkaaGa
import Derived.Test.YtehojohacombkaaPg
import Derived.Test.YtehojohacombkaaGMinuetlaw12PGoodTrees
namespace Go.Proofs.Ytehojohacombkaa.Pl
open Go.RowKit Go.Proofs.Ytehojohacombkaa.G Go.Proofs.Ytehojohacombkaa.Lx Go.Proofs.YtehojohacombkaaW.PrintWords Go.Proofs.YtehojohacombkaaW.PrintLast Go.Proofs.YtehojohacombkaaW.PrintMore
open Go.Proofs.Ytehojohacombkaa.Ps (Nd nodesN errs kinds good_tree mainN valN bgK putN Wf)
set_option linter.unusedVariables false
set_option linter.unusedSimpArgs false
theorem rdn_of {xs pre suf : List Nd} {c : Nd} (e : xs = pre ++ c :: suf) : rd_T34 xs (pre.length : Int) = c := by
  subst e; simp [rd_T34]
theorem errs_cons (x : Nd) (r : List Nd) : errs (x :: r) = (if x.f1 = 7 then 1 else 0) + errs r := by
  unfold Go.Proofs.Ytehojohacombkaa.Ps.errs Go.Proofs.Ytehojohacombkaa.Ps.kinds
  rw [List.map_cons, List.count_cons]
  by_cases h : x.f1 = 7
  · rw [if_pos h, if_pos (by simpa using h)]; omega
  · rw [if_neg h, if_neg (by simpa using h)]; omega
theorem gt_l0 (G : Bool) (xs : List Nd) (r0 r1 : Int) (hl : xs.length ≤ 5000) (h1 : 1 < xs.length) (hG : G = decide (errs xs = 0)) : ∀ (suf pre : List Nd) (e : Nat), xs = pre ++ suf → e + errs suf = errs xs → e ≤ pre.length →
    Ev (fun k => minuetlaw12_GoodTrees.l0 k G 0 (e : Int) (pre.length : Int) r0 r1 xs) true := by
  intro suf
  induction suf with
  | nil =>
    intro pre e he hs hp
    refine Ev.step (fun k => by rw [minuetlaw12_GoodTrees.l0]) ?_
    have e0 : errs ([] : List Nd) = 0 := rfl
    rw [e0, Nat.add_zero] at hs
    have hb : (G == ((e : Int) == 0)) = true := by
      rw [hG, ← hs, beq_iff_eq, Bool.eq_iff_iff]
      simp only [decide_eq_true_eq, beq_iff_eq]; omega
    simp only [if_neg (nlt_of he), num_eq, opt_some, if_true, hb]
    rw [show decide ((xs.length : Int) > 1) = true from decide_eq_true (by omega)]
    exact Ev.now _
  | cons x suf ih =>
    intro pre e he hs hp
    have hlt : pre.length < xs.length := by rw [he]; simp
    have e2 : xs = (pre ++ [x]) ++ suf := by rw [he]; simp
    have hw : wrap64 ((pre.length : Int) + 1) = ((pre ++ [x]).length : Int) := by rw [w64 (by omega) (by omega)]; simp
    refine Ev.step (fun k => by rw [minuetlaw12_GoodTrees.l0]) ?_
    simp only [if_pos (lt_of he), if_pos (show (0 : Int) ≤ (pre.length : Int) by omega), rdn_of he, hw]
    rw [errs_cons] at hs
    by_cases h7 : x.f1 = 7
    · rw [if_pos h7] at hs
      simp only [if_pos h7]
      rw [show wrap64 ((e : Int) + 1) = ((e + 1 : Nat) : Int) by rw [w64 (by omega) (by omega)]; omega]
      exact ih (pre ++ [x]) (e + 1) e2 (by omega) (by simp; omega)
    · rw [if_neg h7] at hs
      simp only [if_neg h7]
      exact ih (pre ++ [x]) e e2 (by omega) (by simp; omega)
/-- A tree of a text is not without a child of its root, and no greater than so. -/
theorem main_len (en : Int) : ∀ (n : Nat) (had : Bool) (ts : List Tk) (ns : List Nd), Wf ns → 0 < ns.length → (had = true → 1 < ns.length) → ts.length < n →
    1 < (mainN (valN en 12) (bgK 12) en n had ts ns).length ∧ (mainN (valN en 12) (bgK 12) en n had ts ns).length ≤ ns.length + 6 * ts.length + 1 := by
  have vlen : ∀ t r ns, bgK 12 t = true → ns.length < (valN en 12 0 (t :: r) ns).2.length ∨ ¬ (Wf ns ∧ 0 < ns.length) := by
    intro t r ns hb
    by_cases hq : Wf ns ∧ 0 < ns.length
    · left
      unfold Go.Proofs.Ytehojohacombkaa.Ps.valN
      have et : Go.Proofs.Ytehojohacombkaa.Ps.nextT en (t :: r) = t := rfl
      rw [et]
      split
      · obtain ⟨a1, a2, a3, a4⟩ := Go.Proofs.Ytehojohacombkaa.Ps.list_ok (Go.Proofs.Ytehojohacombkaa.Ps.mem_ok (Go.Proofs.Ytehojohacombkaa.Ps.val_ok en 11) 11 en) (bgK 11) en 1 ns.length ((t :: r).length + 1) 0 r (putN ns 0 1 t.f1 t.f2) (by omega) (by rw [Go.Proofs.Ytehojohacombkaa.Ps.putN_len]; omega) (Go.Proofs.Ytehojohacombkaa.Ps.putN_wf hq.1 _ _ _ _ (Int.le_refl 0))
        rw [Go.Proofs.Ytehojohacombkaa.Ps.putN_len] at a1
        exact Nat.lt_of_lt_of_le (Nat.lt_succ_self _) a1
      · split
        · obtain ⟨a1, a2, a3, a4⟩ := Go.Proofs.Ytehojohacombkaa.Ps.list_ok (Go.Proofs.Ytehojohacombkaa.Ps.one_less (Go.Proofs.Ytehojohacombkaa.Ps.val_ok en 11) (by omega)) (bgK 11) en 3 ns.length ((t :: r).length + 1) 0 r (putN ns 0 2 t.f1 t.f2) (by omega) (by rw [Go.Proofs.Ytehojohacombkaa.Ps.putN_len]; omega) (Go.Proofs.Ytehojohacombkaa.Ps.putN_wf hq.1 _ _ _ _ (Int.le_refl 0))
          rw [Go.Proofs.Ytehojohacombkaa.Ps.putN_len] at a1
          exact Nat.lt_of_lt_of_le (Nat.lt_succ_self _) a1
        · rename_i n0 n2
          show ns.length < (Go.Proofs.Ytehojohacombkaa.Ps.scal 0 t ns).length
          have : t.f0 = 6 ∨ t.f0 = 7 ∨ t.f0 = 8 := by
            simp only [bgK, Bool.or_eq_true, Bool.and_eq_true, beq_iff_eq, decide_eq_true_eq] at hb; omega
          unfold Go.Proofs.Ytehojohacombkaa.Ps.scal
          rcases this with h | h | h
          · rw [if_pos h, Go.Proofs.Ytehojohacombkaa.Ps.putN_len]; omega
          · rw [if_neg (by omega), if_pos h, Go.Proofs.Ytehojohacombkaa.Ps.putN_len]; omega
          · rw [if_neg (by omega), if_neg (by omega), if_pos h, Go.Proofs.Ytehojohacombkaa.Ps.putN_len]; omega
    · right; exact hq
  intro n
  induction n with
  | zero => intro had ts ns hw h0 h1 hn; omega
  | succ n ih =>
    intro had ts ns hw h0 h1 hn
    cases ts with
    | nil =>
      show 1 < (if had = true then ns else Go.Proofs.Ytehojohacombkaa.Ps.lackN ns 0 en).length ∧ (if had = true then ns else Go.Proofs.Ytehojohacombkaa.Ps.lackN ns 0 en).length ≤ _
      have := Go.Proofs.Ytehojohacombkaa.Ps.putN_len ns 0 7 en en
      split
      · rename_i hh; have := h1 hh; exact ⟨this, by omega⟩
      · unfold Go.Proofs.Ytehojohacombkaa.Ps.lackN; exact ⟨by omega, by omega⟩
    | cons t r =>
      simp only [List.length_cons] at hn ⊢
      rw [Go.Proofs.Ytehojohacombkaa.Ps.mainN]
      split
      · rename_i hb
        split
        · rename_i hh
          obtain ⟨⟨o1, o2, o3⟩, o4⟩ := Go.Proofs.Ytehojohacombkaa.Ps.wrap_ok (Go.Proofs.Ytehojohacombkaa.Ps.val_ok en 12) en 0 (t :: r) ns (by simp) (by omega) (by omega) hw
          simp only [List.length_cons] at o2 o4
          have := h1 hh
          obtain ⟨i1, i2⟩ := ih true _ (Go.Proofs.Ytehojohacombkaa.Ps.wrapN (valN en 12) en 0 (t :: r) ns).2 o3 (by omega) (fun _ => by omega) (by omega : (Go.Proofs.Ytehojohacombkaa.Ps.wrapN (valN en 12) en 0 (t :: r) ns).1.length < n)
          exact ⟨i1, by omega⟩
        · obtain ⟨⟨o1, o2, o3⟩, o4⟩ := Go.Proofs.Ytehojohacombkaa.Ps.val_ok en 12 0 (t :: r) ns (by simp) (by omega) (by omega) hw
          simp only [List.length_cons] at o2 o4
          have hv := (vlen t r ns hb).resolve_right (fun h => h ⟨hw, h0⟩)
          obtain ⟨i1, i2⟩ := ih true _ (valN en 12 0 (t :: r) ns).2 o3 (by omega) (fun _ => by omega) (by omega : (valN en 12 0 (t :: r) ns).1.length < n)
          exact ⟨i1, by omega⟩
      · have hl := Go.Proofs.Ytehojohacombkaa.Ps.putN_len ns 0 7 t.f1 t.f2
        obtain ⟨i1, i2⟩ := ih had r (putN ns 0 7 t.f1 t.f2) (Go.Proofs.Ytehojohacombkaa.Ps.putN_wf hw _ _ _ _ (Int.le_refl 0)) (by omega) (fun hh => by have := h1 hh; omega) (by omega)
        exact ⟨i1, by omega⟩
theorem nodes_len (l : List UInt8) : 1 < (nodesN l).length ∧ (nodesN l).length ≤ 6 * l.length + 2 := by
  have h := main_len (l.length : Int) ((Go.Proofs.Ytehojohacombkaa.Gd.solid (toks l)).length + 1) false (Go.Proofs.Ytehojohacombkaa.Gd.solid (toks l)) (putN [] 0 0 0 l.length) (Go.Proofs.Ytehojohacombkaa.Ps.putN_wf Go.Proofs.Ytehojohacombkaa.Ps.wf_nil _ _ _ _ (Int.le_refl 0)) (by rw [Go.Proofs.Ytehojohacombkaa.Ps.putN_len]; omega) (fun h => by cases h) (Nat.lt_succ_self _)
  rw [Go.Proofs.Ytehojohacombkaa.Ps.putN_len] at h
  have h2 := toks_len l
  have h3 := List.length_filter_le (fun c : Tk => !(c.f0 == 10 || c.f0 == 9)) (toks l)
  have h4 : (Go.Proofs.Ytehojohacombkaa.Gd.solid (toks l)).length ≤ l.length := by unfold Go.Proofs.Ytehojohacombkaa.Gd.solid; omega
  unfold Go.Proofs.Ytehojohacombkaa.Ps.nodesN
  simp only [List.length_nil] at h
  exact ⟨h.1, by omega⟩
theorem GoodTrees_pure (s : ByteArray) (_hs : s.size ≤ 140737488351232) : ∃ k, minuetlaw12_GoodTrees.f k s = some true := by
  refine Ev.rounds (Ev.congr (fun k => by rw [minuetlaw12_GoodTrees.f, awake12, opt_some, if_pos rfl]) ?_)
  by_cases h : (s.size : Int) > 300
  · have e1 : good_Good.f s = some (false, 1200) := by unfold good_Good.f; rw [if_pos h]
    have e2 : parse_Parse.f s = some (0, 0, [], 1100) := by unfold parse_Parse.f; rw [if_pos h]
    simp only [e1, e2, opt_some, num_eq]
    simp only [Int.reduceEq, if_false, Bool.false_eq_true, beq_self_eq_true]
    exact Ev.now _
  · have e1 : good_Good.f s = some (Go.Proofs.Ytehojohacombkaa.Gd.good (byt s), 0) := by unfold good_Good.f; rw [if_neg h]
    have e2 : parse_Parse.f s = some (0, ((nodesN (byt s)).length : Int), nodesN (byt s), 0) := by unfold parse_Parse.f; rw [if_neg h]
    simp only [e1, e2, opt_some, num_eq, if_true]
    obtain ⟨n1, n2⟩ := nodes_len (byt s)
    rw [byt_len] at n2
    exact gt_l0 _ (nodesN (byt s)) 0 _ (by omega) n1 (good_tree (byt s)).symm (nodesN (byt s)) [] 0 rfl (by omega) (Nat.le_refl _)
end Go.Proofs.Ytehojohacombkaa.Pl
