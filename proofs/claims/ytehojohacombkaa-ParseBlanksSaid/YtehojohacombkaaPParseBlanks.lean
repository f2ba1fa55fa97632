/- The plain law ParseBlanks: blanks and remarks ahead turn places alone. -/
import Derived.Test.YtehojohacombkaaPa
import Derived.Test.YtehojohacombkaaPb
import Derived.Test.YtehojohacombkaaGMinuetlaw11PParseBlanksA
namespace Go.Proofs.Ytehojohacombkaa.Pl
open Go.RowKit Go.Proofs.Ytehojohacombkaa.G Go.Proofs.Ytehojohacombkaa.Lx Go.Proofs.YtehojohacombkaaW.PrintWords Go.Proofs.YtehojohacombkaaW.PrintLast Go.Proofs.YtehojohacombkaaW.PrintMore
open Go.Proofs.Ytehojohacombkaa.Ps
set_option linter.unusedVariables false
set_option linter.unusedSimpArgs false
theorem SameInts_l0 (xs : List Int) (hl : xs.length < 4611686018427387904) : ∀ (g i : Nat), i + g = xs.length → Ev (fun k => minuetlaw0_SameInts.l0 k xs xs (i : Int)) true := by
  intro g
  induction g with
  | zero =>
    intro i h
    refine Ev.step (fun k => by rw [minuetlaw0_SameInts.l0]) ?_
    simp only [if_neg (show ¬ (i : Int) < (xs.length : Int) by omega)]; exact Ev.now _
  | succ g ih =>
    intro i h
    refine Ev.step (fun k => by rw [minuetlaw0_SameInts.l0]) ?_
    have w3 : wrap64 ((i : Int) + 1) = ((i + 1 : Nat) : Int) := by rw [w64 (by omega) (by omega)]; omega
    simp only [if_pos (show (i : Int) < (xs.length : Int) by omega), if_pos (show (0 : Int) ≤ (i : Int) by omega), if_true, w3]
    exact ih (i + 1) (by omega)
theorem SameInts_refl (xs : List Int) (hl : xs.length < 4611686018427387904) : Ev (fun k => minuetlaw0_SameInts.f k xs xs) true := by
  refine Ev.congr (fun k => by rw [minuetlaw0_SameInts.f]) ?_
  simp only [if_true]
  exact SameInts_l0 xs hl xs.length 0 (by omega)
theorem par_ok {s : ByteArray} (h : s.size ≤ 300) : parse_Parse.f s = some (0, ((nodesN (byt s)).length : Int), nodesN (byt s), 0) := by
  unfold parse_Parse.f; rw [if_neg (by omega)]
theorem map_zero (ks : List Int) : ks.map (· + (0 : Int)) = ks := by
  rw [show ((· + (0 : Int)) : Int → Int) = id from funext (fun x => Int.add_zero x), List.map_id]
theorem wback (a : Int) (b : Nat) (h0 : 0 ≤ a) (h1 : a ≤ 300) : wrap64 (a + (b : Int) - (b : Int)) = a := by rw [Int.add_sub_cancel, w64 (by omega) (by omega)]
theorem wsucc (i : Nat) (h : i ≤ 100000) : wrap64 ((i : Int) + 1) = ((i + 1 : Nat) : Int) := by rw [w64 (by omega) (by omega)]; omega
theorem bl_l0 (w : ByteArray) (t u : List Nd) (a b c d : Int) (q g : Nd) (G : Int → Nd) (he : Emb 0 0 (w.size : Int) q g G t u) (hq : q.f0 = g.f0 ∧ q.f1 = g.f1 ∧ q.f2 = g.f2 ∧ q.f3 + (w.size : Int) = g.f3 ∧ q.f1 = 0 ∧ g.f4 = []) (hw : w.size ≤ 9) (hb : Bd 300 t) (hl : t.length ≤ 4000) :
    ∀ (n i : Nat), i + n = t.length → Ev (fun k => minuetlaw11_ParseBlanks.l0 k w (i : Int) a b t c d u) true := by
  have hu := he.len
  intro n
  induction n with
  | zero =>
    intro i h
    refine Ev.step (fun k => by rw [minuetlaw11_ParseBlanks.l0]) ?_
    simp only [if_neg (show ¬ (i : Int) < (t.length : Int) by omega)]; exact Ev.now _
  | succ n ih =>
    intro i h
    refine Ev.step (fun k => by rw [minuetlaw11_ParseBlanks.l0]) ?_
    have hm : rdn t (i : Int) ∈ t := rdn_mem (by omega) (by omega)
    have hk := (he.wf _ hm).1
    have hbb := hb _ hm
    simp only [if_pos (show (i : Int) < (t.length : Int) by omega), if_pos (show (0 : Int) ≤ (i : Int) by omega), if_pos (show (i : Int) < (u.length : Int) by omega), wsucc i (by omega)]
    by_cases hi : i = 0
    · subst hi
      obtain ⟨q0, q1, q2, q3, q4, q5⟩ := hq
      obtain ⟨ks, r1, r2⟩ := he.root
      have r1' : rd_T34 t ((0 : Nat) : Int) = ⟨q.f0, q.f1, q.f2, q.f3, ks⟩ := r1
      have r2' : rd_T34 u ((0 : Nat) : Int) = ⟨g.f0, g.f1, g.f2, g.f3, g.f4 ++ ks.map (· + 0)⟩ := r2
      have hk' : ks.length ≤ t.length := by
        have e : rdn t ((0 : Nat) : Int) = ⟨q.f0, q.f1, q.f2, q.f3, ks⟩ := r1
        rw [e] at hk; exact hk
      have hb' : 0 ≤ q.f3 ∧ q.f3 ≤ 300 := by
        have e : rdn t ((0 : Nat) : Int) = ⟨q.f0, q.f1, q.f2, q.f3, ks⟩ := r1
        rw [e] at hbb; exact hbb.2.2
      have w4 : wrap64 (g.f3 - (w.size : Int)) = q.f3 := by rw [w64 (by omega) (by omega)]; omega
      simp only [r1', r2', if_pos q4, if_pos q0, if_pos q1, if_pos q2, w4, if_true, q5, List.nil_append, map_zero]
      refine Ev.bind (SameInts_refl ks (by omega)) ?_
      simp only [if_true]
      exact ih (0 + 1) (by omega)
    · clear hq
      have e := he.at_ (i : Int) (by omega) (by omega)
      have hk0 := he.kd (i : Int) (by omega) (by omega)
      rw [Int.add_zero] at e
      have e' : rd_T34 u (i : Int) = Go.Proofs.Ytehojohacombkaa.Ps.up 0 (w.size : Int) (rd_T34 t (i : Int)) := e
      have hk0' : ¬ (rd_T34 t (i : Int)).f1 = 0 := hk0
      have hk' : (rd_T34 t (i : Int)).f4.length ≤ t.length := hk
      have hb' : 0 ≤ (rd_T34 t (i : Int)).f2 ∧ (rd_T34 t (i : Int)).f2 ≤ 300 ∧ 0 ≤ (rd_T34 t (i : Int)).f3 ∧ (rd_T34 t (i : Int)).f3 ≤ 300 := hbb
      rw [e']
      generalize rd_T34 t (i : Int) = x at hk0' hk' hb'
      simp only [if_neg hk0', Go.Proofs.Ytehojohacombkaa.Ps.up, Int.add_zero, wback x.f2 w.size hb'.1 hb'.2.1, wback x.f3 w.size hb'.2.2.1 hb'.2.2.2, if_true, map_zero, List.map_id']
      refine Ev.bind (SameInts_refl x.f4 (by omega)) ?_
      simp only [if_true]
      exact ih (i + 1) (by omega)
theorem bl_key (w s : ByteArray) (hw : byt w ∈ aheads) (hs : s.size ≤ 140737488351232) :
    Ev (fun k => if (wrap64 ((s.size : Int) + (w.size : Int))) > 300 then (some true) else ((parse_Parse.f s).bind fun bt106 => (if w.size + s.size ≤ 9223372036854775807 then ((parse_Parse.f (w ++ s)).bind fun bt113 => ((minuetlaw0_Num.f bt106.2.2.2).bind fun t120 => (if t120 = 0 then ((minuetlaw0_Num.f bt113.2.2.2).bind fun t121 => (if t121 = 0 then (minuetlaw11_ParseBlanks.j0 k w ((bt106.2.2.1.length : Int) != (bt113.2.2.1.length : Int)) bt106.1 bt106.2.1 bt106.2.2.1 bt113.1 bt113.2.1 bt113.2.2.1) else (minuetlaw11_ParseBlanks.j0 k w true bt106.1 bt106.2.1 bt106.2.2.1 bt113.1 bt113.2.1 bt113.2.2.1))) else (minuetlaw11_ParseBlanks.j0 k w true bt106.1 bt106.2.1 bt106.2.2.1 bt113.1 bt113.2.1 bt113.2.2.1)))) else (none)))) true := by
  have hwl : w.size ≤ 9 := by
    have e := byt_len w
    simp only [aheads, List.mem_cons, List.not_mem_nil, or_false] at hw
    rcases hw with h | h | h | h <;> (rw [h] at e; simp at e; omega)
  rw [w64 (by omega) (by omega)]
  refine Ev_ite (fun _ => Ev.now _) (fun h => ?_)
  have z : (w ++ s).size = w.size + s.size := ByteArray.size_append
  rw [par_ok (s := s) (by omega), par_ok (s := w ++ s) (by omega)]
  simp only [opt_some, if_pos (show w.size + s.size ≤ 9223372036854775807 by omega), num_eq, if_true]
  have hm := nodes_moved (byt s) (byt (w ++ s)) (w.size : Int) (by rw [byt_len, byt_len, z]; omega) (by
    rw [byt_cat]
    have := ahead_toks (byt w) (byt s) hw
    rw [byt_len] at this; exact this)
  have hbd := nodes_bd (byt s)
  have hln := (nodes_len (byt s)).2
  rw [byt_len] at hbd hln hm
  rw [byt_len, z] at hm
  have hbd' : Bd 300 (nodesN (byt s)) := fun x hx => by have := hbd x hx; omega
  generalize nodesN (byt s) = t at hm hbd' hln
  generalize nodesN (byt (w ++ s)) = u at hm
  have hu := hm.len
  refine Ev.step (fun k => by rw [minuetlaw11_ParseBlanks.j0]) ?_
  rw [show ((t.length : Int) != (u.length : Int)) = false by rw [bne_eq_false_iff_eq]; omega]
  simp only [Bool.false_eq_true, if_false]
  exact bl_l0 w t u _ _ _ _ _ _ _ hm ⟨rfl, rfl, rfl, by simp only; omega, rfl, rfl⟩ hwl hbd' (by omega) t.length 0 (by omega)
def blW : List ByteArray := [(⟨#[32]⟩ : ByteArray), (⟨#[10, 9, 32]⟩ : ByteArray), (⟨#[47, 47, 32, 123, 10]⟩ : ByteArray), (⟨#[47, 42, 32, 91, 49, 93, 32, 42, 47]⟩ : ByteArray)]
theorem ParseBlanks_pure (a0 : ByteArray) (a1 : Int) (hs : a0.size ≤ 140737488351232) (_h : (Lit.int .i64 a1).wf = true) : ∃ k, minuetlaw11_ParseBlanks.f k a0 a1 = some true := by
  refine Ev.rounds (Ev.congr (fun k => by rw [minuetlaw11_ParseBlanks.f]) ?_)
  refine Ev.bind awake11 ?_
  simp only [if_true, opt_some]
  obtain ⟨g0, g1⟩ := and_mask a1 3 (by decide)
  rw [show ((3 : Nat) : Int) = 3 from rfl] at g0 g1
  generalize Go.bits .and .i64 a1 3 = j at g0 g1
  obtain ⟨n, rfl⟩ := Int.eq_ofNat_of_zero_le g0
  have hn : n < 4 := by omega
  clear g0 g1 _h
  obtain ⟨w, hw⟩ : ∃ w, w = rdOf ByteArray.empty blW (n : Int) := ⟨_, rfl⟩
  have hw2 : byt w ∈ aheads := by
    rw [hw]
    match n, hn with
    | 0, _ => decide
    | 1, _ => decide
    | 2, _ => decide
    | 3, _ => decide
  have hw3 := bl_key w a0 hw2 hs
  have hl : (n : Int) < ((blW.length : Nat) : Int) := by show (n : Int) < ((4 : Nat) : Int); omega
  unfold blW at hw hl
  simp only [← hw, if_pos (show (0 : Int) ≤ (n : Int) by omega), if_pos hl]
  exact hw3
end Go.Proofs.Ytehojohacombkaa.Pl
