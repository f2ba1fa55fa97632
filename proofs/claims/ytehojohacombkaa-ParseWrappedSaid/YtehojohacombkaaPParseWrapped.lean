/- The plain law ParseWrapped: a text in the language within brackets is that tree below a list. -/
import Derived.Test.YtehojohacombkaaPa
import Derived.Test.YtehojohacombkaaPx
import Derived.Test.YtehojohacombkaaGMinuetlaw11PParseWrapped
namespace Go.Proofs.Ytehojohacombkaa.Pl
open Go.RowKit Go.Proofs.Ytehojohacombkaa.G Go.Proofs.Ytehojohacombkaa.Lx Go.Proofs.YtehojohacombkaaW.PrintWords Go.Proofs.YtehojohacombkaaW.PrintLast Go.Proofs.YtehojohacombkaaW.PrintMore
open Go.Proofs.Ytehojohacombkaa.Gd (solid)
open Go.Proofs.Ytehojohacombkaa.Ps (Nd rdn Emb mvt opens errs nodesN reachN withTo setTo lvl Lev Uni)
set_option linter.unusedVariables false
set_option linter.unusedSimpArgs false
/-! ### tokens -/
theorem arr_toks (l : List UInt8) (hc : ∀ c ∈ toks l, c.f0 ≠ 11) : solid (toks (91 :: (l ++ 10 :: [93]))) = (⟨2, 0, 1⟩ : Tk) :: ((solid (toks l)).map (mvt 1) ++ [(⟨3, (l.length : Int) + 2, (l.length : Int) + 3⟩ : Tk)]) := by
  have e : tk (91 :: (l ++ 10 :: [93])) = (2, 1) := rfl
  rw [toks_step, e, List.drop_succ_cons, List.drop_zero, solid_cons, if_neg (by decide), solid_map, app_solid [93] l.length l (Nat.le_refl _) hc, List.map_append, mvt_add]
  have e2 : solid (toks [93]) = [(⟨3, 0, 1⟩ : Tk)] := by kernel_rfl
  rw [e2]
  have e3 : mvt ((l.length : Int) + 1 + ((1 : Nat) : Int)) (⟨3, 0, 1⟩ : Tk) = ⟨3, (l.length : Int) + 2, (l.length : Int) + 3⟩ := by
    show (⟨3, 0 + ((l.length : Int) + 1 + ((1 : Nat) : Int)), 1 + ((l.length : Int) + 1 + ((1 : Nat) : Int))⟩ : Tk) = _
    rw [show 0 + ((l.length : Int) + 1 + ((1 : Nat) : Int)) = (l.length : Int) + 2 by omega, show 1 + ((l.length : Int) + 1 + ((1 : Nat) : Int)) = (l.length : Int) + 3 by omega]
  rw [List.map_cons, List.map_nil, e3]
  rfl
theorem tk_key (x : List UInt8) : tk (34 :: 107 :: 101 :: 121 :: 34 :: 58 :: x) = (6, 5) := by
  rw [tk]
  rw [show sign 34 = none from rfl]
  simp [isB, txt]
theorem obj_toks (l : List UInt8) (hc : ∀ c ∈ toks l, c.f0 ≠ 11) : solid (toks (123 :: 34 :: 107 :: 101 :: 121 :: 34 :: 58 :: (l ++ 10 :: [125]))) = (⟨0, 0, 1⟩ : Tk) :: (⟨6, 1, 6⟩ : Tk) :: (⟨4, 6, 7⟩ : Tk) :: ((solid (toks l)).map (mvt 7) ++ [(⟨1, (l.length : Int) + 8, (l.length : Int) + 9⟩ : Tk)]) := by
  have e : tk (123 :: 34 :: 107 :: 101 :: 121 :: 34 :: 58 :: (l ++ 10 :: [125])) = (0, 1) := rfl
  have e1 := tk_key (l ++ 10 :: [125])
  have e0 : tk (58 :: (l ++ 10 :: [125])) = (4, 1) := rfl
  have e2 : solid (toks [125]) = [(⟨1, 0, 1⟩ : Tk)] := by kernel_rfl
  have s1 : solid (toks (58 :: (l ++ 10 :: [125]))) = (⟨4, 0, 1⟩ : Tk) :: ((solid (toks l)).map (mvt 1) ++ [(⟨1, (l.length : Int) + 2, (l.length : Int) + 3⟩ : Tk)]) := by
    rw [toks_step, e0, List.drop_succ_cons, List.drop_zero, solid_cons, if_neg (by decide), solid_map, app_solid [125] l.length l (Nat.le_refl _) hc, List.map_append, mvt_add, e2]
    have e3 : mvt ((l.length : Int) + 1 + ((1 : Nat) : Int)) (⟨1, 0, 1⟩ : Tk) = ⟨1, (l.length : Int) + 2, (l.length : Int) + 3⟩ := by
      show (⟨1, 0 + ((l.length : Int) + 1 + ((1 : Nat) : Int)), 1 + ((l.length : Int) + 1 + ((1 : Nat) : Int))⟩ : Tk) = _
      rw [show 0 + ((l.length : Int) + 1 + ((1 : Nat) : Int)) = (l.length : Int) + 2 by omega, show 1 + ((l.length : Int) + 1 + ((1 : Nat) : Int)) = (l.length : Int) + 3 by omega]
    rw [List.map_cons, List.map_nil, e3]
    rfl
  have s2 : solid (toks (34 :: 107 :: 101 :: 121 :: 34 :: 58 :: (l ++ 10 :: [125]))) = (⟨6, 0, 5⟩ : Tk) :: (solid (toks (58 :: (l ++ 10 :: [125])))).map (mvt 5) := by
    rw [toks_step, e1, solid_cons, if_neg (by decide), solid_map]
    rfl
  rw [toks_step, e, List.drop_succ_cons, List.drop_zero, solid_cons, if_neg (by decide), solid_map, s2, s1]
  simp only [List.map_cons, List.map_append, List.map_nil, mvt_add]
  have e5 : mvt ((1 : Nat) : Int) (mvt 5 (⟨1, (l.length : Int) + 2, (l.length : Int) + 3⟩ : Tk)) = ⟨1, (l.length : Int) + 8, (l.length : Int) + 9⟩ := by
    show (⟨1, (l.length : Int) + 2 + 5 + ((1 : Nat) : Int), (l.length : Int) + 3 + 5 + ((1 : Nat) : Int)⟩ : Tk) = _
    rw [show (l.length : Int) + 2 + 5 + ((1 : Nat) : Int) = (l.length : Int) + 8 by omega, show (l.length : Int) + 3 + 5 + ((1 : Nat) : Int) = (l.length : Int) + 9 by omega]
  rw [e5]
  rfl
/-! ### shapes of the wrapped trees -/
theorem reach_same (ns : List Nd) (id tz : Int) (h0 : 0 ≤ id) (h1 : id < (ns.length : Int)) : (rdn (reachN ns id tz) id).f1 = (rdn ns id).f1 ∧ (rdn (reachN ns id tz) id).f4 = (rdn ns id).f4 := by
  have L := Go.Proofs.Ytehojohacombkaa.Ps.setTo_len ns id tz
  have r1 : rdn (setTo ns id tz) id = withTo (rdn ns id) tz := by rw [Go.Proofs.Ytehojohacombkaa.Ps.rdn_setTo h0 h1 h0, if_pos rfl]
  unfold reachN; split
  · rw [Go.Proofs.Ytehojohacombkaa.Ps.rdn_setTo h0 (by omega) h0, if_pos rfl, r1]; exact ⟨rfl, rfl⟩
  · rw [r1]; exact ⟨rfl, rfl⟩
theorem shp_arr {l L : List UInt8} {N : List Nd} {z : Int} (he : Emb 1 1 1 (⟨0, 0, 0, l.length, []⟩ : Nd) (⟨1, 2, 0, 1, []⟩ : Nd) (fun _ => (⟨0, 0, 0, L.length, [1]⟩ : Nd)) (nodesN l) N) :
    ∃ X, shp (nodesN l) 27 0 = 82 :: (if (rdn (nodesN l) 0).f4 = [] then [] else 40 :: (X ++ [41])) ∧ ((rdn (nodesN l) 0).f4 ≠ [] → shp (reachN N 1 z) 28 0 = [82, 40, 65, 40] ++ X ++ [41, 41]) := by
  have h1 := he.one
  have hl := he.len
  obtain ⟨ks, r1, r2⟩ := he.root
  have g0 : rdn (reachN N 1 z) 0 = ⟨0, 0, 0, L.length, [1]⟩ := by
    rw [Go.Proofs.Ytehojohacombkaa.Ps.rdn_reach (by decide) (by omega) (Int.le_refl 0) (by decide)]
    exact he.low 0 (Int.le_refl 0) (by decide) (by decide)
  obtain ⟨g1, g2⟩ := reach_same N 1 z (by decide) (by omega)
  rw [r2] at g1 g2
  have hM : ∀ i, 1 ≤ i → i < ((nodesN l).length : Int) → (rdn (reachN N 1 z) (i + 1)).f1 = (rdn N (i + 1)).f1 ∧ (rdn (reachN N 1 z) (i + 1)).f4 = (rdn N (i + 1)).f4 := by
    intro i i0 i1
    rw [Go.Proofs.Ytehojohacombkaa.Ps.rdn_reach (by decide) (by omega) (by omega) (by omega)]
    exact ⟨rfl, rfl⟩
  have hk := kids_emb (by decide) he hM 26
  refine ⟨(rdn (nodesN l) 0).f4.flatMap (shp (nodesN l) 26), ?_, fun hne => ?_⟩
  · rw [shp, r1]; rfl
  · have e1 : shp (reachN N 1 z) 27 1 = 65 :: 40 :: ((rdn (nodesN l) 0).f4.flatMap (shp (nodesN l) 26) ++ [41]) := by
      have hne2 : ¬ ks = [] := by rw [r1] at hne; exact hne
      rw [shp, g1, g2]
      simp only [List.nil_append]
      rw [if_neg (by simpa using hne2), ← hk, r1]
      rfl
    rw [shp, g0]
    simp only
    rw [if_neg (by simp), List.flatMap_cons, List.flatMap_nil, List.append_nil, e1]
    simp [letter]
theorem shp_obj {l L : List UInt8} {N : List Nd} {y z : Int} (he : Emb 3 2 7 (⟨0, 0, 0, l.length, []⟩ : Nd) (⟨2, 3, 1, 6, [3]⟩ : Nd) (fun i => rdn [(⟨0, 0, 0, L.length, [1]⟩ : Nd), (⟨1, 1, 0, 1, [2]⟩ : Nd), (⟨2, 3, 1, 6, [3]⟩ : Nd), (⟨3, 4, 1, 6, []⟩ : Nd)] i) (nodesN l) N) :
    ∃ X, shp (nodesN l) 27 0 = 82 :: (if (rdn (nodesN l) 0).f4 = [] then [] else 40 :: (X ++ [41])) ∧ ((rdn (nodesN l) 0).f4 ≠ [] → shp (reachN (reachN N 2 y) 1 z) 29 0 = [82, 40, 79, 40, 80, 40, 84] ++ X ++ [41, 41, 41]) := by
  have h1 := he.one
  have hl := he.len
  obtain ⟨ks, r1, r2⟩ := he.root
  have L2 := Go.Proofs.Ytehojohacombkaa.Ps.reachN_len N 2 y
  have far : ∀ i : Int, 0 ≤ i → i ≠ 1 → i ≠ 2 → rdn (reachN (reachN N 2 y) 1 z) i = rdn N i := by
    intro i i0 i1 i2
    rw [Go.Proofs.Ytehojohacombkaa.Ps.rdn_reach (by decide) (by omega) i0 i1, Go.Proofs.Ytehojohacombkaa.Ps.rdn_reach (by decide) (by omega) i0 i2]
  have g0 : rdn (reachN (reachN N 2 y) 1 z) 0 = ⟨0, 0, 0, L.length, [1]⟩ := by
    rw [far 0 (Int.le_refl 0) (by decide) (by decide)]
    exact he.low 0 (Int.le_refl 0) (by decide) (by decide)
  have g3 : rdn (reachN (reachN N 2 y) 1 z) 3 = ⟨3, 4, 1, 6, []⟩ := by
    rw [far 3 (by decide) (by decide) (by decide)]
    exact he.low 3 (by decide) (by decide) (by decide)
  obtain ⟨a1, a2⟩ := reach_same (reachN N 2 y) 1 z (by decide) (by omega)
  have q1 : rdn (reachN N 2 y) 1 = rdn N 1 := Go.Proofs.Ytehojohacombkaa.Ps.rdn_reach (ns := N) (id := 2) (j := 1) (by decide) (by omega) (by decide) (by decide)
  rw [q1, he.low 1 (by decide) (by decide) (by decide)] at a1 a2
  have b0 : rdn (reachN (reachN N 2 y) 1 z) 2 = rdn (reachN N 2 y) 2 := Go.Proofs.Ytehojohacombkaa.Ps.rdn_reach (by decide) (by omega) (by decide) (by decide)
  obtain ⟨b1, b2⟩ := reach_same N 2 y (by decide) (by omega)
  rw [r2] at b1 b2
  have hM : ∀ i, 1 ≤ i → i < ((nodesN l).length : Int) → (rdn (reachN (reachN N 2 y) 1 z) (i + 3)).f1 = (rdn N (i + 3)).f1 ∧ (rdn (reachN (reachN N 2 y) 1 z) (i + 3)).f4 = (rdn N (i + 3)).f4 := by
    intro i i0 i1
    rw [far (i + 3) (by omega) (by omega) (by omega)]
    exact ⟨rfl, rfl⟩
  have hk := kids_emb (by decide) he hM 26
  refine ⟨(rdn (nodesN l) 0).f4.flatMap (shp (nodesN l) 26), ?_, fun hne => ?_⟩
  · rw [shp, r1]; rfl
  · have e3 : shp (reachN (reachN N 2 y) 1 z) 26 3 = [84] := by
      rw [shp, g3]; rfl
    have e2 : shp (reachN (reachN N 2 y) 1 z) 27 2 = 80 :: 40 :: (84 :: (rdn (nodesN l) 0).f4.flatMap (shp (nodesN l) 26) ++ [41]) := by
      rw [shp, b0, b1, b2, if_neg (by simp), List.flatMap_append, List.flatMap_cons, List.flatMap_nil, List.append_nil, e3]
      rw [r1] at hk ⊢
      rw [hk]
      rfl
    have e1 : shp (reachN (reachN N 2 y) 1 z) 28 1 = 79 :: 40 :: (80 :: 40 :: (84 :: (rdn (nodesN l) 0).f4.flatMap (shp (nodesN l) 26) ++ [41]) ++ [41]) := by
      rw [shp, a1, a2]
      rw [show (rdn [(⟨0, 0, 0, L.length, [1]⟩ : Nd), (⟨1, 1, 0, 1, [2]⟩ : Nd), (⟨2, 3, 1, 6, [3]⟩ : Nd), (⟨3, 4, 1, 6, []⟩ : Nd)] 1) = (⟨1, 1, 0, 1, [2]⟩ : Nd) from rfl]
      simp only
      rw [if_neg (by simp), List.flatMap_cons, List.flatMap_nil, List.append_nil, e2]
      rfl
    rw [shp, g0]
    simp only
    rw [if_neg (by simp), List.flatMap_cons, List.flatMap_nil, List.append_nil, e1]
    simp [letter]
/-! ### the law -/
theorem par_ok' {s : ByteArray} (h : s.size ≤ 300) : parse_Parse.f s = some (0, ((nodesN (byt s)).length : Int), nodesN (byt s), 0) := by
  unfold parse_Parse.f; rw [if_neg (by omega)]
theorem bt_list (s : ByteArray) (i : Nat) (b : UInt8) (pre suf : List UInt8) (e : byt s = pre ++ b :: suf) (hi : i = pre.length) : bt s (i : Int) = (b.toNat : Int) := by
  have hl : i < s.size := by rw [← byt_len, e, hi]; simp
  unfold bt
  rw [dif_pos (show ((i : Int)).toNat < s.size by omega)]
  have h2 : s[((i : Int)).toNat]'(by omega) = (byt s)[i]'(by rw [byt_len]; exact hl) := rfl
  rw [h2]
  have h3 : (byt s)[i]'(by rw [byt_len]; exact hl) = b := by
    have h4 : (byt s)[i]? = some b := by rw [e, hi, List.getElem?_append_right (Nat.le_refl _)]; simp
    rw [List.getElem?_eq_getElem (by rw [byt_len]; exact hl)] at h4
    exact Option.some.inj h4
  rw [h3]
theorem wr_l1 (s S1 S2 : ByteArray) (x1 : Bool) (hs : s.size ≤ 200)
    (fin : Ev (fun k => if (((byt s).countP obyte : Nat) : Int) ≥ 12 then (minuetlaw11_ParseWrapped.j4 k x1 S1 S2 true) else (minuetlaw11_ParseWrapped.j4 k x1 S1 S2 (decide ((S1.size : Int) < 3)))) true) :
    ∀ (suf pre : List UInt8), byt s = pre ++ suf → Ev (fun k => minuetlaw11_ParseWrapped.l1 k s x1 S1 S2 ((pre.countP obyte : Nat) : Int) (pre.length : Int)) true := by
  intro suf
  induction suf with
  | nil =>
    intro pre e
    have hl : s.size = pre.length := by rw [← byt_len, e]; simp
    refine Ev.step (fun k => by rw [minuetlaw11_ParseWrapped.l1]) ?_
    simp only [if_neg (show ¬ (pre.length : Int) < (s.size : Int) by omega)]
    rw [e, List.append_nil] at fin
    exact fin
  | cons b suf ih =>
    intro pre e
    have hl : s.size = pre.length + (suf.length + 1) := by rw [← byt_len, e]; simp
    have hb := bt_list s pre.length b pre suf e rfl
    have go := ih (pre ++ [b]) (by rw [e]; simp)
    have hc : (pre ++ [b]).countP obyte = pre.countP obyte + (if obyte b = true then 1 else 0) := by rw [List.countP_append, List.countP_cons, List.countP_nil]; omega
    have hcl : pre.countP obyte ≤ pre.length := List.countP_le_length
    rw [hc, List.length_append, List.length_singleton] at go
    have w1 : wrap64 ((pre.length : Int) + 1) = ((pre.length + 1 : Nat) : Int) := by rw [w64 (by omega) (by omega)]; omega
    have w2 : wrap64 (((pre.countP obyte : Nat) : Int) + 1) = ((pre.countP obyte + 1 : Nat) : Int) := by rw [w64 (by omega) (by omega)]; omega
    refine Ev.step (fun k => by rw [minuetlaw11_ParseWrapped.l1]) ?_
    simp only [if_pos (show (pre.length : Int) < (s.size : Int) by omega), if_pos (show (0 : Int) ≤ (pre.length : Int) by omega), hb, w1, w2]
    by_cases h1 : b = 91
    · subst h1
      rw [show obyte 91 = true from rfl, if_pos rfl] at go
      simp only [show ((91 : UInt8).toNat : Int) = 91 from rfl, if_true]
      exact go
    · have n1 : ¬ (b.toNat : Int) = 91 := fun h => h1 (by have h2 : b.toNat = 91 := by omega
                                                          exact UInt8.toNat_inj.1 h2)
      by_cases h3 : b = 123
      · subst h3
        rw [show obyte 123 = true from rfl, if_pos rfl] at go
        simp only [if_neg n1, show ((123 : UInt8).toNat : Int) = 123 from rfl, if_true]
        exact go
      · have n2 : ¬ (b.toNat : Int) = 123 := fun h => h3 (by have h2 : b.toNat = 123 := by omega
                                                             exact UInt8.toNat_inj.1 h2)
        have ob : obyte b = false := by unfold obyte; simp [h1, h3]
        rw [ob, if_neg Bool.false_ne_true, Nat.add_zero] at go
        simp only [if_neg n1, if_neg n2]
        exact go
theorem wr_l0 (s S1 S2 : ByteArray) (x1 : Bool) (ns : List Nd) (a b : Int) (hl : ns.length ≤ 4000)
    (fin : (∀ x ∈ ns, x.f1 ≠ 7) → Ev (fun k => minuetlaw11_ParseWrapped.l1 k s x1 S1 S2 0 0) true) :
    ∀ (suf pre : List Nd), ns = pre ++ suf → (∀ x ∈ pre, x.f1 ≠ 7) → Ev (fun k => minuetlaw11_ParseWrapped.l0 k s x1 S1 S2 (pre.length : Int) a b ns) true := by
  intro suf
  induction suf with
  | nil =>
    intro pre e h
    rw [List.append_nil] at e
    subst e
    refine Ev.step (fun k => by rw [minuetlaw11_ParseWrapped.l0]) ?_
    simp only [if_neg (show ¬ (ns.length : Int) < (ns.length : Int) by omega)]
    exact fin h
  | cons x suf ih =>
    intro pre e h
    have hlen : ns.length = pre.length + (suf.length + 1) := by rw [e]; simp
    have hrd : rd_T34 ns (pre.length : Int) = x := by rw [e]; simp [rd_T34]
    refine Ev.step (fun k => by rw [minuetlaw11_ParseWrapped.l0]) ?_
    simp only [if_pos (show (pre.length : Int) < (ns.length : Int) by omega), if_pos (show (0 : Int) ≤ (pre.length : Int) by omega), hrd]
    refine Ev_ite (fun _ => Ev.now _) (fun hx => ?_)
    rw [show wrap64 ((pre.length : Int) + 1) = ((pre ++ [x]).length : Int) by rw [w64 (by omega) (by omega)]; simp]
    exact ih (pre ++ [x]) (by rw [e]; simp) (fun y hy => by
      rcases List.mem_append.1 hy with hy | hy
      · exact h y hy
      · rw [List.mem_singleton.1 hy]; exact hx)
theorem byt_inj {a b : ByteArray} (h : byt a = byt b) : a = b := by
  cases a; cases b; congr 1; exact Array.toList_inj.1 h
theorem wr_j4 {S1 S2 : ByteArray} {x1 : Bool} (hz : S1.size ≤ 1000000) (h : 3 ≤ S1.size → S2 = if x1 = true then ((⟨#[82, 40, 79, 40, 80, 40, 84]⟩ : ByteArray) ++ (S1.extract 2 (S1.size - 1))) ++ (⟨#[41, 41, 41]⟩ : ByteArray) else ((⟨#[82, 40, 65, 40]⟩ : ByteArray) ++ (S1.extract 2 (S1.size - 1))) ++ (⟨#[41, 41]⟩ : ByteArray)) :
    Ev (fun k => minuetlaw11_ParseWrapped.j4 k x1 S1 S2 (decide ((S1.size : Int) < 3))) true := by
  refine Ev.step (fun k => by rw [minuetlaw11_ParseWrapped.j4]) ?_
  by_cases c : (S1.size : Int) < 3
  · rw [decide_eq_true c]; simp only [if_true]; exact Ev.now _
  · rw [decide_eq_false c]
    have hS := h (by omega)
    have w1 : wrap64 ((S1.size : Int) - 1) = (S1.size : Int) - 1 := w64 (by omega) (by omega)
    have e1 : ((S1.size : Int) - 1).toNat = S1.size - 1 := by omega
    have zx : (S1.extract 2 (S1.size - 1)).size = S1.size - 3 := by rw [ByteArray.size_extract]; omega
    simp only [Bool.false_eq_true, if_false, w1, if_pos (show 2 ≤ (S1.size : Int) - 1 by omega), if_pos (show (S1.size : Int) - 1 ≤ (S1.size : Int) by omega), e1]
    cases x1 with
    | true =>
      rw [if_pos rfl] at hS
      have z7 : ((⟨#[82, 40, 79, 40, 80, 40, 84]⟩ : ByteArray) ++ (S1.extract 2 (S1.size - 1))).size = 7 + (S1.size - 3) := by rw [ByteArray.size_append, zx]; rfl
      simp only [if_true, if_pos (show 7 + (S1.extract 2 (S1.size - 1)).size ≤ 9223372036854775807 by omega), if_pos (show ((⟨#[82, 40, 79, 40, 80, 40, 84]⟩ : ByteArray) ++ (S1.extract 2 (S1.size - 1))).size + 3 ≤ 9223372036854775807 by omega)]
      rw [hS, beq_self_eq_true]
      exact Ev.now _
    | false =>
      rw [if_neg Bool.false_ne_true] at hS
      have z7 : ((⟨#[82, 40, 65, 40]⟩ : ByteArray) ++ (S1.extract 2 (S1.size - 1))).size = 4 + (S1.size - 3) := by rw [ByteArray.size_append, zx]; rfl
      simp only [Bool.false_eq_true, if_false, if_pos (show 4 + (S1.extract 2 (S1.size - 1)).size ≤ 9223372036854775807 by omega), if_pos (show ((⟨#[82, 40, 65, 40]⟩ : ByteArray) ++ (S1.extract 2 (S1.size - 1))).size + 2 ≤ 9223372036854775807 by omega)]
      rw [hS, beq_self_eq_true]
      exact Ev.now _
theorem wr_j0 (s hd tl : ByteArray) (x1 : Bool) (hs : s.size ≤ 200) (z1 : hd.size ≤ 7) (z2 : tl.size ≤ 2) (N : Nat) (hN : 27 ≤ N)
    (key : errs (nodesN (byt s)) = 0 → (byt s).countP obyte ≤ 11 → ∀ S1 S2 : ByteArray, byt S1 = shp (nodesN (byt s)) 27 0 → byt S2 = shp (nodesN (byt ((hd ++ s) ++ tl))) N 0 → 3 ≤ S1.size →
      S2 = if x1 = true then ((⟨#[82, 40, 79, 40, 80, 40, 84]⟩ : ByteArray) ++ (S1.extract 2 (S1.size - 1))) ++ (⟨#[41, 41, 41]⟩ : ByteArray) else ((⟨#[82, 40, 65, 40]⟩ : ByteArray) ++ (S1.extract 2 (S1.size - 1))) ++ (⟨#[41, 41]⟩ : ByteArray)) :
    Ev (fun k => minuetlaw11_ParseWrapped.j0 k s x1 0 hd tl 0 ((nodesN (byt s)).length : Int) (nodesN (byt s))) true := by
  have y1 : (hd ++ s).size = hd.size + s.size := ByteArray.size_append
  have y2 : ((hd ++ s) ++ tl).size = hd.size + s.size + tl.size := by rw [ByteArray.size_append, y1]
  have shape : ∀ (w : ByteArray) (n : Nat) (a b : Int), w.size ≤ 300 → 27 ≤ n → ∃ S : ByteArray, byt S = shp (nodesN (byt w)) n 0 ∧ S.size ≤ 1000000 ∧ Ev (fun k => minuetlaw11_shape.f k a b (nodesN (byt w)) 0 0) (S, true) := by
    intro w n a b hw hn
    obtain ⟨ne, W⟩ := Go.Proofs.Ytehojohacombkaa.Ps.nodes_whole (byt w)
    obtain ⟨lv, Lv, Lz⟩ := Go.Proofs.Ytehojohacombkaa.Ps.nodes_lev (byt w)
    have U := Go.Proofs.Ytehojohacombkaa.Ps.uni_of W (by omega)
    have hl := (nodes_len (byt w)).2
    rw [byt_len] at hl
    have h1 := W.one
    have hbm := (nodes_moved (byt w) (byt w) 0 (by omega) (Go.Proofs.Ytehojohacombkaa.Pl.mvt_zero _).symm).wf
    obtain ⟨S, e1, e2⟩ := shape_ev (a := a) (b := b) U Lv (by omega) (fun i i0 i1 => (hbm _ (Go.Proofs.Ytehojohacombkaa.Ps.rdn_mem i0 i1)).1) n 0 0 (Int.le_refl 0) (by omega) (by omega) (Int.le_refl 0) (by omega)
    have sl := shp_len U n 0 (Int.le_refl 0) (by omega)
    have su := (U.at_ 0 (Int.le_refl 0) (by omega)).2.1
    refine ⟨S, e1, ?_, e2⟩
    rw [← byt_len, e1]; omega
  refine Ev.step (fun k => by rw [minuetlaw11_ParseWrapped.j0]) ?_
  simp only [if_pos (show hd.size + s.size ≤ 9223372036854775807 by omega), if_pos (show (hd ++ s).size + tl.size ≤ 9223372036854775807 by omega), par_ok' (s := (hd ++ s) ++ tl) (by omega), opt_some]
  obtain ⟨S1, a1, a2, a3⟩ := shape s 27 0 ((nodesN (byt s)).length : Int) (by omega) (Nat.le_refl _)
  obtain ⟨S2, b1, b2, b3⟩ := shape ((hd ++ s) ++ tl) N 0 ((nodesN (byt ((hd ++ s) ++ tl))).length : Int) (by omega) hN
  refine Ev.bind a3 ?_
  refine Ev.bind b3 ?_
  simp only [num_eq, opt_some, if_true, Bool.not_true]
  refine Ev.step (fun k => by rw [minuetlaw11_ParseWrapped.j1]) ?_
  simp only [Bool.false_eq_true, if_false]
  have hl := (nodes_len (byt s)).2
  rw [byt_len] at hl
  refine wr_l0 s S1 S2 x1 (nodesN (byt s)) _ _ (by omega) (fun hno => ?_) (nodesN (byt s)) [] rfl (fun x hx => by cases hx)
  have he : errs (nodesN (byt s)) = 0 := by
    unfold errs Go.Proofs.Ytehojohacombkaa.Ps.kinds
    rw [List.count_eq_zero]
    intro hm
    obtain ⟨x, hx, e⟩ := List.mem_map.1 hm
    exact hno x hx e
  refine wr_l1 s S1 S2 x1 hs ?_ (byt s) [] rfl
  refine Ev_ite (fun _ => ?_) (fun hd => ?_)
  · refine Ev.step (fun k => by rw [minuetlaw11_ParseWrapped.j4]) ?_
    simp only [if_true]; exact Ev.now _
  · exact wr_j4 a2 (fun h3 => key he (by omega) S1 S2 a1 b1 h3)
theorem byt_mid {S : ByteArray} {a b c : UInt8} {X : List UInt8} (h : byt S = a :: b :: (X ++ [c])) : byt (S.extract 2 (S.size - 1)) = X := by
  have hz : S.size = X.length + 3 := by rw [← byt_len, h]; simp
  show (S.extract 2 (S.size - 1)).data.toList = X
  rw [ByteArray.data_extract, Array.toList_extract, List.extract_eq_take_drop]
  have h2 : S.data.toList = a :: b :: (X ++ [c]) := h
  rw [h2, hz, List.drop_succ_cons, List.drop_succ_cons, List.drop_zero, show X.length + 3 - 1 - 2 = X.length by omega, List.take_left]
theorem opens_small {l : List UInt8} (h : l.countP obyte ≤ 11) : opens (solid (toks l)) ≤ 11 :=
  Nat.le_trans (opens_solid _) (Nat.le_trans (opens_toks l.length l (Nat.le_refl _)) h)
theorem s1_some {l : List UInt8} {S1 : ByteArray} {X : List UInt8} {ks : List Int} (h : byt S1 = 82 :: (if ks = [] then [] else 40 :: (X ++ [41]))) (h3 : 3 ≤ S1.size) : ks ≠ [] ∧ byt S1 = 82 :: 40 :: (X ++ [41]) := by
  by_cases e : ks = []
  · rw [if_pos e] at h
    have : S1.size = 1 := by rw [← byt_len, h]; rfl
    omega
  · rw [if_neg e] at h; exact ⟨e, h⟩
theorem ParseWrapped_pure (a0 : ByteArray) (a1 : Bool) (_hs : a0.size ≤ 140737488351232) : ∃ k, minuetlaw11_ParseWrapped.f k a0 a1 = some true := by
  refine Ev.rounds (Ev.congr (fun k => by rw [minuetlaw11_ParseWrapped.f]) ?_)
  refine Ev.bind awake11 ?_
  simp only [if_true]
  refine Ev_ite (fun _ => Ev.now _) (fun hs => ?_)
  have hs' : a0.size ≤ 200 := by omega
  simp only [par_ok' (s := a0) (by omega), opt_some]
  cases a1 with
  | true =>
    simp only [if_true]
    refine wr_j0 a0 _ _ true hs' (by decide) (by decide) 29 (by decide) ?_
    intro he hc S1 S2 b1 b2 h3
    rw [if_pos rfl]
    have eL : byt (((⟨#[123, 34, 107, 101, 121, 34, 58]⟩ : ByteArray) ++ a0) ++ (⟨#[10, 125]⟩ : ByteArray)) = 123 :: 34 :: 107 :: 101 :: 121 :: 34 :: 58 :: (byt a0 ++ 10 :: [125]) := by
      rw [byt_cat, byt_cat]; rfl
    obtain ⟨N, n1, n2⟩ := wrap_obj he (opens_small hc) (obj_toks (byt a0) (good_val he).2)
    obtain ⟨X, x1, x2⟩ := shp_obj (y := 7) (z := ((byt a0).length : Int) + 9) n2
    rw [x1] at b1
    obtain ⟨k1, k2⟩ := s1_some (l := byt a0) b1 h3
    rw [eL, n1, x2 k1] at b2
    refine byt_inj ?_
    rw [b2, byt_cat, byt_cat, byt_mid k2]
  | false =>
    simp only [Bool.false_eq_true, if_false]
    refine wr_j0 a0 _ _ false hs' (by decide) (by decide) 28 (by decide) ?_
    intro he hc S1 S2 b1 b2 h3
    rw [if_neg Bool.false_ne_true]
    have eL : byt (((⟨#[91]⟩ : ByteArray) ++ a0) ++ (⟨#[10, 93]⟩ : ByteArray)) = 91 :: (byt a0 ++ 10 :: [93]) := by
      rw [byt_cat, byt_cat]; rfl
    obtain ⟨N, n1, n2⟩ := wrap_arr he (opens_small hc) (arr_toks (byt a0) (good_val he).2)
    obtain ⟨X, x1, x2⟩ := shp_arr (z := ((byt a0).length : Int) + 3) n2
    rw [x1] at b1
    obtain ⟨k1, k2⟩ := s1_some (l := byt a0) b1 h3
    rw [eL, n1, x2 k1] at b2
    refine byt_inj ?_
    rw [b2, byt_cat, byt_cat, byt_mid k2]
end Go.Proofs.Ytehojohacombkaa.Pl
