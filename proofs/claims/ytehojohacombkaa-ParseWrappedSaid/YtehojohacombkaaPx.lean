/- A whole tree's shape; tokens behind a line's end; wrapped trees. (Pz, Pc, Pf laid together.) -/
import Derived.Test.YtehojohacombkaaPk
import Derived.Test.YtehojohacombkaaLa
import Derived.Test.YtehojohacombkaaLq
import Derived.Test.YtehojohacombkaaLp
import Derived.Test.YtehojohacombkaaGMinuetlaw11qshape
namespace Go.Proofs.Ytehojohacombkaa.Pl
open Go.RowKit Go.Proofs.Ytehojohacombkaa.G Go.Proofs.Ytehojohacombkaa.Lx Go.Proofs.YtehojohacombkaaW.PrintWords Go.Proofs.YtehojohacombkaaW.PrintLast Go.Proofs.YtehojohacombkaaW.PrintMore
open Go.Proofs.Ytehojohacombkaa.Ps (Nd rdn Uni Ch Lev lvl)
set_option linter.unusedVariables false
set_option linter.unusedSimpArgs false
def letter (k : Int) : UInt8 := ([82, 79, 65, 80, 84, 78, 87, 69] : List UInt8).getD k.toNat 0
def shp (ns : List Nd) : Nat → Int → List UInt8
  | 0, _ => []
  | n + 1, i => letter (rdn ns i).f1 :: (if (rdn ns i).f4 = [] then [] else 40 :: ((rdn ns i).f4.flatMap (shp ns n) ++ [41]))
theorem shp_len {ns : List Nd} {ne : Int → Int} (U : Uni ns ne) : ∀ (n : Nat) (i : Int), 0 ≤ i → i < (ns.length : Int) → ((shp ns n i).length : Int) ≤ 3 * (ne i - i) := by
  intro n
  induction n with
  | zero => intro i i0 i1; have := (U.at_ i i0 i1).1; simp only [shp, List.length_nil]; omega
  | succ n ih =>
    intro i i0 i1
    obtain ⟨u1, u2, u3, u4, u5⟩ := U.at_ i i0 i1
    have key : ∀ (ks : List Int) (lo lof hi hif : Int), 0 ≤ lo → hi ≤ (ns.length : Int) → Ch ns ne lo lof ks hi hif → ((ks.flatMap (shp ns n)).length : Int) ≤ 3 * (hi - lo) := by
      intro ks
      induction ks with
      | nil => intro lo lof hi hif h0 h1 h; have := h.1; simp only [List.flatMap_nil, List.length_nil]; omega
      | cons k r ihk =>
        intro lo lof hi hif h0 h1 h
        obtain ⟨c1, c2, c3, c4⟩ := h
        have hl := Go.Proofs.Ytehojohacombkaa.Ps.Ch_le c4
        have a := ih k (by omega) (by omega)
        have b := ihk _ _ _ _ (by omega) h1 c4
        rw [List.flatMap_cons, List.length_append]
        omega
    have := key _ _ _ _ _ (by omega) u2 u5
    rw [shp]
    split
    · simp only [List.length_cons, List.length_nil]; omega
    · simp only [List.length_cons, List.length_append, List.length_nil]; omega
theorem let_ext {k : Int} (h0 : 0 ≤ k) (h1 : k ≤ 7) : byt ((⟨#[82, 79, 65, 80, 84, 78, 87, 69]⟩ : ByteArray).extract k.toNat (k + 1).toNat) = [letter k] := by
  obtain ⟨n, rfl⟩ := Int.eq_ofNat_of_zero_le h0
  have hn : n < 8 := by omega
  match n, hn with
  | 0, _ => decide
  | 1, _ => decide
  | 2, _ => decide
  | 3, _ => decide
  | 4, _ => decide
  | 5, _ => decide
  | 6, _ => decide
  | 7, _ => decide
/-- What is still to come behind the children that were told. -/
def rest (ns : List Nd) (n j : Nat) (r : List Int) : List UInt8 :=
  if j = 0 then (if r = [] then [] else 40 :: (r.flatMap (shp ns n) ++ [41])) else r.flatMap (shp ns n) ++ [41]
theorem shape_l1 {ns : List Nd} {n : Nat} {dp a b c0 c1 c2 c3 : Int} (hd : -1 ≤ dp ∧ dp ≤ 30)
    (hk : ∀ k d : Int, (∃ ks, k ∈ ks ∧ ks = (rdn ns k).f4) → True) (ks : List Int) (hkl : ks.length ≤ 100000)
    (ih : ∀ q ∈ ks, ∃ s : ByteArray, byt s = shp ns n q ∧ Ev (fun k => minuetlaw11_shape.f k a b ns q (dp + 1)) (s, true)) :
    ∀ (r pre : List Int) (acc : ByteArray), ks = pre ++ r → acc.size + (rest ns n pre.length r).length ≤ 1000000 →
      ∃ s : ByteArray, byt s = byt acc ++ rest ns n pre.length r ∧ Ev (fun k => minuetlaw11_shape.l1 k dp acc (pre.length : Int) a b ns c0 c1 c2 c3 ks) (s, true) := by
  intro r
  induction r with
  | nil =>
    intro pre acc e hs
    rw [List.append_nil] at e
    subst e
    by_cases hp : ks.length = 0
    · refine ⟨acc, by simp [rest, hp], Ev.step (fun k => by rw [minuetlaw11_shape.l1]) ?_⟩
      simp only [if_neg (show ¬ ((ks.length : Int) < (ks.length : Int)) by omega), if_neg (show ¬ ((ks.length : Int) > 0) by omega)]
      exact Ev.now _
    · have hr : rest ns n ks.length [] = [41] := by unfold rest; rw [if_neg hp, List.flatMap_nil, List.nil_append]
      rw [hr] at hs ⊢
      simp only [List.length_cons, List.length_nil] at hs
      refine ⟨acc ++ (⟨#[41]⟩ : ByteArray), by rw [byt_cat], Ev.step (fun k => by rw [minuetlaw11_shape.l1]) ?_⟩
      simp only [if_neg (show ¬ ((ks.length : Int) < (ks.length : Int)) by omega), if_pos (show ((ks.length : Int) > 0) by omega), if_pos (show acc.size + 1 ≤ 9223372036854775807 by omega)]
      exact Ev.now _
  | cons q r ihr =>
    intro pre acc e hs
    obtain ⟨s, s1, s2⟩ := ih q (by rw [e]; simp)
    have sl : s.size = (shp ns n q).length := by rw [← s1, byt_len]
    have hlen : ks.length = pre.length + (r.length + 1) := by rw [e]; simp
    have hrd : rd ks (pre.length : Int) = q := by rw [e]; simp [rd]
    have w1 : wrap64 (dp + 1) = dp + 1 := w64 (by omega) (by omega)
    have w2 : wrap64 ((pre.length : Int) + 1) = ((pre ++ [q]).length : Int) := by rw [w64 (by omega) (by omega)]; simp
    by_cases hp : pre.length = 0
    · have hpre : pre = [] := List.eq_nil_of_length_eq_zero hp
      subst hpre
      have hr : rest ns n ([] : List Int).length (q :: r) = 40 :: (shp ns n q ++ (r.flatMap (shp ns n) ++ [41])) := by
        unfold rest; rw [if_pos (show ([] : List Int).length = 0 from rfl), if_neg (by simp), List.flatMap_cons, List.append_assoc]
      have hr2 : rest ns n ([] ++ [q]).length r = r.flatMap (shp ns n) ++ [41] := by unfold rest; rw [if_neg (by simp)]
      rw [hr] at hs ⊢
      simp only [List.length_cons, List.length_append] at hs
      have z1 : (acc ++ (⟨#[40]⟩ : ByteArray)).size = acc.size + 1 := ByteArray.size_append
      have z2 : ((acc ++ (⟨#[40]⟩ : ByteArray)) ++ s).size = acc.size + 1 + s.size := by rw [ByteArray.size_append, z1]
      obtain ⟨s', t1, t2⟩ := ihr ([] ++ [q]) ((acc ++ (⟨#[40]⟩ : ByteArray)) ++ s) (by rw [e]; simp) (by rw [hr2, z2]; simp only [List.length_append, List.length_cons]; omega)
      refine ⟨s', ?_, Ev.step (fun k => by rw [minuetlaw11_shape.l1]) ?_⟩
      · rw [t1, hr2, byt_cat, byt_cat, s1]; simp [byt]
      · simp only [if_pos (show ((([] : List Int).length : Int) < (ks.length : Int)) by simp; omega), if_pos (show (0 : Int) ≤ (([] : List Int).length : Int) by simp), hrd, w1, w2]
        refine Ev.bind s2 ?_
        simp only [if_true, if_pos (show (([] : List Int).length : Int) = 0 from rfl), if_pos (show acc.size + 1 ≤ 9223372036854775807 by omega), if_pos (show (acc ++ (⟨#[40]⟩ : ByteArray)).size + s.size ≤ 9223372036854775807 by omega)]
        exact t2
    · have hr : rest ns n pre.length (q :: r) = shp ns n q ++ (r.flatMap (shp ns n) ++ [41]) := by
        unfold rest; rw [if_neg hp, List.flatMap_cons, List.append_assoc]
      have hr2 : rest ns n (pre ++ [q]).length r = r.flatMap (shp ns n) ++ [41] := by unfold rest; rw [if_neg (by simp)]
      rw [hr] at hs ⊢
      simp only [List.length_append] at hs
      have z1 : (acc ++ s).size = acc.size + s.size := ByteArray.size_append
      obtain ⟨s', t1, t2⟩ := ihr (pre ++ [q]) (acc ++ s) (by rw [e]; simp) (by rw [hr2, z1]; simp only [List.length_append]; omega)
      refine ⟨s', ?_, Ev.step (fun k => by rw [minuetlaw11_shape.l1]) ?_⟩
      · rw [t1, hr2, byt_cat, s1]; simp
      · simp only [if_pos (show ((pre.length : Int) < (ks.length : Int)) by omega), if_pos (show (0 : Int) ≤ (pre.length : Int) by omega), hrd, w1, w2]
        refine Ev.bind s2 ?_
        simp only [if_true, if_neg (show ¬ (pre.length : Int) = 0 by omega), if_pos (show acc.size + s.size ≤ 9223372036854775807 by omega)]
        exact t2
theorem shape_l0 {ns : List Nd} {a b dp id : Int} {v : ByteArray × Bool} (hl : ns.length ≤ 100000) (h0 : 0 ≤ id) (h1 : id < (ns.length : Int)) (hid : ∀ i, 0 ≤ i → i < (ns.length : Int) → (rdn ns i).f0 = i)
    (go : Ev (fun k => minuetlaw11_shape.l0 k id dp id a b ns) v) : ∀ (g i : Nat), (i : Int) + g = id → Ev (fun k => minuetlaw11_shape.l0 k id dp (i : Int) a b ns) v := by
  intro g
  induction g with
  | zero => intro i h; rw [show (i : Int) = id by omega]; exact go
  | succ g ih =>
    intro i h
    have hne : ¬ (rd_T34 ns (i : Int)).f0 = id := by
      have : (rd_T34 ns (i : Int)).f0 = (i : Int) := hid (i : Int) (by omega) (by omega)
      omega
    refine Ev.step (fun k => by rw [minuetlaw11_shape.l0]) ?_
    simp only [if_pos (show (i : Int) < (ns.length : Int) by omega), if_pos (show (0 : Int) ≤ (i : Int) by omega), if_neg hne]
    refine Ev.step (fun k => by rw [minuetlaw11_shape.j1]) ?_
    simp only [if_true]
    rw [show wrap64 ((i : Int) + 1) = ((i + 1 : Nat) : Int) by rw [w64 (by omega) (by omega)]; omega]
    exact ih (i + 1) (by omega)
theorem shape_ev {ns : List Nd} {ne : Int → Int} {lv : List Nat} (U : Uni ns ne) (L : Lev ns lv) (hl : ns.length ≤ 100000) (hw : ∀ i, 0 ≤ i → i < (ns.length : Int) → (rdn ns i).f4.length ≤ ns.length) {a b : Int} :
    ∀ (n : Nat) (i dp : Int), 0 ≤ i → i < (ns.length : Int) → lvl lv i < n → 0 ≤ dp → dp + (lvl lv i : Int) ≤ 26 → ∃ s : ByteArray, byt s = shp ns n i ∧ Ev (fun k => minuetlaw11_shape.f k a b ns i dp) (s, true) := by
  intro n
  induction n with
  | zero => intro i dp i0 i1 h; omega
  | succ n ih =>
    intro i dp i0 i1 h d0 d1
    obtain ⟨e0, e1, e2⟩ := L.id i i0 i1
    have kids := L.kid i i0 i1
    have hlen := shp_len U (n + 1) i i0 i1
    obtain ⟨u1, u2, u3, u4, u5⟩ := U.at_ i i0 i1
    have x0 : (rd_T34 ns i).f0 = i := e0
    have x1 : 0 ≤ (rd_T34 ns i).f1 := e1
    have x2 : (rd_T34 ns i).f1 ≤ 7 := e2
    have hks : (rd_T34 ns i).f4.length ≤ ns.length := hw i i0 i1
    have hrest : shp ns (n + 1) i = letter (rd_T34 ns i).f1 :: rest ns n 0 (rd_T34 ns i).f4 := by
      rw [shp]; unfold rest; rw [if_pos rfl]; rfl
    rw [hrest] at hlen ⊢
    simp only [List.length_cons] at hlen
    have hb := let_ext x1 x2
    have hsz : ((⟨#[82, 79, 65, 80, 84, 78, 87, 69]⟩ : ByteArray).extract (rd_T34 ns i).f1.toNat ((rd_T34 ns i).f1 + 1).toNat).size = 1 := by rw [← byt_len, hb]; rfl
    obtain ⟨s, s1, s2⟩ := shape_l1 (ns := ns) (n := n) (dp := dp) (a := a) (b := b) (c0 := (rd_T34 ns i).f0) (c1 := (rd_T34 ns i).f1) (c2 := (rd_T34 ns i).f2) (c3 := (rd_T34 ns i).f3) (by omega) (fun _ _ _ => trivial) (rd_T34 ns i).f4 (by omega)
      (fun q hq => by
        obtain ⟨q0, q1, q2⟩ := kids q hq
        exact ih q (dp + 1) q0 q1 (by omega) (by omega) (by omega)) (rd_T34 ns i).f4 [] ((⟨#[82, 79, 65, 80, 84, 78, 87, 69]⟩ : ByteArray).extract (rd_T34 ns i).f1.toNat ((rd_T34 ns i).f1 + 1).toNat) rfl (by rw [hsz, List.length_nil]; omega)
    refine ⟨s, by rw [s1, hb]; rfl, ?_⟩
    refine Ev.step (fun k => by rw [minuetlaw11_shape.f]) ?_
    have hid : ∀ i, 0 ≤ i → i < (ns.length : Int) → (rdn ns i).f0 = i := fun i i0 i1 => (L.id i i0 i1).1
    obtain ⟨m, hm⟩ := Int.eq_ofNat_of_zero_le i0
    refine shape_l0 hl i0 i1 hid ?_ m 0 (by omega)
    refine Ev.step (fun k => by rw [minuetlaw11_shape.l0]) ?_
    simp only [if_pos i1, if_pos i0, x0, if_true, if_neg (show ¬ dp > 40 by omega), if_neg (show ¬ (rd_T34 ns i).f1 < 0 by omega), decide_eq_false (show ¬ (rd_T34 ns i).f1 > 7 by omega)]
    refine Ev.step (fun k => by rw [minuetlaw11_shape.j1]) ?_
    rw [w64 (x := (rd_T34 ns i).f1 + 1) (by omega) (by omega)]
    simp only [Bool.false_eq_true, if_false, if_pos x1, if_pos (show (rd_T34 ns i).f1 ≤ (rd_T34 ns i).f1 + 1 by omega), if_pos (show (rd_T34 ns i).f1 + 1 ≤ 8 by omega)]
    rw [x0] at s2
    exact s2
end Go.Proofs.Ytehojohacombkaa.Pl
namespace Go.Proofs.Ytehojohacombkaa.Pl
open Go.RowKit Go.Proofs.Ytehojohacombkaa.G Go.Proofs.Ytehojohacombkaa.Lx Go.Proofs.YtehojohacombkaaW.PrintWords Go.Proofs.YtehojohacombkaaW.PrintLast
open Go.Proofs.Ytehojohacombkaa.Gd (solid val hdk lp rs one1)
open Go.Proofs.Ytehojohacombkaa.Ps
set_option linter.unusedVariables false
set_option linter.unusedSimpArgs false
/-! ### tokens of a text with a line's end behind it -/
theorem solid_cons (t : Tk) (ts : List Tk) : solid (t :: ts) = if (t.f0 == 10 || t.f0 == 9) = true then solid ts else t :: solid ts := by
  unfold solid
  rw [List.filter_cons]
  cases (t.f0 == 10 || t.f0 == 9) <;> rfl
theorem app_solid (m : List UInt8) : ∀ (n : Nat) (l : List UInt8), l.length ≤ n → (∀ c ∈ toks l, c.f0 ≠ 11) → solid (toks (l ++ 10 :: m)) = solid (toks l) ++ (solid (toks m)).map (mvt ((l.length : Int) + 1)) := by
  have nil : solid (toks ([] ++ 10 :: m)) = solid (toks []) ++ (solid (toks m)).map (mvt ((([] : List UInt8).length : Int) + 1)) := by
    have := blank_ahead [10] m (by decide)
    exact this
  intro n
  induction n with
  | zero => intro l h hc; have : l = [] := List.eq_nil_of_length_eq_zero (by omega); subst this; exact nil
  | succ n ih =>
    intro l h hc
    cases l with
    | nil => exact nil
    | cons b r =>
      have h2 := tk_le (b := b) (r := r)
      have st := toks_step b r
      by_cases hb : isB b = true
      · have e1 := tk_isB (r := r) hb
        have e2 := tk_blank e1
        have hq : 1 ≤ run isB (b :: r) := by rw [← e2]; exact h2.1
        have hq2 := run_le isB (b :: r)
        have hall : ∀ x ∈ (b :: r).take (run isB (b :: r)), isB x = true := by
          have : ∀ (l : List UInt8), ∀ x ∈ l.take (run isB l), isB x = true := by
            intro l
            induction l with
            | nil => intro x hx; simp at hx
            | cons c q ihq =>
              intro x hx
              by_cases hc : isB c = true
              · simp only [run, if_pos hc, List.take_succ_cons, List.mem_cons] at hx
                rcases hx with rfl | hx
                · exact hc
                · exact ihq x hx
              · simp only [run, if_neg hc, List.take_zero] at hx; cases hx
          exact this _
        have hl : (b :: r).take (run isB (b :: r)) ++ (b :: r).drop (run isB (b :: r)) = b :: r := List.take_append_drop _ _
        have hlen : ((b :: r).take (run isB (b :: r))).length = run isB (b :: r) := by rw [List.length_take]; omega
        have hc' : ∀ c ∈ toks ((b :: r).drop (run isB (b :: r))), c.f0 ≠ 11 := by
          intro c hcc
          rw [e2] at st
          have := hc (mvt ((run isB (b :: r) : Nat) : Int) c) (by rw [st]; exact List.mem_cons_of_mem _ (List.mem_map_of_mem hcc))
          exact this
        have i1 := ih ((b :: r).drop (run isB (b :: r))) (by rw [List.length_drop]; omega) hc'
        have x1 := blank_ahead _ ((b :: r).drop (run isB (b :: r)) ++ 10 :: m) hall
        have x2 := blank_ahead _ ((b :: r).drop (run isB (b :: r))) hall
        rw [hl, hlen] at x2
        rw [← List.append_assoc, hl, hlen, i1, List.map_append, mvt_add, ← x2] at x1
        rw [x1, List.length_drop]
        rw [show ((((b :: r).length - run isB (b :: r) : Nat) : Int) + 1 + ((run isB (b :: r) : Nat) : Int)) = (((b :: r).length : Nat) : Int) + 1 by omega]
      · have hk : (tk (b :: r)).1 ≠ 11 := hc ⟨(tk (b :: r)).1, 0, ((tk (b :: r)).2 : Int)⟩ (by rw [st]; exact List.mem_cons_self)
        have et := tk_app (b := b) (r := r) m (fun h => absurd h hk) (fun h => absurd (tk_head h) hb)
        have hc' : ∀ c ∈ toks ((b :: r).drop (tk (b :: r)).2), c.f0 ≠ 11 := by
          intro c hcc
          have := hc (mvt (((tk (b :: r)).2 : Nat) : Int) c) (by rw [st]; exact List.mem_cons_of_mem _ (List.mem_map_of_mem hcc))
          exact this
        have i1 := ih ((b :: r).drop (tk (b :: r)).2) (by rw [List.length_drop]; omega) hc'
        have st2 := toks_step b (r ++ 10 :: m)
        rw [show b :: (r ++ 10 :: m) = b :: r ++ 10 :: m from rfl, et, List.drop_append_of_le_length h2.2] at st2
        rw [st2, st, solid_cons, solid_cons, solid_map, solid_map, i1, List.map_append, mvt_add, List.length_drop]
        simp only
        rw [show ((((b :: r).length - (tk (b :: r)).2 : Nat) : Int) + 1 + (((tk (b :: r)).2 : Nat) : Int)) = (((b :: r).length : Nat) : Int) + 1 by omega]
        split
        · rfl
        · rfl
/-! ### open brackets are bytes of the text -/
theorem open_byte {b : UInt8} {r : List UInt8} (h : (tk (b :: r)).1 = 0 ∨ (tk (b :: r)).1 = 2) : b = 91 ∨ b = 123 := by
  rw [tk] at h
  cases hs : sign b with
  | some k =>
    rw [hs] at h
    simp only at h
    unfold sign at hs
    by_cases a : b = 123
    · exact Or.inr a
    · rw [if_neg a] at hs
      by_cases a1 : b = 125
      · rw [if_pos a1] at hs; cases hs; omega
      · rw [if_neg a1] at hs
        by_cases a2 : b = 91
        · exact Or.inl a2
        · rw [if_neg a2] at hs
          repeat' (split at hs; · cases hs; omega)
          cases hs
  | none =>
    rw [hs] at h
    simp only at h
    exfalso
    repeat' (split at h)
    all_goals (simp only at h; omega)
def obyte (b : UInt8) : Bool := b == 91 || b == 123
theorem opens_map (d : Int) (ts : List Tk) : opens (ts.map (mvt d)) = opens ts := by
  unfold opens; rw [List.countP_map]; rfl
theorem opens_solid (ts : List Tk) : opens (solid ts) ≤ opens ts := by
  unfold opens solid; rw [List.countP_filter]
  exact List.countP_mono_left (fun t _ h => by simp only [Bool.and_eq_true] at h; exact h.1)
theorem opens_toks : ∀ (n : Nat) (l : List UInt8), l.length ≤ n → opens (toks l) ≤ l.countP obyte := by
  intro n
  induction n with
  | zero => intro l h; have : l = [] := List.eq_nil_of_length_eq_zero (by omega); subst this; exact Nat.le_refl _
  | succ n ih =>
    intro l h
    cases l with
    | nil => exact Nat.le_refl _
    | cons b r =>
      have h2 := tk_le (b := b) (r := r)
      have i1 := ih ((b :: r).drop (tk (b :: r)).2) (by rw [List.length_drop]; omega)
      rw [toks_step, opens_cons, opens_map]
      obtain ⟨q, hq⟩ : ∃ q, (tk (b :: r)).2 = q + 1 := ⟨(tk (b :: r)).2 - 1, by omega⟩
      rw [hq, List.drop_succ_cons] at i1 ⊢
      have i2 : (r.drop q).countP obyte ≤ r.countP obyte := (List.drop_sublist q r).countP_le
      rw [List.countP_cons]
      simp only
      split
      · rename_i ho
        have : (tk (b :: r)).1 = 0 ∨ (tk (b :: r)).1 = 2 := by simpa using ho
        have hb := open_byte this
        rw [if_pos (by unfold obyte; simpa using hb)]
        omega
      · omega
/-! ### a text in the language holds no bad token -/
def Cln (one : List Tk → Option (List Tk)) : Prop := ∀ ts us, one ts = some us → ∀ c ∈ ts, c ∈ us ∨ c.f0 ≠ 11
theorem cln_tail {ts : List Tk} {k : Int} (h : hdk ts k = true) (hk : k ≠ 11) : ∀ c ∈ ts, c ∈ ts.tail ∨ c.f0 ≠ 11 := by
  cases ts with
  | nil => intro c hc; cases hc
  | cons t r =>
    intro c hc
    rcases List.mem_cons.1 hc with rfl | hc
    · right; have : c.f0 = k := by simpa [hdk] using h
      omega
    · exact Or.inl hc
theorem cln_lp {one : List Tk → Option (List Tk)} (h : Cln one) (c : Int) (hc : c ≠ 11) : ∀ n, Cln (lp one c n) := by
  intro n
  induction n with
  | zero => intro ts us e; cases e
  | succ n ih =>
    intro ts us e x hx
    rw [lp] at e
    cases ho : one ts with
    | none => rw [ho] at e; cases e
    | some vs =>
      rw [ho] at e
      simp only at e
      rcases h ts vs ho x hx with hv | hv
      · by_cases h1 : hdk vs c = true
        · rw [if_pos h1] at e; cases e; exact cln_tail h1 hc x hv
        · rw [if_neg h1] at e
          by_cases h5 : hdk vs 5 = true
          · rw [if_pos h5] at e
            rcases cln_tail h5 (by decide) x hv with h6 | h6
            · exact ih _ _ e x h6
            · exact Or.inr h6
          · rw [if_neg h5] at e; cases e
      · exact Or.inr hv
theorem cln_rs {one : List Tk → Option (List Tk)} (h : Cln one) (c : Int) (hc : c ≠ 11) : Cln (rs one c) := by
  intro ts us e x hx
  unfold rs at e
  by_cases h1 : hdk ts c = true
  · rw [if_pos h1] at e; cases e; exact cln_tail h1 hc x hx
  · rw [if_neg h1] at e; exact cln_lp h c hc _ _ _ e x hx
theorem cln_one {v : List Tk → Option (List Tk)} (h : Cln v) : Cln (one1 v) := by
  intro ts us e x hx
  unfold one1 at e
  by_cases h6 : hdk ts 6 = true
  · rw [if_pos h6] at e
    by_cases h4 : hdk ts.tail 4 = true
    · rw [if_pos h4] at e
      rcases cln_tail h6 (by decide) x hx with h7 | h7
      · rcases cln_tail h4 (by decide) x h7 with h8 | h8
        · exact h _ _ e x h8
        · exact Or.inr h8
      · exact Or.inr h7
    · rw [if_neg h4] at e; cases e
  · rw [if_neg h6] at e; cases e
theorem cln_val : ∀ k, Cln (val k) := by
  intro k
  have scal : ∀ (ts us : List Tk), (hdk ts 6 = true ∨ hdk ts 7 = true ∨ hdk ts 8 = true) → some ts.tail = some us → ∀ c ∈ ts, c ∈ us ∨ c.f0 ≠ 11 := by
    intro ts us h e
    cases e
    rcases h with h | h | h <;> exact cln_tail h (by decide)
  induction k with
  | zero =>
    intro ts us e x hx
    rw [val] at e
    split at e
    · rename_i h; exact scal ts us h e x hx
    · cases e
  | succ k ih =>
    intro ts us e x hx
    rw [val] at e
    split at e
    · rename_i h; exact scal ts us h e x hx
    · split at e
      · rename_i h0
        rcases cln_tail h0 (by decide) x hx with h1 | h1
        · exact cln_rs (cln_one ih) 1 (by decide) _ _ e x h1
        · exact Or.inr h1
      · split at e
        · rename_i h0
          rcases cln_tail h0 (by decide) x hx with h1 | h1
          · exact cln_rs ih 3 (by decide) _ _ e x h1
          · exact Or.inr h1
        · cases e
/-- In the language: one value, its tokens all of them, none bad. -/
theorem good_val {l : List UInt8} (h : errs (nodesN l) = 0) : val 12 (solid (toks l)) = some [] ∧ ∀ c ∈ toks l, c.f0 ≠ 11 := by
  have hg := good_tree l
  rw [h] at hg
  have hv : val 12 (solid (toks l)) = some [] := by
    unfold Go.Proofs.Ytehojohacombkaa.Gd.good at hg
    cases ho : val 12 (solid (toks l)) with
    | none => rw [ho] at hg; simp at hg
    | some us =>
      cases us with
      | nil => rfl
      | cons t r => rw [ho] at hg; simp at hg
  refine ⟨hv, fun c hc h11 => ?_⟩
  have hs : c ∈ solid (toks l) := List.mem_filter.2 ⟨hc, by rw [h11]; rfl⟩
  rcases cln_val 12 _ _ hv c hs with h1 | h1
  · cases h1
  · exact h1 h11
theorem nodes_val {l : List UInt8} (h : errs (nodesN l) = 0) : ∃ t r, solid (toks l) = t :: r ∧ bgK 12 t = true ∧ (valN l.length 12 0 (solid (toks l)) [(⟨0, 0, 0, l.length, []⟩ : Nd)]).1 = [] ∧ nodesN l = (valN l.length 12 0 (solid (toks l)) [(⟨0, 0, 0, l.length, []⟩ : Nd)]).2 ∧ errs (valN l.length 12 0 (solid (toks l)) [(⟨0, 0, 0, l.length, []⟩ : Nd)]).2 = errs [(⟨0, 0, 0, l.length, []⟩ : Nd)] := by
  obtain ⟨hv, hc⟩ := good_val h
  obtain ⟨t, r, e, hb⟩ := val_begins 12 _ _ hv
  have ht := val_tells (l.length : Int) 12 0 (solid (toks l)) [(⟨0, 0, 0, l.length, []⟩ : Nd)] (by rw [e]; exact hb)
  rw [hv] at ht
  obtain ⟨t1, t2⟩ := ht
  refine ⟨t, r, e, hb, t1, ?_, t2⟩
  unfold nodesN
  rw [show putN [] 0 0 0 (l.length : Int) = [(⟨0, 0, 0, l.length, []⟩ : Nd)] from rfl]
  rw [e] at t1 ⊢
  simp only [List.length_cons]
  rw [mainN, if_pos hb, if_neg Bool.false_ne_true, t1, mainN, if_pos rfl]
end Go.Proofs.Ytehojohacombkaa.Pl
namespace Go.Proofs.Ytehojohacombkaa.Pl
open Go.RowKit Go.Proofs.Ytehojohacombkaa.G Go.Proofs.Ytehojohacombkaa.Lx Go.Proofs.YtehojohacombkaaW.PrintWords Go.Proofs.YtehojohacombkaaW.PrintLast
open Go.Proofs.Ytehojohacombkaa.Gd (solid)
open Go.Proofs.Ytehojohacombkaa.Ps
set_option linter.unusedVariables false
set_option linter.unusedSimpArgs false
theorem main_nil (v : One) (bg : Tk → Bool) (en : Int) (n : Nat) (ns : List Nd) : mainN v bg en n true [] ns = ns := by
  cases n <;> rfl
theorem list_close {one : One} {bg : Tk → Bool} {en c id a b : Int} {n : Nat} {ns : List Nd} : listN one bg en c id (n + 1) 1 [(⟨c, a, b⟩ : Tk)] ns = ([], reachN ns id b) := by
  rw [listN, if_pos rfl, if_neg (by decide)]
theorem bg_not {k : Nat} {t : Tk} (h : bgK k t = true) : t.f0 ≠ 1 ∧ t.f0 ≠ 3 ∧ t.f0 ≠ 5 := by
  refine ⟨fun e => ?_, fun e => ?_, fun e => ?_⟩ <;> (unfold bgK at h; rw [e] at h; simp at h)
theorem wrap_arr {l L : List UInt8} (h : errs (nodesN l) = 0) (ho : opens (solid (toks l)) ≤ 11)
    (hT : solid (toks L) = (⟨2, 0, 1⟩ : Tk) :: ((solid (toks l)).map (mvt 1) ++ [(⟨3, (l.length : Int) + 2, (l.length : Int) + 3⟩ : Tk)])) :
    ∃ N, nodesN L = reachN N 1 ((l.length : Int) + 3) ∧ Emb 1 1 1 (⟨0, 0, 0, l.length, []⟩ : Nd) (⟨1, 2, 0, 1, []⟩ : Nd) (fun _ => (⟨0, 0, 0, L.length, [1]⟩ : Nd)) (nodesN l) N := by
  obtain ⟨t, r, e, hb, v1, v2, v3⟩ := nodes_val h
  have em : Emb 1 1 1 (⟨0, 0, 0, l.length, []⟩ : Nd) (⟨1, 2, 0, 1, []⟩ : Nd) (fun _ => (⟨0, 0, 0, L.length, [1]⟩ : Nd)) [(⟨0, 0, 0, l.length, []⟩ : Nd)] [(⟨0, 0, 0, L.length, [1]⟩ : Nd), (⟨1, 2, 0, 1, []⟩ : Nd)] := by
    refine ⟨Nat.le_refl _, by simp, putN_wf wf_nil 0 0 0 l.length (Int.le_refl 0), ?_, ?_, ⟨[], rfl, rfl⟩, ?_, ?_⟩
    · intro i i0 i1 k hk
      have : i = 0 := by simp at i1; omega
      subst this; cases hk
    · intro i i0 i1; simp at i1; omega
    · intro i i0 i1 i2
      have : i = 0 := by omega
      subst this; rfl
    · intro i i0 i1; simp at i1; omega
  have lv : Lv 12 11 (solid (toks l)) := Or.inr ⟨rfl, ho⟩
  obtain ⟨w1, w2, w3⟩ := val_sim (en := l.length) (en' := L.length) (suf := [(⟨3, (l.length : Int) + 2, (l.length : Int) + 3⟩ : Tk)]) ⟨by decide, by decide⟩ (fun h => by cases h) 12 11 0 (solid (toks l)) _ _ (by rw [e]; simp) (Int.le_refl 0) (by simp) em lv (Or.inr v3)
  rw [v1, show sg 1 1 0 = 1 from rfl] at w1
  rw [← v2, show sg 1 1 0 = 1 from rfl] at w2
  refine ⟨_, ?_, w2⟩
  have hbg : bgK 11 (mvt 1 t) = true := by rw [lv_bg (d := 1) (r := r) (by rw [← e]; exact lv)]; exact hb
  obtain ⟨n1, n3, n5⟩ := bg_not hb
  unfold nodesN
  rw [hT]
  rw [e] at w1 ⊢
  simp only [List.length_cons]
  rw [mainN, if_pos (show bgK 12 (⟨2, 0, 1⟩ : Tk) = true from rfl), if_neg Bool.false_ne_true]
  have hv : valN (L.length : Int) 12 0 ((⟨2, 0, 1⟩ : Tk) :: ((t :: r).map (mvt 1) ++ [(⟨3, (l.length : Int) + 2, (l.length : Int) + 3⟩ : Tk)])) (putN [] 0 0 0 L.length) =
      listN (valN (L.length : Int) 11) (bgK 11) (L.length : Int) 3 1 ((r.map (mvt 1) ++ [(⟨3, (l.length : Int) + 2, (l.length : Int) + 3⟩ : Tk)]).length + 1 + 1 + 1) 0 (mvt 1 t :: (r.map (mvt 1) ++ [(⟨3, (l.length : Int) + 2, (l.length : Int) + 3⟩ : Tk)])) [(⟨0, 0, 0, L.length, [1]⟩ : Nd), (⟨1, 2, 0, 1, []⟩ : Nd)] := rfl
  rw [hv, listN, if_neg (show ¬ (mvt 1 t).f0 = 3 from n3), if_neg (show ¬ ((mvt 1 t).f0 = 5 ∧ (0 : Int) = 1) from fun h => n5 h.1), if_pos hbg, if_neg (show ¬ (0 : Int) = 1 by decide)]
  rw [show mvt 1 t :: (r.map (mvt 1) ++ [(⟨3, (l.length : Int) + 2, (l.length : Int) + 3⟩ : Tk)]) = (t :: r).map (mvt 1) ++ [(⟨3, (l.length : Int) + 2, (l.length : Int) + 3⟩ : Tk)] from rfl, w1]
  rw [show ([] : List Tk).map (mvt 1) ++ [(⟨3, (l.length : Int) + 2, (l.length : Int) + 3⟩ : Tk)] = [(⟨3, (l.length : Int) + 2, (l.length : Int) + 3⟩ : Tk)] from rfl, list_close, main_nil]
theorem wrap_obj {l L : List UInt8} (h : errs (nodesN l) = 0) (ho : opens (solid (toks l)) ≤ 11)
    (hT : solid (toks L) = (⟨0, 0, 1⟩ : Tk) :: (⟨6, 1, 6⟩ : Tk) :: (⟨4, 6, 7⟩ : Tk) :: ((solid (toks l)).map (mvt 7) ++ [(⟨1, (l.length : Int) + 8, (l.length : Int) + 9⟩ : Tk)])) :
    ∃ N, nodesN L = reachN (reachN N 2 7) 1 ((l.length : Int) + 9) ∧ Emb 3 2 7 (⟨0, 0, 0, l.length, []⟩ : Nd) (⟨2, 3, 1, 6, [3]⟩ : Nd) (fun i => rdn [(⟨0, 0, 0, L.length, [1]⟩ : Nd), (⟨1, 1, 0, 1, [2]⟩ : Nd), (⟨2, 3, 1, 6, [3]⟩ : Nd), (⟨3, 4, 1, 6, []⟩ : Nd)] i) (nodesN l) N := by
  obtain ⟨t, r, e, hb, v1, v2, v3⟩ := nodes_val h
  have em : Emb 3 2 7 (⟨0, 0, 0, l.length, []⟩ : Nd) (⟨2, 3, 1, 6, [3]⟩ : Nd) (fun i => rdn [(⟨0, 0, 0, L.length, [1]⟩ : Nd), (⟨1, 1, 0, 1, [2]⟩ : Nd), (⟨2, 3, 1, 6, [3]⟩ : Nd), (⟨3, 4, 1, 6, []⟩ : Nd)] i) [(⟨0, 0, 0, l.length, []⟩ : Nd)] [(⟨0, 0, 0, L.length, [1]⟩ : Nd), (⟨1, 1, 0, 1, [2]⟩ : Nd), (⟨2, 3, 1, 6, [3]⟩ : Nd), (⟨3, 4, 1, 6, []⟩ : Nd)] := by
    refine ⟨Nat.le_refl _, by simp, putN_wf wf_nil 0 0 0 l.length (Int.le_refl 0), ?_, ?_, ⟨[], rfl, rfl⟩, ?_, ?_⟩
    · intro i i0 i1 k hk
      have : i = 0 := by simp at i1; omega
      subst this; cases hk
    · intro i i0 i1; simp at i1; omega
    · intro i i0 i1 i2; rfl
    · intro i i0 i1; simp at i1; omega
  have lv : Lv 12 11 (solid (toks l)) := Or.inr ⟨rfl, ho⟩
  obtain ⟨w1, w2, w3⟩ := val_sim (en := l.length) (en' := L.length) (suf := [(⟨1, (l.length : Int) + 8, (l.length : Int) + 9⟩ : Tk)]) ⟨by decide, by decide⟩ (fun h => by cases h) 12 11 0 (solid (toks l)) _ _ (by rw [e]; simp) (Int.le_refl 0) (by simp) em lv (Or.inr v3)
  rw [v1, show sg 3 2 0 = 2 from rfl] at w1
  rw [← v2, show sg 3 2 0 = 2 from rfl] at w2
  refine ⟨_, ?_, w2⟩
  have hbg : bgK 11 (mvt 7 t) = true := by rw [lv_bg (d := 7) (r := r) (by rw [← e]; exact lv)]; exact hb
  unfold nodesN
  rw [hT]
  rw [e] at w1 ⊢
  simp only [List.length_cons]
  rw [mainN, if_pos (show bgK 12 (⟨0, 0, 1⟩ : Tk) = true from rfl), if_neg Bool.false_ne_true]
  have hv : valN (L.length : Int) 12 0 ((⟨0, 0, 1⟩ : Tk) :: (⟨6, 1, 6⟩ : Tk) :: (⟨4, 6, 7⟩ : Tk) :: ((t :: r).map (mvt 7) ++ [(⟨1, (l.length : Int) + 8, (l.length : Int) + 9⟩ : Tk)])) (putN [] 0 0 0 L.length) =
      listN (memN (valN (L.length : Int) 11) (bgK 11) (L.length : Int)) (bgK 11) (L.length : Int) 1 1 (((t :: r).map (mvt 7) ++ [(⟨1, (l.length : Int) + 8, (l.length : Int) + 9⟩ : Tk)]).length + 1 + 1 + 1 + 1) 0 ((⟨6, 1, 6⟩ : Tk) :: (⟨4, 6, 7⟩ : Tk) :: ((t :: r).map (mvt 7) ++ [(⟨1, (l.length : Int) + 8, (l.length : Int) + 9⟩ : Tk)])) [(⟨0, 0, 0, L.length, [1]⟩ : Nd), (⟨1, 1, 0, 1, []⟩ : Nd)] := rfl
  have hm : memN (valN (L.length : Int) 11) (bgK 11) (L.length : Int) 1 ((⟨6, 1, 6⟩ : Tk) :: (⟨4, 6, 7⟩ : Tk) :: ((t :: r).map (mvt 7) ++ [(⟨1, (l.length : Int) + 8, (l.length : Int) + 9⟩ : Tk)])) [(⟨0, 0, 0, L.length, [1]⟩ : Nd), (⟨1, 1, 0, 1, []⟩ : Nd)] =
      ((pvN (valN (L.length : Int) 11) (bgK 11) (L.length : Int) 2 ((t :: r).map (mvt 7) ++ [(⟨1, (l.length : Int) + 8, (l.length : Int) + 9⟩ : Tk)], [(⟨0, 0, 0, L.length, [1]⟩ : Nd), (⟨1, 1, 0, 1, [2]⟩ : Nd), (⟨2, 3, 1, 6, [3]⟩ : Nd), (⟨3, 4, 1, 6, []⟩ : Nd)])).1,
        reachN (pvN (valN (L.length : Int) 11) (bgK 11) (L.length : Int) 2 ((t :: r).map (mvt 7) ++ [(⟨1, (l.length : Int) + 8, (l.length : Int) + 9⟩ : Tk)], [(⟨0, 0, 0, L.length, [1]⟩ : Nd), (⟨1, 1, 0, 1, [2]⟩ : Nd), (⟨2, 3, 1, 6, [3]⟩ : Nd), (⟨3, 4, 1, 6, []⟩ : Nd)])).2 2 7) := rfl
  have hp : pvN (valN (L.length : Int) 11) (bgK 11) (L.length : Int) 2 ((t :: r).map (mvt 7) ++ [(⟨1, (l.length : Int) + 8, (l.length : Int) + 9⟩ : Tk)], [(⟨0, 0, 0, L.length, [1]⟩ : Nd), (⟨1, 1, 0, 1, [2]⟩ : Nd), (⟨2, 3, 1, 6, [3]⟩ : Nd), (⟨3, 4, 1, 6, []⟩ : Nd)]) =
      valN (L.length : Int) 11 2 ((t :: r).map (mvt 7) ++ [(⟨1, (l.length : Int) + 8, (l.length : Int) + 9⟩ : Tk)]) [(⟨0, 0, 0, L.length, [1]⟩ : Nd), (⟨1, 1, 0, 1, [2]⟩ : Nd), (⟨2, 3, 1, 6, [3]⟩ : Nd), (⟨3, 4, 1, 6, []⟩ : Nd)] := by
    unfold pvN
    exact if_pos hbg
  rw [hv, listN, if_neg (show ¬ (6 : Int) = 1 by decide), if_neg (show ¬ ((6 : Int) = 5 ∧ (0 : Int) = 1) by decide), if_pos (show bgK 11 (⟨6, 1, 6⟩ : Tk) = true from rfl), if_neg (show ¬ (0 : Int) = 1 by decide), hm, hp]
  simp only
  rw [w1]
  rw [show ([] : List Tk).map (mvt 7) ++ [(⟨1, (l.length : Int) + 8, (l.length : Int) + 9⟩ : Tk)] = [(⟨1, (l.length : Int) + 8, (l.length : Int) + 9⟩ : Tk)] from rfl, list_close, main_nil]
/-! ### shapes -/
theorem fm_congr {α β : Type} {f g : α → List β} : ∀ (l : List α), (∀ a ∈ l, f a = g a) → l.flatMap f = l.flatMap g := by
  intro l
  induction l with
  | nil => intro _; rfl
  | cons x r ih => intro h; rw [List.flatMap_cons, List.flatMap_cons, h x (by simp), ih (fun a ha => h a (by simp [ha]))]
theorem shp_emb {c p0 d : Int} {q g : Nd} {G : Int → Nd} {ns N M : List Nd} (hc : 0 ≤ c) (h : Emb c p0 d q g G ns N) (hM : ∀ i, 1 ≤ i → i < (ns.length : Int) → (rdn M (i + c)).f1 = (rdn N (i + c)).f1 ∧ (rdn M (i + c)).f4 = (rdn N (i + c)).f4) :
    ∀ (n : Nat) (i : Int), 1 ≤ i → i < (ns.length : Int) → shp M n (i + c) = shp ns n i := by
  intro n
  induction n with
  | zero => intro i i0 i1; rfl
  | succ n ih =>
    intro i i0 i1
    obtain ⟨m1, m2⟩ := hM i i0 i1
    have e := h.at_ i i0 i1
    rw [shp, shp, m1, m2, e]
    have k1 := h.pos i (by omega) i1
    have k2 := (h.wf _ (rdn_mem (by omega) i1)).2
    have hk : ((rdn ns i).f4.map (· + c)).flatMap (shp M n) = (rdn ns i).f4.flatMap (shp ns n) := by
      rw [List.flatMap_map]
      refine fm_congr _ ?_
      intro k hk
      exact ih k (k1 k hk) (k2 k hk).2
    show letter (rdn ns i).f1 :: (if (rdn ns i).f4.map (· + c) = [] then [] else 40 :: (((rdn ns i).f4.map (· + c)).flatMap (shp M n) ++ [41])) = _
    rw [hk]
    simp only [List.map_eq_nil_iff]
theorem kids_emb {c p0 d : Int} {q g : Nd} {G : Int → Nd} {ns N M : List Nd} (hc : 0 ≤ c) (h : Emb c p0 d q g G ns N) (hM : ∀ i, 1 ≤ i → i < (ns.length : Int) → (rdn M (i + c)).f1 = (rdn N (i + c)).f1 ∧ (rdn M (i + c)).f4 = (rdn N (i + c)).f4) (n : Nat) :
    ((rdn ns 0).f4.map (· + c)).flatMap (shp M n) = (rdn ns 0).f4.flatMap (shp ns n) := by
  have h1 := h.one
  have k1 := h.pos 0 (Int.le_refl 0) (by omega)
  have k2 := (h.wf _ (rdn_mem (Int.le_refl 0) (by omega))).2
  rw [List.flatMap_map]
  refine fm_congr _ ?_
  intro k hk
  exact shp_emb hc h hM n k (k1 k hk) (k2 k hk).2
end Go.Proofs.Ytehojohacombkaa.Pl
