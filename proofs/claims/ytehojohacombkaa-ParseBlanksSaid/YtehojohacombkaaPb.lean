/- Blanks and remarks ahead: the same tokens and the same tree, moved. Places stay within the text. Plain. -/
import Derived.Test.YtehojohacombkaaPe
import Derived.Test.YtehojohacombkaaLa
import Derived.Test.YtehojohacombkaaLq
namespace Go.Proofs.Ytehojohacombkaa.Pl
open Go.RowKit Go.Proofs.Ytehojohacombkaa.G Go.Proofs.Ytehojohacombkaa.Lx Go.Proofs.YtehojohacombkaaW.PrintWords Go.Proofs.YtehojohacombkaaW.PrintLast
open Go.Proofs.Ytehojohacombkaa.Gd (solid)
open Go.Proofs.Ytehojohacombkaa.Ps
set_option linter.unusedVariables false
set_option linter.unusedSimpArgs false
theorem solid_map (d : Int) (ts : List Tk) : solid (ts.map (mvt d)) = (solid ts).map (mvt d) := by
  unfold solid; rw [List.filter_map]; rfl
theorem mvt_add (a b : Int) (ts : List Tk) : (ts.map (mvt a)).map (mvt b) = ts.map (mvt (a + b)) := by
  rw [List.map_map]
  refine List.map_congr_left (fun t _ => ?_)
  show (⟨t.f0, t.f1 + a + b, t.f2 + a + b⟩ : Tk) = ⟨t.f0, t.f1 + (a + b), t.f2 + (a + b)⟩
  rw [Int.add_assoc, Int.add_assoc]
theorem mvt_zero (ts : List Tk) : ts.map (mvt 0) = ts := by
  have : ∀ t : Tk, mvt 0 t = t := fun t => by unfold mvt; rw [Int.add_zero, Int.add_zero]
  rw [show (mvt 0 : Tk → Tk) = id from funext this, List.map_id]
theorem toks_step (b : UInt8) (r : List UInt8) : toks (b :: r) = (⟨(tk (b :: r)).1, 0, ((tk (b :: r)).2 : Int)⟩ : Tk) :: (toks ((b :: r).drop (tk (b :: r)).2)).map (mvt (((tk (b :: r)).2 : Nat) : Int)) := by
  unfold toks
  rw [List.length_cons, tks]
  have h := tk_le (b := b) (r := r)
  simp only [Nat.zero_add]
  have := tks_mv r.length 0 (tk (b :: r)).2 ((b :: r).drop (tk (b :: r)).2)
  rw [Nat.zero_add] at this
  rw [this, tks_fuel r.length ((b :: r).drop (tk (b :: r)).2).length 0 _ (by rw [List.length_drop]; simp only [List.length_cons]; omega) (Nat.le_refl _)]
  rfl
theorem run_all {w : List UInt8} (s : List UInt8) (h : ∀ b ∈ w, isB b = true) : run isB (w ++ s) = w.length + run isB s := by
  induction w with
  | nil => simp
  | cons b r ih =>
    simp only [List.cons_append, run, if_pos (h b (by simp)), ih (fun x hx => h x (by simp [hx])), List.length_cons]
    omega
theorem solid_skip (t : Tk) (ts : List Tk) (h : t.f0 = 10 ∨ t.f0 = 9) : solid (t :: ts) = solid ts := by
  unfold solid
  rw [List.filter_cons]
  rcases h with h | h <;> (rw [h]; rfl)
theorem blank_self (s : List UInt8) : solid (toks s) = (solid (toks (s.drop (run isB s)))).map (mvt ((run isB s : Nat) : Int)) := by
  cases s with
  | nil => rfl
  | cons b r =>
    by_cases h : isB b = true
    · have e1 := tk_isB (r := r) h
      have e2 := tk_blank e1
      rw [toks_step, solid_skip _ _ (Or.inl e1), solid_map, e2]
    · have e : run isB (b :: r) = 0 := by simp only [run, if_neg h]
      rw [e]
      exact (mvt_zero _).symm
theorem blank_ahead (w s : List UInt8) (h : ∀ b ∈ w, isB b = true) : solid (toks (w ++ s)) = (solid (toks s)).map (mvt (w.length : Int)) := by
  rw [blank_self (w ++ s), run_all s h, blank_self s, mvt_add, List.drop_append, List.drop_of_length_le (by omega), List.nil_append, show w.length + run isB s - w.length = run isB s by omega]
  rw [show ((w.length + run isB s : Nat) : Int) = ((run isB s : Nat) : Int) + (w.length : Int) by omega]
theorem rem_ahead (b : UInt8) (w s : List UInt8) (h : tk (b :: w ++ s) = (9, (b :: w).length)) : solid (toks (b :: w ++ s)) = (solid (toks s)).map (mvt ((b :: w).length : Int)) := by
  have h' : tk (b :: (w ++ s)) = (9, (b :: w).length) := h
  rw [show b :: w ++ s = b :: (w ++ s) from rfl, toks_step, solid_skip _ _ (Or.inr (by rw [h'])), solid_map, h']
  simp only
  rw [show (b :: (w ++ s)).drop (b :: w).length = s by rw [show b :: (w ++ s) = (b :: w) ++ s from rfl, List.drop_left]]
theorem tk_line (s : List UInt8) : tk ([47, 47, 32, 123] ++ 10 :: s) = (9, 4) := by
  rw [show ([47, 47, 32, 123] ++ 10 :: s : List UInt8) = 47 :: 47 :: 32 :: 123 :: 10 :: s from rfl, tk]
  rw [show sign 47 = none from rfl]
  simp [isB, rmk, run]
theorem tk_star (s : List UInt8) : tk ([47, 42, 32, 91, 49, 93, 32, 42, 47] ++ s) = (9, 9) := by
  rw [show ([47, 42, 32, 91, 49, 93, 32, 42, 47] ++ s : List UInt8) = 47 :: 42 :: 32 :: 91 :: 49 :: 93 :: 32 :: 42 :: 47 :: s from rfl, tk]
  rw [show sign 47 = none from rfl]
  simp [isB, rmk, shut]
def aheads : List (List UInt8) := [[32], [10, 9, 32], [47, 47, 32, 123, 10], [47, 42, 32, 91, 49, 93, 32, 42, 47]]
theorem ahead_toks (w s : List UInt8) (h : w ∈ aheads) : solid (toks (w ++ s)) = (solid (toks s)).map (mvt (w.length : Int)) := by
  simp only [aheads, List.mem_cons, List.not_mem_nil, or_false] at h
  rcases h with rfl | rfl | rfl | rfl
  · exact blank_ahead _ _ (by decide)
  · exact blank_ahead _ _ (by decide)
  · rw [show ([47, 47, 32, 123, 10] ++ s : List UInt8) = 47 :: [47, 32, 123] ++ ([10] ++ s) from rfl, rem_ahead 47 [47, 32, 123] ([10] ++ s) (tk_line s), blank_ahead [10] s (by decide), mvt_add]
    rfl
  · exact rem_ahead 47 [42, 32, 91, 49, 93, 32, 42, 47] s (tk_star s)
theorem main_sim {en en' d : Int} {q g : Nd} {G : Int → Nd} (hen : en' = en + d) : ∀ (n : Nat) (had : Bool) (ts : List Tk) (ns ns' : List Nd), ts.length < n → Emb 0 0 d q g G ns ns' →
    Emb 0 0 d q g G (mainN (valN en 12) (bgK 12) en n had ts ns) (mainN (valN en' 12) (bgK 12) en' n had (ts.map (mvt d)) ns') := by
  have hp : (0 : Int) ≤ 0 ∧ (0 : Int) ≤ 0 := ⟨Int.le_refl 0, Int.le_refl 0⟩
  have hs : OneSim 0 0 d q g G [] (valN en 12) (valN en' 12) 12 12 := val_sim hp (fun _ => hen) 12 12
  intro n
  induction n with
  | zero => intro had ts ns ns' h; omega
  | succ n ih =>
    intro had ts ns ns' h he
    have h1 := he.one
    cases ts with
    | nil =>
      show Emb 0 0 d q g G (if had = true then ns else lackN ns 0 en) (if had = true then ns' else lackN ns' 0 en')
      cases had with
      | true => exact he
      | false =>
        have := emb_put hp he 7 en en (p := 0) (by decide) (Int.le_refl 0) (by omega)
        rw [if_neg Bool.false_ne_true, if_neg Bool.false_ne_true, hen]
        exact this
    | cons t r =>
      simp only [List.length_cons] at h
      show Emb 0 0 d q g G _ (mainN (valN en' 12) (bgK 12) en' (n + 1) had (mvt d t :: r.map (mvt d)) ns')
      rw [mainN, mainN, show bgK 12 (mvt d t) = bgK 12 t from rfl]
      by_cases hb : bgK 12 t = true
      · rw [if_pos hb, if_pos hb]
        by_cases hh : had = true
        · rw [if_pos hh, if_pos hh]
          obtain ⟨w1, w2, w3⟩ := wrap_sim (en := en) (en' := en') hp (fun _ => hen) hs (val_ok en 12) (val_le en 12) 0 (t :: r) ns ns' (by simp) (Int.le_refl 0) (by omega) he (Or.inl rfl) (Or.inl rfl)
          obtain ⟨⟨o1, o2, o3⟩, o4⟩ := wrap_ok (val_ok en 12) en 0 (t :: r) ns (by simp) (Int.le_refl 0) (by omega) he.wf
          rw [List.append_nil, List.append_nil] at w1
          rw [List.append_nil] at w2
          simp only [List.length_cons] at o4
          have w1' : (wrapN (valN en' 12) en' 0 (mvt d t :: r.map (mvt d)) ns').1 = (wrapN (valN en 12) en 0 (t :: r) ns).1.map (mvt d) := w1
          rw [w1']
          exact ih true _ _ _ (by omega) w2
        · rw [if_neg hh, if_neg hh]
          obtain ⟨w1, w2, w3⟩ := hs 0 (t :: r) ns ns' (by simp) (Int.le_refl 0) (by omega) he (Or.inl rfl) (Or.inl rfl)
          obtain ⟨⟨o1, o2, o3⟩, o4⟩ := val_ok en 12 0 (t :: r) ns (by simp) (Int.le_refl 0) (by omega) he.wf
          rw [List.append_nil, List.append_nil] at w1
          rw [List.append_nil] at w2
          simp only [List.length_cons] at o4
          have w1' : (valN en' 12 0 (mvt d t :: r.map (mvt d)) ns').1 = (valN en 12 0 (t :: r) ns).1.map (mvt d) := w1
          rw [w1']
          exact ih true _ _ _ (by omega) w2
      · rw [if_neg hb, if_neg hb]
        have hput := emb_put hp he 7 t.f1 t.f2 (p := 0) (by decide) (Int.le_refl 0) (by omega)
        exact ih had r _ _ (by omega) hput
theorem nodes_moved (l l' : List UInt8) (d : Int) (hl : (l'.length : Int) = l.length + d) (h : solid (toks l') = (solid (toks l)).map (mvt d)) :
    Emb 0 0 d (⟨0, 0, 0, l.length, []⟩ : Nd) (⟨0, 0, 0, l'.length, []⟩ : Nd) (fun _ => z34) (nodesN l) (nodesN l') := by
  unfold nodesN
  rw [h, List.length_map]
  refine main_sim hl _ false _ _ _ (by omega) ?_
  have e : ∀ n : Int, putN [] 0 0 0 n = [(⟨0, 0, 0, n, []⟩ : Nd)] := fun n => rfl
  rw [e, e]
  refine ⟨Nat.le_refl _, by simp, ?_, ?_, ?_, ⟨[], rfl, rfl⟩, ?_, ?_⟩
  · have := putN_wf wf_nil 0 0 0 l.length (Int.le_refl 0)
    rwa [e] at this
  · intro i i0 i1 k hk
    have : i = 0 := by simp at i1; omega
    subst this; cases hk
  · intro i i0 i1; simp at i1; omega
  · intro i i0 i1 i2; omega
  · intro i i0 i1; simp at i1; omega
/-! ### places -/
def Bd (M : Int) (ns : List Nd) : Prop := ∀ x ∈ ns, 0 ≤ x.f2 ∧ x.f2 ≤ M ∧ 0 ≤ x.f3 ∧ x.f3 ≤ M
def Tb (M : Int) (ts : List Tk) : Prop := ∀ t ∈ ts, 0 ≤ t.f1 ∧ t.f1 ≤ M ∧ 0 ≤ t.f2 ∧ t.f2 ≤ M
def OneBd (M : Int) (one : One) : Prop := ∀ p ts ns, Tb M ts → Bd M ns → Tb M (one p ts ns).1 ∧ Bd M (one p ts ns).2
section
variable {M en : Int}
theorem bd_rdn {ns : List Nd} (h : Bd M ns) (hM : 0 ≤ M) (i : Int) : 0 ≤ (rdn ns i).f2 ∧ (rdn ns i).f2 ≤ M ∧ 0 ≤ (rdn ns i).f3 ∧ (rdn ns i).f3 ≤ M := by
  unfold rdn rd_T34
  rw [List.getD_eq_getElem?_getD]
  by_cases hi : i.toNat < ns.length
  · rw [List.getElem?_eq_getElem hi]; exact h _ (List.getElem_mem _)
  · rw [List.getElem?_eq_none (by omega)]; exact ⟨Int.le_refl 0, hM, Int.le_refl 0, hM⟩
theorem bd_set {ns : List Nd} (h : Bd M ns) (i : Nat) (x : Nd) (hx : 0 ≤ x.f2 ∧ x.f2 ≤ M ∧ 0 ≤ x.f3 ∧ x.f3 ≤ M) : Bd M (ns.set i x) := by
  intro y hy
  rcases List.mem_or_eq_of_mem_set hy with hy | rfl
  · exact h y hy
  · exact hx
theorem bd_snoc {ns : List Nd} (h : Bd M ns) (x : Nd) (hx : 0 ≤ x.f2 ∧ x.f2 ≤ M ∧ 0 ≤ x.f3 ∧ x.f3 ≤ M) : Bd M (ns ++ [x]) := by
  intro y hy
  rcases List.mem_append.1 hy with hy | hy
  · exact h y hy
  · rw [List.mem_singleton.1 hy]; exact hx
theorem bd_put {ns : List Nd} (h : Bd M ns) (hM : 0 ≤ M) (p k f t : Int) (hx : 0 ≤ f ∧ f ≤ M ∧ 0 ≤ t ∧ t ≤ M) : Bd M (putN ns p k f t) := by
  have h2 := bd_snoc h (nd ns.length k f t) hx
  unfold putN; split
  · exact bd_set h2 _ _ (bd_rdn h2 hM p)
  · exact h2
theorem bd_setTo {ns : List Nd} (h : Bd M ns) (hM : 0 ≤ M) (id tz : Int) (hx : 0 ≤ tz ∧ tz ≤ M) : Bd M (setTo ns id tz) := by
  have := bd_rdn h hM id
  exact bd_set h _ _ ⟨this.1, this.2.1, hx.1, hx.2⟩
theorem bd_reach {ns : List Nd} (h : Bd M ns) (hM : 0 ≤ M) (id tz : Int) (hx : 0 ≤ tz ∧ tz ≤ M) : Bd M (reachN ns id tz) := by
  have h1 := bd_setTo h hM id tz hx
  unfold reachN; split
  · have := bd_rdn h1 hM (lastKid (setTo ns id tz) id)
    exact bd_setTo h1 hM _ _ (by omega)
  · exact h1
theorem tb_next {ts : List Tk} (h : Tb M ts) (he : 0 ≤ en ∧ en ≤ M) : 0 ≤ (nextT en ts).f1 ∧ (nextT en ts).f1 ≤ M ∧ 0 ≤ (nextT en ts).f2 ∧ (nextT en ts).f2 ≤ M := by
  cases ts with
  | nil => exact ⟨he.1, he.2, he.1, he.2⟩
  | cons t r => exact h t (by simp)
theorem tb_tail {ts : List Tk} (h : Tb M ts) : Tb M ts.tail := fun t ht => h t (List.mem_of_mem_tail ht)
theorem bd_scal {ns : List Nd} (h : Bd M ns) (hM : 0 ≤ M) (p : Int) (t : Tk) (hx : 0 ≤ t.f1 ∧ t.f1 ≤ M ∧ 0 ≤ t.f2 ∧ t.f2 ≤ M) : Bd M (scal p t ns) := by
  unfold scal; split
  · exact bd_put h hM _ _ _ _ hx
  · split
    · exact bd_put h hM _ _ _ _ hx
    · split
      · exact bd_put h hM _ _ _ _ hx
      · exact h
theorem list_bd {one : One} (h : OneBd M one) (hM : 0 ≤ M) (he : 0 ≤ en ∧ en ≤ M) (bg : Tk → Bool) (c id : Int) : ∀ (n : Nat) (s : Int) (ts : List Tk) (ns : List Nd), Tb M ts → Bd M ns →
    Tb M (listN one bg en c id n s ts ns).1 ∧ Bd M (listN one bg en c id n s ts ns).2 := by
  intro n
  induction n with
  | zero => intro s ts ns ht hn; exact ⟨ht, hn⟩
  | succ n ih =>
    intro s ts ns ht hn
    cases ts with
    | nil => exact ⟨ht, bd_reach (bd_put hn hM _ _ _ _ ⟨he.1, he.2, he.1, he.2⟩) hM _ _ he⟩
    | cons t r =>
      have hr : Tb M r := tb_tail ht
      have htt := ht t (by simp)
      have hl : Bd M (lackN ns id t.f1) := bd_put hn hM _ _ _ _ ⟨htt.1, htt.2.1, htt.1, htt.2.1⟩
      rw [listN]
      split
      · refine ⟨hr, bd_reach ?_ hM _ _ htt.2.2⟩
        split
        · exact hl
        · exact hn
      · split
        · exact ih 2 r ns hr hn
        · split
          · have hm : Bd M (if s = 1 then lackN ns id t.f1 else ns) := by
              split
              · exact hl
              · exact hn
            have := h id (t :: r) _ ht hm
            exact ih 1 _ _ this.1 this.2
          · exact ih s r _ hr (bd_put hn hM _ _ _ _ htt)
theorem wrap_bd {v : One} (h : OneBd M v) (hM : 0 ≤ M) (he : 0 ≤ en ∧ en ≤ M) : OneBd M (wrapN v en) := by
  intro p ts ns ht hn
  have hx := tb_next ht he
  have := h ns.length ts _ ht (bd_put hn hM p 7 (nextT en ts).f1 (nextT en ts).f2 hx)
  exact ⟨this.1, bd_reach this.2 hM _ _ hx.2.2⟩
theorem mem_bd {v : One} (h : OneBd M v) (hM : 0 ≤ M) (he : 0 ≤ en ∧ en ≤ M) (bg : Tk → Bool) : OneBd M (memN v bg en) := by
  intro p ts ns ht hn
  unfold memN
  split
  · have hx := tb_next ht he
    have h1 := h ns.length ts _ ht (bd_put hn hM p 3 (nextT en ts).f1 (nextT en ts).f2 hx)
    generalize v ns.length ts (putN ns p 3 (nextT en ts).f1 (nextT en ts).f2) = a at h1
    have hx2 := tb_next h1.1 he
    have hc : Tb M (colN en ns.length (nextT en ts) a).1.1 ∧ Bd M (colN en ns.length (nextT en ts) a).1.2 ∧ 0 ≤ (colN en ns.length (nextT en ts) a).2 ∧ (colN en ns.length (nextT en ts) a).2 ≤ M := by
      unfold colN
      split
      · exact ⟨tb_tail h1.1, h1.2, hx2.2.2⟩
      · exact ⟨h1.1, bd_put h1.2 hM _ _ _ _ ⟨hx2.1, hx2.2.1, hx2.1, hx2.2.1⟩, hx.2.2⟩
    unfold pairN
    generalize colN en ns.length (nextT en ts) a = b at hc
    have hx3 := tb_next hc.1 he
    have hp : Tb M (pvN v bg en ns.length b.1).1 ∧ Bd M (pvN v bg en ns.length b.1).2 := by
      unfold pvN
      split
      · exact h _ _ _ hc.1 hc.2.1
      · exact ⟨hc.1, bd_put hc.2.1 hM _ _ _ _ ⟨hx3.1, hx3.2.1, hx3.1, hx3.2.1⟩⟩
    exact ⟨hp.1, bd_reach hp.2 hM _ _ hc.2.2⟩
  · exact wrap_bd h hM he p ts ns ht hn
theorem val_bd (hM : 0 ≤ M) (he : 0 ≤ en ∧ en ≤ M) : ∀ k, OneBd M (valN en k) := by
  intro k
  induction k with
  | zero => intro p ts ns ht hn; exact ⟨tb_tail ht, bd_scal hn hM _ _ (tb_next ht he)⟩
  | succ k ih =>
    intro p ts ns ht hn
    have hx := tb_next ht he
    unfold valN
    split
    · exact list_bd (mem_bd ih hM he _) hM he _ _ _ _ _ _ _ (tb_tail ht) (bd_put hn hM _ _ _ _ hx)
    · split
      · exact list_bd ih hM he _ _ _ _ _ _ _ (tb_tail ht) (bd_put hn hM _ _ _ _ hx)
      · exact ⟨tb_tail ht, bd_scal hn hM _ _ hx⟩
theorem main_bd (hM : 0 ≤ M) (he : 0 ≤ en ∧ en ≤ M) : ∀ (n : Nat) (had : Bool) (ts : List Tk) (ns : List Nd), Tb M ts → Bd M ns → Bd M (mainN (valN en 12) (bgK 12) en n had ts ns) := by
  intro n
  induction n with
  | zero => intro had ts ns ht hn; exact hn
  | succ n ih =>
    intro had ts ns ht hn
    cases ts with
    | nil =>
      rw [mainN]; split
      · exact hn
      · exact bd_put hn hM _ _ _ _ ⟨he.1, he.2, he.1, he.2⟩
    | cons t r =>
      rw [mainN]; split
      · split
        · have := wrap_bd (val_bd hM he 12) hM he 0 (t :: r) ns ht hn
          exact ih true _ _ this.1 this.2
        · have := val_bd hM he 12 0 (t :: r) ns ht hn
          exact ih true _ _ this.1 this.2
      · exact ih had r _ (tb_tail ht) (bd_put hn hM _ _ _ _ (ht t (by simp)))
end
theorem nodes_bd (l : List UInt8) : Bd (l.length : Int) (nodesN l) := by
  unfold nodesN
  refine main_bd (by omega) ⟨by omega, Int.le_refl _⟩ _ _ _ _ ?_ ?_
  · intro t ht
    have h1 : t ∈ toks l := (List.mem_filter.1 ht).1
    have := toks_bd h1
    omega
  · exact bd_put (fun x hx => by cases hx) (by omega) _ _ _ _ ⟨Int.le_refl 0, by omega, by omega, Int.le_refl _⟩
theorem main_len (en : Int) : ∀ (n : Nat) (had : Bool) (ts : List Tk) (ns : List Nd), Wf ns → 0 < ns.length → (had = true → 1 < ns.length) → ts.length < n →
    1 < (mainN (valN en 12) (bgK 12) en n had ts ns).length ∧ (mainN (valN en 12) (bgK 12) en n had ts ns).length ≤ ns.length + 6 * ts.length + 1 := by
  have vlen : ∀ t r ns, bgK 12 t = true → ns.length < (valN en 12 0 (t :: r) ns).2.length ∨ ¬ (Wf ns ∧ 0 < ns.length) := by
    intro t r ns hb
    by_cases hq : Wf ns ∧ 0 < ns.length
    · left
      unfold Go.Proofs.Ytehojohacombkaa.Ps.valN
      have et : Go.Proofs.Ytehojohacombkaa.Ps.nextT en (t :: r) = t := rfl
      rw [et]
      split
      · obtain ⟨a1, a2, a3, a4⟩ := Go.Proofs.Ytehojohacombkaa.Ps.list_ok (Go.Proofs.Ytehojohacombkaa.Ps.mem_ok (Go.Proofs.Ytehojohacombkaa.Ps.val_ok en 11) 11 en) (bgK 11) en 1 ns.length ((t :: r).length + 1) 0 r (putN ns 0 1 t.f1 t.f2) (by omega) (by rw [Go.Proofs.Ytehojohacombkaa.Ps.putN_len]; omega) (Go.Proofs.Ytehojohacombkaa.Ps.putN_wf hq.1 _ _ _ _ (Int.le_refl 0))
        rw [Go.Proofs.Ytehojohacombkaa.Ps.putN_len] at a1
        exact Nat.lt_of_lt_of_le (Nat.lt_succ_self _) a1
      · split
        · obtain ⟨a1, a2, a3, a4⟩ := Go.Proofs.Ytehojohacombkaa.Ps.list_ok (Go.Proofs.Ytehojohacombkaa.Ps.one_less (Go.Proofs.Ytehojohacombkaa.Ps.val_ok en 11) (by omega)) (bgK 11) en 3 ns.length ((t :: r).length + 1) 0 r (putN ns 0 2 t.f1 t.f2) (by omega) (by rw [Go.Proofs.Ytehojohacombkaa.Ps.putN_len]; omega) (Go.Proofs.Ytehojohacombkaa.Ps.putN_wf hq.1 _ _ _ _ (Int.le_refl 0))
          rw [Go.Proofs.Ytehojohacombkaa.Ps.putN_len] at a1
          exact Nat.lt_of_lt_of_le (Nat.lt_succ_self _) a1
        · rename_i n0 n2
          show ns.length < (Go.Proofs.Ytehojohacombkaa.Ps.scal 0 t ns).length
          have : t.f0 = 6 ∨ t.f0 = 7 ∨ t.f0 = 8 := by
            simp only [bgK, Bool.or_eq_true, Bool.and_eq_true, beq_iff_eq, decide_eq_true_eq] at hb; omega
          unfold Go.Proofs.Ytehojohacombkaa.Ps.scal
          rcases this with h | h | h
          · rw [if_pos h, Go.Proofs.Ytehojohacombkaa.Ps.putN_len]; omega
          · rw [if_neg (by omega), if_pos h, Go.Proofs.Ytehojohacombkaa.Ps.putN_len]; omega
          · rw [if_neg (by omega), if_neg (by omega), if_pos h, Go.Proofs.Ytehojohacombkaa.Ps.putN_len]; omega
    · right; exact hq
  intro n
  induction n with
  | zero => intro had ts ns hw h0 h1 hn; omega
  | succ n ih =>
    intro had ts ns hw h0 h1 hn
    cases ts with
    | nil =>
      show 1 < (if had = true then ns else Go.Proofs.Ytehojohacombkaa.Ps.lackN ns 0 en).length ∧ (if had = true then ns else Go.Proofs.Ytehojohacombkaa.Ps.lackN ns 0 en).length ≤ _
      have := Go.Proofs.Ytehojohacombkaa.Ps.putN_len ns 0 7 en en
      split
      · rename_i hh; have := h1 hh; exact ⟨this, by omega⟩
      · unfold Go.Proofs.Ytehojohacombkaa.Ps.lackN; exact ⟨by omega, by omega⟩
    | cons t r =>
      simp only [List.length_cons] at hn ⊢
      rw [Go.Proofs.Ytehojohacombkaa.Ps.mainN]
      split
      · rename_i hb
        split
        · rename_i hh
          obtain ⟨⟨o1, o2, o3⟩, o4⟩ := Go.Proofs.Ytehojohacombkaa.Ps.wrap_ok (Go.Proofs.Ytehojohacombkaa.Ps.val_ok en 12) en 0 (t :: r) ns (by simp) (by omega) (by omega) hw
          simp only [List.length_cons] at o2 o4
          have := h1 hh
          obtain ⟨i1, i2⟩ := ih true _ (Go.Proofs.Ytehojohacombkaa.Ps.wrapN (valN en 12) en 0 (t :: r) ns).2 o3 (by omega) (fun _ => by omega) (by omega : (Go.Proofs.Ytehojohacombkaa.Ps.wrapN (valN en 12) en 0 (t :: r) ns).1.length < n)
          exact ⟨i1, by omega⟩
        · obtain ⟨⟨o1, o2, o3⟩, o4⟩ := Go.Proofs.Ytehojohacombkaa.Ps.val_ok en 12 0 (t :: r) ns (by simp) (by omega) (by omega) hw
          simp only [List.length_cons] at o2 o4
          have hv := (vlen t r ns hb).resolve_right (fun h => h ⟨hw, h0⟩)
          obtain ⟨i1, i2⟩ := ih true _ (valN en 12 0 (t :: r) ns).2 o3 (by omega) (fun _ => by omega) (by omega : (valN en 12 0 (t :: r) ns).1.length < n)
          exact ⟨i1, by omega⟩
      · have hl := Go.Proofs.Ytehojohacombkaa.Ps.putN_len ns 0 7 t.f1 t.f2
        obtain ⟨i1, i2⟩ := ih had r (putN ns 0 7 t.f1 t.f2) (Go.Proofs.Ytehojohacombkaa.Ps.putN_wf hw _ _ _ _ (Int.le_refl 0)) (by omega) (fun hh => by have := h1 hh; omega) (by omega)
        exact ⟨i1, by omega⟩
theorem nodes_len (l : List UInt8) : 1 < (nodesN l).length ∧ (nodesN l).length ≤ 6 * l.length + 2 := by
  have h := main_len (l.length : Int) ((Go.Proofs.Ytehojohacombkaa.Gd.solid (toks l)).length + 1) false (Go.Proofs.Ytehojohacombkaa.Gd.solid (toks l)) (putN [] 0 0 0 l.length) (Go.Proofs.Ytehojohacombkaa.Ps.putN_wf Go.Proofs.Ytehojohacombkaa.Ps.wf_nil _ _ _ _ (Int.le_refl 0)) (by rw [Go.Proofs.Ytehojohacombkaa.Ps.putN_len]; omega) (fun h => by cases h) (Nat.lt_succ_self _)
  rw [Go.Proofs.Ytehojohacombkaa.Ps.putN_len] at h
  have h2 := toks_len l
  have h3 := List.length_filter_le (fun c : Tk => !(c.f0 == 10 || c.f0 == 9)) (toks l)
  have h4 : (Go.Proofs.Ytehojohacombkaa.Gd.solid (toks l)).length ≤ l.length := by unfold Go.Proofs.Ytehojohacombkaa.Gd.solid; omega
  unfold Go.Proofs.Ytehojohacombkaa.Ps.nodesN
  simp only [List.length_nil] at h
  exact ⟨h.1, by omega⟩
end Go.Proofs.Ytehojohacombkaa.Pl
