/- Any text's tree: levels; whole, one behind the other; the search finds every node once; it may be. (Pw, Pv, Pu, Pt laid together.) Plain. -/
import Derived.Test.YtehojohacombkaaB3
import Derived.Test.YtehojohacombkaaPm2
namespace Go.Proofs.Ytehojohacombkaa.Ps
open Go.RowKit Go.Proofs.Ytehojohacombkaa.G Go.Proofs.YtehojohacombkaaW.PrintWords Go.Proofs.YtehojohacombkaaW.PrintLast
open Go.Proofs.Ytehojohacombkaa.Lx (Tk)
set_option linter.unusedVariables false
set_option linter.unusedSimpArgs false
def lvl (lv : List Nat) (i : Int) : Nat := lv.getD i.toNat 0
/-- Each node's id is its place, its kind is one of eight; each child is a node and stands lower. -/
structure Lev (ns : List Nd) (lv : List Nat) : Prop where
  len : lv.length = ns.length
  id : ∀ i, 0 ≤ i → i < (ns.length : Int) → (rdn ns i).f0 = i ∧ 0 ≤ (rdn ns i).f1 ∧ (rdn ns i).f1 ≤ 7
  kid : ∀ i, 0 ≤ i → i < (ns.length : Int) → ∀ k ∈ (rdn ns i).f4, 0 ≤ k ∧ k < (ns.length : Int) ∧ lvl lv k < lvl lv i
theorem lvl_old {lv : List Nat} {x : Nat} {i : Int} (h0 : 0 ≤ i) (h : i < (lv.length : Int)) : lvl (lv ++ [x]) i = lvl lv i := by
  unfold lvl; rw [List.getD_eq_getElem?_getD, List.getD_eq_getElem?_getD, List.getElem?_append_left (by omega)]
theorem lvl_new (lv : List Nat) (x : Nat) : lvl (lv ++ [x]) (lv.length : Int) = x := by
  unfold lvl; rw [List.getD_eq_getElem?_getD, List.getElem?_append_right (by omega)]; simp
theorem lev_put {ns : List Nd} {lv : List Nat} (h : Lev ns lv) {p : Int} (k f t : Int) (hk : 0 ≤ k ∧ k ≤ 7) (h0 : 0 ≤ p) (h1 : p < (ns.length : Int)) (hp : 1 ≤ lvl lv p) :
    Lev (putN ns p k f t) (lv ++ [lvl lv p - 1]) := by
  have hl := h.len
  have L1 := putN_len ns p k f t
  refine ⟨by rw [List.length_append, L1, hl]; rfl, ?_, ?_⟩
  · intro i i0 i1
    rw [rdn_put h0 h1 i0]
    split
    · rename_i e; subst e; exact h.id i h0 h1
    · split
      · rename_i e; exact ⟨e.symm, hk⟩
      · exact h.id i i0 (by omega)
  · intro i i0 i1 x hx
    rw [rdn_put h0 h1 i0] at hx
    have old : ∀ i : Int, 0 ≤ i → i < (ns.length : Int) → lvl (lv ++ [lvl lv p - 1]) i = lvl lv i := fun i a b => lvl_old a (by omega)
    have new : lvl (lv ++ [lvl lv p - 1]) (ns.length : Int) = lvl lv p - 1 := by rw [← hl]; exact lvl_new _ _
    split at hx
    · rename_i e; subst e
      rcases List.mem_append.1 hx with hx | hx
      · have := h.kid i h0 h1 x hx
        rw [old i h0 h1, old x this.1 this.2.1]
        exact ⟨this.1, by omega, this.2.2⟩
      · rw [List.mem_singleton.1 hx, old i h0 h1, new]
        exact ⟨by omega, by omega, by omega⟩
    · split at hx
      · cases hx
      · have hi : i < (ns.length : Int) := by omega
        have := h.kid i i0 hi x hx
        rw [old i i0 hi, old x this.1 this.2.1]
        exact ⟨this.1, by omega, this.2.2⟩
theorem lev_setTo {ns : List Nd} {lv : List Nat} (h : Lev ns lv) {id : Int} (tz : Int) (h0 : 0 ≤ id) (h1 : id < (ns.length : Int)) : Lev (setTo ns id tz) lv := by
  have L1 := setTo_len ns id tz
  refine ⟨by rw [L1]; exact h.len, ?_, ?_⟩
  · intro i i0 i1
    rw [rdn_setTo h0 h1 i0]
    split
    · rename_i e; subst e; exact h.id i i0 h1
    · exact h.id i i0 (by omega)
  · intro i i0 i1 x hx
    rw [rdn_setTo h0 h1 i0] at hx
    rw [L1]
    split at hx
    · rename_i e; subst e; exact h.kid i i0 h1 x hx
    · exact h.kid i i0 (by omega) x hx
theorem lev_reach {ns : List Nd} {lv : List Nat} (h : Lev ns lv) {id : Int} (tz : Int) (h0 : 0 ≤ id) (h1 : id < (ns.length : Int)) : Lev (reachN ns id tz) lv := by
  have H := lev_setTo h tz h0 h1
  have L1 := setTo_len ns id tz
  unfold reachN; split
  · exact lev_setTo H _ h0 (by omega)
  · exact H
/-- So it grows: the levels that were, stay. -/
def Grow (lv : List Nat) (n : Nat) (lv' : List Nat) : Prop := ∀ i : Int, 0 ≤ i → i < (n : Int) → lvl lv' i = lvl lv i
theorem grow_put {ns : List Nd} {lv : List Nat} (h : Lev ns lv) (x : Nat) : Grow lv ns.length (lv ++ [x]) := fun i a b => lvl_old a (by have := h.len; omega)
def OneLev (one : One) (m : Nat) : Prop := ∀ (p : Int) (ts : List Tk) (ns : List Nd) (lv : List Nat), ts ≠ [] → 0 ≤ p → p < (ns.length : Int) → Wf ns → Lev ns lv → m ≤ lvl lv p →
  ∃ lv', Lev (one p ts ns).2 lv' ∧ Grow lv ns.length lv'
theorem lev_lack {ns : List Nd} {lv : List Nat} (h : Lev ns lv) {p : Int} (a : Int) (h0 : 0 ≤ p) (h1 : p < (ns.length : Int)) (hp : 1 ≤ lvl lv p) :
    Lev (lackN ns p a) (lv ++ [lvl lv p - 1]) := lev_put h 7 a a (by decide) h0 h1 hp
theorem lev_scal {ns : List Nd} {lv : List Nat} (h : Lev ns lv) {p : Int} (t : Tk) (h0 : 0 ≤ p) (h1 : p < (ns.length : Int)) (hp : 1 ≤ lvl lv p) :
    ∃ lv', Lev (scal p t ns) lv' ∧ Grow lv ns.length lv' := by
  unfold scal; split
  · exact ⟨_, lev_put h _ _ _ (by decide) h0 h1 hp, grow_put h _⟩
  · split
    · exact ⟨_, lev_put h _ _ _ (by decide) h0 h1 hp, grow_put h _⟩
    · split
      · exact ⟨_, lev_put h _ _ _ (by decide) h0 h1 hp, grow_put h _⟩
      · exact ⟨lv, h, fun _ _ _ => rfl⟩
theorem list_lev {one : One} {m : Nat} (hone : OneLev one m) (hok : OneOk one 1) (hm : 1 ≤ m) (bg : Tk → Bool) (en c id : Int) : ∀ (n : Nat) (s : Int) (ts : List Tk) (ns : List Nd) (lv : List Nat), 0 ≤ id → id < (ns.length : Int) → Wf ns → Lev ns lv → m ≤ lvl lv id →
    ∃ lv', Lev (listN one bg en c id n s ts ns).2 lv' ∧ Grow lv ns.length lv' := by
  intro n
  induction n with
  | zero => intro s ts ns lv h0 h1 hw h hl; exact ⟨lv, h, fun _ _ _ => rfl⟩
  | succ n ih =>
    intro s ts ns lv h0 h1 hw h hl
    have lack := fun a => lev_lack h a h0 h1 (by omega)
    have lackl : ∀ a, (lackN ns id a).length = ns.length + 1 := fun a => putN_len _ _ _ _ _
    have lackw : ∀ a, Wf (lackN ns id a) := fun a => putN_wf hw _ _ _ _ h0
    cases ts with
    | nil => exact ⟨_, lev_reach (lack en) en h0 (by rw [lackl]; omega), grow_put h _⟩
    | cons t r =>
      rw [listN]
      split
      · split
        · exact ⟨_, lev_reach (lack t.f1) t.f2 h0 (by rw [lackl]; omega), grow_put h _⟩
        · exact ⟨lv, lev_reach h t.f2 h0 h1, fun _ _ _ => rfl⟩
      · split
        · exact ih 2 r ns lv h0 h1 hw h hl
        · split
          · have key : ∀ (ms : List Nd) (lm : List Nat), ns.length ≤ ms.length → Wf ms → Lev ms lm → Grow lv ns.length lm → ∃ lv', Lev (listN one bg en c id n 1 (one id (t :: r) ms).1 (one id (t :: r) ms).2).2 lv' ∧ Grow lv ns.length lv' := by
              intro ms lm hlm hwm hmm hg
              have e := hg id h0 h1
              obtain ⟨l2, a1, a2⟩ := hone id (t :: r) ms lm (by simp) h0 (by omega) hwm hmm (by omega)
              obtain ⟨⟨o1, o2, o3⟩, o4⟩ := hok id (t :: r) ms (by simp) h0 (by omega) hwm
              have e2 := a2 id h0 (by omega)
              obtain ⟨l3, b1, b2⟩ := ih 1 (one id (t :: r) ms).1 (one id (t :: r) ms).2 l2 h0 (by omega) o3 a1 (by omega)
              exact ⟨l3, b1, fun i i0 i1 => by rw [b2 i i0 (by omega), a2 i i0 (by omega), hg i i0 i1]⟩
            split
            · exact key _ _ (by rw [lackl]; omega) (lackw _) (lack t.f1) (grow_put h _)
            · exact key ns lv (Nat.le_refl _) hw h (fun _ _ _ => rfl)
          · have hput := lev_put h 7 t.f1 t.f2 (by decide) h0 h1 (by omega)
            have hpl := putN_len ns id 7 t.f1 t.f2
            have e := grow_put h (lvl lv id - 1) id h0 h1
            obtain ⟨l3, b1, b2⟩ := ih s r _ _ h0 (by omega) (putN_wf hw _ _ _ _ h0) hput (by omega)
            exact ⟨l3, b1, fun i i0 i1 => by rw [b2 i i0 (by omega), grow_put h _ i i0 i1]⟩
theorem wrap_lev {v : One} {m : Nat} (hv : OneLev v m) (hok : OneOk v 4) (en : Int) : OneLev (wrapN v en) (m + 1) := by
  intro p ts ns lv hn h0 h1 hw h hl
  have hput := lev_put h 7 (nextT en ts).f1 (nextT en ts).f2 (by decide) h0 h1 (by omega)
  have hpl := putN_len ns p 7 (nextT en ts).f1 (nextT en ts).f2
  have hwf := putN_wf hw p 7 (nextT en ts).f1 (nextT en ts).f2 h0
  have en1 : lvl (lv ++ [lvl lv p - 1]) (ns.length : Int) = lvl lv p - 1 := by rw [← h.len]; exact lvl_new _ _
  obtain ⟨l2, a1, a2⟩ := hv ns.length ts _ _ hn (by omega) (by omega) hwf hput (by omega)
  obtain ⟨⟨o1, o2, o3⟩, o4⟩ := hok ns.length ts (putN ns p 7 (nextT en ts).f1 (nextT en ts).f2) hn (by omega) (by omega) hwf
  exact ⟨l2, lev_reach a1 _ (by omega) (by omega), fun i i0 i1 => by rw [a2 i i0 (by omega), grow_put h _ i i0 i1]⟩
theorem mem_lev {v : One} {m : Nat} (hv : OneLev v m) (hm : 1 ≤ m) (hok : OneOk v 4) (k : Nat) (en : Int) : OneLev (memN v (bgK k) en) (m + 1) := by
  intro p ts ns lv hn h0 h1 hw h hl
  unfold memN
  split
  · have hput := lev_put h 3 (nextT en ts).f1 (nextT en ts).f2 (by decide) h0 h1 (by omega)
    have hpl := putN_len ns p 3 (nextT en ts).f1 (nextT en ts).f2
    have hwf := putN_wf hw p 3 (nextT en ts).f1 (nextT en ts).f2 h0
    have en1 : lvl (lv ++ [lvl lv p - 1]) (ns.length : Int) = lvl lv p - 1 := by rw [← h.len]; exact lvl_new _ _
    obtain ⟨l2, a1, a2⟩ := hv ns.length ts _ _ hn (by omega) (by omega) hwf hput (by omega)
    obtain ⟨⟨o1, o2, o3⟩, o4⟩ := hok ns.length ts (putN ns p 3 (nextT en ts).f1 (nextT en ts).f2) hn (by omega) (by omega) hwf
    have g2 : Grow lv ns.length l2 := fun i i0 i1 => by rw [a2 i i0 (by omega), grow_put h _ i i0 i1]
    have x2 : m ≤ lvl l2 (ns.length : Int) := by have := a2 (ns.length : Int) (by omega) (by omega); omega
    generalize v ns.length ts (putN ns p 3 (nextT en ts).f1 (nextT en ts).f2) = a at *
    have hc : ∃ l3, Lev (colN en ns.length (nextT en ts) a).1.2 l3 ∧ Grow lv ns.length l3 ∧ m ≤ lvl l3 (ns.length : Int) := by
      unfold colN; split
      · exact ⟨l2, a1, g2, x2⟩
      · have hl2 := lev_lack a1 (p := (ns.length : Int)) (nextT en a.1).f1 (by omega) (by omega) (by omega)
        refine ⟨_, hl2, fun i i0 i1 => by rw [grow_put a1 _ i i0 (by omega), g2 i i0 i1], ?_⟩
        rw [grow_put a1 _ (ns.length : Int) (by omega) (by omega)]; exact x2
    obtain ⟨d1, d2, d3, d4⟩ := col_ok en ns.length (nextT en ts) a (by omega) o3
    unfold pairN
    generalize colN en ns.length (nextT en ts) a = b at *
    obtain ⟨l3, c1, c2, c3⟩ := hc
    have hp : ∃ l4, Lev (pvN v (bgK k) en ns.length b.1).2 l4 ∧ Grow lv ns.length l4 := by
      unfold pvN; split
      · rename_i hb
        obtain ⟨l4, e1, e2⟩ := hv ns.length b.1.1 b.1.2 l3 (bg_some hb) (by omega) (by omega) d3 c1 c3
        exact ⟨l4, e1, fun i i0 i1 => by rw [e2 i i0 (by omega), c2 i i0 i1]⟩
      · exact ⟨_, lev_lack c1 (p := (ns.length : Int)) _ (by omega) (by omega) (by omega), fun i i0 i1 => by rw [grow_put c1 _ i i0 (by omega), c2 i i0 i1]⟩
    obtain ⟨l4, e1, e2⟩ := hp
    obtain ⟨f1, f2, f3, f4⟩ := pv_ok (m := 0) hok en ns.length k b.1 (by omega) (by omega) d3
    exact ⟨l4, lev_reach e1 _ (by omega) (by omega), e2⟩
  · exact wrap_lev hv hok en p ts ns lv hn h0 h1 hw h hl
theorem lev_less {one : One} {m m' : Nat} (h : OneLev one m) (hm : m ≤ m') : OneLev one m' :=
  fun p ts ns lv hn h0 h1 hw hl hp => h p ts ns lv hn h0 h1 hw hl (by omega)
theorem val_lev (en : Int) : ∀ k, OneLev (valN en k) (2 * k + 1) := by
  intro k
  induction k with
  | zero => intro p ts ns lv hn h0 h1 hw h hl; exact lev_scal h _ h0 h1 (by omega)
  | succ k ih =>
    intro p ts ns lv hn h0 h1 hw h hl
    have lst : ∀ (one : One) (bg : Tk → Bool) (cl K : Int), (0 ≤ K ∧ K ≤ 7) → OneLev one (2 * k + 2) → OneOk one 1 → ∃ lv', Lev (listN one bg en cl ns.length (ts.length + 1) 0 ts.tail (putN ns p K (nextT en ts).f1 (nextT en ts).f2)).2 lv' ∧ Grow lv ns.length lv' := by
      intro one bg cl K hK ho hok
      have hput := lev_put h K (nextT en ts).f1 (nextT en ts).f2 hK h0 h1 (by omega)
      have hpl := putN_len ns p K (nextT en ts).f1 (nextT en ts).f2
      have en1 : lvl (lv ++ [lvl lv p - 1]) (ns.length : Int) = lvl lv p - 1 := by rw [← h.len]; exact lvl_new _ _
      obtain ⟨l2, a1, a2⟩ := list_lev ho hok (by omega) bg en cl ns.length (ts.length + 1) 0 ts.tail _ _ (by omega) (by omega) (putN_wf hw _ _ _ _ h0) hput (by omega)
      exact ⟨l2, a1, fun i i0 i1 => by rw [a2 i i0 (by omega), grow_put h _ i i0 i1]⟩
    unfold valN
    split
    · exact lst _ _ _ _ (by decide) (mem_lev ih (by omega) (val_ok en k) k en) (mem_ok (val_ok en k) k en)
    · split
      · exact lst _ _ _ _ (by decide) (lev_less ih (by omega)) (one_less (val_ok en k) (by omega))
      · exact lev_scal h _ h0 h1 (by omega)
theorem main_lev (en : Int) : ∀ (n : Nat) (had : Bool) (ts : List Tk) (ns : List Nd) (lv : List Nat), 1 ≤ ns.length → Wf ns → Lev ns lv → 26 ≤ lvl lv 0 → ∃ lv', Lev (mainN (valN en 12) (bgK 12) en n had ts ns) lv' ∧ lvl lv' 0 = lvl lv 0 := by
  intro n
  induction n with
  | zero => intro had ts ns lv h1 hw h hl; exact ⟨lv, h, rfl⟩
  | succ n ih =>
    intro had ts ns lv h1 hw h hl
    have zz : (0 : Int) ≤ 0 := Int.le_refl 0
    cases ts with
    | nil =>
      rw [mainN]; split
      · exact ⟨lv, h, rfl⟩
      · exact ⟨_, lev_lack h en zz (by omega) (by omega), grow_put h _ 0 zz (by omega)⟩
    | cons t r =>
      rw [mainN]; split
      · split
        · obtain ⟨l2, a1, a2⟩ := wrap_lev (val_lev en 12) (val_ok en 12) en 0 (t :: r) ns lv (by simp) zz (by omega) hw h (by omega)
          obtain ⟨⟨o1, o2, o3⟩, o4⟩ := wrap_ok (val_ok en 12) en 0 (t :: r) ns (by simp) zz (by omega) hw
          have e := a2 0 zz (by omega)
          obtain ⟨l3, b1, b2⟩ := ih true _ _ l2 (by omega) o3 a1 (by omega)
          exact ⟨l3, b1, by omega⟩
        · obtain ⟨l2, a1, a2⟩ := val_lev en 12 0 (t :: r) ns lv (by simp) zz (by omega) hw h (by omega)
          obtain ⟨⟨o1, o2, o3⟩, o4⟩ := val_ok en 12 0 (t :: r) ns (by simp) zz (by omega) hw
          have e := a2 0 zz (by omega)
          obtain ⟨l3, b1, b2⟩ := ih true _ _ l2 (by omega) o3 a1 (by omega)
          exact ⟨l3, b1, by omega⟩
      · have hput := lev_put h 7 t.f1 t.f2 (by decide) zz (by omega) (by omega)
        have hpl := putN_len ns 0 7 t.f1 t.f2
        have e := grow_put h (lvl lv 0 - 1) 0 zz (by omega)
        obtain ⟨l3, b1, b2⟩ := ih had r _ _ (by omega) (putN_wf hw _ _ _ _ zz) hput (by omega)
        exact ⟨l3, b1, by omega⟩
theorem nodes_lev (l : List UInt8) : ∃ lv, Lev (nodesN l) lv ∧ lvl lv 0 = 26 := by
  unfold nodesN
  have e : putN [] 0 0 0 (l.length : Int) = [(⟨0, 0, 0, l.length, []⟩ : Nd)] := rfl
  have hw : Wf (putN [] 0 0 0 (l.length : Int)) := putN_wf wf_nil _ _ _ _ (Int.le_refl 0)
  have h : Lev (putN [] 0 0 0 (l.length : Int)) [26] := by
    rw [e]
    refine ⟨rfl, ?_, ?_⟩
    · intro i i0 i1
      have : i = 0 := by simp at i1; omega
      subst this; exact ⟨rfl, Int.le_refl 0, (by show (0 : Int) ≤ 7; decide)⟩
    · intro i i0 i1 k hk
      have : i = 0 := by simp at i1; omega
      subst this; cases hk
  obtain ⟨lv, a, b⟩ := main_lev (l.length : Int) ((Go.Proofs.Ytehojohacombkaa.Gd.solid (Go.Proofs.Ytehojohacombkaa.Lx.toks l)).length + 1) false (Go.Proofs.Ytehojohacombkaa.Gd.solid (Go.Proofs.Ytehojohacombkaa.Lx.toks l)) _ [26] (by rw [putN_len]; omega) hw h (Nat.le_refl 26)
  exact ⟨lv, a, b⟩
end Go.Proofs.Ytehojohacombkaa.Ps
namespace Go.Proofs.Ytehojohacombkaa.Ps
open Go.RowKit Go.Proofs.Ytehojohacombkaa.G Go.Proofs.YtehojohacombkaaW.PrintWords Go.Proofs.YtehojohacombkaaW.PrintLast
open Go.Proofs.Ytehojohacombkaa.Lx (Tk)
set_option linter.unusedVariables false
set_option linter.unusedSimpArgs false
/-- Children from an id and a place on, up to an id and a place: where each ends, the next one begins. -/
def Ch (ns : List Nd) (ne : Int → Int) : Int → Int → List Int → Int → Int → Prop
  | lo, lof, [], hi, hif => lo = hi ∧ lof ≤ hif
  | lo, lof, k :: r, hi, hif => k = lo ∧ k < ne k ∧ lof ≤ (rdn ns k).f2 ∧ Ch ns ne (ne k) (rdn ns k).f3 r hi hif
theorem Ch_le {ns : List Nd} {ne : Int → Int} : ∀ {ks : List Int} {lo lof hi hif : Int}, Ch ns ne lo lof ks hi hif → lo ≤ hi := by
  intro ks
  induction ks with
  | nil => intro lo lof hi hif h; exact Int.le_of_eq h.1
  | cons k r ih => intro lo lof hi hif h; obtain ⟨h1, h2, h3, h4⟩ := h; have := ih h4; omega
theorem Ch_congr {ns ns' : List Nd} {ne ne' : Int → Int} : ∀ {ks : List Int} {lo lof hi hif : Int}, (∀ i, lo ≤ i → i < hi → rdn ns' i = rdn ns i ∧ ne' i = ne i) → Ch ns ne lo lof ks hi hif → Ch ns' ne' lo lof ks hi hif := by
  intro ks
  induction ks with
  | nil => intro lo lof hi hif _ h; exact h
  | cons k r ih =>
    intro lo lof hi hif hc h
    obtain ⟨h1, h2, h3, h4⟩ := h
    have hl := Ch_le h4
    obtain ⟨c1, c2⟩ := hc k (by omega) (by omega)
    refine ⟨h1, by omega, by rw [c1]; exact h3, ?_⟩
    rw [c1, c2]
    exact ih (fun i i0 i1 => hc i (by omega) i1) h4
theorem Ch_snoc {ns : List Nd} {ne : Int → Int} {k h2 : Int} : ∀ {ks : List Int} {lo lof hi hif : Int}, Ch ns ne lo lof ks hi hif → k = hi → k < ne k → hif ≤ (rdn ns k).f2 → (rdn ns k).f3 ≤ h2 → Ch ns ne lo lof (ks ++ [k]) (ne k) h2 := by
  intro ks
  induction ks with
  | nil => intro lo lof hi hif h a b c d; obtain ⟨h1, h3⟩ := h; exact ⟨by omega, b, by omega, rfl, d⟩
  | cons x r ih => intro lo lof hi hif h a b c d; obtain ⟨h1, h2, h3, h4⟩ := h; exact ⟨h1, h2, h3, ih h4 a b c d⟩
theorem Ch_hif {ns : List Nd} {ne : Int → Int} {h2 : Int} : ∀ {ks : List Int} {lo lof hi hif : Int}, Ch ns ne lo lof ks hi hif → (ks = [] → lof ≤ h2) → (∀ k, ks.getLast? = some k → (rdn ns k).f3 ≤ h2) → Ch ns ne lo lof ks hi h2 := by
  intro ks
  induction ks with
  | nil => intro lo lof hi hif h a b; exact ⟨h.1, a rfl⟩
  | cons x r ih =>
    intro lo lof hi hif h a b
    obtain ⟨h1, h2', h3, h4⟩ := h
    refine ⟨h1, h2', h3, ih h4 (fun e => by subst e; exact b x rfl) (fun k hk => b k ?_)⟩
    rw [List.getLast?_cons, hk]; rfl
theorem Ch_up {ns : List Nd} {ne : Int → Int} {h2 : Int} : ∀ {ks : List Int} {lo lof hi hif : Int}, Ch ns ne lo lof ks hi hif → hif ≤ h2 → Ch ns ne lo lof ks hi h2 := by
  intro ks
  induction ks with
  | nil => intro lo lof hi hif h a; exact ⟨h.1, by have := h.2; omega⟩
  | cons x r ih => intro lo lof hi hif h a; obtain ⟨h1, h2', h3, h4⟩ := h; exact ⟨h1, h2', h3, ih h4 a⟩
theorem Ch_last {ns : List Nd} {ne : Int → Int} : ∀ {ks : List Int} {lo lof hi hif : Int}, Ch ns ne lo lof ks hi hif → ∀ k, ks.getLast? = some k → (rdn ns k).f3 ≤ hif ∧ lo ≤ k ∧ k < hi := by
  intro ks
  induction ks with
  | nil => intro lo lof hi hif h k hk; simp at hk
  | cons x r ih =>
    intro lo lof hi hif h k hk
    obtain ⟨h1, h2', h3, h4⟩ := h
    cases r with
    | nil => simp at hk; subst hk; obtain ⟨h5, h6⟩ := h4; exact ⟨h6, by omega, by omega⟩
    | cons y r' =>
      rw [List.getLast?_cons_cons] at hk
      have := ih h4 k hk
      exact ⟨this.1, by omega, this.2.2⟩
/-- A node that is done, with all below it. -/
structure Cl (ns : List Nd) (ne : Int → Int) (i : Int) : Prop where
  lt : i < ne i
  id : (rdn ns i).f0 = i
  kind : 1 ≤ (rdn ns i).f1 ∧ (rdn ns i).f1 ≤ 7
  span : 0 ≤ (rdn ns i).f2 ∧ (rdn ns i).f2 ≤ (rdn ns i).f3
  leaf : leafB (rdn ns i).f1 = true → (rdn ns i).f4 = []
  ch : Ch ns ne (i + 1) (rdn ns i).f2 (rdn ns i).f4 (ne i) (rdn ns i).f3
theorem Cl_congr {ns ns' : List Nd} {ne ne' : Int → Int} {i : Int} (h : Cl ns ne i) (hc : ∀ j, i ≤ j → j < ne i → rdn ns' j = rdn ns j ∧ ne' j = ne j) : Cl ns' ne' i := by
  obtain ⟨c1, c2⟩ := hc i (Int.le_refl i) h.lt
  refine ⟨by rw [c2]; exact h.lt, by rw [c1]; exact h.id, by rw [c1]; exact h.kind, by rw [c1]; exact h.span, by rw [c1]; exact h.leaf, ?_⟩
  rw [c1, c2]
  exact Ch_congr (fun j j0 j1 => hc j (by omega) j1) h.ch
/-- A node that is open: its children so far. -/
structure Sp (ns : List Nd) (ne : Int → Int) (p a : Int) : Prop where
  h0 : 0 ≤ p
  h1 : p < (ns.length : Int)
  leaf : leafB (rdn ns p).f1 = false
  pos : 0 ≤ (rdn ns p).f2
  ch : Ch ns ne (p + 1) (rdn ns p).f2 (rdn ns p).f4 ns.length a
structure Nx (ns : List Nd) (ne : Int → Int) (p : Int) (ns' : List Nd) (ne' : Int → Int) (a : Int) : Prop where
  len : ns.length ≤ ns'.length
  old : ∀ i, 0 ≤ i → i < (ns.length : Int) → i ≠ p → rdn ns' i = rdn ns i
  eno : ∀ i, 0 ≤ i → i < (ns.length : Int) → ne' i = ne i
  opn : (rdn ns' p).f0 = (rdn ns p).f0 ∧ (rdn ns' p).f1 = (rdn ns p).f1 ∧ (rdn ns' p).f2 = (rdn ns p).f2 ∧ (rdn ns' p).f3 = (rdn ns p).f3
  new : ∀ i, (ns.length : Int) ≤ i → i < (ns'.length : Int) → Cl ns' ne' i ∧ ne' i ≤ (ns'.length : Int)
  sp : Sp ns' ne' p a
theorem Sp.up {ns : List Nd} {ne : Int → Int} {p a b : Int} (h : Sp ns ne p a) (hab : a ≤ b) : Sp ns ne p b := ⟨h.h0, h.h1, h.leaf, h.pos, Ch_up h.ch hab⟩
theorem Nx.refl {ns : List Nd} {ne : Int → Int} {p a : Int} (h : Sp ns ne p a) : Nx ns ne p ns ne a :=
  ⟨Nat.le_refl _, fun _ _ _ _ => rfl, fun _ _ _ => rfl, ⟨rfl, rfl, rfl, rfl⟩, fun i i0 i1 => absurd i1 (by omega), h⟩
theorem Nx.up {ns ns' : List Nd} {ne ne' : Int → Int} {p a b : Int} (h : Nx ns ne p ns' ne' a) (hab : a ≤ b) : Nx ns ne p ns' ne' b := ⟨h.len, h.old, h.eno, h.opn, h.new, h.sp.up hab⟩
theorem Nx.trans {ns ns1 ns2 : List Nd} {ne ne1 ne2 : Int → Int} {p a b : Int} (h0 : 0 ≤ p) (hp : p < (ns.length : Int)) (h : Nx ns ne p ns1 ne1 a) (g : Nx ns1 ne1 p ns2 ne2 b) : Nx ns ne p ns2 ne2 b := by
  have l1 := h.len
  have l2 := g.len
  obtain ⟨o1, o2, o3, o4⟩ := h.opn
  obtain ⟨q1, q2, q3, q4⟩ := g.opn
  refine ⟨by omega, fun i i0 i1 i2 => by rw [g.old i i0 (by omega) i2, h.old i i0 i1 i2], fun i i0 i1 => by rw [g.eno i i0 (by omega), h.eno i i0 i1], ⟨by rw [q1, o1], by rw [q2, o2], by rw [q3, o3], by rw [q4, o4]⟩, ?_, g.sp⟩
  intro i i0 i1
  by_cases hi : i < (ns1.length : Int)
  · obtain ⟨c1, c2⟩ := h.new i i0 hi
    refine ⟨Cl_congr c1 (fun j j0 j1 => ⟨g.old j (by omega) (by omega) (by omega), g.eno j (by omega) (by omega)⟩), ?_⟩
    rw [g.eno i (by omega) hi]; omega
  · exact g.new i (by omega) i1
def setE (ne : Int → Int) (x v : Int) : Int → Int := fun i => if i = x then v else ne i
theorem nx_put {ns : List Nd} {ne : Int → Int} {p a : Int} (h : Sp ns ne p a) (k f t : Int) (hk : 1 ≤ k ∧ k ≤ 7) (ha : a ≤ f) (hf : 0 ≤ f) (ht : f ≤ t) :
    Nx ns ne p (putN ns p k f t) (setE ne ns.length (ns.length + 1)) t := by
  have h0 := h.h0
  have h1 := h.h1
  have L := putN_len ns p k f t
  have rp : rdn (putN ns p k f t) p = withKid (rdn ns p) ns.length := by rw [rdn_put h0 h1 h0, if_pos rfl]
  have rn : rdn (putN ns p k f t) ns.length = nd ns.length k f t := by rw [rdn_put h0 h1 (by omega), if_neg (by omega), if_pos rfl]
  have ro : ∀ i, 0 ≤ i → i < (ns.length : Int) → i ≠ p → rdn (putN ns p k f t) i = rdn ns i := fun i i0 i1 i2 => by rw [rdn_put h0 h1 i0, if_neg i2, if_neg (by omega)]
  have eo : ∀ i, 0 ≤ i → i < (ns.length : Int) → setE ne ns.length (ns.length + 1) i = ne i := fun i i0 i1 => if_neg (by omega)
  have en1 : setE ne ns.length (ns.length + 1) ns.length = ns.length + 1 := if_pos rfl
  refine ⟨by omega, ro, eo, by rw [rp]; exact ⟨rfl, rfl, rfl, rfl⟩, ?_, ?_⟩
  · intro i i0 i1
    have : i = (ns.length : Int) := by omega
    subst this
    refine ⟨⟨by rw [en1]; omega, by rw [rn]; rfl, by rw [rn]; exact hk, by rw [rn]; exact ⟨hf, ht⟩, fun _ => by rw [rn]; rfl, ?_⟩, by rw [en1]; omega⟩
    rw [rn, en1]; exact ⟨rfl, ht⟩
  · refine ⟨h0, by omega, by rw [rp]; exact h.leaf, by rw [rp]; exact h.pos, ?_⟩
    rw [rp]
    have c := Ch_congr (ns' := putN ns p k f t) (ne' := setE ne ns.length (ns.length + 1)) (fun i i0 i1 => ⟨ro i (by omega) i1 (by omega), eo i (by omega) i1⟩) h.ch
    have c2 := Ch_snoc (k := (ns.length : Int)) (h2 := t) c rfl (by rw [en1]; omega) (by rw [rn]; exact ha) (by rw [rn]; exact Int.le_refl t)
    rw [en1] at c2
    rw [show ((putN ns p k f t).length : Int) = (ns.length : Int) + 1 by omega]
    exact c2
/-- A node put and left open. -/
theorem sp_open {ns : List Nd} {ne : Int → Int} {p : Int} (h0 : 0 ≤ p) (h1 : p < (ns.length : Int)) (k f t a : Int) (hk : leafB k = false) (hf : 0 ≤ f) (ha : f ≤ a) : Sp (putN ns p k f t) ne ns.length a := by
  have L := putN_len ns p k f t
  have rn : rdn (putN ns p k f t) ns.length = nd ns.length k f t := by rw [rdn_put h0 h1 (by omega), if_neg (by omega), if_pos rfl]
  refine ⟨by omega, by omega, by rw [rn]; exact hk, by rw [rn]; exact hf, ?_⟩
  rw [rn]; exact ⟨by omega, ha⟩
theorem rdn_reach {ns : List Nd} {id tz j : Int} (h0 : 0 ≤ id) (h1 : id < (ns.length : Int)) (hj : 0 ≤ j) (hne : j ≠ id) : rdn (reachN ns id tz) j = rdn ns j := by
  have L := setTo_len ns id tz
  unfold reachN; split
  · rw [rdn_setTo h0 (by omega) hj, if_neg hne, rdn_setTo h0 h1 hj, if_neg hne]
  · rw [rdn_setTo h0 h1 hj, if_neg hne]
theorem rdn_reach_self {ns : List Nd} {ne : Int → Int} {id tz a b : Int} (h : Sp ns ne id a) (hf : (rdn ns id).f2 ≤ tz) (hb : tz ≤ b) (ha : a ≤ b) :
    ∃ z, rdn (reachN ns id tz) id = withTo (rdn ns id) z ∧ z ≤ b ∧ (rdn ns id).f2 ≤ z ∧ Ch ns ne (id + 1) (rdn ns id).f2 (rdn ns id).f4 ns.length z := by
  have h0 := h.h0
  have h1 := h.h1
  have L := setTo_len ns id tz
  have rs : rdn (setTo ns id tz) id = withTo (rdn ns id) tz := by rw [rdn_setTo h0 h1 h0, if_pos rfl]
  unfold reachN
  rw [rs]
  by_cases hk : 0 < (withTo (rdn ns id) tz).f4.length
  · rw [if_pos hk]
    have hk' : 0 < (rdn ns id).f4.length := hk
    have hlast : (rdn ns id).f4.getLast? = some (lastKid (setTo ns id tz) id) := by
      unfold lastKid; rw [rs]
      show _ = some (rd (rdn ns id).f4 (((rdn ns id).f4.length : Int) - 1))
      unfold rd
      rw [List.getLast?_eq_getElem?, List.getD_eq_getElem?_getD, show (((rdn ns id).f4.length : Int) - 1).toNat = (rdn ns id).f4.length - 1 by omega, List.getElem?_eq_getElem (by omega)]
      rfl
    obtain ⟨c1, c2, c3⟩ := Ch_last h.ch _ hlast
    have hr : rdn (setTo ns id tz) (lastKid (setTo ns id tz) id) = rdn ns (lastKid (setTo ns id tz) id) := by rw [rdn_setTo h0 h1 (by omega), if_neg (by omega)]
    rw [hr]
    refine ⟨max tz (rdn ns (lastKid (setTo ns id tz) id)).f3, ?_, by omega, by omega, ?_⟩
    · rw [rdn_setTo h0 (by omega) h0, if_pos rfl, rs]; rfl
    · refine Ch_hif h.ch (fun _ => by omega) (fun k hkk => ?_)
      rw [hlast] at hkk; cases hkk; omega
  · rw [if_neg hk]
    have hk' : (rdn ns id).f4 = [] := List.eq_nil_of_length_eq_zero (by have : ¬ 0 < (rdn ns id).f4.length := hk; omega)
    refine ⟨tz, rs, hb, hf, Ch_hif h.ch (fun _ => hf) (fun k hkk => ?_)⟩
    rw [hk'] at hkk; simp at hkk
/-- An open child is closed. -/
theorem nx_close {ns ns2 : List Nd} {ne ne1 ne2 : Int → Int} {p a a2 b : Int} (h : Sp ns ne p a) (k f t tz : Int) (hk : 1 ≤ k ∧ k ≤ 7) (hl : leafB k = false) (hf0 : 0 ≤ f) (ha : a ≤ f) (hfz : f ≤ tz) (hzb : tz ≤ b) (ha2 : a2 ≤ b)
    (he : ∀ i, 0 ≤ i → i < (ns.length : Int) → ne1 i = ne i)
    (g : Nx (putN ns p k f t) ne1 ns.length ns2 ne2 a2) : ∃ ne3, Nx ns ne p (reachN ns2 ns.length tz) ne3 b := by
  have h0 := h.h0
  have h1 := h.h1
  have L := putN_len ns p k f t
  have L2 := g.len
  have L3 := reachN_len ns2 ns.length tz
  have hx0 : (0 : Int) ≤ (ns.length : Int) := by omega
  have hx1 : (ns.length : Int) < (ns2.length : Int) := by omega
  have rn : rdn (putN ns p k f t) ns.length = nd ns.length k f t := by rw [rdn_put h0 h1 (by omega), if_neg (by omega), if_pos rfl]
  obtain ⟨o1, o2, o3, o4⟩ := g.opn
  rw [rn] at o1 o2 o3 o4
  obtain ⟨z, r1, r2, r3, r4⟩ := rdn_reach_self g.sp (tz := tz) (b := b) (by rw [o3]; exact hfz) hzb ha2
  have rp : rdn (reachN ns2 ns.length tz) p = withKid (rdn ns p) ns.length := by
    rw [rdn_reach hx0 hx1 h0 (by omega), g.old p h0 (by omega) (by omega), rdn_put h0 h1 h0, if_pos rfl]
  have ro : ∀ i, 0 ≤ i → i < (ns.length : Int) → i ≠ p → rdn (reachN ns2 ns.length tz) i = rdn ns i := fun i i0 i1 i2 => by
    rw [rdn_reach hx0 hx1 i0 (by omega), g.old i i0 (by omega) (by omega), rdn_put h0 h1 i0, if_neg i2, if_neg (by omega)]
  have eo : ∀ i, 0 ≤ i → i < (ns.length : Int) → setE ne2 ns.length ns2.length i = ne i := fun i i0 i1 => by
    unfold setE; rw [if_neg (by omega), g.eno i i0 (by omega), he i i0 i1]
  have ex : setE ne2 ns.length ns2.length ns.length = ns2.length := if_pos rfl
  have en2 : ∀ i, i ≠ (ns.length : Int) → setE ne2 ns.length ns2.length i = ne2 i := fun i hi => if_neg hi
  have cx : Cl (reachN ns2 ns.length tz) (setE ne2 ns.length ns2.length) ns.length := by
    refine ⟨by rw [ex]; exact hx1, by rw [r1]; exact o1, by rw [r1]; show 1 ≤ (rdn ns2 ns.length).f1 ∧ (rdn ns2 ns.length).f1 ≤ 7; rw [o2]; exact hk, ?_, ?_, ?_⟩
    · rw [r1]; show 0 ≤ (rdn ns2 ns.length).f2 ∧ (rdn ns2 ns.length).f2 ≤ z
      rw [o3] at r3 ⊢; exact ⟨hf0, r3⟩
    · intro hh; rw [r1] at hh
      have : leafB (rdn ns2 ns.length).f1 = true := hh
      rw [o2] at this
      have h9 : leafB k = true := this
      rw [hl] at h9; cases h9
    · rw [r1, ex]
      refine Ch_congr (fun i i0 i1 => ⟨rdn_reach hx0 hx1 (by omega) (by omega), en2 i (by omega)⟩) r4
  refine ⟨setE ne2 ns.length ns2.length, ?_⟩
  refine ⟨by omega, ro, eo, by rw [rp]; exact ⟨rfl, rfl, rfl, rfl⟩, ?_, ?_⟩
  · intro i i0 i1
    by_cases hi : i = (ns.length : Int)
    · rw [hi]; exact ⟨cx, by rw [ex]; omega⟩
    · obtain ⟨c1, c2⟩ := g.new i (by omega) (by omega)
      refine ⟨Cl_congr c1 (fun j j0 j1 => ⟨rdn_reach hx0 hx1 (by omega) (by omega), en2 j (by omega)⟩), ?_⟩
      rw [en2 i hi]; omega
  · refine ⟨h0, by omega, by rw [rp]; exact h.leaf, by rw [rp]; exact h.pos, ?_⟩
    rw [rp]
    have c := Ch_congr (ns' := reachN ns2 ns.length tz) (ne' := setE ne2 ns.length ns2.length) (fun i i0 i1 => ⟨ro i (by omega) i1 (by omega), eo i (by omega) i1⟩) h.ch
    have c2 := Ch_snoc (k := (ns.length : Int)) (h2 := b) c rfl cx.lt (by rw [r1]; show a ≤ (rdn ns2 ns.length).f2; rw [o3]; exact ha) (by rw [r1]; exact r2)
    rw [ex] at c2
    rw [L3]; exact c2
/-! ### the parser's steps -/
/-- Tokens one behind the other, from a place on. -/
def Srt (E : Int) : Int → List Tk → Prop
  | a, [] => a ≤ E
  | a, t :: r => a ≤ t.f1 ∧ t.f1 ≤ t.f2 ∧ Srt E t.f2 r
theorem srt_le {E : Int} : ∀ {ts : List Tk} {a : Int}, Srt E a ts → a ≤ E := by
  intro ts
  induction ts with
  | nil => intro a h; exact h
  | cons t r ih => intro a h; obtain ⟨h1, h2, h3⟩ := h; have := ih h3; omega
theorem srt_next {E a : Int} {ts : List Tk} (h : Srt E a ts) : a ≤ (nextT E ts).f1 ∧ (nextT E ts).f1 ≤ (nextT E ts).f2 ∧ (nextT E ts).f2 ≤ E ∧ Srt E (nextT E ts).f1 ts ∧ Srt E (nextT E ts).f2 ts.tail := by
  cases ts with
  | nil => exact ⟨h, Int.le_refl E, Int.le_refl E, Int.le_refl E, Int.le_refl E⟩
  | cons t r => obtain ⟨h1, h2, h3⟩ := h; exact ⟨h1, h2, srt_le h3, ⟨Int.le_refl _, h2, h3⟩, h3⟩
def OneNx (E : Int) (one : One) : Prop := ∀ (p a : Int) (ts : List Tk) (ns : List Nd) (ne : Int → Int), ts ≠ [] → 0 ≤ a → Srt E a ts → Sp ns ne p a → Wf ns →
  ∃ ne' a', (nextT E ts).f2 ≤ a' ∧ Srt E a' (one p ts ns).1 ∧ Nx ns ne p (one p ts ns).2 ne' a'
theorem nx_scal {ns : List Nd} {ne : Int → Int} {p a : Int} (h : Sp ns ne p a) (t : Tk) (ha : a ≤ t.f1) (h0 : 0 ≤ a) (ht : t.f1 ≤ t.f2) : ∃ ne', Nx ns ne p (scal p t ns) ne' t.f2 := by
  unfold scal; split
  · exact ⟨_, nx_put h _ _ _ (by decide) ha (by omega) ht⟩
  · split
    · exact ⟨_, nx_put h _ _ _ (by decide) ha (by omega) ht⟩
    · split
      · exact ⟨_, nx_put h _ _ _ (by decide) ha (by omega) ht⟩
      · exact ⟨ne, (Nx.refl h).up (by omega)⟩
theorem nx_lack {ns : List Nd} {ne : Int → Int} {p a : Int} (h : Sp ns ne p a) (f : Int) (ha : a ≤ f) (h0 : 0 ≤ a) : Nx ns ne p (lackN ns p f) (setE ne ns.length (ns.length + 1)) f := nx_put h 7 f f (by decide) ha (by omega) (Int.le_refl f)
theorem list_nx {E : Int} {one : One} (ho : OneNx E one) (hok : OneOk one 1) (bg : Tk → Bool) (c id : Int) : ∀ (n : Nat) (s a : Int) (ts : List Tk) (ns : List Nd) (ne : Int → Int), ts.length < n → 0 ≤ a → Srt E a ts → Sp ns ne id a → Wf ns →
    ∃ ms ne' a' tz b, (listN one bg E c id n s ts ns).2 = reachN ms id tz ∧ Nx ns ne id ms ne' a' ∧ a' ≤ b ∧ tz ≤ b ∧ a ≤ tz ∧ Srt E b (listN one bg E c id n s ts ns).1 := by
  intro n
  induction n with
  | zero => intro s a ts ns ne h; omega
  | succ n ih =>
    intro s a ts ns ne hn ha hs h hw
    cases ts with
    | nil =>
      have ha2 : a ≤ E := hs
      exact ⟨_, _, _, E, E, rfl, nx_lack h E ha2 ha, Int.le_refl E, Int.le_refl E, ha2, Int.le_refl E⟩
    | cons t r =>
      obtain ⟨s1, s2, s3⟩ := hs
      simp only [List.length_cons] at hn
      rw [listN]
      have lack := nx_lack h t.f1 s1 ha
      split
      · split
        · exact ⟨_, _, _, t.f2, t.f2, rfl, lack, s2, Int.le_refl _, by omega, s3⟩
        · exact ⟨_, _, _, t.f2, t.f2, rfl, Nx.refl h, by omega, Int.le_refl _, by omega, s3⟩
      · split
        · obtain ⟨ms, ne', a', tz, b, e1, e2, e3, e4, e5, e6⟩ := ih 2 t.f2 r ns ne (by omega) (by omega) s3 (h.up (by omega)) hw
          exact ⟨ms, ne', a', tz, b, e1, e2, e3, e4, by omega, e6⟩
        · split
          · have key : ∀ (qs : List Nd) (nq : Int → Int), Wf qs → Nx ns ne id qs nq t.f1 → ∃ ms ne' a' tz b, (listN one bg E c id n 1 (one id (t :: r) qs).1 (one id (t :: r) qs).2).2 = reachN ms id tz ∧ Nx ns ne id ms ne' a' ∧ a' ≤ b ∧ tz ≤ b ∧ a ≤ tz ∧ Srt E b (listN one bg E c id n 1 (one id (t :: r) qs).1 (one id (t :: r) qs).2).1 := by
              intro qs nq hwq hq
              obtain ⟨n2, a2, b1, b2, b3⟩ := ho id t.f1 (t :: r) qs nq (by simp) (by omega) ⟨Int.le_refl _, s2, s3⟩ hq.sp hwq
              obtain ⟨⟨o1, o2, o3⟩, o4⟩ := hok id (t :: r) qs (by simp) h.h0 hq.sp.h1 hwq
              simp only [List.length_cons] at o4
              have b1' : t.f2 ≤ a2 := b1
              obtain ⟨ms, ne', a', tz, b, e1, e2, e3, e4, e5, e6⟩ := ih 1 a2 _ _ n2 (by omega : (one id (t :: r) qs).1.length < n) (by omega) b2 b3.sp o3
              exact ⟨ms, ne', a', tz, b, e1, (hq.trans h.h0 h.h1 b3).trans h.h0 h.h1 e2, e3, e4, by omega, e6⟩
            split
            · exact key _ _ (putN_wf hw _ _ _ _ h.h0) lack
            · exact key ns ne hw ((Nx.refl h).up s1)
          · have hput := nx_put h 7 t.f1 t.f2 (by decide) s1 (by omega) s2
            obtain ⟨ms, ne', a', tz, b, e1, e2, e3, e4, e5, e6⟩ := ih s t.f2 r _ _ (by omega) (by omega) s3 hput.sp (putN_wf hw _ _ _ _ h.h0)
            exact ⟨ms, ne', a', tz, b, e1, hput.trans h.h0 h.h1 e2, e3, e4, by omega, e6⟩
theorem wrap_nx {E : Int} {v : One} (ho : OneNx E v) : OneNx E (wrapN v E) := by
  intro p a ts ns ne hn ha hs h hw
  obtain ⟨s1, s2, s3, s4, s5⟩ := srt_next hs
  have L := putN_len ns p 7 (nextT E ts).f1 (nextT E ts).f2
  have hx := sp_open (ne := ne) h.h0 h.h1 7 (nextT E ts).f1 (nextT E ts).f2 (nextT E ts).f1 (by decide) (by omega) (Int.le_refl _)
  obtain ⟨n2, a2, b1, b2, b3⟩ := ho ns.length (nextT E ts).f1 ts _ ne hn (by omega) s4 hx (putN_wf hw _ _ _ _ h.h0)
  obtain ⟨n3, e⟩ := nx_close h 7 (nextT E ts).f1 (nextT E ts).f2 (nextT E ts).f2 (b := a2) (by decide) (by decide) (by omega) s1 s2 b1 (Int.le_refl _) (fun _ _ _ => rfl) b3
  exact ⟨n3, a2, b1, b2, e⟩
theorem mem_nx {E : Int} {v : One} (ho : OneNx E v) (hok : OneOk v 4) (k : Nat) : OneNx E (memN v (bgK k) E) := by
  intro p a ts ns ne hn ha hs h hw
  unfold memN
  split
  · obtain ⟨s1, s2, s3, s4, s5⟩ := srt_next hs
    have L := putN_len ns p 3 (nextT E ts).f1 (nextT E ts).f2
    have hx := sp_open (ne := ne) h.h0 h.h1 3 (nextT E ts).f1 (nextT E ts).f2 (nextT E ts).f1 (by decide) (by omega) (Int.le_refl _)
    have hx0 := hx.h0
    have hx1 := hx.h1
    obtain ⟨n2, a2, b1, b2, b3⟩ := ho ns.length (nextT E ts).f1 ts _ ne hn (by omega) s4 hx (putN_wf hw _ _ _ _ h.h0)
    obtain ⟨⟨ok1, ok2, ok3⟩, ok4⟩ := hok ns.length ts (putN ns p 3 (nextT E ts).f1 (nextT E ts).f2) hn hx0 hx1 (putN_wf hw _ _ _ _ h.h0)
    generalize v ns.length ts (putN ns p 3 (nextT E ts).f1 (nextT E ts).f2) = q at b2 b3 ok1 ok2 ok3 ok4
    have wc := (col_ok E ns.length (nextT E ts) q hx0 ok3).2.2.1
    obtain ⟨u1, u2, u3, u4, u5⟩ := srt_next b2
    have hc : ∃ n3 a3, Srt E a3 (colN E ns.length (nextT E ts) q).1.1 ∧ Nx (putN ns p 3 (nextT E ts).f1 (nextT E ts).f2) ne ns.length (colN E ns.length (nextT E ts) q).1.2 n3 a3 ∧ (colN E ns.length (nextT E ts) q).2 ≤ a3 ∧ (nextT E ts).f2 ≤ (colN E ns.length (nextT E ts) q).2 := by
      unfold colN
      split
      · exact ⟨n2, (nextT E q.1).f2, u5, b3.up (by omega), Int.le_refl _, by show (nextT E ts).f2 ≤ (nextT E q.1).f2; omega⟩
      · exact ⟨_, (nextT E q.1).f1, u4, b3.trans hx0 hx1 (nx_lack b3.sp _ u1 (by omega)), by show (nextT E ts).f2 ≤ (nextT E q.1).f1; omega, Int.le_refl _⟩
    unfold pairN
    generalize colN E ns.length (nextT E ts) q = b at hc wc
    obtain ⟨n3, a3, c1, c2, c3, c4⟩ := hc
    obtain ⟨w1, w2, w3, w4, w5⟩ := srt_next c1
    have hp : ∃ n4 a4, a3 ≤ a4 ∧ Srt E a4 (pvN v (bgK k) E ns.length b.1).1 ∧ Nx (putN ns p 3 (nextT E ts).f1 (nextT E ts).f2) ne ns.length (pvN v (bgK k) E ns.length b.1).2 n4 a4 := by
      unfold pvN
      split
      · rename_i hb
        obtain ⟨n4, a4, d1, d2, d3⟩ := ho ns.length a3 b.1.1 b.1.2 n3 (bg_some hb) (by omega) c1 c2.sp wc
        exact ⟨n4, a4, by omega, d2, c2.trans hx0 hx1 d3⟩
      · exact ⟨_, (nextT E b.1.1).f1, w1, w4, c2.trans hx0 hx1 (nx_lack c2.sp _ w1 (by omega))⟩
    obtain ⟨n4, a4, d1, d2, d3⟩ := hp
    obtain ⟨n5, e⟩ := nx_close h 3 (nextT E ts).f1 (nextT E ts).f2 b.2 (b := a4) (by decide) (by decide) (by omega) s1 (by omega) (by omega) (Int.le_refl _) (fun _ _ _ => rfl) d3
    exact ⟨n5, a4, by omega, d2, e⟩
  · exact wrap_nx ho p a ts ns ne hn ha hs h hw
theorem val_nx (E : Int) : ∀ k, OneNx E (valN E k) := by
  intro k
  induction k with
  | zero =>
    intro p a ts ns ne hn ha hs h hw
    obtain ⟨s1, s2, s3, s4, s5⟩ := srt_next hs
    obtain ⟨n2, e⟩ := nx_scal h (nextT E ts) s1 ha s2
    exact ⟨n2, _, Int.le_refl _, s5, e⟩
  | succ k ih =>
    intro p a ts ns ne hn ha hs h hw
    obtain ⟨s1, s2, s3, s4, s5⟩ := srt_next hs
    have et := next_tail hn
    have lst : ∀ (one : One) (bg : Tk → Bool) (cl K : Int), (1 ≤ K ∧ K ≤ 7) → leafB K = false → OneNx E one → OneOk one 1 → ∃ ne' a', (nextT E ts).f2 ≤ a' ∧ Srt E a' (listN one bg E cl ns.length (ts.length + 1) 0 ts.tail (putN ns p K (nextT E ts).f1 (nextT E ts).f2)).1 ∧ Nx ns ne p (listN one bg E cl ns.length (ts.length + 1) 0 ts.tail (putN ns p K (nextT E ts).f1 (nextT E ts).f2)).2 ne' a' := by
      intro one bg cl K hK hl ho hok
      have hx := sp_open (ne := ne) h.h0 h.h1 K (nextT E ts).f1 (nextT E ts).f2 (nextT E ts).f2 hl (by omega) s2
      obtain ⟨ms, n2, a2, tz, b, e1, e2, e3, e4, e5, e6⟩ := list_nx ho hok bg cl ns.length (ts.length + 1) 0 (nextT E ts).f2 ts.tail _ ne (by omega) (by omega) s5 hx (putN_wf hw _ _ _ _ h.h0)
      rw [e1]
      obtain ⟨n3, e⟩ := nx_close h K (nextT E ts).f1 (nextT E ts).f2 tz (b := b) hK hl (by omega) s1 (by omega) e4 e3 (fun _ _ _ => rfl) e2
      exact ⟨n3, b, by omega, e6, e⟩
    unfold valN
    split
    · exact lst _ _ _ _ (by decide) (by decide) (mem_nx ih (val_ok E k) k) (mem_ok (val_ok E k) k E)
    · split
      · exact lst _ _ _ _ (by decide) (by decide) ih (one_less (val_ok E k) (by omega))
      · obtain ⟨n2, e⟩ := nx_scal h (nextT E ts) s1 ha s2
        exact ⟨n2, _, Int.le_refl _, s5, e⟩
theorem main_nx (E : Int) : ∀ (n : Nat) (had : Bool) (a : Int) (ts : List Tk) (ns : List Nd) (ne : Int → Int), ts.length < n → 0 ≤ a → Srt E a ts → Sp ns ne 0 a → Wf ns →
    ∃ ne', Nx ns ne 0 (mainN (valN E 12) (bgK 12) E n had ts ns) ne' E := by
  intro n
  induction n with
  | zero => intro had a ts ns ne h; omega
  | succ n ih =>
    intro had a ts ns ne hn ha hs h hw
    have zz : (0 : Int) ≤ 0 := Int.le_refl 0
    cases ts with
    | nil =>
      rw [mainN]
      have ha2 : a ≤ E := hs
      split
      · exact ⟨ne, (Nx.refl h).up ha2⟩
      · exact ⟨_, nx_lack h E ha2 ha⟩
    | cons t r =>
      simp only [List.length_cons] at hn
      rw [mainN]; split
      · split
        · obtain ⟨n2, a2, b1, b2, b3⟩ := wrap_nx (val_nx E 12) 0 a (t :: r) ns ne (by simp) ha hs h hw
          obtain ⟨⟨o1, o2, o3⟩, o4⟩ := wrap_ok (val_ok E 12) E 0 (t :: r) ns (by simp) zz h.h1 hw
          simp only [List.length_cons] at o4
          obtain ⟨s1, s2, s3⟩ := hs
          have b1' : t.f2 ≤ a2 := b1
          obtain ⟨n3, e⟩ := ih true a2 _ _ n2 (by omega : (wrapN (valN E 12) E 0 (t :: r) ns).1.length < n) (by omega) b2 b3.sp o3
          exact ⟨n3, b3.trans zz h.h1 e⟩
        · obtain ⟨n2, a2, b1, b2, b3⟩ := val_nx E 12 0 a (t :: r) ns ne (by simp) ha hs h hw
          obtain ⟨⟨o1, o2, o3⟩, o4⟩ := val_ok E 12 0 (t :: r) ns (by simp) zz h.h1 hw
          simp only [List.length_cons] at o4
          obtain ⟨s1, s2, s3⟩ := hs
          have b1' : t.f2 ≤ a2 := b1
          obtain ⟨n3, e⟩ := ih true a2 _ _ n2 (by omega : (valN E 12 0 (t :: r) ns).1.length < n) (by omega) b2 b3.sp o3
          exact ⟨n3, b3.trans zz h.h1 e⟩
      · obtain ⟨s1, s2, s3⟩ := hs
        have hput := nx_put h 7 t.f1 t.f2 (by decide) s1 (by omega) s2
        obtain ⟨n3, e⟩ := ih had t.f2 r _ _ (by omega) (by omega) s3 hput.sp (putN_wf hw _ _ _ _ zz)
        exact ⟨n3, hput.trans zz h.h1 e⟩
theorem srt_down {E : Int} {ts : List Tk} {a b : Int} (h : Srt E b ts) (hab : a ≤ b) : Srt E a ts := by
  cases ts with
  | nil => have h' : b ≤ E := h; show a ≤ E; omega
  | cons t r => obtain ⟨h1, h2, h3⟩ := h; exact ⟨by omega, h2, h3⟩
theorem srt_filter {E : Int} (q : Tk → Bool) : ∀ {ts : List Tk} {a : Int}, Srt E a ts → Srt E a (ts.filter q) := by
  intro ts
  induction ts with
  | nil => intro a h; exact h
  | cons t r ih =>
    intro a h
    obtain ⟨h1, h2, h3⟩ := h
    rw [List.filter_cons]; split
    · exact ⟨h1, h2, ih h3⟩
    · exact srt_down (ih h3) (by omega)
theorem srt_tks (E : Int) : ∀ (n i : Nat) (l : List UInt8), ((i + l.length : Nat) : Int) ≤ E → Srt E (i : Int) (Go.Proofs.Ytehojohacombkaa.Lx.tks n i l) := by
  intro n
  induction n with
  | zero => intro i l h; show (i : Int) ≤ E; omega
  | succ n ih =>
    intro i l h
    cases l with
    | nil => show (i : Int) ≤ E; simp only [List.length_nil] at h; omega
    | cons b r =>
      have h2 := Go.Proofs.Ytehojohacombkaa.Lx.tk_le (b := b) (r := r)
      refine ⟨Int.le_refl _, ?_, ?_⟩
      · show (i : Int) ≤ ((i + (Go.Proofs.Ytehojohacombkaa.Lx.tk (b :: r)).2 : Nat) : Int); omega
      · exact ih _ _ (by rw [List.length_drop]; omega)
/-- Any text's tree. -/
structure Whole (ns : List Nd) (ne : Int → Int) (E : Int) : Prop where
  one : 1 ≤ ns.length
  root : (rdn ns 0).f0 = 0 ∧ (rdn ns 0).f1 = 0 ∧ (rdn ns 0).f2 = 0 ∧ (rdn ns 0).f3 = E
  ch : Ch ns ne 1 0 (rdn ns 0).f4 ns.length E
  cl : ∀ i, 1 ≤ i → i < (ns.length : Int) → Cl ns ne i ∧ ne i ≤ (ns.length : Int)
theorem nodes_whole (l : List UInt8) : ∃ ne, Whole (nodesN l) ne l.length := by
  have e : putN [] 0 0 0 (l.length : Int) = [(⟨0, 0, 0, l.length, []⟩ : Nd)] := rfl
  have hw : Wf (putN [] 0 0 0 (l.length : Int)) := putN_wf wf_nil _ _ _ _ (Int.le_refl 0)
  have hs : Srt (l.length : Int) 0 (Go.Proofs.Ytehojohacombkaa.Gd.solid (Go.Proofs.Ytehojohacombkaa.Lx.toks l)) := srt_filter _ (srt_tks (l.length : Int) l.length 0 l (by omega))
  have h : Sp (putN [] 0 0 0 (l.length : Int)) (fun _ => 0) 0 0 := by
    rw [e]
    exact ⟨Int.le_refl 0, by simp, rfl, Int.le_refl 0, rfl, Int.le_refl 0⟩
  obtain ⟨ne, g⟩ := main_nx (l.length : Int) ((Go.Proofs.Ytehojohacombkaa.Gd.solid (Go.Proofs.Ytehojohacombkaa.Lx.toks l)).length + 1) false 0 _ _ _ (Nat.lt_succ_self _) (Int.le_refl 0) hs h hw
  obtain ⟨g1, g2, g3, g4⟩ := g.opn
  have hl := g.len
  have hl1 : (putN [] 0 0 0 (l.length : Int)).length = 1 := rfl
  refine ⟨ne, (by show 1 ≤ (mainN _ _ _ _ _ _ _).length; omega), ⟨g1, g2, g3, g4⟩, ?_, ?_⟩
  · have c := g.sp.ch
    rw [g3] at c
    exact c
  · intro i i0 i1
    exact g.new i (by omega) i1
end Go.Proofs.Ytehojohacombkaa.Ps
namespace Go.Proofs.Ytehojohacombkaa.Ps
open Go.RowKit Go.Proofs.Ytehojohacombkaa.G Go.Proofs.YtehojohacombkaaW.PrintWords Go.Proofs.YtehojohacombkaaW.PrintLast
open Go.Proofs.Ytehojohacombkaa.Lx (Tk)
set_option linter.unusedVariables false
set_option linter.unusedSimpArgs false
structure Uni (ns : List Nd) (ne : Int → Int) : Prop where
  at_ : ∀ i, 0 ≤ i → i < (ns.length : Int) → i < ne i ∧ ne i ≤ (ns.length : Int) ∧ (rdn ns i).f0 = i ∧ (rdn ns i).f2 ≤ (rdn ns i).f3 ∧ Ch ns ne (i + 1) (rdn ns i).f2 (rdn ns i).f4 (ne i) (rdn ns i).f3
theorem uni_of {ns : List Nd} {ne : Int → Int} {E : Int} (h : Whole ns ne E) (h0 : 0 ≤ E) : Uni ns (setE ne 0 ns.length) := by
  have h1 := h.one
  have o : ∀ i, 1 ≤ i → setE ne 0 ns.length i = ne i := fun i hi => if_neg (by omega)
  have z : setE ne 0 ns.length 0 = ns.length := if_pos rfl
  refine ⟨fun i i0 i1 => ?_⟩
  by_cases hi : i = 0
  · subst hi
    rw [z]
    obtain ⟨r0, r1, r2, r3⟩ := h.root
    refine ⟨by omega, Int.le_refl _, r0, by omega, ?_⟩
    rw [r2, r3]
    exact Ch_congr (fun j j0 j1 => ⟨rfl, o j (by omega)⟩) h.ch
  · obtain ⟨c, c2⟩ := h.cl i (by omega) i1
    rw [o i (by omega)]
    exact ⟨c.lt, c2, c.id, c.span.2, Ch_congr (fun j j0 j1 => ⟨rfl, o j (by omega)⟩) c.ch⟩
theorem idx_self {ns : List Nd} (h : ∀ i, 0 ≤ i → i < (ns.length : Int) → (rdn ns i).f0 = i) {k : Int} (h0 : 0 ≤ k) : ∀ m : Nat, m ≤ ns.length → k < (m : Int) → idxM ns m k = some k := by
  intro m
  induction m with
  | zero => intro hm hk; omega
  | succ m ih =>
    intro hm hk
    rw [idxM, h (m : Int) (by omega) (by omega)]
    by_cases e : (m : Int) = k
    · rw [if_pos e, e]
    · rw [if_neg e]; exact ih (by omega) (by omega)
theorem rdb_set {l : List Bool} {k m : Int} (h0 : 0 ≤ k) (h1 : k < (l.length : Int)) (hm : 0 ≤ m) : rdb (l.set k.toNat true) m = if m = k then true else rdb l m := by
  unfold rdb
  rw [List.getD_eq_getElem?_getD, List.getD_eq_getElem?_getD, List.getElem?_set]
  by_cases e : m = k
  · subst e; rw [if_pos rfl, if_pos (by omega), if_pos rfl]; rfl
  · rw [if_neg (by omega), if_neg e]
theorem count_set {l : List Bool} {k : Int} (h0 : 0 ≤ k) (h1 : k < (l.length : Int)) (hf : rdb l k = false) : (l.set k.toNat true).count false + 1 = l.count false := by
  have hk : k.toNat < l.length := by omega
  have e : l[k.toNat] = false := by
    unfold rdb at hf
    rw [List.getD_eq_getElem?_getD, List.getElem?_eq_getElem hk] at hf
    exact hf
  have hpos : 0 < l.count false := List.count_pos_iff.mpr (e ▸ List.getElem_mem hk)
  rw [List.count_set hk, e]
  simp only [beq_self_eq_true, if_true]
  rw [show (true == false) = false from rfl, if_neg Bool.false_ne_true]
  omega
/-- A chain's children, taken in. -/
theorem kids_ok {ns : List Nd} {ne : Int → Int} (U : Uni ns ne) (x : Nd) : ∀ (ks : List Int) (lo lof hi hif : Int) (seen : List Bool) (row : List Int), 0 ≤ lo → hi ≤ (ns.length : Int) → hif ≤ x.f3 → seen.length = ns.length →
    Ch ns ne lo lof ks hi hif → (∀ m, lo ≤ m → m < hi → rdb seen m = false) →
    ∃ s, kidsN ns x ks lof seen row = some (s, row ++ ks) ∧ s.length = ns.length ∧ s.count false + ks.length = seen.count false ∧ (∀ m, 0 ≤ m → (m < lo ∨ hi ≤ m) → rdb s m = rdb seen m) ∧
      (∀ m, lo ≤ m → m < hi → (rdb s m = false ↔ ∃ q ∈ ks, q < m ∧ m < ne q)) ∧ (∀ q ∈ ks, lo ≤ q ∧ q < hi ∧ ne q ≤ hi) ∧ ks.Pairwise (fun q q' => ne q ≤ q') ∧ lof ≤ hif := by
  intro ks
  induction ks with
  | nil =>
    intro lo lof hi hif seen row h0 hhi hx hl hc hs
    obtain ⟨e1, e2⟩ := hc
    exact ⟨seen, by rw [kidsN, List.append_nil], hl, by simp, fun _ _ _ => rfl, fun m a b => absurd b (by omega), fun q hq => (by cases hq), List.Pairwise.nil, e2⟩
  | cons k r ih =>
    intro lo lof hi hif seen row h0 hhi hx hl hc hs
    obtain ⟨e1, e2, e3, e4⟩ := hc
    subst e1
    have hle := Ch_le e4
    have hk1 : k < (ns.length : Int) := by omega
    obtain ⟨u1, u2, u3, u4, u5⟩ := U.at_ k h0 hk1
    have hi1 : idxN ns k = some k := idx_self (fun i i0 i1 => (U.at_ i i0 i1).2.2.1) h0 ns.length (Nat.le_refl _) hk1
    have hsk : rdb seen k = false := hs k (Int.le_refl k) (by omega)
    have hset : ∀ m, 0 ≤ m → rdb (seen.set k.toNat true) m = if m = k then true else rdb seen m := fun m hm => rdb_set h0 (by omega) hm
    obtain ⟨s, a1, a2, a3, a4, a5, a6, a7, a8⟩ := ih (ne k) (rdn ns k).f3 hi hif (seen.set k.toNat true) (row ++ [k]) (by omega) hhi hx (by rw [List.length_set]; exact hl) e4 (fun m m0 m1 => by rw [hset m (by omega), if_neg (by omega)]; exact hs m (by omega) m1)
    have hcnt := count_set h0 (by omega : k < (seen.length : Int)) hsk
    refine ⟨s, ?_, a2, by simp only [List.length_cons]; omega, ?_, ?_, ?_, ?_, by omega⟩
    · rw [kidsN, hi1]
      simp only
      rw [hsk, show decide ((rdn ns k).f2 < lof) = false from decide_eq_false (by omega), show decide ((rdn ns k).f3 > x.f3) = false from decide_eq_false (by omega)]
      simp only [Bool.or_self, Bool.false_eq_true, if_false]
      rw [a1, List.append_assoc]; rfl
    · intro m m0 m1
      rw [a4 m m0 (by omega), hset m m0, if_neg (by omega)]
    · intro m m0 m1
      by_cases hm : m < ne k
      · rw [a4 m (by omega) (Or.inl hm), hset m (by omega)]
        by_cases e : m = k
        · rw [if_pos e]
          refine ⟨fun h => (by cases h), fun ⟨q, hq, q1, q2⟩ => ?_⟩
          rcases List.mem_cons.1 hq with rfl | hq
          · omega
          · have := a6 q hq; omega
        · rw [if_neg e]
          exact ⟨fun _ => ⟨k, by simp, by omega, hm⟩, fun _ => hs m m0 m1⟩
      · rw [a5 m (by omega) m1]
        constructor
        · rintro ⟨q, hq, q1, q2⟩; exact ⟨q, by simp [hq], q1, q2⟩
        · rintro ⟨q, hq, q1, q2⟩
          rcases List.mem_cons.1 hq with rfl | hq
          · omega
          · exact ⟨q, hq, q1, q2⟩
    · intro q hq
      rcases List.mem_cons.1 hq with rfl | hq
      · exact ⟨Int.le_refl _, by omega, hle⟩
      · have := a6 q hq; exact ⟨by omega, this.2.1, this.2.2⟩
    · exact List.pairwise_cons.2 ⟨fun q hq => (a6 q hq).1, a7⟩
theorem bfs_ok {ns : List Nd} {ne : Int → Int} (U : Uni ns ne) : ∀ (n : Nat) (row : List Int) (seen : List Bool), (∀ q ∈ row, 0 ≤ q ∧ q < (ns.length : Int)) → row.Pairwise (fun q q' => ne q ≤ q' ∨ ne q' ≤ q) →
    (∀ m, 0 ≤ m → m < (ns.length : Int) → (rdb seen m = false ↔ ∃ q ∈ row, q < m ∧ m < ne q)) → seen.length = ns.length → seen.count false + row.length < n → ∃ s, bfsN ns n row seen = some s ∧ s.all id = true := by
  intro n
  induction n with
  | zero => intro row seen h1 h2 h3 h4 h5; omega
  | succ n ih =>
    intro row seen h1 h2 h3 h4 h5
    cases row with
    | nil =>
      refine ⟨seen, rfl, ?_⟩
      rw [List.all_eq_true]
      intro b hb
      obtain ⟨i, hi, e⟩ := List.getElem_of_mem hb
      cases b with
      | true => rfl
      | false =>
        exfalso
        have hr : rdb seen (i : Int) = false := by
          unfold rdb; rw [List.getD_eq_getElem?_getD, show ((i : Int)).toNat = i by omega, List.getElem?_eq_getElem hi, e]; rfl
        obtain ⟨q, hq, _⟩ := (h3 (i : Int) (by omega) (by omega)).1 hr
        cases hq
    | cons j row =>
      obtain ⟨j0, j1⟩ := h1 j (by simp)
      obtain ⟨u1, u2, u3, u4, u5⟩ := U.at_ j j0 j1
      obtain ⟨p1, p2⟩ := List.pairwise_cons.1 h2
      have free : ∀ m, j + 1 ≤ m → m < ne j → rdb seen m = false := fun m m0 m1 => (h3 m (by omega) (by omega)).2 ⟨j, by simp, by omega, m1⟩
      obtain ⟨s, a1, a2, a3, a4, a5, a6, a7, a8⟩ := kids_ok U (rdn ns j) (rdn ns j).f4 (j + 1) (rdn ns j).f2 (ne j) (rdn ns j).f3 seen (j :: row) (by omega) u2 (Int.le_refl _) h4 u5 free
      rw [bfsN, a1]
      simp only
      show ∃ s_1, bfsN ns n (row ++ (rdn ns j).f4) s = some s_1 ∧ _
      refine ih _ s ?_ ?_ ?_ a2 ?_
      · intro q hq
        rcases List.mem_append.1 hq with hq | hq
        · exact h1 q (by simp [hq])
        · have := a6 q hq; omega
      · refine List.pairwise_append.2 ⟨p2, a7.imp (fun h => Or.inl h), fun q hq q' hq' => ?_⟩
        have c := a6 q' hq'
        have d := p1 q hq
        have e := h1 q (by simp [hq])
        have f := U.at_ q e.1 e.2
        omega
      · intro m m0 m1
        by_cases hm : j + 1 ≤ m ∧ m < ne j
        · rw [a5 m hm.1 hm.2]
          constructor
          · rintro ⟨q, hq, q1, q2⟩; exact ⟨q, List.mem_append_right _ hq, q1, q2⟩
          · rintro ⟨q, hq, q1, q2⟩
            rcases List.mem_append.1 hq with hq | hq
            · exfalso
              have d := p1 q hq
              have e := h1 q (by simp [hq])
              omega
            · exact ⟨q, hq, q1, q2⟩
        · rw [a4 m m0 (by omega), h3 m m0 m1]
          constructor
          · rintro ⟨q, hq, q1, q2⟩
            rcases List.mem_cons.1 hq with rfl | hq
            · exfalso; omega
            · exact ⟨q, List.mem_append_left _ hq, q1, q2⟩
          · rintro ⟨q, hq, q1, q2⟩
            rcases List.mem_append.1 hq with hq | hq
            · exact ⟨q, by simp [hq], q1, q2⟩
            · exfalso; have := a6 q hq; omega
      · simp only [List.length_append, List.length_cons] at h5 ⊢; omega
end Go.Proofs.Ytehojohacombkaa.Ps
namespace Go.Proofs.Ytehojohacombkaa.Ps
open Go.RowKit Go.Proofs.Ytehojohacombkaa.G Go.Proofs.YtehojohacombkaaW.PrintWords Go.Proofs.YtehojohacombkaaW.PrintLast
open Go.Proofs.Ytehojohacombkaa.Lx (Tk)
open Go.Proofs.Ytehojohacombkaa.Pl (Bd)
set_option linter.unusedVariables false
set_option linter.unusedSimpArgs false
theorem first_ok {ns : List Nd} {ne : Int → Int} {E : Int} (W : Whole ns ne E) (B : Bd E ns) (h0 : 0 ≤ E) : ∀ (n i : Nat), i + n = ns.length → firstN 0 ns.length E (ns.drop i) (i : Int) (if i = 0 then -1 else 0) ((i : Int) - 1) = some 0 := by
  have h1 := W.one
  intro n
  induction n with
  | zero =>
    intro i h
    rw [List.drop_of_length_le (by omega), firstN, if_neg (by omega)]
  | succ n ih =>
    intro i h
    have hi : i < ns.length := by omega
    have ex : ns[i] = rdn ns (i : Int) := by
      unfold rdn rd_T34
      rw [List.getD_eq_getElem?_getD, show ((i : Int)).toNat = i by omega, List.getElem?_eq_getElem hi]; rfl
    rw [List.drop_eq_getElem_cons hi, firstN, ex]
    have hb := B _ (rdn_mem (ns := ns) (i := (i : Int)) (by omega) (by omega))
    have key : (!aloneB 0 ns.length E (rdn ns (i : Int)) ((i : Int) - 1) || ((rdn ns (i : Int)).f1 == 0 && decide ((if i = 0 then (-1 : Int) else 0) ≥ 0))) = false ∧ (if (rdn ns (i : Int)).f1 = 0 then (i : Int) else (if i = 0 then -1 else 0)) = 0 ∧ (rdn ns (i : Int)).f0 = (i : Int) := by
      by_cases e : i = 0
      · subst e
        obtain ⟨r0, r1, r2, r3⟩ := W.root
        have e0 : ((0 : Nat) : Int) = 0 := rfl
        rw [e0, r0, r1, if_pos rfl, if_pos rfl]
        refine ⟨?_, rfl, rfl⟩
        unfold aloneB rootB leafB
        rw [r0, r1, r2, r3]
        simp
        omega
      · obtain ⟨c, c2⟩ := W.cl (i : Int) (by omega) (by omega)
        have k1 : ¬ (rdn ns (i : Int)).f1 = 0 := by have := c.kind; omega
        rw [if_neg k1, if_neg e]
        refine ⟨?_, rfl, c.id⟩
        have b1 : ((rdn ns (i : Int)).f1 == 0) = false := beq_eq_false_iff_ne.mpr k1
        have b2 : ((rdn ns (i : Int)).f1 != 0) = true := bne_iff_ne.mpr k1
        unfold aloneB rootB
        rw [b1, b2, c.id, decide_eq_true (show (i : Int) > (i : Int) - 1 by omega), decide_eq_true (show (i : Int) < (ns.length : Int) by omega), decide_eq_true (show (rdn ns (i : Int)).f1 ≥ 0 by have := c.kind; omega), decide_eq_true (show (rdn ns (i : Int)).f1 ≤ 7 from c.kind.2), decide_eq_true (show (rdn ns (i : Int)).f2 ≥ 0 from c.span.1), decide_eq_true c.span.2, decide_eq_true hb.2.2.2]
        cases hl : leafB (rdn ns (i : Int)).f1 with
        | false => rfl
        | true => rw [c.leaf hl]; rfl
    obtain ⟨k1, k2, k3⟩ := key
    rw [k1, if_neg Bool.false_ne_true, k2, k3]
    have := ih (i + 1) (by omega)
    rw [if_neg (by omega), show (((i + 1 : Nat) : Int) - 1) = (i : Int) by omega, show ((i + 1 : Nat) : Int) = (i : Int) + 1 by omega] at this
    exact this
theorem may_whole {ns : List Nd} {ne : Int → Int} {E : Int} (W : Whole ns ne E) (B : Bd E ns) (h0 : 0 ≤ E) (hE : E ≤ 4096) (hl : ns.length ≤ 2048) : mayT 0 ns.length E ns = true := by
  have h1 := W.one
  have f := first_ok W B h0 ns.length 0 (by omega)
  rw [List.drop_zero, if_pos rfl] at f
  have f' : firstN 0 ns.length E ns 0 (-1) (-1) = some 0 := f
  have U := uni_of W h0
  have hs : ∀ m : Int, 0 ≤ m → m < (ns.length : Int) → rdb ((List.replicate ns.length false).set (0 : Int).toNat true) m = if m = 0 then true else false := by
    intro m m0 m1
    rw [rdb_set (Int.le_refl 0) (by simp; omega) m0]
    by_cases e : m = 0
    · rw [if_pos e, if_pos e]
    · rw [if_neg e, if_neg e]
      unfold rdb; rw [List.getD_eq_getElem?_getD, List.getElem?_replicate]; split <;> rfl
  have z : setE ne 0 ns.length 0 = ns.length := if_pos rfl
  obtain ⟨s, a, b⟩ := bfs_ok U (ns.length + 1) [0] ((List.replicate ns.length false).set (0 : Int).toNat true) (fun q hq => by rw [List.mem_singleton.1 hq]; omega) (List.pairwise_singleton _ _) (fun m m0 m1 => by
      rw [hs m m0 m1]
      by_cases e : m = 0
      · rw [if_pos e]
        refine ⟨fun h => (by cases h), fun ⟨q, hq, q1, q2⟩ => ?_⟩
        rw [List.mem_singleton.1 hq] at q1; omega
      · rw [if_neg e]
        exact ⟨fun _ => ⟨0, by simp, by omega, by rw [z]; exact m1⟩, fun _ => rfl⟩) (by simp) (by
      have hc := count_set (l := List.replicate ns.length false) (k := 0) (Int.le_refl 0) (by simp; omega) (by unfold rdb; rw [List.getD_eq_getElem?_getD, List.getElem?_replicate]; split <;> rfl)
      rw [List.count_replicate_self] at hc
      simp only [List.length_cons, List.length_nil]; omega)
  unfold mayT
  rw [if_neg (by omega), f']
  simp only
  rw [if_neg (by omega), a]
  exact b
end Go.Proofs.Ytehojohacombkaa.Ps
