/- Trees of any text: the plain model of package parse over tokens. No program in sight. -/
import Derived.Test.YtehojohacombkaaGd1
namespace Go.Proofs.Ytehojohacombkaa.Ps
open Go.RowKit Go.Proofs.Ytehojohacombkaa.G Go.Proofs.YtehojohacombkaaW.PrintWords Go.Proofs.YtehojohacombkaaW.PrintLast
open Go.Proofs.Ytehojohacombkaa.Lx (Tk)
set_option linter.unusedVariables false
set_option linter.unusedSimpArgs false
abbrev Nd := S34
def nd (id k f t : Int) : Nd := ⟨id, k, f, t, []⟩
def rdn (ns : List Nd) (i : Int) : Nd := rd_T34 ns i
def withKid (x : Nd) (id : Int) : Nd := ⟨x.f0, x.f1, x.f2, x.f3, x.f4 ++ [id]⟩
def withTo (x : Nd) (tz : Int) : Nd := ⟨x.f0, x.f1, x.f2, tz, x.f4⟩
def kidAdd (ns : List Nd) (p id : Int) : List Nd := ns.set p.toNat (withKid (rdn ns p) id)
def putN (ns : List Nd) (p k f t : Int) : List Nd :=
  if (ns.length : Int) > p then kidAdd (ns ++ [nd ns.length k f t]) p ns.length else ns ++ [nd ns.length k f t]
def setTo (ns : List Nd) (id tz : Int) : List Nd := ns.set id.toNat (withTo (rdn ns id) tz)
def lastKid (ns : List Nd) (id : Int) : Int := rd (rdn ns id).f4 (((rdn ns id).f4.length : Int) - 1)
def reachN (ns : List Nd) (id tz : Int) : List Nd :=
  if 0 < (rdn (setTo ns id tz) id).f4.length then setTo (setTo ns id tz) id (max tz (rdn (setTo ns id tz) (lastKid (setTo ns id tz) id)).f3) else setTo ns id tz
def lackN (ns : List Nd) (p at_ : Int) : List Nd := putN ns p 7 at_ at_
def nextT (en : Int) (ts : List Tk) : Tk := match ts with | [] => ⟨-1, en, en⟩ | t :: _ => t
/-- May a value begin with a token, so many levels below it at most? -/
def bgK (k : Nat) (t : Tk) : Bool := t.f0 == 6 || t.f0 == 7 || t.f0 == 8 || ((t.f0 == 0 || t.f0 == 2) && decide (1 ≤ k))
abbrev St := List Tk × List Nd
abbrev One := Int → List Tk → List Nd → St
def scal (p : Int) (t : Tk) (ns : List Nd) : List Nd :=
  if t.f0 = 6 then putN ns p 4 t.f1 t.f2 else if t.f0 = 7 then putN ns p 5 t.f1 t.f2 else if t.f0 = 8 then putN ns p 6 t.f1 t.f2 else ns
def listN (one : One) (bg : Tk → Bool) (en c id : Int) : Nat → Int → List Tk → List Nd → St
  | 0, _, ts, ns => (ts, ns)
  | _ + 1, _, [], ns => ([], reachN (lackN ns id en) id en)
  | n + 1, s, t :: r, ns =>
    if t.f0 = c then (r, reachN (if s = 2 then lackN ns id t.f1 else ns) id t.f2)
    else if t.f0 = 5 ∧ s = 1 then listN one bg en c id n 2 r ns
    else if bg t = true then listN one bg en c id n 1 (one id (t :: r) (if s = 1 then lackN ns id t.f1 else ns)).1 (one id (t :: r) (if s = 1 then lackN ns id t.f1 else ns)).2
    else listN one bg en c id n s r (putN ns id 7 t.f1 t.f2)
def wrapN (v : One) (en : Int) : One := fun p ts ns =>
  ((v ns.length ts (putN ns p 7 (nextT en ts).f1 (nextT en ts).f2)).1, reachN (v ns.length ts (putN ns p 7 (nextT en ts).f1 (nextT en ts).f2)).2 ns.length (nextT en ts).f2)
/-- A pair behind its key: the colon, or that it lacks. -/
def colN (en x : Int) (t : Tk) (a : St) : St × Int :=
  if (nextT en a.1).f0 = 4 then ((a.1.tail, a.2), (nextT en a.1).f2) else ((a.1, lackN a.2 x (nextT en a.1).f1), t.f2)
/-- The pair's value, or that it lacks. -/
def pvN (v : One) (bg : Tk → Bool) (en x : Int) (b : St) : St :=
  if bg (nextT en b.1) = true then v x b.1 b.2 else (b.1, lackN b.2 x (nextT en b.1).f1)
def pairN (v : One) (bg : Tk → Bool) (en x : Int) (t : Tk) (a : St) : St :=
  ((pvN v bg en x (colN en x t a).1).1, reachN (pvN v bg en x (colN en x t a).1).2 x (colN en x t a).2)
def memN (v : One) (bg : Tk → Bool) (en : Int) : One := fun p ts ns =>
  if (nextT en ts).f0 = 6 then pairN v bg en ns.length (nextT en ts) (v ns.length ts (putN ns p 3 (nextT en ts).f1 (nextT en ts).f2))
  else wrapN v en p ts ns
/-- A value, so many levels below it at most. -/
def valN (en : Int) : Nat → One
  | 0 => fun p ts ns => (ts.tail, scal p (nextT en ts) ns)
  | k + 1 => fun p ts ns =>
    if (nextT en ts).f0 = 0 then listN (memN (valN en k) (bgK k) en) (bgK k) en 1 ns.length (ts.length + 1) 0 ts.tail (putN ns p 1 (nextT en ts).f1 (nextT en ts).f2)
    else if (nextT en ts).f0 = 2 then listN (valN en k) (bgK k) en 3 ns.length (ts.length + 1) 0 ts.tail (putN ns p 2 (nextT en ts).f1 (nextT en ts).f2)
    else (ts.tail, scal p (nextT en ts) ns)
def mainN (v : One) (bg : Tk → Bool) (en : Int) : Nat → Bool → List Tk → List Nd → List Nd
  | 0, _, _, ns => ns
  | _ + 1, had, [], ns => if had = true then ns else lackN ns 0 en
  | n + 1, had, t :: r, ns =>
    if bg t = true then (if had = true then mainN v bg en n true (wrapN v en 0 (t :: r) ns).1 (wrapN v en 0 (t :: r) ns).2 else mainN v bg en n true (v 0 (t :: r) ns).1 (v 0 (t :: r) ns).2)
    else mainN v bg en n had r (putN ns 0 7 t.f1 t.f2)
def nodesN (l : List UInt8) : List Nd :=
  mainN (valN l.length 12) (bgK 12) l.length ((Go.Proofs.Ytehojohacombkaa.Gd.solid (Go.Proofs.Ytehojohacombkaa.Lx.toks l)).length + 1) false (Go.Proofs.Ytehojohacombkaa.Gd.solid (Go.Proofs.Ytehojohacombkaa.Lx.toks l)) (putN [] 0 0 0 l.length)

/-! ### lengths, and what a tree's rows keep -/
theorem putN_len (ns : List Nd) (p k f t : Int) : (putN ns p k f t).length = ns.length + 1 := by
  unfold putN kidAdd; split <;> simp
theorem setTo_len (ns : List Nd) (id tz : Int) : (setTo ns id tz).length = ns.length := by unfold setTo; simp
theorem reachN_len (ns : List Nd) (id tz : Int) : (reachN ns id tz).length = ns.length := by
  unfold reachN; split <;> simp only [setTo_len]
/-- Children stand among the nodes; none has more of them than there are nodes. -/
def Wf (ns : List Nd) : Prop := ∀ x ∈ ns, x.f4.length ≤ ns.length ∧ ∀ k ∈ x.f4, 0 ≤ k ∧ k < (ns.length : Int)
theorem rdn_mem {ns : List Nd} {i : Int} (h0 : 0 ≤ i) (h1 : i < (ns.length : Int)) : rdn ns i ∈ ns := by
  unfold rdn rd_T34
  rw [List.getD_eq_getElem?_getD, List.getElem?_eq_getElem (by omega)]
  exact List.getElem_mem _
theorem wf_nil : Wf [] := fun x hx => by cases hx
theorem wf_snoc {ns : List Nd} (h : Wf ns) (id k f t : Int) : Wf (ns ++ [nd id k f t]) := by
  intro x hx
  rcases List.mem_append.1 hx with hx | hx
  · obtain ⟨h1, h2⟩ := h x hx
    exact ⟨by simp only [List.length_append]; omega, fun k hk => ⟨(h2 k hk).1, by have := (h2 k hk).2; simp only [List.length_append]; omega⟩⟩
  · rw [List.mem_singleton.1 hx]; exact ⟨by simp [nd], fun k hk => by cases hk⟩
theorem putN_wf {ns : List Nd} (h : Wf ns) (p k f t : Int) (h0 : 0 ≤ p) : Wf (putN ns p k f t) := by
  unfold putN
  split
  · rename_i hp
    intro x hx
    have hl : (kidAdd (ns ++ [nd ns.length k f t]) p ns.length).length = ns.length + 1 := by unfold kidAdd; simp
    rw [hl]
    have hs := wf_snoc h ns.length k f t
    have hsl : (ns ++ [nd ns.length k f t]).length = ns.length + 1 := by simp
    rcases List.mem_or_eq_of_mem_set hx with hx | rfl
    · have := hs x hx; rwa [hsl] at this
    · have e : rdn (ns ++ [nd ns.length k f t]) p = rdn ns p := by
        unfold rdn rd_T34
        rw [List.getD_eq_getElem?_getD, List.getD_eq_getElem?_getD, List.getElem?_append_left (by omega)]
      rw [e]
      obtain ⟨h1, h2⟩ := h _ (rdn_mem h0 (by omega))
      refine ⟨by simp only [withKid, List.length_append, List.length_cons, List.length_nil]; omega, fun j hj => ?_⟩
      rcases List.mem_append.1 hj with hj | hj
      · have := h2 j hj; omega
      · rw [List.mem_singleton.1 hj]; omega
  · exact wf_snoc h _ _ _ _
theorem setTo_wf {ns : List Nd} (h : Wf ns) (id tz : Int) (h0 : 0 ≤ id) (h1 : id < (ns.length : Int)) : Wf (setTo ns id tz) := by
  intro x hx
  rw [setTo_len]
  rcases List.mem_or_eq_of_mem_set hx with hx | rfl
  · exact h x hx
  · exact h (rdn ns id) (rdn_mem h0 h1)
theorem reachN_wf {ns : List Nd} (h : Wf ns) (id tz : Int) (h0 : 0 ≤ id) (h1 : id < (ns.length : Int)) : Wf (reachN ns id tz) := by
  unfold reachN
  split
  · exact setTo_wf (setTo_wf h id tz h0 h1) id _ h0 (by rw [setTo_len]; exact h1)
  · exact setTo_wf h id tz h0 h1
/-- What a step of the parser keeps: so many more nodes for each token that is left. -/
structure Stp (ts : List Tk) (ns : List Nd) (r : St) (m : Nat) : Prop where
  len : ns.length ≤ r.2.length
  room : r.2.length + 6 * r.1.length + m ≤ ns.length + 6 * ts.length
  wf : Wf r.2
def OneOk (one : One) (m : Nat) : Prop := ∀ (p : Int) (ts : List Tk) (ns : List Nd), ts ≠ [] → 0 ≤ p → p < (ns.length : Int) → Wf ns → Stp ts ns (one p ts ns) m ∧ (one p ts ns).1.length < ts.length
theorem next_tail {ts : List Tk} (h : ts ≠ []) : ts.tail.length + 1 = ts.length := by
  cases ts with
  | nil => exact absurd rfl h
  | cons t r => simp
theorem next_cons (en : Int) (t : Tk) (r : List Tk) : nextT en (t :: r) = t := rfl
theorem scal_len (p : Int) (t : Tk) (ns : List Nd) : ns.length ≤ (scal p t ns).length ∧ (scal p t ns).length ≤ ns.length + 1 := by
  unfold scal; split
  · rw [putN_len]; omega
  · split
    · rw [putN_len]; omega
    · split
      · rw [putN_len]; omega
      · omega
theorem scal_wf {ns : List Nd} (h : Wf ns) (p : Int) (t : Tk) (h0 : 0 ≤ p) : Wf (scal p t ns) := by
  unfold scal; split
  · exact putN_wf h _ _ _ _ h0
  · split
    · exact putN_wf h _ _ _ _ h0
    · split
      · exact putN_wf h _ _ _ _ h0
      · exact h
theorem list_ok {one : One} (h : OneOk one 1) (bg : Tk → Bool) (en c id : Int) : ∀ (n : Nat) (s : Int) (ts : List Tk) (ns : List Nd), 0 ≤ id → id < (ns.length : Int) → Wf ns →
    ns.length ≤ (listN one bg en c id n s ts ns).2.length ∧ (listN one bg en c id n s ts ns).2.length + 6 * (listN one bg en c id n s ts ns).1.length ≤ ns.length + 6 * ts.length + 1 ∧ Wf (listN one bg en c id n s ts ns).2 ∧ (listN one bg en c id n s ts ns).1.length ≤ ts.length := by
  intro n
  induction n with
  | zero => intro s ts ns h0 h1 hw; exact ⟨Nat.le_refl _, by show ns.length + 6 * ts.length ≤ _; omega, hw, Nat.le_refl _⟩
  | succ n ih =>
    intro s ts ns h0 h1 hw
    cases ts with
    | nil =>
      have e := reachN_len (lackN ns id en) id en
      have e2 : (lackN ns id en).length = ns.length + 1 := putN_len _ _ _ _ _
      refine ⟨?_, ?_, ?_, Nat.le_refl _⟩
      · show _ ≤ (reachN (lackN ns id en) id en).length; omega
      · show (reachN (lackN ns id en) id en).length + 6 * 0 ≤ _; simp only [List.length_nil]; omega
      · exact reachN_wf (ns := lackN ns id en) (putN_wf hw _ _ _ _ h0) _ _ h0 (by omega)
    | cons t r =>
      rw [listN]
      have hlack : (lackN ns id t.f1).length = ns.length + 1 := putN_len _ _ _ _ _
      split
      · have hx : ∀ ms : List Nd, ms = (if s = 2 then lackN ns id t.f1 else ns) → ns.length ≤ ms.length ∧ ms.length ≤ ns.length + 1 ∧ Wf ms := by
          intro ms e; subst e; split
          · exact ⟨by omega, by omega, putN_wf hw _ _ _ _ h0⟩
          · exact ⟨by omega, by omega, hw⟩
        obtain ⟨a1, a2, a3⟩ := hx _ rfl
        have e := reachN_len (if s = 2 then lackN ns id t.f1 else ns) id t.f2
        refine ⟨?_, ?_, ?_, ?_⟩
        · show _ ≤ (reachN _ _ _).length; omega
        · show (reachN _ _ _).length + 6 * r.length ≤ _; simp only [List.length_cons]; omega
        · exact reachN_wf a3 _ _ h0 (by omega)
        · show r.length ≤ _; simp
      · split
        · obtain ⟨b1, b2, b3, b4⟩ := ih 2 r ns h0 h1 hw
          exact ⟨b1, by simp only [List.length_cons]; omega, b3, by simp only [List.length_cons]; omega⟩
        · split
          · have hx : ∀ ms : List Nd, ms = (if s = 1 then lackN ns id t.f1 else ns) → ns.length ≤ ms.length ∧ ms.length ≤ ns.length + 1 ∧ Wf ms := by
              intro ms e; subst e; split
              · exact ⟨by omega, by omega, putN_wf hw _ _ _ _ h0⟩
              · exact ⟨by omega, by omega, hw⟩
            obtain ⟨a1, a2, a3⟩ := hx _ rfl
            generalize (if s = 1 then lackN ns id t.f1 else ns) = ms at *
            obtain ⟨⟨c1, c2, c3⟩, c4⟩ := h id (t :: r) ms (by simp) h0 (by omega) a3
            obtain ⟨b1, b2, b3, b4⟩ := ih 1 (one id (t :: r) ms).1 (one id (t :: r) ms).2 h0 (by omega) c3
            exact ⟨by omega, by omega, b3, by omega⟩
          · have hl := putN_len ns id 7 t.f1 t.f2
            obtain ⟨b1, b2, b3, b4⟩ := ih s r (putN ns id 7 t.f1 t.f2) h0 (by rw [hl]; omega) (putN_wf hw _ _ _ _ h0)
            exact ⟨by omega, by simp only [List.length_cons]; omega, b3, by simp only [List.length_cons]; omega⟩
theorem wrap_ok {v : One} (h : OneOk v 4) (en : Int) : OneOk (wrapN v en) 3 := by
  intro p ts ns hn h0 h1 hw
  have hl := putN_len ns p 7 (nextT en ts).f1 (nextT en ts).f2
  obtain ⟨⟨c1, c2, c3⟩, c4⟩ := h ns.length ts (putN ns p 7 (nextT en ts).f1 (nextT en ts).f2) hn (by omega) (by omega) (putN_wf hw _ _ _ _ h0)
  have e := reachN_len (v ns.length ts (putN ns p 7 (nextT en ts).f1 (nextT en ts).f2)).2 ns.length (nextT en ts).f2
  refine ⟨⟨?_, ?_, reachN_wf c3 _ _ (by omega) (by omega)⟩, c4⟩
  · show _ ≤ (reachN _ _ _).length; omega
  · show (reachN _ _ _).length + 6 * (v _ _ _).1.length + 3 ≤ _; omega
theorem col_ok (en x : Int) (t : Tk) (a : St) (h0 : 0 ≤ x) (hw : Wf a.2) : a.2.length ≤ (colN en x t a).1.2.length ∧ (colN en x t a).1.2.length + 6 * (colN en x t a).1.1.length ≤ a.2.length + 6 * a.1.length + 1 ∧ Wf (colN en x t a).1.2 ∧ (colN en x t a).1.1.length ≤ a.1.length := by
  unfold colN
  split
  · rename_i h4
    refine ⟨Nat.le_refl _, ?_, hw, ?_⟩
    · simp only [List.length_tail]; omega
    · simp
  · have := putN_len a.2 x 7 (nextT en a.1).f1 (nextT en a.1).f1
    refine ⟨?_, ?_, putN_wf hw _ _ _ _ h0, Nat.le_refl _⟩
    · show _ ≤ (lackN _ _ _).length; unfold lackN; omega
    · show (lackN _ _ _).length + 6 * a.1.length ≤ _; unfold lackN; omega
theorem bg_some {k : Nat} {en : Int} {ts : List Tk} (h : bgK k (nextT en ts) = true) : ts ≠ [] := by
  rintro rfl
  simp [nextT, bgK] at h
theorem pv_ok {v : One} {m : Nat} (hv : OneOk v 4) (en x : Int) (k : Nat) (b : St) (h0 : 0 ≤ x) (h1 : x < (b.2.length : Int)) (hw : Wf b.2) : b.2.length ≤ (pvN v (bgK k) en x b).2.length ∧ (pvN v (bgK k) en x b).2.length + 6 * (pvN v (bgK k) en x b).1.length ≤ b.2.length + 6 * b.1.length + 1 ∧ Wf (pvN v (bgK k) en x b).2 ∧ (pvN v (bgK k) en x b).1.length ≤ b.1.length := by
  unfold pvN
  split
  · rename_i hb
    obtain ⟨⟨c1, c2, c3⟩, c4⟩ := hv x b.1 b.2 (bg_some hb) h0 h1 hw
    exact ⟨c1, by omega, c3, by omega⟩
  · have := putN_len b.2 x 7 (nextT en b.1).f1 (nextT en b.1).f1
    refine ⟨?_, ?_, putN_wf hw _ _ _ _ h0, Nat.le_refl _⟩
    · show _ ≤ (lackN _ _ _).length; unfold lackN; omega
    · show (lackN _ _ _).length + 6 * b.1.length ≤ _; unfold lackN; omega
theorem mem_ok {v : One} (hv : OneOk v 4) (k : Nat) (en : Int) : OneOk (memN v (bgK k) en) 1 := by
  intro p ts ns hn h0 h1 hw
  unfold memN
  split
  · have hl := putN_len ns p 3 (nextT en ts).f1 (nextT en ts).f2
    obtain ⟨⟨c1, c2, c3⟩, c4⟩ := hv ns.length ts (putN ns p 3 (nextT en ts).f1 (nextT en ts).f2) hn (by omega) (by omega) (putN_wf hw _ _ _ _ h0)
    generalize v ns.length ts (putN ns p 3 (nextT en ts).f1 (nextT en ts).f2) = a at *
    obtain ⟨d1, d2, d3, d4⟩ := col_ok en ns.length (nextT en ts) a (by omega) c3
    generalize hb : colN en ns.length (nextT en ts) a = b at *
    obtain ⟨e1, e2, e3, e4⟩ := pv_ok (m := 0) hv en ns.length k b.1 (by omega) (by omega) d3
    have e := reachN_len (pvN v (bgK k) en ns.length b.1).2 ns.length b.2
    unfold pairN
    rw [hb]
    refine ⟨⟨?_, ?_, reachN_wf e3 _ _ (by omega) (by omega)⟩, ?_⟩
    · show _ ≤ (reachN _ _ _).length; omega
    · show (reachN _ _ _).length + 6 * (pvN _ _ _ _ _).1.length + 1 ≤ _; omega
    · show (pvN _ _ _ _ _).1.length < _; omega
  · obtain ⟨⟨c1, c2, c3⟩, c4⟩ := wrap_ok hv en p ts ns hn h0 h1 hw
    exact ⟨⟨c1, by omega, c3⟩, c4⟩
theorem one_less {v : One} {m m' : Nat} (h : OneOk v m) (hm : m' ≤ m) : OneOk v m' := by
  intro p ts ns hn h0 h1 hw
  obtain ⟨⟨c1, c2, c3⟩, c4⟩ := h p ts ns hn h0 h1 hw
  exact ⟨⟨c1, by omega, c3⟩, c4⟩
theorem val_scal {p en : Int} {ts : List Tk} {ns : List Nd} (hn : ts ≠ []) (h0 : 0 ≤ p) (hw : Wf ns) : Stp ts ns (ts.tail, scal p (nextT en ts) ns) 4 ∧ ts.tail.length < ts.length := by
  have e := next_tail hn
  have := scal_len p (nextT en ts) ns
  exact ⟨⟨this.1, by show (scal _ _ _).length + 6 * ts.tail.length + 4 ≤ _; omega, scal_wf hw _ _ h0⟩, by omega⟩
theorem val_ok (en : Int) : ∀ k, OneOk (valN en k) 4 := by
  intro k
  induction k with
  | zero => intro p ts ns hn h0 h1 hw; exact val_scal hn h0 hw
  | succ k ih =>
    intro p ts ns hn h0 h1 hw
    have et := next_tail hn
    unfold valN
    split
    · have hl := putN_len ns p 1 (nextT en ts).f1 (nextT en ts).f2
      obtain ⟨a1, a2, a3, a4⟩ := list_ok (mem_ok ih k en) (bgK k) en 1 ns.length (ts.length + 1) 0 ts.tail (putN ns p 1 (nextT en ts).f1 (nextT en ts).f2) (by omega) (by omega) (putN_wf hw _ _ _ _ h0)
      exact ⟨⟨by omega, by omega, a3⟩, by omega⟩
    · split
      · have hl := putN_len ns p 2 (nextT en ts).f1 (nextT en ts).f2
        obtain ⟨a1, a2, a3, a4⟩ := list_ok (one_less ih (by omega)) (bgK k) en 3 ns.length (ts.length + 1) 0 ts.tail (putN ns p 2 (nextT en ts).f1 (nextT en ts).f2) (by omega) (by omega) (putN_wf hw _ _ _ _ h0)
        exact ⟨⟨by omega, by omega, a3⟩, by omega⟩
      · exact val_scal hn h0 hw
end Go.Proofs.Ytehojohacombkaa.Ps
