/- The plain law ParseMay: any text's tree may be; each of its tokens but blanks, remarks, signs stands in a leaf of it. -/
import Derived.Test.YtehojohacombkaaPa
import Derived.Test.YtehojohacombkaaPk
import Derived.Test.YtehojohacombkaaGMinuetlaw11PParseMay
import Derived.Test.YtehojohacombkaaGMinuetref9PTokens
namespace Go.Proofs.Ytehojohacombkaa.Ps
open Go.RowKit Go.Proofs.Ytehojohacombkaa.G Go.Proofs.YtehojohacombkaaW.PrintWords Go.Proofs.YtehojohacombkaaW.PrintLast
open Go.Proofs.Ytehojohacombkaa.Lx (Tk)
set_option linter.unusedVariables false
set_option linter.unusedSimpArgs false
/-- A leaf of a token. -/
def lf (c : Tk) (x : Nd) : Bool := x.f4.isEmpty && (x.f2 == c.f1 && (x.f3 == c.f2 && ((x.f1 == 7) == (c.f0 == 11))))
def cnt (c : Tk) (ns : List Nd) (a : Int) : Nat → Nat
  | 0 => 0
  | n + 1 => cnt c ns a n + (if lf c (rdn ns (a + (n : Int))) = true then 1 else 0)
theorem cnt_congr {c : Tk} {ns ns' : List Nd} {a : Int} : ∀ {n : Nat}, (∀ j : Nat, j < n → rdn ns' (a + (j : Int)) = rdn ns (a + (j : Int))) → cnt c ns' a n = cnt c ns a n := by
  intro n
  induction n with
  | zero => intro _; rfl
  | succ n ih => intro h; rw [cnt, cnt, ih (fun j hj => h j (by omega)), h n (by omega)]
theorem cnt_add (c : Tk) (ns : List Nd) (a : Int) (m : Nat) : ∀ n : Nat, cnt c ns a (m + n) = cnt c ns a m + cnt c ns (a + (m : Int)) n := by
  intro n
  induction n with
  | zero => rfl
  | succ n ih => rw [← Nat.add_assoc, cnt, cnt, ih, show a + ((m + n : Nat) : Int) = a + (m : Int) + (n : Int) by omega]; omega
/-- Tokens that begin where a token does. -/
def tc (c : Tk) (ts : List Tk) : Nat := ts.countP (fun t => t.f1 == c.f1)
theorem tc_cons (c t : Tk) (r : List Tk) : tc c (t :: r) = tc c r + (if t.f1 = c.f1 then 1 else 0) := by
  unfold tc; rw [List.countP_cons]
  by_cases h : t.f1 = c.f1
  · rw [if_pos h, if_pos (beq_iff_eq.mpr h)]
  · rw [if_neg h, if_neg (by simpa using h)]
structure Tkn (c : Tk) : Prop where
  lt : c.f1 < c.f2
  kind : c.f0 = 6 ∨ c.f0 = 7 ∨ c.f0 = 8 ∨ c.f0 = 11
def HD (c : Tk) (ts : List Tk) : Prop := ∀ t ∈ ts, t.f1 = c.f1 → t = c
theorem tc_skip {c t : Tk} {r : List Tk} (hc : Tkn c) (h : HD c (t :: r)) (hk : t.f0 ≠ 6 ∧ t.f0 ≠ 7 ∧ t.f0 ≠ 8 ∧ t.f0 ≠ 11) : tc c (t :: r) = tc c r := by
  rw [tc_cons, if_neg, Nat.add_zero]
  intro e
  have := h t (by simp) e
  subst this
  have := hc.kind; omega
theorem lf_no {c : Tk} {x : Nd} (h : x.f4 ≠ [] ∨ x.f2 ≠ c.f1 ∨ x.f3 ≠ c.f2) : lf c x = false := by
  unfold lf
  rcases h with h | h | h
  · rw [show x.f4.isEmpty = false by cases hx : x.f4 with | nil => exact absurd hx h | cons _ _ => rfl]; rfl
  · rw [beq_eq_false_iff_ne.mpr h, Bool.false_and, Bool.and_false]
  · rw [beq_eq_false_iff_ne.mpr h, Bool.false_and, Bool.and_false, Bool.and_false]
/-- What a step leaves: so many new leaves of the token as were taken. -/
structure Lv1 (c : Tk) (p : Int) (ts : List Tk) (ns : List Nd) (ts' : List Tk) (ns' : List Nd) : Prop where
  len : ns.length ≤ ns'.length
  old : ∀ i, 0 ≤ i → i < (ns.length : Int) → i ≠ p → rdn ns' i = rdn ns i
  f2 : (rdn ns' p).f2 = (rdn ns p).f2
  kids : ∃ m, (rdn ns' p).f4 = (rdn ns p).f4 ++ m
  sub : ∀ t ∈ ts', t ∈ ts
  ct : cnt c ns' ns.length (ns'.length - ns.length) + tc c ts' = tc c ts
theorem Lv1.trans {c : Tk} {p : Int} {ts ts1 ts2 : List Tk} {ns ns1 ns2 : List Nd} (h0 : 0 ≤ p) (hp : p < (ns.length : Int)) (h : Lv1 c p ts ns ts1 ns1) (g : Lv1 c p ts1 ns1 ts2 ns2) : Lv1 c p ts ns ts2 ns2 := by
  have l1 := h.len
  have l2 := g.len
  obtain ⟨m1, e1⟩ := h.kids
  obtain ⟨m2, e2⟩ := g.kids
  refine ⟨by omega, fun i i0 i1 i2 => by rw [g.old i i0 (by omega) i2, h.old i i0 i1 i2], by rw [g.f2, h.f2], ⟨m1 ++ m2, by rw [e2, e1, List.append_assoc]⟩, fun t ht => h.sub t (g.sub t ht), ?_⟩
  have a := cnt_add c ns2 ns.length (ns1.length - ns.length) (ns2.length - ns1.length)
  rw [show ns1.length - ns.length + (ns2.length - ns1.length) = ns2.length - ns.length by omega, show (ns.length : Int) + ((ns1.length - ns.length : Nat) : Int) = (ns1.length : Int) by omega] at a
  have b := cnt_congr (c := c) (ns := ns1) (ns' := ns2) (a := (ns.length : Int)) (n := ns1.length - ns.length) (fun j hj => g.old _ (by omega) (by omega) (by omega))
  have c1 := h.ct
  have c2 := g.ct
  omega
theorem Lv1.refl (c : Tk) (p : Int) (ts : List Tk) (ns : List Nd) : Lv1 c p ts ns ts ns := ⟨Nat.le_refl _, fun _ _ _ _ => rfl, rfl, ⟨[], by rw [List.append_nil]⟩, fun _ h => h, by rw [Nat.sub_self, cnt, Nat.zero_add]⟩
/-- A token passed by. -/
theorem Lv1.skip {c t : Tk} {p : Int} {r : List Tk} {ns : List Nd} (hc : Tkn c) (h : HD c (t :: r)) (hk : t.f0 ≠ 6 ∧ t.f0 ≠ 7 ∧ t.f0 ≠ 8 ∧ t.f0 ≠ 11) : Lv1 c p (t :: r) ns r ns :=
  ⟨Nat.le_refl _, fun _ _ _ _ => rfl, rfl, ⟨[], by rw [List.append_nil]⟩, fun _ h => List.mem_cons_of_mem _ h, by rw [Nat.sub_self, cnt, Nat.zero_add, tc_skip hc h hk]⟩
theorem lv_put {c : Tk} {p : Int} {ts ts' : List Tk} {ns : List Nd} (k f t : Int) (h0 : 0 ≤ p) (h1 : p < (ns.length : Int)) (hs : ∀ x ∈ ts', x ∈ ts) (hc : (if lf c (nd ns.length k f t) = true then 1 else 0) + tc c ts' = tc c ts) :
    Lv1 c p ts ns ts' (putN ns p k f t) := by
  have L := putN_len ns p k f t
  have rp : rdn (putN ns p k f t) p = withKid (rdn ns p) ns.length := by rw [rdn_put h0 h1 h0, if_pos rfl]
  have rn : rdn (putN ns p k f t) ns.length = nd ns.length k f t := by rw [rdn_put h0 h1 (by omega), if_neg (by omega), if_pos rfl]
  refine ⟨by omega, fun i i0 i1 i2 => by rw [rdn_put h0 h1 i0, if_neg i2, if_neg (by omega)], by rw [rp]; rfl, ⟨[(ns.length : Int)], by rw [rp]; rfl⟩, hs, ?_⟩
  rw [L, show ns.length + 1 - ns.length = 1 by omega, cnt, cnt, show (ns.length : Int) + ((0 : Nat) : Int) = (ns.length : Int) by omega, rn, Nat.zero_add]
  exact hc
theorem lf_lack {c : Tk} (hc : Tkn c) (i a : Int) : lf c (nd i 7 a a) = false := by
  have := hc.lt
  by_cases h : a = c.f1
  · exact lf_no (Or.inr (Or.inr (by show a ≠ c.f2; omega)))
  · exact lf_no (Or.inr (Or.inl h))
theorem lv_lack {c : Tk} {p : Int} {ts : List Tk} {ns : List Nd} (hc : Tkn c) (a : Int) (h0 : 0 ≤ p) (h1 : p < (ns.length : Int)) : Lv1 c p ts ns ts (lackN ns p a) :=
  lv_put 7 a a h0 h1 (fun _ h => h) (by rw [lf_lack hc, if_neg Bool.false_ne_true, Nat.zero_add])
theorem lv_stray {c t : Tk} {p : Int} {r : List Tk} {ns : List Nd} (hc : Tkn c) (hd : HD c (t :: r)) (hb : t.f0 ≠ 6 ∧ t.f0 ≠ 7 ∧ t.f0 ≠ 8) (h0 : 0 ≤ p) (h1 : p < (ns.length : Int)) : Lv1 c p (t :: r) ns r (putN ns p 7 t.f1 t.f2) := by
  refine lv_put 7 t.f1 t.f2 h0 h1 (fun _ h => List.mem_cons_of_mem _ h) ?_
  rw [tc_cons]
  by_cases e : t.f1 = c.f1
  · have e2 := hd t (by simp) e
    subst e2
    have hk : t.f0 = 11 := by have := hc.kind; omega
    rw [if_pos rfl, if_pos (by unfold lf nd; simp [hk])]; omega
  · rw [if_neg e, lf_no (Or.inr (Or.inl e)), if_neg Bool.false_ne_true]; omega
theorem lv_leaf {c t : Tk} {p k : Int} {r : List Tk} {ns : List Nd} (hc : Tkn c) (hd : HD c (t :: r)) (hk : k ≠ 7) (ht : t.f0 ≠ 11) (h0 : 0 ≤ p) (h1 : p < (ns.length : Int)) : Lv1 c p (t :: r) ns r (putN ns p k t.f1 t.f2) := by
  refine lv_put k t.f1 t.f2 h0 h1 (fun _ h => List.mem_cons_of_mem _ h) ?_
  rw [tc_cons]
  by_cases e : t.f1 = c.f1
  · have e2 := hd t (by simp) e
    subst e2
    rw [if_pos rfl, if_pos (by unfold lf nd; rw [beq_eq_false_iff_ne.mpr hk, beq_eq_false_iff_ne.mpr ht]; simp)]; omega
  · rw [if_neg e, lf_no (Or.inr (Or.inl e)), if_neg Bool.false_ne_true]; omega
theorem reach_keep {ns : List Nd} {id tz : Int} (h0 : 0 ≤ id) (h1 : id < (ns.length : Int)) : (rdn (reachN ns id tz) id).f2 = (rdn ns id).f2 ∧ (rdn (reachN ns id tz) id).f4 = (rdn ns id).f4 := by
  have L := setTo_len ns id tz
  have r1 : rdn (setTo ns id tz) id = withTo (rdn ns id) tz := by rw [rdn_setTo h0 h1 h0, if_pos rfl]
  unfold reachN; split
  · rw [rdn_setTo h0 (by omega) h0, if_pos rfl, r1]; exact ⟨rfl, rfl⟩
  · rw [r1]; exact ⟨rfl, rfl⟩
/-- The open node reaches further. -/
theorem Lv1.reach {c : Tk} {p : Int} {ts ts' : List Tk} {ns ns' : List Nd} (h0 : 0 ≤ p) (hp : p < (ns.length : Int)) (h : Lv1 c p ts ns ts' ns') (tz : Int) : Lv1 c p ts ns ts' (reachN ns' p tz) := by
  have l := h.len
  have L := reachN_len ns' p tz
  obtain ⟨k1, k2⟩ := reach_keep (tz := tz) h0 (by omega : p < (ns'.length : Int))
  refine ⟨by omega, fun i i0 i1 i2 => by rw [rdn_reach h0 (by omega) i0 i2]; exact h.old i i0 i1 i2, by rw [k1]; exact h.f2, by rw [k2]; exact h.kids, h.sub, ?_⟩
  rw [L, cnt_congr (ns := ns') (fun j hj => rdn_reach h0 (by omega) (by omega) (by omega))]
  exact h.ct
/-- An open child that is no leaf of the token is done. -/
theorem lv_close {c : Tk} {p : Int} {ts0 ts ts' : List Tk} {ns ns2 : List Nd} (k f t : Int) (h0 : 0 ≤ p) (h1 : p < (ns.length : Int)) (hs : ∀ x ∈ ts, x ∈ ts0) (ht : tc c ts = tc c ts0)
    (g : Lv1 c ns.length ts (putN ns p k f t) ts' ns2) (hx : lf c (rdn ns2 ns.length) = false) : Lv1 c p ts0 ns ts' ns2 := by
  have L := putN_len ns p k f t
  have L2 := g.len
  have rp : rdn (putN ns p k f t) p = withKid (rdn ns p) ns.length := by rw [rdn_put h0 h1 h0, if_pos rfl]
  have o := g.old p h0 (by omega) (by omega)
  refine ⟨by omega, fun i i0 i1 i2 => by rw [g.old i i0 (by omega) (by omega), rdn_put h0 h1 i0, if_neg i2, if_neg (by omega)], by rw [o, rp]; rfl, ⟨[(ns.length : Int)], by rw [o, rp]; rfl⟩, fun x hx => hs x (g.sub x hx), ?_⟩
  have a := cnt_add c ns2 ns.length 1 (ns2.length - (ns.length + 1))
  rw [show 1 + (ns2.length - (ns.length + 1)) = ns2.length - ns.length by omega, cnt, cnt, show (ns.length : Int) + ((0 : Nat) : Int) = (ns.length : Int) by omega, hx, if_neg Bool.false_ne_true] at a
  have b := g.ct
  rw [L, show ((ns.length + 1 : Nat) : Int) = (ns.length : Int) + ((1 : Nat) : Int) by omega] at b
  omega
theorem HD.sub {c : Tk} {ts ts' : List Tk} (h : HD c ts) (hs : ∀ t ∈ ts', t ∈ ts) : HD c ts' := fun t ht => h t (hs t ht)
def OneLv (c : Tk) (E : Int) (bg : Tk → Bool) (one : One) : Prop := ∀ (p : Int) (ts : List Tk) (ns : List Nd), bg (nextT E ts) = true → HD c ts → 0 ≤ p → p < (ns.length : Int) → Wf ns →
  Lv1 c p ts ns (one p ts ns).1 (one p ts ns).2 ∧ (rdn (one p ts ns).2 p).f4 ≠ []
theorem bg_no {k : Nat} {t : Tk} (h : bgK k t = false) : t.f0 ≠ 6 ∧ t.f0 ≠ 7 ∧ t.f0 ≠ 8 := by
  refine ⟨fun e => ?_, fun e => ?_, fun e => ?_⟩ <;> (unfold bgK at h; rw [e] at h; simp at h)
theorem list_lv {c : Tk} (hc : Tkn c) {E : Int} {k : Nat} {one : One} (ho : OneLv c E (bgK k) one) (hok : OneOk one 1) (cl id : Int) (hcl : cl = 1 ∨ cl = 3) : ∀ (n : Nat) (s : Int) (ts : List Tk) (ns : List Nd), ts.length < n → HD c ts → 0 ≤ id → id < (ns.length : Int) → Wf ns →
    Lv1 c id ts ns (listN one (bgK k) E cl id n s ts ns).1 (listN one (bgK k) E cl id n s ts ns).2 := by
  intro n
  induction n with
  | zero => intro s ts ns h; omega
  | succ n ih =>
    intro s ts ns hn hd h0 h1 hw
    cases ts with
    | nil => exact Lv1.reach h0 h1 (lv_lack hc E h0 h1) E
    | cons t r =>
      simp only [List.length_cons] at hn
      have hr : HD c r := hd.sub (fun x hx => List.mem_cons_of_mem _ hx)
      have lack : Lv1 c id (t :: r) ns (t :: r) (lackN ns id t.f1) := lv_lack hc t.f1 h0 h1
      have lackl : (lackN ns id t.f1).length = ns.length + 1 := putN_len _ _ _ _ _
      rw [listN]
      by_cases hcc : t.f0 = cl
      · rw [if_pos hcc]
        have sk : ∀ ms : List Nd, Lv1 c id (t :: r) ms r ms := fun ms => Lv1.skip hc hd (by omega)
        by_cases h2 : s = 2
        · rw [if_pos h2]; exact Lv1.reach h0 h1 (lack.trans h0 h1 (sk _)) t.f2
        · rw [if_neg h2]; exact Lv1.reach h0 h1 (sk _) t.f2
      · rw [if_neg hcc]
        by_cases h5 : t.f0 = 5 ∧ s = 1
        · rw [if_pos h5]
          exact (Lv1.skip hc hd (by omega)).trans h0 h1 (ih 2 r ns (by omega) hr h0 h1 hw)
        · rw [if_neg h5]
          by_cases hb : bgK k t = true
          · rw [if_pos hb]
            have key : ∀ ms : List Nd, Wf ms → Lv1 c id (t :: r) ns (t :: r) ms → Lv1 c id (t :: r) ns (listN one (bgK k) E cl id n 1 (one id (t :: r) ms).1 (one id (t :: r) ms).2).1 (listN one (bgK k) E cl id n 1 (one id (t :: r) ms).1 (one id (t :: r) ms).2).2 := by
              intro ms hwm hm
              have hl := hm.len
              obtain ⟨a, _⟩ := ho id (t :: r) ms hb hd h0 (by omega) hwm
              obtain ⟨⟨o1, o2, o3⟩, o4⟩ := hok id (t :: r) ms (by simp) h0 (by omega) hwm
              simp only [List.length_cons] at o4
              exact (hm.trans h0 h1 a).trans h0 h1 (ih 1 _ _ (by omega) (hd.sub a.sub) h0 (by omega) o3)
            by_cases h2 : s = 1
            · rw [if_pos h2]; exact key _ (putN_wf hw _ _ _ _ h0) lack
            · rw [if_neg h2]; exact key ns hw (Lv1.refl _ _ _ _)
          · rw [if_neg hb]
            have hpl := putN_len ns id 7 t.f1 t.f2
            exact (lv_stray hc hd (bg_no (by simpa using hb)) h0 h1).trans h0 h1 (ih s r _ (by omega) hr h0 (by omega) (putN_wf hw _ _ _ _ h0))
theorem wrap_lv {c : Tk} (hc : Tkn c) {E : Int} {k : Nat} {v : One} (ho : OneLv c E (bgK k) v) (hok : OneOk v 4) : OneLv c E (bgK k) (wrapN v E) := by
  intro p ts ns hb hd h0 h1 hw
  have L := putN_len ns p 7 (nextT E ts).f1 (nextT E ts).f2
  have hwf := putN_wf hw p 7 (nextT E ts).f1 (nextT E ts).f2 h0
  obtain ⟨a, b⟩ := ho ns.length ts (putN ns p 7 (nextT E ts).f1 (nextT E ts).f2) hb hd (by omega) (by omega) hwf
  have a2 := Lv1.reach (by omega) (by omega) a (nextT E ts).f2
  have hl := a.len
  obtain ⟨k1, k2⟩ := reach_keep (ns := (v ns.length ts (putN ns p 7 (nextT E ts).f1 (nextT E ts).f2)).2) (id := (ns.length : Int)) (tz := (nextT E ts).f2) (by omega) (by omega)
  have r := lv_close 7 (nextT E ts).f1 (nextT E ts).f2 h0 h1 (fun _ h => h) rfl a2 (lf_no (Or.inl (by rw [k2]; exact b)))
  refine ⟨r, ?_⟩
  have o := a2.old p h0 (by omega) (by omega)
  show (rdn (reachN _ _ _) p).f4 ≠ []
  rw [o, rdn_put h0 h1 h0, if_pos rfl]
  simp [withKid]
theorem kids_put {ns : List Nd} {p k f t : Int} (h0 : 0 ≤ p) (h1 : p < (ns.length : Int)) : (rdn (putN ns p k f t) p).f4 ≠ [] := by
  rw [rdn_put h0 h1 h0, if_pos rfl]; simp [withKid]
theorem mem_lv {c : Tk} (hc : Tkn c) {E : Int} {k : Nat} {v : One} (ho : OneLv c E (bgK k) v) (hok : OneOk v 4) : OneLv c E (bgK k) (memN v (bgK k) E) := by
  intro p ts ns hb hd h0 h1 hw
  unfold memN
  split
  · have L := putN_len ns p 3 (nextT E ts).f1 (nextT E ts).f2
    have hwf := putN_wf hw p 3 (nextT E ts).f1 (nextT E ts).f2 h0
    have hx0 : (0 : Int) ≤ (ns.length : Int) := by omega
    have hx1 : (ns.length : Int) < ((putN ns p 3 (nextT E ts).f1 (nextT E ts).f2).length : Int) := by omega
    obtain ⟨a, b⟩ := ho ns.length ts (putN ns p 3 (nextT E ts).f1 (nextT E ts).f2) hb hd hx0 hx1 hwf
    obtain ⟨⟨o1, o2, o3⟩, o4⟩ := hok ns.length ts (putN ns p 3 (nextT E ts).f1 (nextT E ts).f2) (bg_some hb) hx0 hx1 hwf
    have wc := (col_ok E ns.length (nextT E ts) _ hx0 o3).2.2.1
    have lc := (col_ok E ns.length (nextT E ts) _ hx0 o3).1
    generalize v ns.length ts (putN ns p 3 (nextT E ts).f1 (nextT E ts).f2) = q at a b o1 o2 o3 o4 wc lc
    have hq : HD c q.1 := hd.sub a.sub
    have hcol : Lv1 c ns.length q.1 q.2 (colN E ns.length (nextT E ts) q).1.1 (colN E ns.length (nextT E ts) q).1.2 := by
      unfold colN
      split
      · rename_i h4
        obtain ⟨q1, q2⟩ := q
        cases q1 with
        | nil => exact absurd h4 (by show ¬ (-1 : Int) = 4; decide)
        | cons t r =>
          have h4' : t.f0 = 4 := h4
          exact Lv1.skip hc hq (by omega)
      · exact lv_lack hc _ hx0 (by omega)
    unfold pairN
    generalize colN E ns.length (nextT E ts) q = d at hcol wc lc
    have hd2 : HD c d.1.1 := hq.sub hcol.sub
    have hp : Lv1 c ns.length d.1.1 d.1.2 (pvN v (bgK k) E ns.length d.1).1 (pvN v (bgK k) E ns.length d.1).2 := by
      unfold pvN
      split
      · rename_i hb2
        exact (ho ns.length d.1.1 d.1.2 hb2 hd2 hx0 (by omega) wc).1
      · exact lv_lack hc _ hx0 (by omega)
    have all := (a.trans hx0 hx1 hcol).trans hx0 hx1 hp
    have al := all.len
    have ar := Lv1.reach hx0 hx1 all d.2
    obtain ⟨k1, k2⟩ := reach_keep (ns := (pvN v (bgK k) E ns.length d.1).2) (id := (ns.length : Int)) (tz := d.2) hx0 (by omega)
    have ne : (rdn (reachN (pvN v (bgK k) E ns.length d.1).2 ns.length d.2) ns.length).f4 ≠ [] := by
      rw [k2]
      obtain ⟨m1, e1⟩ := hcol.kids
      obtain ⟨m2, e2⟩ := hp.kids
      rw [e2, e1]
      intro h
      exact b (List.append_eq_nil_iff.1 (List.append_eq_nil_iff.1 h).1).1
    have r := lv_close 3 (nextT E ts).f1 (nextT E ts).f2 h0 h1 (fun _ h => h) rfl ar (lf_no (Or.inl ne))
    refine ⟨r, ?_⟩
    have o := ar.old p h0 (by omega) (by omega)
    show (rdn (reachN _ _ _) p).f4 ≠ []
    rw [o]
    exact kids_put h0 h1
  · exact wrap_lv hc ho hok p ts ns hb hd h0 h1 hw
theorem scal_lv {c t : Tk} {r : List Tk} {ns : List Nd} (hc : Tkn c) (hd : HD c (t :: r)) (ht : t.f0 = 6 ∨ t.f0 = 7 ∨ t.f0 = 8) {p : Int} (h0 : 0 ≤ p) (h1 : p < (ns.length : Int)) :
    Lv1 c p (t :: r) ns r (scal p t ns) ∧ (rdn (scal p t ns) p).f4 ≠ [] := by
  unfold scal
  rcases ht with e | e | e
  · rw [if_pos e]; exact ⟨lv_leaf hc hd (by decide) (by omega) h0 h1, kids_put h0 h1⟩
  · rw [if_neg (by omega), if_pos e]; exact ⟨lv_leaf hc hd (by decide) (by omega) h0 h1, kids_put h0 h1⟩
  · rw [if_neg (by omega), if_neg (by omega), if_pos e]; exact ⟨lv_leaf hc hd (by decide) (by omega) h0 h1, kids_put h0 h1⟩
theorem val_lv {c : Tk} (hc : Tkn c) (E : Int) : ∀ k, OneLv c E (bgK k) (valN E k) := by
  intro k
  induction k with
  | zero =>
    intro p ts ns hb hd h0 h1 hw
    cases ts with
    | nil => exact absurd rfl (bg_some hb)
    | cons t r =>
      have hb' : bgK 0 t = true := hb
      refine scal_lv hc hd ?_ h0 h1
      unfold bgK at hb'
      simp at hb'
      omega
  | succ k ih =>
    intro p ts ns hb hd h0 h1 hw
    cases ts with
    | nil => exact absurd rfl (bg_some hb)
    | cons t r =>
      have hb' : bgK (k + 1) t = true := hb
      have hr : HD c r := hd.sub (fun x hx => List.mem_cons_of_mem _ hx)
      have lst : ∀ (one : One) (cl K : Int), (t.f0 = 0 ∨ t.f0 = 2) → (cl = 1 ∨ cl = 3) → OneLv c E (bgK k) one → OneOk one 1 →
          Lv1 c p (t :: r) ns (listN one (bgK k) E cl ns.length ((t :: r).length + 1) 0 r (putN ns p K t.f1 t.f2)).1 (listN one (bgK k) E cl ns.length ((t :: r).length + 1) 0 r (putN ns p K t.f1 t.f2)).2 ∧ (rdn (listN one (bgK k) E cl ns.length ((t :: r).length + 1) 0 r (putN ns p K t.f1 t.f2)).2 p).f4 ≠ [] := by
        intro one cl K ht hcl ho hok
        have L := putN_len ns p K t.f1 t.f2
        have a := list_lv hc ho hok cl ns.length hcl ((t :: r).length + 1) 0 r (putN ns p K t.f1 t.f2) (by simp only [List.length_cons]; omega) hr (by omega) (by omega) (putN_wf hw _ _ _ _ h0)
        have f2 := a.f2
        rw [rdn_put h0 h1 (by omega), if_neg (by omega), if_pos rfl] at f2
        have f2' : (rdn (listN one (bgK k) E cl ns.length ((t :: r).length + 1) 0 r (putN ns p K t.f1 t.f2)).2 ns.length).f2 = t.f1 := f2
        have hne : t.f1 ≠ c.f1 := by
          intro e
          have := hd t (by simp) e
          subst this
          have := hc.kind; omega
        have r1 := lv_close (ts0 := t :: r) K t.f1 t.f2 h0 h1 (fun x hx => List.mem_cons_of_mem _ hx) (tc_skip hc hd (by omega)).symm a (lf_no (Or.inr (Or.inl (by rw [f2']; exact hne))))
        refine ⟨r1, ?_⟩
        rw [a.old p h0 (by omega) (by omega)]
        exact kids_put h0 h1
      unfold valN
      split
      · rename_i e; exact lst _ 1 1 (Or.inl e) (Or.inl rfl) (mem_lv hc ih (val_ok E k)) (mem_ok (val_ok E k) k E)
      · split
        · rename_i e; exact lst _ 3 2 (Or.inr e) (Or.inr rfl) ih (one_less (val_ok E k) (by omega))
        · rename_i e1 e2
          refine scal_lv hc hd ?_ h0 h1
          have e1' : ¬ t.f0 = 0 := e1
          have e2' : ¬ t.f0 = 2 := e2
          unfold bgK at hb'
          simp at hb'
          omega
theorem main_lv {c : Tk} (hc : Tkn c) (E : Int) : ∀ (n : Nat) (had : Bool) (ts : List Tk) (ns : List Nd), ts.length < n → HD c ts → 1 ≤ ns.length → Wf ns → Lv1 c 0 ts ns [] (mainN (valN E 12) (bgK 12) E n had ts ns) := by
  intro n
  induction n with
  | zero => intro had ts ns h; omega
  | succ n ih =>
    intro had ts ns hn hd h1 hw
    have zz : (0 : Int) ≤ 0 := Int.le_refl 0
    have z1 : (0 : Int) < (ns.length : Int) := by omega
    cases ts with
    | nil =>
      rw [mainN]; split
      · exact Lv1.refl _ _ _ _
      · exact lv_lack hc E zz z1
    | cons t r =>
      simp only [List.length_cons] at hn
      rw [mainN]
      by_cases hb : bgK 12 t = true
      · rw [if_pos hb]
        split
        · obtain ⟨a, _⟩ := wrap_lv hc (val_lv hc E 12) (val_ok E 12) 0 (t :: r) ns hb hd zz z1 hw
          obtain ⟨⟨o1, o2, o3⟩, o4⟩ := wrap_ok (val_ok E 12) E 0 (t :: r) ns (by simp) zz z1 hw
          simp only [List.length_cons] at o4
          exact a.trans zz z1 (ih true _ _ (by omega) (hd.sub a.sub) (by omega) o3)
        · obtain ⟨a, _⟩ := val_lv hc E 12 0 (t :: r) ns hb hd zz z1 hw
          obtain ⟨⟨o1, o2, o3⟩, o4⟩ := val_ok E 12 0 (t :: r) ns (by simp) zz z1 hw
          simp only [List.length_cons] at o4
          exact a.trans zz z1 (ih true _ _ (by omega) (hd.sub a.sub) (by omega) o3)
      · rw [if_neg hb]
        have L := putN_len ns 0 7 t.f1 t.f2
        have a := lv_stray hc hd (bg_no (by simpa using hb)) zz z1
        exact a.trans zz z1 (ih had r _ (by omega) (hd.sub a.sub) (by omega) (putN_wf hw _ _ _ _ zz))
end Go.Proofs.Ytehojohacombkaa.Ps
namespace Go.Proofs.Ytehojohacombkaa.Pl
open Go.RowKit Go.Proofs.Ytehojohacombkaa.G Go.Proofs.Ytehojohacombkaa.Lx Go.Proofs.YtehojohacombkaaW.PrintWords Go.Proofs.YtehojohacombkaaW.PrintLast Go.Proofs.YtehojohacombkaaW.PrintMore
open Go.Proofs.Ytehojohacombkaa.Gd (solid)
open Go.Proofs.Ytehojohacombkaa.Ps (Nd rdn nodesN cnt lf tc Tkn HD Lv1 mayT nd putN)
set_option linter.unusedVariables false
set_option linter.unusedSimpArgs false
theorem rtoks_l0 (s : ByteArray) (hs : s.size ≤ 300) : ∀ (n i : Nat) (xs : List Tk), i ≤ s.size → s.size ≤ i + n → xs.length ≤ i →
    Ev (fun k => minuetref9_Tokens.l0 k s xs (i : Int)) (xs ++ tks n i ((byt s).drop i), 0) := by
  intro n
  induction n with
  | zero =>
    intro i xs h h2 h3
    refine Ev.step (fun k => by rw [minuetref9_Tokens.l0]) ?_
    simp only [if_neg (show ¬ (i : Int) < (s.size : Int) by omega), tks, List.append_nil]
    exact Ev.now _
  | succ n ih =>
    intro i xs h h2 h3
    refine Ev.step (fun k => by rw [minuetref9_Tokens.l0]) ?_
    by_cases hi : i < s.size
    · have hd := byt_drop s i hi
      have hle := @tk_le (s[i]'hi) ((byt s).drop (i + 1))
      rw [← hd, List.length_drop, byt_len] at hle
      have hf : minuetref9_token.f s (i : Int) = some ((tk ((byt s).drop i)).1, (i : Int), ((i + (tk ((byt s).drop i)).2 : Nat) : Int)) := by
        unfold minuetref9_token.f
        rw [if_pos ⟨hs, by omega, by omega⟩, Int.toNat_natCast]
        simp only [Option.some.injEq, Prod.mk.injEq, true_and]
        omega
      simp only [if_pos (show (i : Int) < (s.size : Int) by omega), hf, opt_some, if_pos (show xs.length < 5864062014805 by omega)]
      have go := ih (i + (tk ((byt s).drop i)).2) (xs ++ [(⟨(tk ((byt s).drop i)).1, (i : Int), ((i + (tk ((byt s).drop i)).2 : Nat) : Int)⟩ : Tk)]) (by omega) (by omega) (by simp only [List.length_append, List.length_singleton]; omega)
      have e : tks (n + 1) i ((byt s).drop i) = (⟨(tk ((byt s).drop i)).1, (i : Int), ((i + (tk ((byt s).drop i)).2 : Nat) : Int)⟩ : Tk) :: tks n (i + (tk ((byt s).drop i)).2) ((byt s).drop (i + (tk ((byt s).drop i)).2)) := by
        rw [← List.drop_drop]
        rw [hd, tks]
      rw [e]
      simpa using go
    · simp only [if_neg (show ¬ (i : Int) < (s.size : Int) by omega)]
      rw [List.drop_eq_nil_of_le (by rw [byt_len]; omega), tks_nil, List.append_nil]
      exact Ev.now _
theorem rtok_ev {s : ByteArray} (h : s.size ≤ 300) : Ev (fun k => minuetref9_Tokens.f k s) (toks (byt s), 0) := by
  refine Ev.congr (fun k => by rw [minuetref9_Tokens.f, if_neg (by omega)]) ?_
  have := rtoks_l0 s h s.size 0 [] (by omega) (by omega) (by simp)
  simpa [toks, byt_len] using this
/-! ### each token once -/
theorem tks_pw : ∀ (n i : Nat) (l : List UInt8), (tks n i l).Pairwise (fun a b => a.f1 < b.f1) := by
  intro n
  induction n with
  | zero => intro i l; exact List.Pairwise.nil
  | succ n ih =>
    intro i l
    cases l with
    | nil => exact List.Pairwise.nil
    | cons b r =>
      have h2 := tk_le (b := b) (r := r)
      rw [tks]
      refine List.pairwise_cons.2 ⟨fun c hc => ?_, ih _ _⟩
      have := tks_bd _ _ _ _ hc
      show (i : Int) < c.f1
      omega
theorem tc_none {c : Tk} : ∀ {ts : List Tk}, (∀ t ∈ ts, t.f1 ≠ c.f1) → tc c ts = 0 := by
  intro ts
  induction ts with
  | nil => intro _; rfl
  | cons t r ih => intro h; rw [Go.Proofs.Ytehojohacombkaa.Ps.tc_cons, ih (fun x hx => h x (by simp [hx])), if_neg (h t (by simp))]
theorem tc_one {c : Tk} : ∀ {ts : List Tk}, ts.Pairwise (fun a b => a.f1 < b.f1) → c ∈ ts → tc c ts = 1 ∧ HD c ts := by
  intro ts
  induction ts with
  | nil => intro _ h; cases h
  | cons t r ih =>
    intro hp hm
    obtain ⟨p1, p2⟩ := List.pairwise_cons.1 hp
    rcases List.mem_cons.1 hm with rfl | hm
    · have hn : ∀ x ∈ r, x.f1 ≠ c.f1 := fun x hx => by have := p1 x hx; omega
      refine ⟨by rw [Go.Proofs.Ytehojohacombkaa.Ps.tc_cons, tc_none hn, if_pos rfl], fun x hx e => ?_⟩
      rcases List.mem_cons.1 hx with rfl | hx
      · rfl
      · exact absurd e (hn x hx)
    · obtain ⟨i1, i2⟩ := ih p2 hm
      have hlt := p1 c hm
      refine ⟨by rw [Go.Proofs.Ytehojohacombkaa.Ps.tc_cons, i1, if_neg (by omega)], fun x hx e => ?_⟩
      rcases List.mem_cons.1 hx with rfl | hx
      · omega
      · exact i2 x hx e
theorem nodes_leaf {l : List UInt8} {c : Tk} (hm : c ∈ toks l) (hk : c.f0 = 6 ∨ c.f0 = 7 ∨ c.f0 = 8 ∨ c.f0 = 11) : cnt c (nodesN l) 0 (nodesN l).length = 1 := by
  have hbd := toks_bd hm
  have hc : Tkn c := ⟨hbd.2.1, hk⟩
  have hs : c ∈ solid (toks l) := List.mem_filter.2 ⟨hm, by rcases hk with h | h | h | h <;> (rw [h]; rfl)⟩
  obtain ⟨t1, t2⟩ := tc_one (List.Pairwise.filter _ (tks_pw l.length 0 l)) hs
  obtain ⟨ne, W⟩ := Go.Proofs.Ytehojohacombkaa.Ps.nodes_whole l
  have hw : Go.Proofs.Ytehojohacombkaa.Ps.Wf (putN [] 0 0 0 (l.length : Int)) := Go.Proofs.Ytehojohacombkaa.Ps.putN_wf Go.Proofs.Ytehojohacombkaa.Ps.wf_nil _ _ _ _ (Int.le_refl 0)
  have h1 : (putN [] 0 0 0 (l.length : Int)).length = 1 := rfl
  have m : Lv1 c 0 (solid (toks l)) (putN [] 0 0 0 (l.length : Int)) [] (nodesN l) := Go.Proofs.Ytehojohacombkaa.Ps.main_lv hc (l.length : Int) ((solid (toks l)).length + 1) false (solid (toks l)) (putN [] 0 0 0 (l.length : Int)) (Nat.lt_succ_self _) t2 (Nat.le_of_eq h1.symm) hw
  have ml := m.len
  have mc := m.ct
  rw [h1] at ml mc
  have hn := (nodes_len l).1
  have hr : lf c (rdn (nodesN l) 0) = false := by
    refine Go.Proofs.Ytehojohacombkaa.Ps.lf_no (Or.inl (fun h => ?_))
    have := W.ch
    rw [h] at this
    have h9 := this.1
    omega
  have a := Go.Proofs.Ytehojohacombkaa.Ps.cnt_add c (nodesN l) 0 1 ((nodesN l).length - 1)
  rw [show 1 + ((nodesN l).length - 1) = (nodesN l).length by omega, cnt, cnt, show (0 : Int) + ((0 : Nat) : Int) = 0 from rfl, hr, if_neg Bool.false_ne_true, show (0 : Int) + ((1 : Nat) : Int) = ((1 : Nat) : Int) from rfl] at a
  have z : tc c [] = 0 := rfl
  have e : tc c (solid (toks l)) = 1 := t1
  omega
/-! ### the law -/
theorem par_okm {s : ByteArray} (h : s.size ≤ 300) : parse_Parse.f s = some (0, ((nodesN (byt s)).length : Int), nodesN (byt s), 0) := by
  unfold parse_Parse.f; rw [if_neg (by omega)]
theorem cnt_le (c : Tk) (ns : List Nd) (a : Int) : ∀ n, cnt c ns a n ≤ n := by
  intro n
  induction n with
  | zero => exact Nat.le_refl _
  | succ n ih => rw [cnt]; split <;> omega
theorem pm_l1 {ts : List Tk} {ns : List Nd} {c : Tk} {f a b : Int} {i : Nat} (hi : i < ts.length) (hrd : rd_T46 ts (i : Int) = c) (hl : ns.length ≤ 5000) (hts : ts.length ≤ 5000)
    (h1 : cnt c ns 0 ns.length = 1) (go : Ev (fun k => minuetlaw11_ParseMay.l0 k ts f ((i + 1 : Nat) : Int) a b ns) true) :
    ∀ (n j : Nat), j + n = ns.length → Ev (fun k => minuetlaw11_ParseMay.l1 k ts f (i : Int) c.f0 ((cnt c ns 0 j : Nat) : Int) (j : Int) a b ns) true := by
  intro n
  induction n with
  | zero =>
    intro j h
    have e : j = ns.length := by omega
    subst e
    refine Ev.step (fun k => by rw [minuetlaw11_ParseMay.l1]) ?_
    simp only [if_neg (show ¬ ((ns.length : Nat) : Int) < (ns.length : Int) by omega), h1, if_pos (show ((1 : Nat) : Int) = 1 from rfl)]
    rw [show wrap64 ((i : Int) + 1) = ((i + 1 : Nat) : Int) by rw [w64 (by omega) (by omega)]; omega]
    exact go
  | succ n ih =>
    intro j h
    have nx := ih (j + 1) (by omega)
    have hle := cnt_le c ns 0 j
    rw [cnt, show (0 : Int) + (j : Int) = (j : Int) by omega] at nx
    have w1 : wrap64 ((j : Int) + 1) = ((j + 1 : Nat) : Int) := by rw [w64 (by omega) (by omega)]; omega
    have w2 : wrap64 (((cnt c ns 0 j : Nat) : Int) + 1) = ((cnt c ns 0 j + 1 : Nat) : Int) := by rw [w64 (by omega) (by omega)]; omega
    refine Ev.step (fun k => by rw [minuetlaw11_ParseMay.l1]) ?_
    simp only [if_pos (show (j : Int) < (ns.length : Int) by omega), if_pos (show (0 : Int) ≤ (j : Int) by omega), if_pos (show (0 : Int) ≤ (i : Int) by omega), if_pos (show (i : Int) < (ts.length : Int) by omega), hrd, w1, w2]
    have lfe : lf c (rd_T34 ns (j : Int)) = ((rd_T34 ns (j : Int)).f4.isEmpty && ((rd_T34 ns (j : Int)).f2 == c.f1 && ((rd_T34 ns (j : Int)).f3 == c.f2 && (((rd_T34 ns (j : Int)).f1 == 7) == (c.f0 == 11))))) := rfl
    have nx' : Ev (fun k => minuetlaw11_ParseMay.l1 k ts f (i : Int) c.f0 ((cnt c ns 0 j + (if lf c (rd_T34 ns (j : Int)) = true then 1 else 0) : Nat) : Int) ((j + 1 : Nat) : Int) a b ns) true := nx
    generalize rd_T34 ns (j : Int) = x at nx' lfe
    have no : lf c x = false → Ev (fun k => minuetlaw11_ParseMay.l1 k ts f (i : Int) c.f0 ((cnt c ns 0 j : Nat) : Int) ((j + 1 : Nat) : Int) a b ns) true := by
      intro e
      rw [e, if_neg Bool.false_ne_true, Nat.add_zero] at nx'
      exact nx'
    refine Ev_ite (fun c1 => Ev_ite (fun c2 => Ev_ite (fun c3 => Ev_ite (fun c4 => ?_) (fun c4 => no ?_)) (fun c3 => no ?_)) (fun c2 => no ?_)) (fun c1 => no ?_)
    · have hx : x.f4 = [] := List.eq_nil_of_length_eq_zero (by omega)
      have e : lf c x = true := by rw [lfe, hx, c2, c3, c4]; simp
      rw [e, if_pos rfl] at nx'
      exact nx'
    · rw [lfe, show ((x.f1 == 7) == (c.f0 == 11)) = false by simpa using c4]; simp
    · exact Go.Proofs.Ytehojohacombkaa.Ps.lf_no (Or.inr (Or.inr c3))
    · exact Go.Proofs.Ytehojohacombkaa.Ps.lf_no (Or.inr (Or.inl c2))
    · exact Go.Proofs.Ytehojohacombkaa.Ps.lf_no (Or.inl (fun h => c1 (by rw [h]; rfl)))
theorem pm_l0 {ts : List Tk} {ns : List Nd} {a b : Int} (hl : ns.length ≤ 5000) (hts : ts.length ≤ 5000) (h1 : ∀ c ∈ ts, (c.f0 = 6 ∨ c.f0 = 7 ∨ c.f0 = 8 ∨ c.f0 = 11) → cnt c ns 0 ns.length = 1) :
    ∀ (n i : Nat), i + n = ts.length → Ev (fun k => minuetlaw11_ParseMay.l0 k ts 0 (i : Int) a b ns) true := by
  intro n
  induction n with
  | zero =>
    intro i h
    refine Ev.step (fun k => by rw [minuetlaw11_ParseMay.l0]) ?_
    simp only [if_neg (show ¬ (i : Int) < (ts.length : Int) by omega), beq_self_eq_true]
    exact Ev.now _
  | succ n ih =>
    intro i h
    have go := ih (i + 1) (by omega)
    have hi : i < ts.length := by omega
    obtain ⟨c, hc⟩ : ∃ c, rd_T46 ts (i : Int) = c := ⟨_, rfl⟩
    have hm : c ∈ ts := by rw [← hc]; exact rd_mem hi
    have take : (c.f0 = 6 ∨ c.f0 = 7 ∨ c.f0 = 8 ∨ c.f0 = 11) → Ev (fun k => minuetlaw11_ParseMay.j2 k ts 0 (i : Int) c.f0 false a b ns) true := by
      intro hk
      refine Ev.step (fun k => by rw [minuetlaw11_ParseMay.j2]) ?_
      simp only [Bool.false_eq_true, if_false]
      exact pm_l1 hi hc hl hts (h1 c hm hk) go ns.length 0 (by omega)
    refine Ev.step (fun k => by rw [minuetlaw11_ParseMay.l0]) ?_
    simp only [if_pos (show (i : Int) < (ts.length : Int) by omega), if_pos (show (0 : Int) ≤ (i : Int) by omega), hc]
    refine Ev_ite (fun c1 => take (by omega)) (fun c1 => Ev_ite (fun c2 => take (by omega)) (fun c2 => Ev_ite (fun c3 => take (by omega)) (fun c3 => ?_)))
    by_cases c4 : c.f0 = 11
    · rw [show (c.f0 != 11) = false from bne_eq_false_iff_eq.mpr c4]; exact take (by omega)
    · rw [show (c.f0 != 11) = true from bne_iff_ne.mpr c4]
      refine Ev.step (fun k => by rw [minuetlaw11_ParseMay.j2]) ?_
      simp only [if_true]
      rw [show wrap64 ((i : Int) + 1) = ((i + 1 : Nat) : Int) by rw [w64 (by omega) (by omega)]; omega]
      exact go
theorem nodes_may (s : ByteArray) (h : s.size ≤ 300) : mayT 0 ((nodesN (byt s)).length : Int) (s.size : Int) (nodesN (byt s)) = true := by
  obtain ⟨ne, W⟩ := Go.Proofs.Ytehojohacombkaa.Ps.nodes_whole (byt s)
  have B := nodes_bd (byt s)
  have hl := (nodes_len (byt s)).2
  rw [byt_len] at W B hl
  exact Go.Proofs.Ytehojohacombkaa.Ps.may_whole W B (by omega) (by omega) (by omega)
theorem wf_sm (x : Int) (h0 : 0 ≤ x) (h1 : x ≤ 100000) : (Lit.int .i64 x).wf = true := by
  unfold Lit.wf
  simp [IntKind.min, IntKind.max, IntKind.signed, IntKind.bits]
  omega
theorem nodes_ok (s : ByteArray) (h : s.size ≤ 300) : parse_May.ok (nodesN (byt s)) = true := by
  obtain ⟨ne, W⟩ := Go.Proofs.Ytehojohacombkaa.Ps.nodes_whole (byt s)
  have U := Go.Proofs.Ytehojohacombkaa.Ps.uni_of W (by omega)
  have hw := nodes_wf (byt s)
  have hl := (nodes_len (byt s)).2
  rw [byt_len] at hl
  unfold parse_May.ok
  rw [List.all_eq_true]
  intro x hx
  obtain ⟨k1, k2⟩ := hw x hx
  obtain ⟨i, hi, e⟩ := List.getElem_of_mem hx
  have ex : rdn (nodesN (byt s)) (i : Int) = x := by
    rw [← e]
    unfold rdn rd_T34
    rw [List.getD_eq_getElem?_getD, show ((i : Int)).toNat = i by omega, List.getElem?_eq_getElem hi]; rfl
  have hid := (U.at_ (i : Int) (by omega) (by omega)).2.2.1
  rw [ex] at hid
  have a1 : (Lit.int .i64 x.f0).wf = true := wf_sm _ (by omega) (by omega)
  have a2 : (x.f4.all fun y => (Lit.int .i64 y).wf) = true := by
    rw [List.all_eq_true]
    intro k hk
    have := k2 k hk
    exact wf_sm k (by omega) (by omega)
  have a3 : decide (x.f4.length < 4611686018427387904) = true := decide_eq_true (by omega)
  simp only [a1, a2, a3, Bool.and_self]
theorem ParseMay_pure (a0 : ByteArray) (_hs : a0.size ≤ 140737488351232) : ∃ k, minuetlaw11_ParseMay.f k a0 = some true := by
  refine Ev.rounds (Ev.congr (fun k => by rw [minuetlaw11_ParseMay.f]) ?_)
  refine Ev.bind awake11 ?_
  simp only [if_true]
  by_cases h : (a0.size : Int) > 300
  · have e2 : parse_Parse.f a0 = some (0, 0, [], 1100) := by unfold parse_Parse.f; rw [if_pos h]
    simp only [e2, opt_some, if_pos h, num_eq, if_true]
    exact Ev.now _
  · have h' : a0.size ≤ 300 := by omega
    have em : parse_May.f 0 ((nodesN (byt a0)).length : Int) (nodesN (byt a0)) (a0.size : Int) = some true := by
      unfold parse_May.f; rw [if_pos (nodes_ok a0 h'), nodes_may a0 h']
    simp only [par_okm h', opt_some, if_neg h, num_eq, if_true, em, bne_self_eq_false]
    refine Ev.step (fun k => by rw [minuetlaw11_ParseMay.j0]) ?_
    simp only [Bool.false_eq_true, if_false]
    refine Ev.bind (rtok_ev h') ?_
    have hl := (nodes_len (byt a0)).2
    have ht := toks_len (byt a0)
    rw [byt_len] at hl ht
    exact pm_l0 (by omega) (by omega) (fun c hc hk => nodes_leaf hc hk) (toks (byt a0)).length 0 (by omega)
end Go.Proofs.Ytehojohacombkaa.Pl
