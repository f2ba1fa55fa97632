/- Several texts in one. -/
import Derived.Test.YtehojohacombkaaPm1
import Derived.Test.YtehojohacombkaaLa
/- A table of nodes read behind a put, behind a place set. Plain. -/
namespace Go.Proofs.Ytehojohacombkaa.Ps
open Go.RowKit Go.Proofs.Ytehojohacombkaa.G Go.Proofs.YtehojohacombkaaW.PrintWords Go.Proofs.YtehojohacombkaaW.PrintLast
open Go.Proofs.Ytehojohacombkaa.Lx (Tk)
set_option linter.unusedVariables false
set_option linter.unusedSimpArgs false
theorem rdn_set {ns : List Nd} {i : Int} {x : Nd} {j : Int} (h0 : 0 ≤ i) (h1 : i < (ns.length : Int)) (hj : 0 ≤ j) : rdn (ns.set i.toNat x) j = if j = i then x else rdn ns j := by
  unfold rdn rd_T34
  rw [List.getD_eq_getElem?_getD, List.getD_eq_getElem?_getD, List.getElem?_set]
  by_cases h : j = i
  · subst h; rw [if_pos rfl, if_pos (by omega), if_pos rfl]; rfl
  · rw [if_neg (by omega), if_neg h]
theorem rdn_snoc {ns : List Nd} {x : Nd} {j : Int} (hj : 0 ≤ j) : rdn (ns ++ [x]) j = if j = (ns.length : Int) then x else rdn ns j := by
  unfold rdn rd_T34
  rw [List.getD_eq_getElem?_getD, List.getD_eq_getElem?_getD, List.getElem?_append]
  by_cases h : j = (ns.length : Int)
  · rw [if_pos h, if_neg (by omega), show j.toNat - ns.length = 0 by omega]; rfl
  · rw [if_neg h]
    by_cases h2 : j.toNat < ns.length
    · rw [if_pos h2]
    · rw [if_neg h2, List.getElem?_eq_none (l := [x]) (by simp only [List.length_cons, List.length_nil]; omega), List.getElem?_eq_none (by omega)]
theorem rdn_put {ns : List Nd} {p k f t j : Int} (h0 : 0 ≤ p) (h1 : p < (ns.length : Int)) (hj : 0 ≤ j) :
    rdn (putN ns p k f t) j = if j = p then withKid (rdn ns p) ns.length else if j = (ns.length : Int) then nd ns.length k f t else rdn ns j := by
  unfold putN kidAdd
  rw [if_pos (by omega), rdn_set h0 (by simp only [List.length_append, List.length_cons, List.length_nil]; omega) hj, rdn_snoc hj, rdn_snoc h0, if_neg (by omega : ¬ p = (ns.length : Int))]
theorem rdn_setTo {ns : List Nd} {id tz j : Int} (h0 : 0 ≤ id) (h1 : id < (ns.length : Int)) (hj : 0 ≤ j) :
    rdn (setTo ns id tz) j = if j = id then withTo (rdn ns id) tz else rdn ns j := by
  unfold setTo; exact rdn_set h0 h1 hj
end Go.Proofs.Ytehojohacombkaa.Ps

/- Tokens' places; a list read by places. -/
namespace Go.Proofs.Ytehojohacombkaa.Pl
open Go.RowKit Go.Proofs.Ytehojohacombkaa.G Go.Proofs.Ytehojohacombkaa.Lx Go.Proofs.YtehojohacombkaaW.PrintWords Go.Proofs.YtehojohacombkaaW.PrintLast
set_option linter.unusedVariables false
set_option linter.unusedSimpArgs false
theorem byt_cat (a b : ByteArray) : byt (a ++ b) = byt a ++ byt b := by simp [byt]
theorem tks_bd : ∀ (n i : Nat) (l : List UInt8) (c : Tk), c ∈ tks n i l → (i : Int) ≤ c.f1 ∧ c.f1 < c.f2 ∧ c.f2 ≤ ((i + l.length : Nat) : Int) := by
  intro n
  induction n with
  | zero => intro i l c h; simp [tks] at h
  | succ n ih =>
    intro i l c h
    cases l with
    | nil => simp [tks] at h
    | cons b r =>
      have h2 := tk_le (b := b) (r := r)
      simp only [tks, List.mem_cons] at h
      rcases h with rfl | h
      · simp only [List.length_cons] at h2 ⊢; omega
      · have := ih _ _ c h
        rw [List.length_drop] at this
        simp only [List.length_cons] at h2 this ⊢; omega
theorem toks_bd {l : List UInt8} {c : Tk} (h : c ∈ toks l) : 0 ≤ c.f1 ∧ c.f1 < c.f2 ∧ c.f2 ≤ (l.length : Int) := by
  have := tks_bd _ _ _ _ h; omega
theorem rdN (xs : List Tk) (i : Nat) : rd_T46 xs (i : Int) = xs.getD i z46 := rfl
theorem rd_mem {xs : List Tk} {i : Nat} (h : i < xs.length) : rd_T46 xs (i : Int) ∈ xs := by
  rw [rdN, List.getD_eq_getElem?_getD, List.getElem?_eq_getElem h]; exact List.getElem_mem h
theorem rd_get {xs : List Tk} {i : Nat} (h : i < xs.length) : rd_T46 xs (i : Int) = xs[i] := by
  rw [rdN, List.getD_eq_getElem?_getD, List.getElem?_eq_getElem h]; rfl
theorem rd_left {xs ys : List Tk} {i : Nat} (h : i < xs.length) : rd_T46 (xs ++ ys) (i : Int) = rd_T46 xs (i : Int) := by
  rw [rdN, rdN, List.getD_eq_getElem?_getD, List.getD_eq_getElem?_getD, List.getElem?_append_left h]
theorem rd_right {xs ys : List Tk} {i : Nat} : rd_T46 (xs ++ ys) ((xs.length + i : Nat) : Int) = rd_T46 ys (i : Int) := by
  rw [rdN, rdN, List.getD_eq_getElem?_getD, List.getD_eq_getElem?_getD, List.getElem?_append_right (by omega), Nat.add_sub_cancel_left]
theorem rd_map {xs : List Tk} {i : Nat} (g : Tk → Tk) (h : i < xs.length) : rd_T46 (xs.map g) (i : Int) = g (rd_T46 xs (i : Int)) := by
  rw [rd_get h, rd_get (by simpa using h)]; simp
theorem tk_isB {b : UInt8} {r : List UInt8} (h : isB b = true) : (tk (b :: r)).1 = 10 := by
  have hs : sign b = none := by
    have e : b = 32 ∨ b = 9 ∨ b = 10 ∨ b = 13 := by simpa [isB, or_assoc] using h
    rcases e with rfl | rfl | rfl | rfl <;> rfl
  rw [tk, hs]; simp only; rw [if_pos h]
theorem toks_cons (b : UInt8) (r : List UInt8) : ∃ T, toks (b :: r) = (⟨(tk (b :: r)).1, 0, ((tk (b :: r)).2 : Int)⟩ : Tk) :: T := by
  refine ⟨tks r.length (0 + (tk (b :: r)).2) ((b :: r).drop (tk (b :: r)).2), ?_⟩
  unfold toks
  rw [List.length_cons, tks]
  simp only [Nat.zero_add]
  rfl
end Go.Proofs.Ytehojohacombkaa.Pl

/- Any text's tree: places stay within the text; how many nodes; it is well formed. Plain. -/
namespace Go.Proofs.Ytehojohacombkaa.Pl
open Go.RowKit Go.Proofs.Ytehojohacombkaa.G Go.Proofs.Ytehojohacombkaa.Lx Go.Proofs.YtehojohacombkaaW.PrintWords Go.Proofs.YtehojohacombkaaW.PrintLast
open Go.Proofs.Ytehojohacombkaa.Gd (solid)
open Go.Proofs.Ytehojohacombkaa.Ps
set_option linter.unusedVariables false
set_option linter.unusedSimpArgs false
/-! ### places -/
def Bd (M : Int) (ns : List Nd) : Prop := ∀ x ∈ ns, 0 ≤ x.f2 ∧ x.f2 ≤ M ∧ 0 ≤ x.f3 ∧ x.f3 ≤ M
def Tb (M : Int) (ts : List Tk) : Prop := ∀ t ∈ ts, 0 ≤ t.f1 ∧ t.f1 ≤ M ∧ 0 ≤ t.f2 ∧ t.f2 ≤ M
def OneBd (M : Int) (one : One) : Prop := ∀ p ts ns, Tb M ts → Bd M ns → Tb M (one p ts ns).1 ∧ Bd M (one p ts ns).2
section
variable {M en : Int}
theorem bd_rdn {ns : List Nd} (h : Bd M ns) (hM : 0 ≤ M) (i : Int) : 0 ≤ (rdn ns i).f2 ∧ (rdn ns i).f2 ≤ M ∧ 0 ≤ (rdn ns i).f3 ∧ (rdn ns i).f3 ≤ M := by
  unfold rdn rd_T34
  rw [List.getD_eq_getElem?_getD]
  by_cases hi : i.toNat < ns.length
  · rw [List.getElem?_eq_getElem hi]; exact h _ (List.getElem_mem _)
  · rw [List.getElem?_eq_none (by omega)]; exact ⟨Int.le_refl 0, hM, Int.le_refl 0, hM⟩
theorem bd_set {ns : List Nd} (h : Bd M ns) (i : Nat) (x : Nd) (hx : 0 ≤ x.f2 ∧ x.f2 ≤ M ∧ 0 ≤ x.f3 ∧ x.f3 ≤ M) : Bd M (ns.set i x) := by
  intro y hy
  rcases List.mem_or_eq_of_mem_set hy with hy | rfl
  · exact h y hy
  · exact hx
theorem bd_snoc {ns : List Nd} (h : Bd M ns) (x : Nd) (hx : 0 ≤ x.f2 ∧ x.f2 ≤ M ∧ 0 ≤ x.f3 ∧ x.f3 ≤ M) : Bd M (ns ++ [x]) := by
  intro y hy
  rcases List.mem_append.1 hy with hy | hy
  · exact h y hy
  · rw [List.mem_singleton.1 hy]; exact hx
theorem bd_put {ns : List Nd} (h : Bd M ns) (hM : 0 ≤ M) (p k f t : Int) (hx : 0 ≤ f ∧ f ≤ M ∧ 0 ≤ t ∧ t ≤ M) : Bd M (putN ns p k f t) := by
  have h2 := bd_snoc h (nd ns.length k f t) hx
  unfold putN; split
  · exact bd_set h2 _ _ (bd_rdn h2 hM p)
  · exact h2
theorem bd_setTo {ns : List Nd} (h : Bd M ns) (hM : 0 ≤ M) (id tz : Int) (hx : 0 ≤ tz ∧ tz ≤ M) : Bd M (setTo ns id tz) := by
  have := bd_rdn h hM id
  exact bd_set h _ _ ⟨this.1, this.2.1, hx.1, hx.2⟩
theorem bd_reach {ns : List Nd} (h : Bd M ns) (hM : 0 ≤ M) (id tz : Int) (hx : 0 ≤ tz ∧ tz ≤ M) : Bd M (reachN ns id tz) := by
  have h1 := bd_setTo h hM id tz hx
  unfold reachN; split
  · have := bd_rdn h1 hM (lastKid (setTo ns id tz) id)
    exact bd_setTo h1 hM _ _ (by omega)
  · exact h1
theorem tb_next {ts : List Tk} (h : Tb M ts) (he : 0 ≤ en ∧ en ≤ M) : 0 ≤ (nextT en ts).f1 ∧ (nextT en ts).f1 ≤ M ∧ 0 ≤ (nextT en ts).f2 ∧ (nextT en ts).f2 ≤ M := by
  cases ts with
  | nil => exact ⟨he.1, he.2, he.1, he.2⟩
  | cons t r => exact h t (by simp)
theorem tb_tail {ts : List Tk} (h : Tb M ts) : Tb M ts.tail := fun t ht => h t (List.mem_of_mem_tail ht)
theorem bd_scal {ns : List Nd} (h : Bd M ns) (hM : 0 ≤ M) (p : Int) (t : Tk) (hx : 0 ≤ t.f1 ∧ t.f1 ≤ M ∧ 0 ≤ t.f2 ∧ t.f2 ≤ M) : Bd M (scal p t ns) := by
  unfold scal; split
  · exact bd_put h hM _ _ _ _ hx
  · split
    · exact bd_put h hM _ _ _ _ hx
    · split
      · exact bd_put h hM _ _ _ _ hx
      · exact h
theorem list_bd {one : One} (h : OneBd M one) (hM : 0 ≤ M) (he : 0 ≤ en ∧ en ≤ M) (bg : Tk → Bool) (c id : Int) : ∀ (n : Nat) (s : Int) (ts : List Tk) (ns : List Nd), Tb M ts → Bd M ns →
    Tb M (listN one bg en c id n s ts ns).1 ∧ Bd M (listN one bg en c id n s ts ns).2 := by
  intro n
  induction n with
  | zero => intro s ts ns ht hn; exact ⟨ht, hn⟩
  | succ n ih =>
    intro s ts ns ht hn
    cases ts with
    | nil => exact ⟨ht, bd_reach (bd_put hn hM _ _ _ _ ⟨he.1, he.2, he.1, he.2⟩) hM _ _ he⟩
    | cons t r =>
      have hr : Tb M r := tb_tail ht
      have htt := ht t (by simp)
      have hl : Bd M (lackN ns id t.f1) := bd_put hn hM _ _ _ _ ⟨htt.1, htt.2.1, htt.1, htt.2.1⟩
      rw [listN]
      split
      · refine ⟨hr, bd_reach ?_ hM _ _ htt.2.2⟩
        split
        · exact hl
        · exact hn
      · split
        · exact ih 2 r ns hr hn
        · split
          · have hm : Bd M (if s = 1 then lackN ns id t.f1 else ns) := by
              split
              · exact hl
              · exact hn
            have := h id (t :: r) _ ht hm
            exact ih 1 _ _ this.1 this.2
          · exact ih s r _ hr (bd_put hn hM _ _ _ _ htt)
theorem wrap_bd {v : One} (h : OneBd M v) (hM : 0 ≤ M) (he : 0 ≤ en ∧ en ≤ M) : OneBd M (wrapN v en) := by
  intro p ts ns ht hn
  have hx := tb_next ht he
  have := h ns.length ts _ ht (bd_put hn hM p 7 (nextT en ts).f1 (nextT en ts).f2 hx)
  exact ⟨this.1, bd_reach this.2 hM _ _ hx.2.2⟩
theorem mem_bd {v : One} (h : OneBd M v) (hM : 0 ≤ M) (he : 0 ≤ en ∧ en ≤ M) (bg : Tk → Bool) : OneBd M (memN v bg en) := by
  intro p ts ns ht hn
  unfold memN
  split
  · have hx := tb_next ht he
    have h1 := h ns.length ts _ ht (bd_put hn hM p 3 (nextT en ts).f1 (nextT en ts).f2 hx)
    generalize v ns.length ts (putN ns p 3 (nextT en ts).f1 (nextT en ts).f2) = a at h1
    have hx2 := tb_next h1.1 he
    have hc : Tb M (colN en ns.length (nextT en ts) a).1.1 ∧ Bd M (colN en ns.length (nextT en ts) a).1.2 ∧ 0 ≤ (colN en ns.length (nextT en ts) a).2 ∧ (colN en ns.length (nextT en ts) a).2 ≤ M := by
      unfold colN
      split
      · exact ⟨tb_tail h1.1, h1.2, hx2.2.2⟩
      · exact ⟨h1.1, bd_put h1.2 hM _ _ _ _ ⟨hx2.1, hx2.2.1, hx2.1, hx2.2.1⟩, hx.2.2⟩
    unfold pairN
    generalize colN en ns.length (nextT en ts) a = b at hc
    have hx3 := tb_next hc.1 he
    have hp : Tb M (pvN v bg en ns.length b.1).1 ∧ Bd M (pvN v bg en ns.length b.1).2 := by
      unfold pvN
      split
      · exact h _ _ _ hc.1 hc.2.1
      · exact ⟨hc.1, bd_put hc.2.1 hM _ _ _ _ ⟨hx3.1, hx3.2.1, hx3.1, hx3.2.1⟩⟩
    exact ⟨hp.1, bd_reach hp.2 hM _ _ hc.2.2⟩
  · exact wrap_bd h hM he p ts ns ht hn
theorem val_bd (hM : 0 ≤ M) (he : 0 ≤ en ∧ en ≤ M) : ∀ k, OneBd M (valN en k) := by
  intro k
  induction k with
  | zero => intro p ts ns ht hn; exact ⟨tb_tail ht, bd_scal hn hM _ _ (tb_next ht he)⟩
  | succ k ih =>
    intro p ts ns ht hn
    have hx := tb_next ht he
    unfold valN
    split
    · exact list_bd (mem_bd ih hM he _) hM he _ _ _ _ _ _ _ (tb_tail ht) (bd_put hn hM _ _ _ _ hx)
    · split
      · exact list_bd ih hM he _ _ _ _ _ _ _ (tb_tail ht) (bd_put hn hM _ _ _ _ hx)
      · exact ⟨tb_tail ht, bd_scal hn hM _ _ hx⟩
theorem main_bd (hM : 0 ≤ M) (he : 0 ≤ en ∧ en ≤ M) : ∀ (n : Nat) (had : Bool) (ts : List Tk) (ns : List Nd), Tb M ts → Bd M ns → Bd M (mainN (valN en 12) (bgK 12) en n had ts ns) := by
  intro n
  induction n with
  | zero => intro had ts ns ht hn; exact hn
  | succ n ih =>
    intro had ts ns ht hn
    cases ts with
    | nil =>
      rw [mainN]; split
      · exact hn
      · exact bd_put hn hM _ _ _ _ ⟨he.1, he.2, he.1, he.2⟩
    | cons t r =>
      rw [mainN]; split
      · split
        · have := wrap_bd (val_bd hM he 12) hM he 0 (t :: r) ns ht hn
          exact ih true _ _ this.1 this.2
        · have := val_bd hM he 12 0 (t :: r) ns ht hn
          exact ih true _ _ this.1 this.2
      · exact ih had r _ (tb_tail ht) (bd_put hn hM _ _ _ _ (ht t (by simp)))
end
theorem nodes_bd (l : List UInt8) : Bd (l.length : Int) (nodesN l) := by
  unfold nodesN
  refine main_bd (by omega) ⟨by omega, Int.le_refl _⟩ _ _ _ _ ?_ ?_
  · intro t ht
    have h1 : t ∈ toks l := (List.mem_filter.1 ht).1
    have := toks_bd h1
    omega
  · exact bd_put (fun x hx => by cases hx) (by omega) _ _ _ _ ⟨Int.le_refl 0, by omega, by omega, Int.le_refl _⟩
theorem main_len (en : Int) : ∀ (n : Nat) (had : Bool) (ts : List Tk) (ns : List Nd), Wf ns → 0 < ns.length → (had = true → 1 < ns.length) → ts.length < n →
    1 < (mainN (valN en 12) (bgK 12) en n had ts ns).length ∧ (mainN (valN en 12) (bgK 12) en n had ts ns).length ≤ ns.length + 6 * ts.length + 1 := by
  have vlen : ∀ t r ns, bgK 12 t = true → ns.length < (valN en 12 0 (t :: r) ns).2.length ∨ ¬ (Wf ns ∧ 0 < ns.length) := by
    intro t r ns hb
    by_cases hq : Wf ns ∧ 0 < ns.length
    · left
      unfold Go.Proofs.Ytehojohacombkaa.Ps.valN
      have et : Go.Proofs.Ytehojohacombkaa.Ps.nextT en (t :: r) = t := rfl
      rw [et]
      split
      · obtain ⟨a1, a2, a3, a4⟩ := Go.Proofs.Ytehojohacombkaa.Ps.list_ok (Go.Proofs.Ytehojohacombkaa.Ps.mem_ok (Go.Proofs.Ytehojohacombkaa.Ps.val_ok en 11) 11 en) (bgK 11) en 1 ns.length ((t :: r).length + 1) 0 r (putN ns 0 1 t.f1 t.f2) (by omega) (by rw [Go.Proofs.Ytehojohacombkaa.Ps.putN_len]; omega) (Go.Proofs.Ytehojohacombkaa.Ps.putN_wf hq.1 _ _ _ _ (Int.le_refl 0))
        rw [Go.Proofs.Ytehojohacombkaa.Ps.putN_len] at a1
        exact Nat.lt_of_lt_of_le (Nat.lt_succ_self _) a1
      · split
        · obtain ⟨a1, a2, a3, a4⟩ := Go.Proofs.Ytehojohacombkaa.Ps.list_ok (Go.Proofs.Ytehojohacombkaa.Ps.one_less (Go.Proofs.Ytehojohacombkaa.Ps.val_ok en 11) (by omega)) (bgK 11) en 3 ns.length ((t :: r).length + 1) 0 r (putN ns 0 2 t.f1 t.f2) (by omega) (by rw [Go.Proofs.Ytehojohacombkaa.Ps.putN_len]; omega) (Go.Proofs.Ytehojohacombkaa.Ps.putN_wf hq.1 _ _ _ _ (Int.le_refl 0))
          rw [Go.Proofs.Ytehojohacombkaa.Ps.putN_len] at a1
          exact Nat.lt_of_lt_of_le (Nat.lt_succ_self _) a1
        · rename_i n0 n2
          show ns.length < (Go.Proofs.Ytehojohacombkaa.Ps.scal 0 t ns).length
          have : t.f0 = 6 ∨ t.f0 = 7 ∨ t.f0 = 8 := by
            simp only [bgK, Bool.or_eq_true, Bool.and_eq_true, beq_iff_eq, decide_eq_true_eq] at hb; omega
          unfold Go.Proofs.Ytehojohacombkaa.Ps.scal
          rcases this with h | h | h
          · rw [if_pos h, Go.Proofs.Ytehojohacombkaa.Ps.putN_len]; omega
          · rw [if_neg (by omega), if_pos h, Go.Proofs.Ytehojohacombkaa.Ps.putN_len]; omega
          · rw [if_neg (by omega), if_neg (by omega), if_pos h, Go.Proofs.Ytehojohacombkaa.Ps.putN_len]; omega
    · right; exact hq
  intro n
  induction n with
  | zero => intro had ts ns hw h0 h1 hn; omega
  | succ n ih =>
    intro had ts ns hw h0 h1 hn
    cases ts with
    | nil =>
      show 1 < (if had = true then ns else Go.Proofs.Ytehojohacombkaa.Ps.lackN ns 0 en).length ∧ (if had = true then ns else Go.Proofs.Ytehojohacombkaa.Ps.lackN ns 0 en).length ≤ _
      have := Go.Proofs.Ytehojohacombkaa.Ps.putN_len ns 0 7 en en
      split
      · rename_i hh; have := h1 hh; exact ⟨this, by omega⟩
      · unfold Go.Proofs.Ytehojohacombkaa.Ps.lackN; exact ⟨by omega, by omega⟩
    | cons t r =>
      simp only [List.length_cons] at hn ⊢
      rw [Go.Proofs.Ytehojohacombkaa.Ps.mainN]
      split
      · rename_i hb
        split
        · rename_i hh
          obtain ⟨⟨o1, o2, o3⟩, o4⟩ := Go.Proofs.Ytehojohacombkaa.Ps.wrap_ok (Go.Proofs.Ytehojohacombkaa.Ps.val_ok en 12) en 0 (t :: r) ns (by simp) (by omega) (by omega) hw
          simp only [List.length_cons] at o2 o4
          have := h1 hh
          obtain ⟨i1, i2⟩ := ih true _ (Go.Proofs.Ytehojohacombkaa.Ps.wrapN (valN en 12) en 0 (t :: r) ns).2 o3 (by omega) (fun _ => by omega) (by omega : (Go.Proofs.Ytehojohacombkaa.Ps.wrapN (valN en 12) en 0 (t :: r) ns).1.length < n)
          exact ⟨i1, by omega⟩
        · obtain ⟨⟨o1, o2, o3⟩, o4⟩ := Go.Proofs.Ytehojohacombkaa.Ps.val_ok en 12 0 (t :: r) ns (by simp) (by omega) (by omega) hw
          simp only [List.length_cons] at o2 o4
          have hv := (vlen t r ns hb).resolve_right (fun h => h ⟨hw, h0⟩)
          obtain ⟨i1, i2⟩ := ih true _ (valN en 12 0 (t :: r) ns).2 o3 (by omega) (fun _ => by omega) (by omega : (valN en 12 0 (t :: r) ns).1.length < n)
          exact ⟨i1, by omega⟩
      · have hl := Go.Proofs.Ytehojohacombkaa.Ps.putN_len ns 0 7 t.f1 t.f2
        obtain ⟨i1, i2⟩ := ih had r (putN ns 0 7 t.f1 t.f2) (Go.Proofs.Ytehojohacombkaa.Ps.putN_wf hw _ _ _ _ (Int.le_refl 0)) (by omega) (fun hh => by have := h1 hh; omega) (by omega)
        exact ⟨i1, by omega⟩
theorem nodes_len (l : List UInt8) : 1 < (nodesN l).length ∧ (nodesN l).length ≤ 6 * l.length + 2 := by
  have h := main_len (l.length : Int) ((Go.Proofs.Ytehojohacombkaa.Gd.solid (toks l)).length + 1) false (Go.Proofs.Ytehojohacombkaa.Gd.solid (toks l)) (putN [] 0 0 0 l.length) (Go.Proofs.Ytehojohacombkaa.Ps.putN_wf Go.Proofs.Ytehojohacombkaa.Ps.wf_nil _ _ _ _ (Int.le_refl 0)) (by rw [Go.Proofs.Ytehojohacombkaa.Ps.putN_len]; omega) (fun h => by cases h) (Nat.lt_succ_self _)
  rw [Go.Proofs.Ytehojohacombkaa.Ps.putN_len] at h
  have h2 := toks_len l
  have h3 := List.length_filter_le (fun c : Tk => !(c.f0 == 10 || c.f0 == 9)) (toks l)
  have h4 : (Go.Proofs.Ytehojohacombkaa.Gd.solid (toks l)).length ≤ l.length := by unfold Go.Proofs.Ytehojohacombkaa.Gd.solid; omega
  unfold Go.Proofs.Ytehojohacombkaa.Ps.nodesN
  simp only [List.length_nil] at h
  exact ⟨h.1, by omega⟩
theorem main_wf (en : Int) : ∀ (n : Nat) (had : Bool) (ts : List Tk) (ns : List Nd), Wf ns → 0 < ns.length → Wf (mainN (valN en 12) (bgK 12) en n had ts ns) := by
  intro n
  induction n with
  | zero => intro had ts ns hw h0; exact hw
  | succ n ih =>
    intro had ts ns hw h0
    cases ts with
    | nil =>
      rw [mainN]; split
      · exact hw
      · exact putN_wf hw _ _ _ _ (Int.le_refl 0)
    | cons t r =>
      rw [mainN]; split
      · split
        · obtain ⟨⟨o1, o2, o3⟩, o4⟩ := wrap_ok (val_ok en 12) en 0 (t :: r) ns (by simp) (Int.le_refl 0) (by omega) hw
          exact ih true _ _ o3 (by omega)
        · obtain ⟨⟨o1, o2, o3⟩, o4⟩ := val_ok en 12 0 (t :: r) ns (by simp) (Int.le_refl 0) (by omega) hw
          exact ih true _ _ o3 (by omega)
      · have hl := putN_len ns 0 7 t.f1 t.f2
        exact ih had r _ (putN_wf hw _ _ _ _ (Int.le_refl 0)) (by omega)
theorem nodes_wf (l : List UInt8) : Wf (nodesN l) := by
  unfold nodesN
  exact main_wf _ _ _ _ _ (putN_wf wf_nil _ _ _ _ (Int.le_refl 0)) (by rw [putN_len]; omega)
end Go.Proofs.Ytehojohacombkaa.Pl
