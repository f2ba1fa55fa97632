/- Several texts in one. -/
import Derived.Test.YtgbajaljfbgilaaB1
import Derived.Test.YtgbajaljfbgilaaGx0
import Derived.Laws.BitsLemmas
import Derived.Test.YtgbajaljfbgilaaGZ3
/- Two pieces compared. (In a seat without the reference's pieces: in the place of M4.) -/
namespace Go.Proofs.Ytgbajaljfbgilaa.Pl
open Go.RowKit Go.Proofs.Ytgbajaljfbgilaa.G Go.Proofs.YtgbajaljfbgilaaW.PrintWords Go.Proofs.YtgbajaljfbgilaaW.PrintLast
set_option linter.unusedVariables false
set_option linter.unusedSimpArgs false
theorem toList_inj {a b : ByteArray} (h : a.toList = b.toList) : a = b := by
  rw [ByteArray.toList_eq, ByteArray.toList_eq] at h
  exact ByteArray.ext (Array.toList_inj.1 h)
theorem cm_ne (a b : Cm) : (!(a.f0 == b.f0) || (!(a.f1 == b.f1) || !(a.f2.toList == b.f2.toList))) = !decide (a = b) := by
  rw [Bool.eq_iff_iff]
  simp only [Bool.or_eq_true, Bool.not_eq_true', beq_eq_false_iff_ne, decide_eq_false_iff_not, ne_eq]
  constructor
  · rintro h rfl; simp at h
  · intro h
    by_cases h0 : a.f0 = b.f0
    · by_cases h1 : a.f1 = b.f1
      · refine .inr (.inr (fun h2 => h ?_))
        cases a; cases b; simp only at h0 h1 h2; subst h0 h1; rw [toList_inj h2]
      · exact .inr (.inl h1)
    · exact .inl h0
end Go.Proofs.Ytgbajaljfbgilaa.Pl

/- Small facts on Go's numbers: a mask by &, the rest of a division by an unsigned number. -/
namespace Go.Proofs.Ytgbajaljfbgilaa.Pl
open Go.RowKit
theorem and_mask (a : Int) (m : Nat) (hm : m < 4611686018427387904) : 0 ≤ Go.bits .and .i64 a (m : Int) ∧ Go.bits .and .i64 a (m : Int) ≤ (m : Int) := by
  have h1 : ∀ x y : BitVec 64, y.toNat = m → (x &&& y).toNat ≤ m := by
    intro x y hy; rw [BitVec.toNat_and, hy]; exact Nat.and_le_right
  have h2 := h1 (BitVec.ofInt 64 a) (BitVec.ofInt 64 (m : Int)) (by rw [BitVec.ofInt_natCast, BitVec.toNat_ofNat]; exact Nat.mod_eq_of_lt (by omega))
  have h3 : Go.bits .and .i64 a (m : Int) = IntKind.i64.wrap ((BitVec.ofInt 64 a &&& BitVec.ofInt 64 (m : Int)).toNat : Int) := rfl
  rw [h3, IntKind.wrap_i64]
  omega
end Go.Proofs.Ytgbajaljfbgilaa.Pl

/- int(uint(a) % uint(n + 1)), and an error's number. -/
namespace Go.Proofs.Ytgbajaljfbgilaa.Pl
open Go.RowKit Go.Proofs.Ytgbajaljfbgilaa.G Go.Proofs.YtgbajaljfbgilaaW.PrintWords Go.Proofs.YtgbajaljfbgilaaW.PrintLast Go.Proofs.YtgbajaljfbgilaaW.PrintMore
set_option linter.unusedVariables false
set_option linter.unusedSimpArgs false
theorem num_eq (x : Int) : minuetlaw0_Num.f x = some x := rfl
theorem u64w (n : Int) : IntKind.u64.wrap n = n % 18446744073709551616 := by simp [IntKind.wrap, IntKind.bits, IntKind.signed]
/-- int(uint(a) % uint(n + 1)) lies from 0 to n. -/
theorem modix (a n : Int) (h0 : 0 ≤ n) (h1 : n < 4611686018427387904) : 0 ≤ wrap64 (Int.tmod (IntKind.u64.wrap a) (IntKind.u64.wrap (wrap64 (n + 1)))) ∧ wrap64 (Int.tmod (IntKind.u64.wrap a) (IntKind.u64.wrap (wrap64 (n + 1)))) ≤ n := by
  have e1 : wrap64 (n + 1) = n + 1 := w64 (by omega) (by omega)
  have e2 : IntKind.u64.wrap (n + 1) = n + 1 := by rw [u64w]; omega
  have e3 : 0 ≤ IntKind.u64.wrap a := by rw [u64w]; omega
  rw [e1, e2, Int.tmod_eq_emod_of_nonneg e3]
  clear e1 e2
  generalize IntKind.u64.wrap a = u at e3 ⊢
  have h2 := Int.emod_nonneg u (show n + 1 ≠ 0 by omega)
  have h3 := Int.emod_lt_of_pos u (show 0 < n + 1 by omega)
  generalize u % (n + 1) = v at h2 h3 ⊢
  rw [w64 (by omega) (by omega)]
  omega
theorem u64_ne (n : Int) (h0 : 0 ≤ n) (h1 : n < 4611686018427387904) : ¬ IntKind.u64.wrap (wrap64 (n + 1)) = 0 := by
  have e1 : wrap64 (n + 1) = n + 1 := w64 (by omega) (by omega)
  have e2 : IntKind.u64.wrap (n + 1) = n + 1 := by rw [u64w]; omega
  rw [e1, e2]; omega
end Go.Proofs.Ytgbajaljfbgilaa.Pl

/- SameComps; package comp is awake; edits in a row. -/
namespace Go.Proofs.Ytgbajaljfbgilaa.Pl
open Go.RowKit Go.Proofs.Ytgbajaljfbgilaa.G Go.Proofs.YtgbajaljfbgilaaW.PrintWords Go.Proofs.YtgbajaljfbgilaaW.PrintLast Go.Proofs.YtgbajaljfbgilaaW.PrintMore
set_option linter.unusedVariables false
set_option linter.unusedSimpArgs false

theorem Same_l0 (xs ys : List Cm) (hl : xs.length < 4611686018427387904) (hy : ys.length = xs.length) : ∀ (suf pre suy : List Cm), xs = pre ++ suf → ys = pre ++ suy →
    Ev (fun k => minuetlaw0_SameComps.l0 k xs ys (pre.length : Int)) (decide (suf = suy)) := by
  intro suf
  induction suf with
  | nil =>
    intro pre suy e e2
    have : suy = [] := by rw [e, e2] at hy; simpa using hy
    subst this
    refine Ev.step (fun k => by rw [minuetlaw0_SameComps.l0]) ?_
    simp only [if_neg (nlt_of e), decide_true]; exact Ev.now _
  | cons c suf ih =>
    intro pre suy e e2
    have hlt := lt_len e
    cases suy with
    | nil => rw [e, e2] at hy; simp only [List.append_nil, List.length_append, List.length_cons] at hy; omega
    | cons d suy =>
      refine Ev.step (fun k => by rw [minuetlaw0_SameComps.l0]) ?_
      simp only [if_pos (lt_of e), if_pos (nat_nonneg _), if_pos (lt_of e2), rd_of e, rd_of e2, len_next pre c (by omega), cm_ne]
      by_cases h : c = d
      · subst h
        simp only [decide_true, Bool.not_true, Bool.false_eq_true, if_false, List.cons.injEq, true_and]
        exact ih (pre ++ [c]) suy (next_of e) (next_of e2)
      · simp only [decide_eq_false h, Bool.not_false, if_true, List.cons.injEq, h, false_and, decide_false]
        exact Ev.now _
theorem Same_ev (xs ys : List Cm) (hl : xs.length < 4611686018427387904) : Ev (fun k => minuetlaw0_SameComps.f k xs ys) (decide (xs = ys)) := by
  unfold minuetlaw0_SameComps.f
  by_cases h : xs.length = ys.length
  · have h' : (xs.length : Int) = (ys.length : Int) := by omega
    simp only [if_pos h']
    have := Same_l0 xs ys hl h.symm xs [] ys rfl rfl
    simpa using this
  · have h' : ¬ (xs.length : Int) = (ys.length : Int) := by omega
    have hne : ¬ xs = ys := fun e => h (by rw [e])
    simp only [if_neg h', decide_eq_false hne]
    exact Ev.now _
theorem Same_refl (xs : List Cm) (hl : xs.length < 4611686018427387904) : Ev (fun k => minuetlaw0_SameComps.f k xs xs) true := by
  have := Same_ev xs xs hl
  rwa [decide_eq_true rfl] at this

/-! pieces added one by one: the order of merging does not matter -/
def mrg (d c : Cm) : Cm := ⟨d.f0, d.f1 + c.f1, d.f2 ++ c.f2⟩
theorem addR_cons_same {d c : Cm} {r : List Cm} (h0 : sz c ≠ 0) (e : d.f0 = c.f0) : addR (d :: r) c = mrg d c :: r := by simp only [addR, if_neg h0, if_pos e]; rfl
theorem addR_cons_past {d c : Cm} {r : List Cm} (h0 : sz c ≠ 0) (h1 : c.f0 = 1) (h2 : d.f0 = 2) : addR (d :: r) c = d :: addR r c := by
  simp only [addR, if_neg h0]; rw [if_neg (by omega), if_pos ⟨h1, h2⟩]
theorem addR_cons_new {d c : Cm} {r : List Cm} (h0 : sz c ≠ 0) (h1 : d.f0 ≠ c.f0) (h2 : ¬ (c.f0 = 1 ∧ d.f0 = 2)) : addR (d :: r) c = c :: d :: r := by
  simp only [addR, if_neg h0, if_neg h1, if_neg h2]
theorem addR_nil {c : Cm} (h0 : sz c ≠ 0) : addR [] c = [c] := by simp only [addR, if_neg h0]
theorem mrg_sz {d c : Cm} (hd : good d) (hc : good c) (h0 : sz c ≠ 0) : sz (mrg d c) ≠ 0 := by
  have := good_sz hd; have := good_sz hc
  simp only [sz, mrg, ByteArray.size_append] at *; omega
theorem mrg_assoc (a b c : Cm) : mrg (mrg a b) c = mrg a (mrg b c) := by simp only [mrg, ByteArray.append_assoc, Int.add_assoc]
theorem addR_merge {d c : Cm} (hd : good d) (hc : good c) (d0 : sz d ≠ 0) (c0 : sz c ≠ 0) (e : d.f0 = c.f0) : ∀ Z, addR (addR Z d) c = addR Z (mrg d c) := by
  have m0 := mrg_sz hd hc c0
  intro Z
  induction Z with
  | nil => rw [addR_nil d0, addR_nil m0, addR_cons_same c0 e]
  | cons a z ih =>
    by_cases h1 : a.f0 = d.f0
    · rw [addR_cons_same d0 h1, addR_cons_same c0 (show (mrg a d).f0 = c.f0 from h1.trans e), addR_cons_same m0 h1, mrg_assoc]
    · by_cases h2 : d.f0 = 1 ∧ a.f0 = 2
      · rw [addR_cons_past d0 h2.1 h2.2, addR_cons_past c0 (e ▸ h2.1) h2.2, addR_cons_past m0 h2.1 h2.2, ih]
      · rw [addR_cons_new d0 h1 h2, addR_cons_same c0 e, addR_cons_new m0 h1 h2]
theorem addR_swap {d c : Cm} (d0 : sz d ≠ 0) (c0 : sz c ≠ 0) (hd : d.f0 = 2) (hc : c.f0 = 1) (Z : List Cm) (hZ : ∀ a ∈ Z, good a) : addR (addR Z c) d = addR (addR Z d) c := by
  cases Z with
  | nil => rw [addR_nil c0, addR_nil d0, addR_cons_new d0 (by omega) (by omega), addR_cons_past c0 hc hd, addR_nil c0]
  | cons a z =>
    have ha := (hZ a List.mem_cons_self).2.1
    by_cases h1 : a.f0 = 1
    · rw [addR_cons_same c0 (h1.trans hc.symm), addR_cons_new d0 (show (mrg a c).f0 ≠ d.f0 by show a.f0 ≠ d.f0; omega) (by omega), addR_cons_new d0 (by omega) (by omega), addR_cons_past c0 hc hd, addR_cons_same c0 (h1.trans hc.symm)]
    · by_cases h2 : a.f0 = 2
      · rw [addR_cons_past c0 hc h2, addR_cons_same d0 (h2.trans hd.symm), addR_cons_same d0 (h2.trans hd.symm), addR_cons_past c0 hc (show (mrg a d).f0 = 2 from h2)]
      · rw [addR_cons_new c0 (by omega) (by omega), addR_cons_new d0 (by omega) (by omega), addR_cons_new d0 (by omega) (by omega), addR_cons_past c0 hc hd, addR_cons_new c0 (by omega) (by omega)]
def foldR (X : List Cm) : List Cm → List Cm
  | [] => X
  | c :: q => addR (foldR X q) c
theorem foldR_good {X q : List Cm} (hX : ∀ a ∈ X, good a) (hq : ∀ a ∈ q, good a) : ∀ a ∈ foldR X q, good a := by
  induction q with
  | nil => exact hX
  | cons c q ih => exact addR_good (ih (fun a ha => hq a (List.mem_cons_of_mem _ ha))) (hq c List.mem_cons_self)
theorem foldR_eq (X q : List Cm) : (q.reverse.foldl add X.reverse) = (foldR X q).reverse := by
  induction q with
  | nil => rfl
  | cons c q ih => rw [List.reverse_cons, List.foldl_append, ih]; simp only [List.foldl_cons, List.foldl_nil, foldR, add, List.reverse_reverse]
theorem foldR_addR {X : List Cm} {c : Cm} (hX : ∀ a ∈ X, good a) (hc : good c) : ∀ q, (∀ a ∈ q, good a) → (∀ a ∈ q, sz a ≠ 0) → foldR X (addR q c) = addR (foldR X q) c := by
  by_cases c0 : sz c = 0
  · intro q _ _; rw [addR_zero c0, addR_zero c0]
  · intro q
    induction q with
    | nil => intro _ _; rw [addR_nil c0]; rfl
    | cons d q ih =>
      intro hq hz
      have hd := hq d List.mem_cons_self; have d0 := hz d List.mem_cons_self
      have hq' : ∀ a ∈ q, good a := fun a ha => hq a (List.mem_cons_of_mem _ ha)
      have hz' : ∀ a ∈ q, sz a ≠ 0 := fun a ha => hz a (List.mem_cons_of_mem _ ha)
      by_cases h1 : d.f0 = c.f0
      · rw [addR_cons_same c0 h1]; simp only [foldR]; rw [addR_merge hd hc d0 c0 h1]
      · by_cases h2 : c.f0 = 1 ∧ d.f0 = 2
        · rw [addR_cons_past c0 h2.1 h2.2]; simp only [foldR]; rw [ih hq' hz', addR_swap d0 c0 h2.2 h2.1 _ (foldR_good hX hq')]
        · rw [addR_cons_new c0 h1 h2]; rfl
theorem addR_ne {q : List Cm} {c : Cm} (hq : ∀ a ∈ q, good a) (hc : good c) (hz : ∀ a ∈ q, sz a ≠ 0) : ∀ a ∈ addR q c, sz a ≠ 0 := by
  by_cases c0 : sz c = 0
  · rw [addR_zero c0]; exact hz
  · induction q with
    | nil => rw [addR_nil c0]; intro a ha; rw [List.mem_singleton.1 ha]; exact c0
    | cons d q ih =>
      have hd := hq d List.mem_cons_self
      have hq' : ∀ a ∈ q, good a := fun a ha => hq a (List.mem_cons_of_mem _ ha)
      have hz' : ∀ a ∈ q, sz a ≠ 0 := fun a ha => hz a (List.mem_cons_of_mem _ ha)
      by_cases h1 : d.f0 = c.f0
      · rw [addR_cons_same c0 h1]; intro a ha
        rcases List.mem_cons.1 ha with rfl | ha
        · exact mrg_sz hd hc c0
        · exact hz' a ha
      · by_cases h2 : c.f0 = 1 ∧ d.f0 = 2
        · rw [addR_cons_past c0 h2.1 h2.2]; intro a ha
          rcases List.mem_cons.1 ha with rfl | ha
          · exact hz _ List.mem_cons_self
          · exact ih hq' hz' a ha
        · rw [addR_cons_new c0 h1 h2]; intro a ha
          rcases List.mem_cons.1 ha with rfl | ha
          · exact c0
          · exact hz a ha
theorem fold_add {X y : List Cm} {c : Cm} (hX : ∀ a ∈ X, good a) (hy : ∀ a ∈ y, good a) (hc : good c) (hz : ∀ a ∈ y, sz a ≠ 0) : (add y c).foldl add X = add (y.foldl add X) c := by
  have h := foldR_addR (X := X.reverse) (c := c) (fun a ha => hX a (by simpa using ha)) hc y.reverse (fun a ha => hy a (by simpa using ha)) (fun a ha => hz a (by simpa using ha))
  have e1 := foldR_eq X.reverse (addR y.reverse c)
  have e2 := foldR_eq X.reverse y.reverse
  rw [List.reverse_reverse] at e1 e2
  rw [List.reverse_reverse] at e2
  show (addR y.reverse c).reverse.foldl add X = _
  rw [e1, h, e2]; unfold add; rw [List.reverse_reverse]
theorem add_ne {q : List Cm} {c : Cm} (hq : ∀ a ∈ q, good a) (hc : good c) (hz : ∀ a ∈ q, sz a ≠ 0) : ∀ a ∈ add q c, sz a ≠ 0 := by
  intro a ha
  exact addR_ne (q := q.reverse) (fun b hb => hq b (by simpa using hb)) hc (fun b hb => hz b (by simpa using hb)) a (by simpa [add] using ha)
theorem fold_fold {X : List Cm} (hX : ∀ a ∈ X, good a) : ∀ b y : List Cm, (∀ a ∈ y, good a) → (∀ a ∈ b, good a) → (∀ a ∈ y, sz a ≠ 0) → (b.foldl add y).foldl add X = b.foldl add (y.foldl add X) := by
  intro b
  induction b with
  | nil => intro y _ _ _; rfl
  | cons c b ih =>
    intro y hy hb hz
    have hc := hb c List.mem_cons_self
    have hb' : ∀ a ∈ b, good a := fun a ha => hb a (List.mem_cons_of_mem _ ha)
    rw [List.foldl_cons, ih (add y c) (add_good hy hc) hb' (add_ne hy hc hz), fold_add hX hy hc hz, List.foldl_cons]
/-- The normal form of a row of normal forms is that of the row. -/
theorem norm_rows {a b : List Cm} (ha : ∀ c ∈ a, good c) (hb : ∀ c ∈ b, good c) : norm (norm a ++ norm b) = norm (a ++ b) := by
  have h1 := norm_of_nf (norm_nf ha)
  unfold norm at *
  rw [List.foldl_append, List.foldl_append, h1, fold_fold (fold_good (fun d hd => by cases hd) ha) b [] (fun d hd => by cases hd) hb (fun d hd => by cases hd)]
  rfl
theorem nfR_append_left {a b : List Cm} (h : nfR (a ++ b)) : nfR a := by
  induction a with
  | nil => trivial
  | cons c r ih =>
    refine ⟨h.1, ?_, ih h.2.2⟩
    cases r with
    | nil => trivial
    | cons d r => exact h.2.1
theorem nf_append_right {a b : List Cm} (h : nf (a ++ b)) : nf b := by
  unfold nf at *; rw [List.reverse_append] at h; exact nfR_append_left h
theorem may_parts {a b : List Cm} (h : mayB (a ++ b) = true) : mayB a = true ∧ mayB b = true := by
  obtain ⟨h1, h2, h3, h4, h5⟩ := (may_iff _).1 h
  have ha : ∀ c ∈ a, rawB c = true := fun c hc => h2 c (List.mem_append_left _ hc)
  have hb : ∀ c ∈ b, rawB c = true := fun c hc => h2 c (List.mem_append_right _ hc)
  have f1 := froms_le (fun c hc => raw_good (ha c hc)); have f2 := froms_le (fun c hc => raw_good (hb c hc))
  have t1 := tos_le (fun c hc => raw_good (ha c hc)); have t2 := tos_le (fun c hc => raw_good (hb c hc))
  rw [froms_append] at h4; rw [tos_append] at h5; simp only [List.length_append] at h1
  exact ⟨(may_iff _).2 ⟨by omega, ha, nf_append_left h3, by omega, by omega⟩, (may_iff _).2 ⟨by omega, hb, nf_append_right h3, by omega, by omega⟩⟩
end Go.Proofs.Ytgbajaljfbgilaa.Pl

/- When an edit's normal form may be. -/
namespace Go.Proofs.Ytgbajaljfbgilaa.Pl
open Go.RowKit Go.Proofs.Ytgbajaljfbgilaa.G Go.Proofs.YtgbajaljfbgilaaW.PrintWords Go.Proofs.YtgbajaljfbgilaaW.PrintLast
set_option linter.unusedVariables false
set_option linter.unusedSimpArgs false
theorem no_good : ∀ d ∈ ([] : List Cm), good d := fun d hd => by cases hd
theorem norm_froms {cs : List Cm} (hg : ∀ c ∈ cs, good c) : froms (norm cs) = froms cs := by unfold norm; rw [fold_froms no_good hg]; simp [froms]
theorem norm_tos {cs : List Cm} (hg : ∀ c ∈ cs, good c) : tos (norm cs) = tos cs := by unfold norm; rw [fold_tos no_good hg]; simp [tos]
theorem froms_mem {cs : List Cm} (hg : ∀ c ∈ cs, good c) {c : Cm} (hc : c ∈ cs) : c.f1 ≤ froms cs := by
  obtain ⟨a, b, rfl⟩ := List.append_of_mem hc
  have ha := froms_le (a := a) (fun d hd => hg d (by simp [hd])); have hb := froms_le (a := b) (fun d hd => hg d (by simp [hd]))
  have h := hg c hc
  rw [froms_append]; simp only [froms]
  split
  · rename_i k; have := h.2.2.1 k; omega
  · omega
theorem tos_mem {cs : List Cm} (hg : ∀ c ∈ cs, good c) {c : Cm} (hc : c ∈ cs) (k : c.f0 = 1) : (c.f2.size : Int) ≤ tos cs := by
  obtain ⟨a, b, rfl⟩ := List.append_of_mem hc
  have ha := tos_le (a := a) (fun d hd => hg d (by simp [hd])); have hb := tos_le (a := b) (fun d hd => hg d (by simp [hd]))
  have h := hg c hc
  have := h.1
  rw [tos_append]; simp only [tos, sz]
  rw [if_neg (by omega)]; omega
/-- Good pieces are raw ones if all together is short. -/
theorem raw_of {cs : List Cm} (hg : ∀ c ∈ cs, good c) (h1 : froms cs ≤ 4096) (h2 : tos cs ≤ 4096) : ∀ c ∈ cs, rawB c = true := by
  intro c hc
  have h := hg c hc
  have a := froms_mem hg hc
  have h0 := h.1
  refine decide_eq_true ?_
  by_cases k : c.f0 = 1
  · have := tos_mem hg hc k
    exact .inr ⟨k, h.2.2.1 k, by omega⟩
  · exact .inl ⟨by have := h.2.1; omega, h.1, by omega, h.2.2.2 k⟩
theorem may_of_nf {cs : List Cm} (hl : cs.length ≤ 4096) (hg : ∀ c ∈ cs, good c) (hn : nf cs) (h1 : froms cs ≤ 4096) (h2 : tos cs ≤ 4096) : mayB cs = true :=
  (may_iff cs).2 ⟨hl, raw_of hg h1 h2, hn, h1, h2⟩
theorem norm_may (cs : List Cm) (hl : cs.length ≤ 4096) (hg : ∀ c ∈ cs, good c) (h1 : froms cs ≤ 4096) (h2 : tos cs ≤ 4096) : mayB (norm cs) = true :=
  may_of_nf (by have := fold_len cs []; simp only [List.length_nil] at this; unfold norm; omega) (norm_good hg) (norm_nf hg) (by rw [norm_froms hg]; exact h1) (by rw [norm_tos hg]; exact h2)
theorem normal_ok {cs : List Cm} (hl : cs.length ≤ 4096) (hr : ∀ c ∈ cs, rawB c = true) (h1 : froms cs ≤ 4096) (h2 : tos cs ≤ 4096) : normal cs = (norm cs, 0) := by
  have hg : ∀ c ∈ cs, good c := fun c hc => raw_good (hr c hc)
  unfold normal
  rw [if_pos]
  simp only [Bool.and_eq_true, decide_eq_true_eq, List.all_eq_true, inB, norm_froms hg, norm_tos hg]
  exact ⟨hl, hr, h1, h2⟩
end Go.Proofs.Ytgbajaljfbgilaa.Pl
