/- Several texts in one. -/
import Derived.Test.YtgbajaljfbgilaaGx0
import Derived.Laws.Strings
import Derived.Test.YtgbajaljfbgilaaGZ0
import Derived.Test.YtgbajaljfbgilaaGCompPAdd
/- Plain facts on pieces of edits: the model of comp.Add, of normal forms, of lengths. No program in sight. -/
namespace Go.Proofs.Ytgbajaljfbgilaa.Pl
open Go.RowKit Go.Proofs.Ytgbajaljfbgilaa.G Go.Proofs.YtgbajaljfbgilaaW.PrintWords Go.Proofs.YtgbajaljfbgilaaW.PrintLast
set_option linter.unusedVariables false

abbrev Cm := S36
noncomputable instance : DecidableEq Cm := fun _ _ => Classical.propDecidable _
def sz (c : Cm) : Int := c.f1 + (c.f2.size : Int)
/-- The text is nothing, or the number is. -/
def rawB (c : Cm) : Bool := decide (((c.f0 = 0 ∨ c.f0 = 2) ∧ 0 ≤ c.f1 ∧ c.f1 ≤ 4096 ∧ c.f2.size = 0) ∨ (c.f0 = 1 ∧ c.f1 = 0 ∧ c.f2.size ≤ 4096))
def good (c : Cm) : Prop := 0 ≤ c.f1 ∧ (c.f0 = 0 ∨ c.f0 = 1 ∨ c.f0 = 2) ∧ (c.f0 = 1 → c.f1 = 0) ∧ (c.f0 ≠ 1 → c.f2.size = 0)
theorem raw_good {c : Cm} (h : rawB c = true) : good c := by
  have h := of_decide_eq_true h
  rcases h with ⟨h1, h2, h3, h4⟩ | ⟨h1, h2, h3⟩
  · exact ⟨h2, by omega, by omega, fun _ => h4⟩
  · exact ⟨by omega, by omega, fun _ => h2, by omega⟩
theorem raw_sz {c : Cm} (h : rawB c = true) : sz c ≤ 4096 := by
  have h := of_decide_eq_true h
  unfold sz
  rcases h with ⟨h1, h2, h3, h4⟩ | ⟨h1, h2, h3⟩ <;> omega
theorem good_sz {c : Cm} (h : good c) : 0 ≤ sz c := by unfold sz; have := h.1; omega

def froms : List Cm → Int
  | [] => 0
  | c :: r => (if c.f0 = 1 then 0 else c.f1) + froms r
def tos : List Cm → Int
  | [] => 0
  | c :: r => (if c.f0 = 2 then 0 else sz c) + tos r
def tot : List Cm → Int
  | [] => 0
  | c :: r => sz c + tot r
theorem froms_append (a b : List Cm) : froms (a ++ b) = froms a + froms b := by
  induction a with
  | nil => simp [froms]
  | cons c r ih => simp only [List.cons_append, froms, ih]; omega
theorem tos_append (a b : List Cm) : tos (a ++ b) = tos a + tos b := by
  induction a with
  | nil => simp [tos]
  | cons c r ih => simp only [List.cons_append, tos, ih]; omega
theorem tot_append (a b : List Cm) : tot (a ++ b) = tot a + tot b := by
  induction a with
  | nil => simp [tot]
  | cons c r ih => simp only [List.cons_append, tot, ih]; omega
theorem tot_nonneg {a : List Cm} (h : ∀ c ∈ a, good c) : 0 ≤ tot a := by
  induction a with
  | nil => simp [tot]
  | cons c r ih =>
    have := good_sz (h c (List.mem_cons_self)); have := ih (fun d hd => h d (List.mem_cons_of_mem _ hd))
    simp only [tot]; omega
theorem froms_le {a : List Cm} (h : ∀ c ∈ a, good c) : 0 ≤ froms a ∧ froms a ≤ tot a := by
  induction a with
  | nil => simp [tot, froms]
  | cons c r ih =>
    have h0 := h c (List.mem_cons_self); have := ih (fun d hd => h d (List.mem_cons_of_mem _ hd))
    have := h0.1
    simp only [tot, froms, sz]; split <;> omega
theorem tos_le {a : List Cm} (h : ∀ c ∈ a, good c) : 0 ≤ tos a ∧ tos a ≤ tot a := by
  induction a with
  | nil => simp [tot, tos]
  | cons c r ih =>
    have h0 := h c (List.mem_cons_self); have := ih (fun d hd => h d (List.mem_cons_of_mem _ hd))
    have := h0.1
    simp only [tot, tos, sz]; split <;> omega
theorem tot_mem {a : List Cm} (h : ∀ c ∈ a, good c) {c : Cm} (hc : c ∈ a) : sz c ≤ tot a := by
  induction a with
  | nil => cases hc
  | cons d r ih =>
    have h0 := good_sz (h d (List.mem_cons_self)); have h1 := tot_nonneg (fun e he => h e (List.mem_cons_of_mem d he))
    simp only [tot]
    rcases List.mem_cons.1 hc with rfl | hc
    · omega
    · have := ih (fun d hd => h d (List.mem_cons_of_mem _ hd)) hc
      omega
theorem tot_raw {a : List Cm} (h : ∀ c ∈ a, rawB c = true) : tot a ≤ 4096 * a.length := by
  induction a with
  | nil => simp [tot]
  | cons c r ih =>
    have h0 := raw_sz (h c (List.mem_cons_self)); have := ih (fun d hd => h d (List.mem_cons_of_mem _ hd))
    simp only [tot, List.length_cons]; omega

/-- Add, the last piece first. -/
def addR : List Cm → Cm → List Cm
  | [], c => if sz c = 0 then [] else [c]
  | d :: r, c => if sz c = 0 then d :: r else if d.f0 = c.f0 then ⟨d.f0, d.f1 + c.f1, d.f2 ++ c.f2⟩ :: r else if c.f0 = 1 ∧ d.f0 = 2 then d :: addR r c else c :: d :: r
def add (l : List Cm) (c : Cm) : List Cm := (addR l.reverse c).reverse
def norm (cs : List Cm) : List Cm := cs.foldl add []

theorem addR_zero {r : List Cm} {c : Cm} (h : sz c = 0) : addR r c = r := by
  cases r <;> simp [addR, h]
theorem add_zero {r : List Cm} {c : Cm} (h : sz c = 0) : add r c = r := by
  unfold add; rw [addR_zero h, List.reverse_reverse]
theorem addR_len (r : List Cm) (c : Cm) : (addR r c).length ≤ r.length + 1 := by
  induction r with
  | nil => unfold addR; split <;> simp
  | cons d r ih =>
    unfold addR; split
    · simp
    · split
      · simp
      · split
        · simp only [List.length_cons]; omega
        · simp
theorem add_len (r : List Cm) (c : Cm) : (add r c).length ≤ r.length + 1 := by
  unfold add; rw [List.length_reverse]; have := addR_len r.reverse c; rwa [List.length_reverse] at this
theorem merge_good {d c : Cm} (hd : good d) (hc : good c) (e : d.f0 = c.f0) : good ⟨d.f0, d.f1 + c.f1, d.f2 ++ c.f2⟩ := by
  obtain ⟨a1, a2, a3, a4⟩ := hd; obtain ⟨b1, b2, b3, b4⟩ := hc
  refine ⟨by simp only; omega, a2, ?_, ?_⟩
  · intro h; have := a3 h; have := b3 (e ▸ h); simp only; omega
  · intro h; have := a4 h; have := b4 (e ▸ h); simp only [ByteArray.size_append]; omega
theorem addR_good {r : List Cm} {c : Cm} (h : ∀ d ∈ r, good d) (hc : good c) : ∀ d ∈ addR r c, good d := by
  induction r with
  | nil =>
    intro d hd; unfold addR at hd; split at hd
    · cases hd
    · rw [List.mem_singleton.1 hd]; exact hc
  | cons e r ih =>
    have he := h e List.mem_cons_self; have hr : ∀ d ∈ r, good d := fun d hd => h d (List.mem_cons_of_mem _ hd)
    intro d hd; unfold addR at hd; split at hd
    · exact h d hd
    · split at hd
      · rename_i h1 h2
        rcases List.mem_cons.1 hd with rfl | hd
        · exact merge_good he hc h2
        · exact hr d hd
      · split at hd
        · rcases List.mem_cons.1 hd with rfl | hd
          · exact he
          · exact ih hr d hd
        · rcases List.mem_cons.1 hd with rfl | hd
          · exact hc
          · exact h d hd
theorem add_good {r : List Cm} {c : Cm} (h : ∀ d ∈ r, good d) (hc : good c) : ∀ d ∈ add r c, good d := by
  intro d hd; unfold add at hd
  exact addR_good (r := r.reverse) (fun e he => h e (by simpa using he)) hc d (by simpa using hd)
/-- A sum over pieces that only looks at kinds, and adds up within one. -/
structure Meas (f : Cm → Int) : Prop where
  zero : ∀ c, good c → sz c = 0 → f c = 0
  merge : ∀ d c : Cm, good d → good c → d.f0 = c.f0 → f ⟨d.f0, d.f1 + c.f1, d.f2 ++ c.f2⟩ = f d + f c
def sumOf (f : Cm → Int) : List Cm → Int
  | [] => 0
  | c :: r => f c + sumOf f r
theorem sumOf_append (f : Cm → Int) (a b : List Cm) : sumOf f (a ++ b) = sumOf f a + sumOf f b := by
  induction a with
  | nil => simp [sumOf]
  | cons c r ih => simp only [List.cons_append, sumOf, ih]; omega
theorem sumOf_reverse (f : Cm → Int) (a : List Cm) : sumOf f a.reverse = sumOf f a := by
  induction a with
  | nil => rfl
  | cons c r ih => simp only [List.reverse_cons, sumOf_append, ih, sumOf]; omega
theorem sumOf_addR {f : Cm → Int} (hf : Meas f) {r : List Cm} {c : Cm} (h : ∀ d ∈ r, good d) (hc : good c) : sumOf f (addR r c) = sumOf f r + f c := by
  induction r with
  | nil =>
    unfold addR; split
    · rename_i h0; simp only [sumOf]; have := hf.zero c hc h0; omega
    · simp only [sumOf]; omega
  | cons e r ih =>
    have he := h e List.mem_cons_self; have hr : ∀ d ∈ r, good d := fun d hd => h d (List.mem_cons_of_mem _ hd)
    unfold addR; split
    · rename_i h0; have := hf.zero c hc h0; omega
    · split
      · rename_i h1 h2; simp only [sumOf, hf.merge e c he hc h2]; omega
      · split
        · simp only [sumOf, ih hr]; omega
        · simp only [sumOf]; omega
theorem sumOf_add {f : Cm → Int} (hf : Meas f) {r : List Cm} {c : Cm} (h : ∀ d ∈ r, good d) (hc : good c) : sumOf f (add r c) = sumOf f r + f c := by
  unfold add; rw [sumOf_reverse, sumOf_addR hf (fun e he => h e (by simpa using he)) hc, sumOf_reverse]
theorem tot_sum (a : List Cm) : tot a = sumOf sz a := by
  induction a with
  | nil => rfl
  | cons c r ih => simp only [tot, sumOf, ih]
theorem froms_sum (a : List Cm) : froms a = sumOf (fun c => if c.f0 = 1 then 0 else c.f1) a := by
  induction a with
  | nil => rfl
  | cons c r ih => simp only [froms, sumOf, ih]
theorem tos_sum (a : List Cm) : tos a = sumOf (fun c => if c.f0 = 2 then 0 else sz c) a := by
  induction a with
  | nil => rfl
  | cons c r ih => simp only [tos, sumOf, ih]
theorem meas_sz : Meas sz := ⟨fun _ _ h => h, fun d c _ _ _ => by simp only [sz, ByteArray.size_append]; omega⟩
theorem meas_from : Meas (fun c => if c.f0 = 1 then 0 else c.f1) := ⟨fun c hc h => by simp only [sz] at h; have := hc.1; split <;> omega, fun d c _ _ e => by simp only; rw [← e]; split <;> omega⟩
theorem meas_to : Meas (fun c => if c.f0 = 2 then 0 else sz c) := ⟨fun c hc h => by show (if c.f0 = 2 then 0 else sz c) = 0; split <;> omega, fun d c _ _ e => by simp only [sz, ByteArray.size_append]; rw [← e]; split <;> omega⟩
theorem tot_add {r : List Cm} {c : Cm} (h : ∀ d ∈ r, good d) (hc : good c) : tot (add r c) = tot r + sz c := by
  rw [tot_sum, tot_sum, sumOf_add meas_sz h hc]
theorem froms_add {r : List Cm} {c : Cm} (h : ∀ d ∈ r, good d) (hc : good c) : froms (add r c) = froms r + if c.f0 = 1 then 0 else c.f1 := by
  rw [froms_sum, froms_sum, sumOf_add meas_from h hc]
theorem tos_add {r : List Cm} {c : Cm} (h : ∀ d ∈ r, good d) (hc : good c) : tos (add r c) = tos r + if c.f0 = 2 then 0 else sz c := by
  rw [tos_sum, tos_sum, sumOf_add meas_to h hc]

/-! normal forms, the last piece first -/
def joins (c d : Cm) : Prop := c.f0 ≠ d.f0 ∧ ¬ (c.f0 = 1 ∧ d.f0 = 2)   -- c may stand behind d
instance (c d : Cm) : Decidable (joins c d) := inferInstanceAs (Decidable (_ ∧ _))
def nfR : List Cm → Prop
  | [] => True
  | c :: r => sz c ≠ 0 ∧ (match r with | [] => True | d :: _ => joins c d) ∧ nfR r
theorem nfR_tail {c : Cm} {r : List Cm} (h : nfR (c :: r)) : nfR r := h.2.2
theorem addR_put_head {r : List Cm} {c : Cm} (h : nfR r) (hc : c.f0 = 1) (h0 : sz c ≠ 0) (hr : ∀ d, r.head? = some d → d.f0 ≠ 2) : ∃ e t, addR r c = e :: t ∧ e.f0 = 1 := by
  cases r with
  | nil => exact ⟨c, [], by simp [addR, h0], hc⟩
  | cons d r =>
    have hd := hr d rfl
    by_cases e : d.f0 = c.f0
    · exact ⟨⟨d.f0, d.f1 + c.f1, d.f2 ++ c.f2⟩, r, by simp only [addR, if_neg h0, if_pos e], e.trans hc⟩
    · exact ⟨c, d :: r, by simp only [addR, if_neg h0, if_neg e]; rw [if_neg (by omega)], hc⟩
theorem addR_nf {r : List Cm} {c : Cm} (hg : ∀ d ∈ r, good d) (hc : good c) (h : nfR r) : nfR (addR r c) := by
  by_cases h0 : sz c = 0
  · rw [addR_zero h0]; exact h
  · have hcz := good_sz hc
    induction r with
    | nil => simp only [addR, if_neg h0]; exact ⟨h0, trivial, trivial⟩
    | cons d r ih =>
      have hd := hg d List.mem_cons_self; have hr : ∀ d ∈ r, good d := fun d hd => hg d (List.mem_cons_of_mem _ hd)
      have hdz := good_sz hd
      simp only [addR, if_neg h0]
      by_cases e : d.f0 = c.f0
      · rw [if_pos e]
        refine ⟨?_, ?_, h.2.2⟩
        · simp only [sz, ByteArray.size_append] at hcz hdz h0 ⊢; omega
        · have h2 := h.2.1
          cases r with
          | nil => trivial
          | cons d' r' => exact h2
      · rw [if_neg e]
        by_cases e2 : c.f0 = 1 ∧ d.f0 = 2
        · rw [if_pos e2]
          have hh : ∀ d', r.head? = some d' → d'.f0 ≠ 2 := by
            intro d' hd'
            cases r with
            | nil => cases hd'
            | cons d'' r' =>
              simp only [List.head?_cons, Option.some.injEq] at hd'
              subst hd'
              have := h.2.1.1
              omega
          obtain ⟨e', t, he', hk⟩ := addR_put_head h.2.2 e2.1 h0 hh
          have := ih hr h.2.2
          rw [he'] at this ⊢
          exact ⟨h.1, ⟨by omega, by omega⟩, this⟩
        · rw [if_neg e2]
          exact ⟨h0, ⟨fun hh => e hh.symm, e2⟩, h⟩
def nf (l : List Cm) : Prop := nfR l.reverse
theorem add_nf {r : List Cm} {c : Cm} (hg : ∀ d ∈ r, good d) (hc : good c) (h : nf r) : nf (add r c) := by
  unfold nf add; rw [List.reverse_reverse]; exact addR_nf (fun e he => hg e (by simpa using he)) hc h
theorem fold_good {cs r : List Cm} (hr : ∀ d ∈ r, good d) (h : ∀ c ∈ cs, good c) : ∀ d ∈ cs.foldl add r, good d := by
  induction cs generalizing r with
  | nil => exact hr
  | cons c cs ih => exact ih (add_good hr (h c List.mem_cons_self)) (fun d hd => h d (List.mem_cons_of_mem _ hd))
theorem norm_good {cs : List Cm} (h : ∀ c ∈ cs, good c) : ∀ d ∈ norm cs, good d := fold_good (fun d hd => by cases hd) h
theorem fold_nf {cs r : List Cm} (hr : ∀ d ∈ r, good d) (h : ∀ c ∈ cs, good c) (hn : nf r) : nf (cs.foldl add r) := by
  induction cs generalizing r with
  | nil => exact hn
  | cons c cs ih => exact ih (add_good hr (h c List.mem_cons_self)) (fun d hd => h d (List.mem_cons_of_mem _ hd)) (add_nf hr (h c List.mem_cons_self) hn)
theorem norm_nf {cs : List Cm} (h : ∀ c ∈ cs, good c) : nf (norm cs) := fold_nf (fun d hd => by cases hd) h trivial
theorem fold_tot {cs r : List Cm} (hr : ∀ d ∈ r, good d) (h : ∀ c ∈ cs, good c) : tot (cs.foldl add r) = tot r + tot cs := by
  induction cs generalizing r with
  | nil => simp [tot]
  | cons c cs ih =>
    rw [List.foldl_cons, ih (add_good hr (h c List.mem_cons_self)) (fun d hd => h d (List.mem_cons_of_mem _ hd)), tot_add hr (h c List.mem_cons_self)]; simp only [tot]; omega
theorem fold_froms {cs r : List Cm} (hr : ∀ d ∈ r, good d) (h : ∀ c ∈ cs, good c) : froms (cs.foldl add r) = froms r + froms cs := by
  induction cs generalizing r with
  | nil => simp [froms]
  | cons c cs ih =>
    rw [List.foldl_cons, ih (add_good hr (h c List.mem_cons_self)) (fun d hd => h d (List.mem_cons_of_mem _ hd)), froms_add hr (h c List.mem_cons_self)]; simp only [froms]; omega
theorem fold_tos {cs r : List Cm} (hr : ∀ d ∈ r, good d) (h : ∀ c ∈ cs, good c) : tos (cs.foldl add r) = tos r + tos cs := by
  induction cs generalizing r with
  | nil => simp [tos]
  | cons c cs ih =>
    rw [List.foldl_cons, ih (add_good hr (h c List.mem_cons_self)) (fun d hd => h d (List.mem_cons_of_mem _ hd)), tos_add hr (h c List.mem_cons_self)]; simp only [tos]; omega
theorem fold_len (cs r : List Cm) : (cs.foldl add r).length ≤ r.length + cs.length := by
  induction cs generalizing r with
  | nil => simp
  | cons c cs ih => rw [List.foldl_cons]; have := ih (add r c); have := add_len r c; simp only [List.length_cons]; omega

/-! an edit in normal form is its own -/
theorem add_snoc {r : List Cm} {c : Cm} (h : nf (r ++ [c])) : add r c = r ++ [c] := by
  unfold nf at h; rw [List.reverse_append] at h
  simp only [List.reverse_cons, List.reverse_nil, List.nil_append, List.singleton_append] at h
  unfold add
  generalize hr : r.reverse = q at h
  have : r = q.reverse := by rw [← hr, List.reverse_reverse]
  subst this
  cases q with
  | nil => simp [addR, h.1]
  | cons d q =>
    have h1 := h.1; have h2 := h.2.1
    simp only [addR, if_neg h1]
    rw [if_neg (fun e => h2.1 e.symm), if_neg h2.2]
    simp
theorem nf_append_left {a b : List Cm} (h : nf (a ++ b)) : nf a := by
  unfold nf at *
  rw [List.reverse_append] at h
  generalize b.reverse = q at h
  induction q with
  | nil => exact h
  | cons c q ih => exact ih (nfR_tail h)
theorem fold_append {a b : List Cm} (h : nf (a ++ b)) : b.foldl add a = a ++ b := by
  induction b generalizing a with
  | nil => simp
  | cons c b ih =>
    have e : a ++ c :: b = (a ++ [c]) ++ b := by simp
    rw [List.foldl_cons, add_snoc (nf_append_left (b := b) (by rw [← e]; exact h)), e]
    exact ih (by rw [← e]; exact h)
theorem norm_of_nf {a : List Cm} (h : nf a) : norm a = a := by
  unfold norm; rw [fold_append (a := []) (by simpa using h)]; simp

/-! May, the piece ahead first -/
def okSeq : Int → List Cm → Bool
  | _, [] => true
  | last, c :: r => rawB c && decide (sz c ≠ 0) && decide (c.f0 ≠ last) && !(decide (c.f0 = 1) && decide (last = 2)) && okSeq c.f0 r
def mayB (cs : List Cm) : Bool := decide (cs.length ≤ 4096) && (okSeq (-1) cs && (decide (froms cs ≤ 4096) && decide (tos cs ≤ 4096)))
theorem okSeq_raw {last : Int} {cs : List Cm} (h : okSeq last cs = true) : ∀ c ∈ cs, rawB c = true := by
  induction cs generalizing last with
  | nil => intro c hc; cases hc
  | cons d r ih =>
    simp only [okSeq, Bool.and_eq_true] at h
    intro c hc
    rcases List.mem_cons.1 hc with rfl | hc
    · exact h.1.1.1.1
    · exact ih h.2 c hc
theorem okSeq_nf {r cs : List Cm} (hn : nf r) (h : okSeq (match r.getLast? with | none => -1 | some d => d.f0) cs = true) : nf (r ++ cs) := by
  induction cs generalizing r with
  | nil => simpa using hn
  | cons c cs ih =>
    simp only [okSeq, Bool.and_eq_true, decide_eq_true_eq, Bool.not_eq_true', Bool.and_eq_false_iff, decide_eq_false_iff_not] at h
    have e : r ++ c :: cs = (r ++ [c]) ++ cs := by simp
    rw [e]
    refine ih ?_ (by simpa using h.2)
    unfold nf; rw [List.reverse_append]
    simp only [List.reverse_cons, List.reverse_nil, List.nil_append, List.singleton_append]
    unfold nf at hn
    have hl : r.getLast? = r.reverse.head? := by simp
    rw [hl] at h
    generalize r.reverse = q at *
    cases q with
    | nil => exact ⟨h.1.1.1.2, trivial, trivial⟩
    | cons d q =>
      simp only [List.head?_cons] at h
      exact ⟨h.1.1.1.2, ⟨h.1.1.2, by omega⟩, hn⟩
theorem may_nf {cs : List Cm} (h : mayB cs = true) : nf cs := by
  simp only [mayB, Bool.and_eq_true] at h
  have := okSeq_nf (r := []) (cs := cs) trivial (by simpa using h.2.1)
  simpa using this
theorem nf_okSeq {r cs : List Cm} (hr : ∀ c ∈ cs, rawB c = true) (h : nf (r ++ cs)) : okSeq (match r.getLast? with | none => -1 | some d => d.f0) cs = true := by
  induction cs generalizing r with
  | nil => rfl
  | cons c cs ih =>
    have e : r ++ c :: cs = (r ++ [c]) ++ cs := by simp
    rw [e] at h
    have h1 := ih (fun d hd => hr d (List.mem_cons_of_mem _ hd)) h
    have h2 := nf_append_left h
    unfold nf at h2; rw [List.reverse_append] at h2
    simp only [List.reverse_cons, List.reverse_nil, List.nil_append, List.singleton_append] at h2
    have hl : r.getLast? = r.reverse.head? := by simp
    have hc := hr c List.mem_cons_self
    have hg := raw_good hc
    rw [hl]
    simp only [List.getLast?_append, List.getLast?_singleton, Option.some_or] at h1
    generalize r.reverse = q at *
    simp only [okSeq, Bool.and_eq_true, decide_eq_true_eq, Bool.not_eq_true', Bool.and_eq_false_iff, decide_eq_false_iff_not]
    cases q with
    | nil =>
      simp only [List.head?_nil]
      refine ⟨⟨⟨⟨hc, h2.1⟩, ?_⟩, .inr (by omega)⟩, h1⟩
      have := hg.2.1; omega
    | cons d q =>
      simp only [List.head?_cons]
      have h3 := h2.2.1
      exact ⟨⟨⟨⟨hc, h2.1⟩, h3.1⟩, by have := h3.2; omega⟩, h1⟩
/-- May is: pieces that may be, and the normal form of itself, and lengths. -/
theorem may_iff (cs : List Cm) : mayB cs = true ↔ cs.length ≤ 4096 ∧ (∀ c ∈ cs, rawB c = true) ∧ nf cs ∧ froms cs ≤ 4096 ∧ tos cs ≤ 4096 := by
  constructor
  · intro h
    have hn := may_nf h
    simp only [mayB, Bool.and_eq_true, decide_eq_true_eq] at h
    exact ⟨h.1, okSeq_raw h.2.1, hn, h.2.2⟩
  · intro ⟨h1, h2, h3, h4⟩
    have := nf_okSeq (r := []) h2 (by simpa using h3)
    simp only [mayB, Bool.and_eq_true, decide_eq_true_eq]
    exact ⟨h1, by simpa using this, h4⟩

end Go.Proofs.Ytgbajaljfbgilaa.Pl

/- What the printed functions of package comp, and of the reference's pieces, come to: the model of M1. -/
namespace Go.Proofs.Ytgbajaljfbgilaa.Pl
open Go.RowKit Go.Proofs.Ytgbajaljfbgilaa.G Go.Proofs.YtgbajaljfbgilaaW.PrintWords Go.Proofs.YtgbajaljfbgilaaW.PrintLast
set_option linter.unusedVariables false
set_option linter.unusedSimpArgs false

theorem w64 {x : Int} (h0 : -9223372036854775808 ≤ x) (h1 : x < 9223372036854775808) : wrap64 x = x := by unfold wrap64; omega
theorem rd_of {xs pre suf : List Cm} {c : Cm} (e : xs = pre ++ c :: suf) : rd_T36 xs (pre.length : Int) = c := by
  subst e; simp [rd_T36]
theorem lt_of {α : Type} {xs pre suf : List α} {c : α} (e : xs = pre ++ c :: suf) : (pre.length : Int) < (xs.length : Int) := by
  subst e; simp only [List.length_append, List.length_cons]; omega
theorem nlt_of {α : Type} {xs pre : List α} (e : xs = pre ++ []) : ¬ (pre.length : Int) < (xs.length : Int) := by
  subst e; simp
theorem next_of {α : Type} {xs pre suf : List α} {c : α} (e : xs = pre ++ c :: suf) : xs = (pre ++ [c]) ++ suf := by
  subst e; simp
theorem len_next {α : Type} (pre : List α) (c : α) (h : pre.length < 9223372036854775807) : wrap64 ((pre.length : Int) + 1) = ((pre ++ [c]).length : Int) := by
  rw [w64 (by omega) (by omega)]; simp
theorem lt_len {α : Type} {xs pre suf : List α} {c : α} (e : xs = pre ++ c :: suf) : pre.length < xs.length := by
  subst e; simp only [List.length_append, List.length_cons]; omega
theorem mem_of {α : Type} {xs pre suf : List α} {c : α} (e : xs = pre ++ c :: suf) : c ∈ xs := by subst e; simp
theorem nat_nonneg (n : Nat) : (0 : Int) ≤ (n : Int) := Int.natCast_nonneg n
theorem toList_len (s : ByteArray) : s.toList.length = s.size := by
  rw [ByteArray.toList_eq]; simp
theorem toList_nil (s : ByteArray) : (s.toList == ([] : List UInt8)) = decide (s.size = 0) := by
  rw [Bool.eq_iff_iff]
  simp only [beq_iff_eq, decide_eq_true_eq]
  constructor
  · intro h
    have h2 : s.toList.length = s.size := toList_len s
    rw [h] at h2; simpa using h2.symm
  · intro h
    have h2 : s.toList.length = s.size := toList_len s
    exact List.eq_nil_of_length_eq_zero (h2.trans h)
/-- Behind a bind, a value that is there at once. -/
theorem Ev_some {α β : Type} {a : α} {f : Nat → α → Option β} {r : β} (h : Ev (fun k => f k a) r) : Ev (fun k => (some a).bind (f k)) r := h

/-! raw, Size -/
theorem Size_eq (c : Cm) (h : good c) (hb : sz c < 9223372036854775808) : comp_Size.f c.f0 c.f1 c.f2 = some (sz c) := by
  have := good_sz h
  unfold comp_Size.f
  rw [show c.f1 + (c.f2.size : Int) = sz c from rfl, w64 (by omega) (by omega)]
theorem raw_ev (c : Cm) : Ev (fun k => comp_raw.f k c.f0 c.f1 c.f2) (rawB c) := by
  have key : ∀ b, (b = (c.f0 == 0 || c.f0 == 2)) → Ev (fun k => comp_raw.j0 k c.f0 b c.f0 c.f1 c.f2) (rawB c) := by
    intro b hb
    refine Ev.step (fun k => by rw [comp_raw.j0]) ?_
    refine ⟨0, fun k _ => ?_⟩
    simp only [toList_nil, rawB]
    cases b with
    | true =>
      have h : c.f0 = 0 ∨ c.f0 = 2 := by simpa using hb.symm
      have h1 : ¬ c.f0 = 1 := by omega
      simp only [if_true, h, h1, true_and, false_and, or_false]
      by_cases a1 : 0 ≤ c.f1
      · by_cases a2 : c.f1 ≤ 4096 <;> simp [a1, a2]
      · simp [a1]
    | false =>
      have h : ¬ c.f0 = 0 ∧ ¬ c.f0 = 2 := by simpa using hb.symm
      simp only [Bool.false_eq_true, if_false, h.1, h.2, false_or, false_and, or_self]
      by_cases a1 : c.f0 = 1
      · by_cases a2 : c.f1 = 0
        · simp [a1, a2]; omega
        · simp [a1, a2]
      · simp [a1]
  unfold comp_raw.f
  by_cases h : c.f0 = 0
  · simp only [if_pos h]; exact key _ (by simp [h])
  · simp only [if_neg h]; exact key _ (by simp [h])

/-! Spans -/
theorem Spans_l0 (xs : List Cm) (hg : ∀ c ∈ xs, good c) (hl : xs.length < 9223372036854775807) : ∀ (suf pre : List Cm) (a b : Int), xs = pre ++ suf → 0 ≤ a → 0 ≤ b → a + tot suf < 9223372036854775808 → b + tot suf < 9223372036854775808 →
    Ev (fun k => comp_Spans.l0 k a b xs (xs.length : Int) (pre.length : Int)) (a + froms suf, b + tos suf) := by
  intro suf
  induction suf with
  | nil =>
    intro pre a b e h0 h1 h2 h3
    refine Ev.step (fun k => by rw [comp_Spans.l0]) ?_
    simp only [if_neg (nlt_of e), froms, tos, Int.add_zero]
    exact Ev.now _
  | cons c suf ih =>
    intro pre a b e h0 h1 h2 h3
    have hc := hg c (mem_of e)
    have hs := good_sz hc
    have h1' := hc.1
    have ht : 0 ≤ tot suf := tot_nonneg (fun d hd => hg d (by rw [e]; simp [hd]))
    simp only [tot] at h2 h3
    have hle : c.f1 ≤ sz c := by unfold sz; omega
    refine Ev.step (fun k => by rw [comp_Spans.l0]) ?_
    simp only [if_pos (lt_of e), if_pos (nat_nonneg _), rd_of e, Size_eq c hc (by omega), Option.bind_some, len_next pre c (Nat.lt_trans (lt_len e) hl)]
    have e2 := next_of e
    by_cases k1 : c.f0 = 1
    · have k2 : ¬ c.f0 = 2 := by omega
      simp only [if_pos k1, if_neg k2, froms, tos]
      rw [w64 (by omega) (by omega)]
      have := ih (pre ++ [c]) a (b + sz c) e2 h0 (by omega) (by omega) (by omega)
      rw [show a + (0 + froms suf) = a + froms suf by omega, show b + (sz c + tos suf) = b + sz c + tos suf by omega]
      exact this
    · by_cases k2 : c.f0 = 2
      · simp only [if_neg k1, if_pos k2, froms, tos]
        rw [w64 (by omega) (by omega)]
        have := ih (pre ++ [c]) (a + c.f1) b e2 (by omega) h1 (by omega) (by omega)
        rw [show a + (c.f1 + froms suf) = a + c.f1 + froms suf by omega, show b + (0 + tos suf) = b + tos suf by omega]
        exact this
      · simp only [if_neg k1, if_neg k2, froms, tos]
        rw [w64 (by omega) (by omega), w64 (by omega) (by omega)]
        have := ih (pre ++ [c]) (a + c.f1) (b + sz c) e2 (by omega) (by omega) (by omega) (by omega)
        rw [show a + (c.f1 + froms suf) = a + c.f1 + froms suf by omega, show b + (sz c + tos suf) = b + sz c + tos suf by omega]
        exact this
theorem Spans_ev (xs : List Cm) (hg : ∀ c ∈ xs, good c) (hl : xs.length < 9223372036854775807) (ht : tot xs < 9223372036854775808) : Ev (fun k => comp_Spans.f k xs) (froms xs, tos xs) := by
  have := Spans_l0 xs hg hl xs [] 0 0 rfl (by omega) (by omega) (by omega) (by omega)
  simpa [comp_Spans.f] using this
theorem within_ev (xs : List Cm) (hg : ∀ c ∈ xs, good c) (hl : xs.length < 9223372036854775807) (ht : tot xs < 9223372036854775808) : Ev (fun k => comp_within.f k xs) (decide (froms xs ≤ 4096) && decide (tos xs ≤ 4096)) := by
  refine Ev.congr (fun k => by rw [comp_within.f]) (Ev.bind (Spans_ev xs hg hl ht) ?_)
  by_cases h : froms xs ≤ 4096
  · simp only [if_pos h, decide_eq_true h, Bool.true_and]; exact Ev.now _
  · simp only [if_neg h, decide_eq_false h, Bool.false_and]; exact Ev.now _

/-! May -/
theorem May_l0 (xs : List Cm) (hl : xs.length ≤ 4096) : ∀ (suf pre : List Cm) (last : Int), xs = pre ++ suf → (∀ c ∈ pre, rawB c = true) →
    Ev (fun k => comp_May.l0 k xs last xs (xs.length : Int) (pre.length : Int)) (okSeq last suf && (decide (froms xs ≤ 4096) && decide (tos xs ≤ 4096))) := by
  intro suf
  induction suf with
  | nil =>
    intro pre last e hp
    have e' : xs = pre := by simpa using e
    have hr : ∀ c ∈ xs, rawB c = true := by rw [e']; exact hp
    have := tot_raw hr
    refine Ev.step (fun k => by rw [comp_May.l0]) ?_
    simp only [if_neg (nlt_of e), okSeq, Bool.true_and]
    exact Ev.bind (within_ev xs (fun c hc => raw_good (hr c hc)) (by omega) (by omega)) (Ev.now _)
  | cons c suf ih =>
    intro pre last e hp
    have hlt := lt_len e
    refine Ev.step (fun k => by rw [comp_May.l0]) ?_
    simp only [if_pos (lt_of e), if_pos (nat_nonneg _), rd_of e, len_next pre c (by omega)]
    refine Ev.bind (raw_ev c) ?_
    by_cases hr : rawB c = true
    · have hg := raw_good hr
      have hz := raw_sz hr
      simp only [hr, if_true, Size_eq c hg (by omega), Option.bind_some, okSeq, Bool.true_and]
      have := ih (pre ++ [c]) c.f0 (next_of e) (fun d hd => by
        rcases List.mem_append.1 hd with hd | hd
        · exact hp d hd
        · rw [List.mem_singleton.1 hd]; exact hr)
      by_cases h0 : sz c = 0
      · simp only [if_pos h0, h0, ne_eq, not_true_eq_false, decide_false, Bool.false_and]; exact Ev.now _
      · by_cases h1 : c.f0 = last
        · simp only [if_neg h0, if_pos h1]
          simp [h1]; exact Ev.now _
        · simp only [if_neg h0, if_neg h1]
          by_cases h2 : c.f0 = 1
          · simp only [if_pos h2]
            by_cases h3 : last = 2
            · simp only [if_pos h3]; simp [h2, h3]; exact Ev.now _
            · simp only [if_neg h3]
              rw [show (decide (sz c ≠ 0) && decide (c.f0 ≠ last) && !(decide (c.f0 = 1) && decide (last = 2)) && okSeq c.f0 suf) = okSeq c.f0 suf by simp [h0, h1, h3]]
              exact this
          · simp only [if_neg h2]
            rw [show (decide (sz c ≠ 0) && decide (c.f0 ≠ last) && !(decide (c.f0 = 1) && decide (last = 2)) && okSeq c.f0 suf) = okSeq c.f0 suf by simp [h0, h1, h2]]
            exact this
    · have hr' : rawB c = false := by simpa using hr
      simp only [hr', Bool.false_eq_true, if_false, okSeq, Bool.false_and]; exact Ev.now _
theorem May_ev (xs : List Cm) : Ev (fun k => comp_May.f k xs) (mayB xs) := by
  unfold comp_May.f mayB
  by_cases h : xs.length ≤ 4096
  · have h1 : ¬ ((xs.length : Int) > 4096) := by omega
    simp only [if_neg h1, decide_eq_true h, Bool.true_and]
    have := May_l0 xs h xs [] (-1) rfl (fun c hc => by cases hc)
    simpa using this
  · have h1 : (xs.length : Int) > 4096 := by omega
    simp only [if_pos h1, decide_eq_false h, Bool.false_and]
    exact Ev.now _
/-- What Lengths comes to. -/
def lens (xs : List Cm) : Int × Int × Int := if mayB xs = true then (froms xs, tos xs, 0) else (0, 0, 200)
theorem may_bounds {xs : List Cm} (h : mayB xs = true) : xs.length ≤ 4096 ∧ (∀ c ∈ xs, good c) ∧ tot xs ≤ 16777216 := by
  obtain ⟨h1, h2, _⟩ := (may_iff xs).1 h
  have := tot_raw h2
  exact ⟨h1, fun c hc => raw_good (h2 c hc), by omega⟩
theorem Lengths_ev (xs : List Cm) : Ev (fun k => comp_Lengths.f k xs) (lens xs) := by
  refine Ev.congr (fun k => by rw [comp_Lengths.f]) (Ev.bind (May_ev xs) ?_)
  unfold lens
  by_cases h : mayB xs = true
  · simp only [h, if_true]
    obtain ⟨h1, h2, h3⟩ := may_bounds h
    exact Ev.bind (Spans_ev xs h2 (by omega) (by omega)) (Ev.now _)
  · simp only [if_neg h]; exact Ev.now _
theorem lens_err (xs : List Cm) (h : ¬ mayB xs = true) : lens xs = (0, 0, 200) := by unfold lens; rw [if_neg h]
theorem lens_ok (xs : List Cm) (h : mayB xs = true) : lens xs = (froms xs, tos xs, 0) := by unfold lens; rw [if_pos h]
end Go.Proofs.Ytgbajaljfbgilaa.Pl

/- What comp.Add comes to; the normal form's model. -/
namespace Go.Proofs.Ytgbajaljfbgilaa.Pl
open Go.RowKit Go.Proofs.Ytgbajaljfbgilaa.G Go.Proofs.YtgbajaljfbgilaaW.PrintWords Go.Proofs.YtgbajaljfbgilaaW.PrintLast
set_option linter.unusedVariables false
set_option linter.unusedSimpArgs false

theorem set_last (p : List Cm) (d e : Cm) : (p ++ [d]).set ((p.length : Int)).toNat e = p ++ [e] := by simp
theorem last_ix (p : List Cm) (d : Cm) (h : p.length < 4398046511104) : wrap64 (((p ++ [d]).length : Int) - 1) = (p.length : Int) := by
  simp only [List.length_append, List.length_cons, List.length_nil]
  rw [w64 (by omega) (by omega)]; omega
theorem Add_rev : ∀ (q : List Cm) (c : Cm), (∀ d ∈ q, good d) → good c → tot q + sz c < 4611686018427387904 → q.length < 4398046511100 →
    Ev (fun k => comp_Add.f k q.reverse c.f0 c.f1 c.f2) (addR q c).reverse := by
  intro q
  induction q with
  | nil =>
    intro c hq hc hb hl
    have hz := good_sz hc
    simp only [tot, Int.zero_add] at hb
    refine Ev.step (fun k => by rw [comp_Add.f]) ?_
    simp only [Size_eq c hc (by omega), Option.bind_some, addR]
    by_cases h0 : sz c = 0
    · simp only [if_pos h0]; exact Ev.now _
    · simp only [if_neg h0, List.reverse_nil, List.length_nil]
      have e1 : wrap64 (((0 : Nat) : Int) - 1) = -1 := by rw [w64 (by omega) (by omega)]; rfl
      have e2 : ¬ ((-1 : Int) ≥ 0) := by omega
      simp only [e1, if_neg e2]
      refine Ev.step (fun k => by rw [comp_Add.j0]) ?_
      simp only [Bool.false_eq_true, if_false, if_neg e2, Option.bind_some]
      exact Ev.now _
  | cons d q ih =>
    intro c hq hc hb hl
    have hz := good_sz hc
    have hd := hq d List.mem_cons_self
    have hdz := good_sz hd
    have hq' : ∀ e ∈ q, good e := fun e he => hq e (List.mem_cons_of_mem _ he)
    have htq := tot_nonneg hq'
    simp only [tot] at hb
    simp only [List.length_cons] at hl
    have hql : q.reverse.length = q.length := List.length_reverse
    refine Ev.step (fun k => by rw [comp_Add.f]) ?_
    simp only [Size_eq c hc (by omega), Option.bind_some, addR]
    by_cases h0 : sz c = 0
    · simp only [if_pos h0]; exact Ev.now _
    · simp only [if_neg h0, List.reverse_cons]
      have e0 := last_ix q.reverse d (by omega)
      have e1 : ((q.reverse.length : Int)) ≥ 0 := by omega
      have e2 : ((q.reverse.length : Int)) < ((q.reverse ++ [d]).length : Int) := by simp only [List.length_append, List.length_cons, List.length_nil]; omega
      have e3 : rd_T36 (q.reverse ++ [d]) (q.reverse.length : Int) = d := rd_of (suf := []) rfl
      have e1' : (0 : Int) ≤ (q.reverse.length : Int) := e1
      simp only [e0, if_pos e1, if_pos e1', if_pos e2, e3]
      refine Ev.step (fun k => by rw [comp_Add.j0]) ?_
      by_cases h1 : d.f0 = c.f0
      · have e4 : (d.f0 == c.f0) = true := by simpa using h1
        simp only [e4, if_true, if_pos e1', if_pos e2, e3, if_pos h1, set_last, Option.bind_some]
        have e5 : rd_T36 (q.reverse ++ [(⟨d.f0, wrap64 (d.f1 + c.f1), d.f2⟩ : Cm)]) (q.reverse.length : Int) = ⟨d.f0, wrap64 (d.f1 + c.f1), d.f2⟩ := rd_of (suf := []) rfl
        simp only [e5, set_last]
        have h2 := hd.1; have h3 := hc.1
        have e6 : d.f2.size + c.f2.size ≤ 9223372036854775807 := by simp only [sz] at hb; omega
        have e7 : wrap64 (d.f1 + c.f1) = d.f1 + c.f1 := by simp only [sz] at hb; exact w64 (by omega) (by omega)
        simp only [if_pos e6, e7, List.reverse_cons]
        exact Ev.now _
      · have e4 : (d.f0 == c.f0) = false := by simpa using h1
        simp only [e4, Bool.false_eq_true, if_false, if_pos e1, if_pos e1', if_pos e2, e3, if_neg h1, Option.bind_some]
        have e8 : (q.reverse ++ [d]).length + 1 < 4398046511104 := by simp only [List.length_append, List.length_cons, List.length_nil]; omega
        by_cases h2 : c.f0 = 1
        · by_cases h3 : d.f0 = 2
          · have e9 : ((q.reverse.length : Int)) ≤ ((q.reverse ++ [d]).length : Int) := Int.le_of_lt e2
            have e10 : (q.reverse ++ [d]).take ((q.reverse.length : Int)).toNat = q.reverse := by simp
            simp only [if_pos h2, if_pos h3, if_pos e9, e10, h2, h3, and_self, if_true, List.reverse_cons]
            have e11 : ((addR q c).reverse.length + [d].length < 4398046511104) := by
              have := addR_len q c
              simp only [List.length_reverse, List.length_cons, List.length_nil]; omega
            have := ih c hq' hc (by omega) (by omega)
            simp only [h2] at this
            refine Ev.bind this ?_
            have ed : (⟨2, d.f1, d.f2⟩ : Cm) = d := by rw [← h3]
            simp only [ed, if_pos e11]
            exact Ev.now _
          · have h4 : ¬ (c.f0 = 1 ∧ d.f0 = 2) := by omega
            simp only [if_pos h2, if_neg h3, if_neg h4, List.length_cons, List.length_nil, Nat.zero_add, if_pos e8, List.reverse_cons]
            exact Ev.now _
        · have h4 : ¬ (c.f0 = 1 ∧ d.f0 = 2) := by omega
          simp only [if_neg h2, if_neg h4, List.length_cons, List.length_nil, Nat.zero_add, if_pos e8, List.reverse_cons]
          exact Ev.now _
theorem Add_ev (l : List Cm) (c : Cm) (hl : ∀ d ∈ l, good d) (hc : good c) (hb : tot l + sz c < 4611686018427387904) (hn : l.length < 4398046511100) :
    Ev (fun k => comp_Add.f k l c.f0 c.f1 c.f2) (add l c) := by
  have ht : tot l.reverse = tot l := by rw [tot_sum, tot_sum, sumOf_reverse]
  have := Add_rev l.reverse c (fun d hd => hl d (by simpa using hd)) hc (by omega) (by simpa using hn)
  rw [List.reverse_reverse] at this
  exact this

/-! Normal -/
def inB (xs : List Cm) : Bool := decide (froms xs ≤ 4096) && decide (tos xs ≤ 4096)
def normal (cs : List Cm) : List Cm × Int :=
  if decide (cs.length ≤ 4096) && (cs.all rawB && inB (norm cs)) then (norm cs, 0) else ([], 200)
end Go.Proofs.Ytgbajaljfbgilaa.Pl
