/- Edits taken back: the model of Invert, and what it comes to. -/
import Derived.Test.YtldaokclpkcmmaaM6
import Derived.Test.YtldaokclpkcmmaaGInvertPInvert
namespace Go.Proofs.Ytldaokclpkcmmaa.Pl
open Go.RowKit Go.Proofs.Ytldaokclpkcmmaa.G Go.Proofs.YtldaokclpkcmmaaW.PrintWords Go.Proofs.YtldaokclpkcmmaaW.PrintLast
set_option linter.unusedVariables false
set_option linter.unusedSimpArgs false

theorem add_merge {d c : Cm} (hd : good d) (hc : good c) (d0 : sz d ≠ 0) (c0 : sz c ≠ 0) (e : d.f0 = c.f0) (Z : List Cm) : add (add Z d) c = add Z (mrg d c) := by
  unfold add; rw [List.reverse_reverse, addR_merge hd hc d0 c0 e]
theorem add_swap {d c : Cm} (d0 : sz d ≠ 0) (c0 : sz c ≠ 0) (hd : d.f0 = 2) (hc : c.f0 = 1) (Z : List Cm) (hZ : ∀ a ∈ Z, good a) : add (add Z c) d = add (add Z d) c := by
  unfold add; rw [List.reverse_reverse, List.reverse_reverse, addR_swap d0 c0 hd hc _ (fun a ha => hZ a (List.mem_reverse.1 ha))]

def bk1 (s : List UInt8) (c : Cm) : Cm := if c.f0 = 0 then c else if c.f0 = 2 then ⟨1, 0, bs (s.take c.f1.toNat)⟩ else ⟨2, (c.f2.size : Int), ⟨#[]⟩⟩
def bk : List UInt8 → List Cm → List Cm
  | _, [] => []
  | s, c :: r => bk1 s c :: bk (s.drop c.f1.toNat) r
theorem bk1_0 {c : Cm} (h : c.f0 = 0) (s : List UInt8) : bk1 s c = c := by rw [bk1, if_pos h]
theorem bk1_2 {c : Cm} (h : c.f0 = 2) (s : List UInt8) : bk1 s c = ⟨1, 0, bs (s.take c.f1.toNat)⟩ := by rw [bk1, if_neg (by omega), if_pos h]
theorem bk1_1 {c : Cm} (h : c.f0 = 1) (s : List UInt8) : bk1 s c = ⟨2, (c.f2.size : Int), ⟨#[]⟩⟩ := by rw [bk1, if_neg (by omega), if_neg (by omega)]
theorem kinds {c : Cm} (h : good c) : c.f0 = 0 ∨ c.f0 = 1 ∨ c.f0 = 2 := h.2.1
theorem bk1_good {c : Cm} (h : good c) (s : List UInt8) : good (bk1 s c) := by
  rcases kinds h with k | k | k
  · rw [bk1_0 k]; exact h
  · rw [bk1_1 k]; exact ⟨Int.natCast_nonneg _, by simp, by simp, fun _ => rfl⟩
  · rw [bk1_2 k]; exact ⟨by simp, by simp, by simp, by simp⟩
theorem bk1_sz {c : Cm} (h : good c) (s : List UInt8) (hs : c.f1 ≤ s.length) : sz (bk1 s c) = sz c := by
  have h0 := h.1
  rcases kinds h with k | k | k
  · rw [bk1_0 k]
  · rw [bk1_1 k]; have := h.2.2.1 k; simp only [sz]; rw [show (⟨#[]⟩ : ByteArray).size = 0 from rfl]; omega
  · rw [bk1_2 k]; have := h.2.2.2 (by omega); simp only [sz, bs_size, List.length_take]; omega
theorem bk_good {cs : List Cm} (hg : ∀ c ∈ cs, good c) : ∀ s, ∀ c ∈ bk s cs, good c := by
  induction cs with
  | nil => intro s c hc; cases hc
  | cons d cs ih =>
    intro s c hc
    rcases List.mem_cons.1 hc with rfl | hc
    · exact bk1_good (hg d List.mem_cons_self) s
    · exact ih (fun d hd => hg d (List.mem_cons_of_mem _ hd)) _ c hc
theorem bk_app {a : List Cm} (ha : ∀ c ∈ a, good c) (b : List Cm) : ∀ s, bk s (a ++ b) = bk s a ++ bk (s.drop (froms a).toNat) b := by
  induction a with
  | nil => intro s; simp [bk, froms]
  | cons c a ih =>
    intro s
    have hc := ha c List.mem_cons_self; have ha' : ∀ c ∈ a, good c := fun d hd => ha d (List.mem_cons_of_mem _ hd)
    have h0 := hc.1; have h1 := (froms_le ha').1
    rw [List.cons_append]
    simp only [bk, ih ha', froms_cons hc, List.cons_append, List.drop_drop]
    rw [show c.f1.toNat + (froms a).toNat = (c.f1 + froms a).toNat by omega]
theorem bk_len (cs : List Cm) : ∀ s, (bk s cs).length = cs.length := by
  induction cs with
  | nil => intro s; rfl
  | cons c cs ih => intro s; simp [bk, ih]
theorem bk_meas {cs : List Cm} (hg : ∀ c ∈ cs, good c) : ∀ s : List UInt8, froms cs ≤ s.length → froms (bk s cs) = tos cs ∧ tos (bk s cs) = froms cs ∧ tot (bk s cs) = tot cs := by
  induction cs with
  | nil => intro s _; exact ⟨rfl, rfl, rfl⟩
  | cons c cs ih =>
    intro s h
    have hc := hg c List.mem_cons_self; have hg' : ∀ c ∈ cs, good c := fun d hd => hg d (List.mem_cons_of_mem _ hd)
    have h0 := hc.1; have h1 := (froms_le hg').1
    rw [froms_cons hc] at h
    obtain ⟨i1, i2, i3⟩ := ih hg' (s.drop c.f1.toNat) (by rw [List.length_drop]; omega)
    have hz := bk1_sz hc s (by omega)
    have e0 : (⟨#[]⟩ : ByteArray).size = 0 := rfl
    rw [froms_cons hc]
    simp only [bk, froms_cons (bk1_good hc s), tos, tot, i1, i2, i3, hz]
    refine ⟨?_, ?_, trivial⟩
    · rcases kinds hc with k | k | k
      · rw [bk1_0 k, if_neg (by omega)]; have := hc.2.2.2 (by omega); unfold sz; omega
      · rw [bk1_1 k, if_neg (by omega)]; have := hc.2.2.1 k; unfold sz; show (c.f2.size : Int) + tos cs = _; omega
      · rw [bk1_2 k, if_pos k]
    · rcases kinds hc with k | k | k
      · rw [bk1_0 k, if_neg (by omega)]; have := hc.2.2.2 (by omega); unfold sz; omega
      · rw [bk1_1 k, if_pos rfl]; have := hc.2.2.1 k; omega
      · rw [bk1_2 k, if_neg (by show ¬ (1 : Int) = 2; decide)]; have := hc.2.2.2 (by omega); unfold sz; omega
theorem bk_ne {cs : List Cm} (hg : ∀ c ∈ cs, good c) : ∀ s : List UInt8, froms cs ≤ s.length → (∀ c ∈ cs, sz c ≠ 0) → ∀ c ∈ bk s cs, sz c ≠ 0 := by
  induction cs with
  | nil => intro s _ _ c hc; cases hc
  | cons d cs ih =>
    intro s h hz c hc
    have hd := hg d List.mem_cons_self; have hg' : ∀ c ∈ cs, good c := fun d hd => hg d (List.mem_cons_of_mem _ hd)
    have h0 := hd.1; have h1 := (froms_le hg').1
    rw [froms_cons hd] at h
    rcases List.mem_cons.1 hc with rfl | hc
    · rw [bk1_sz hd s (by omega)]; exact hz d List.mem_cons_self
    · exact ih hg' _ (by rw [List.length_drop]; omega) (fun e he => hz e (List.mem_cons_of_mem _ he)) c hc

/-- An edit's text, taken back by the edit's pieces taken back. -/
theorem ap_bk {cs : List Cm} (hg : ∀ c ∈ cs, good c) : ∀ s : List UInt8, froms cs = s.length → ap (ap s cs) (bk s cs) = s := by
  induction cs with
  | nil =>
    intro s h; simp only [froms] at h
    have hs : s = [] := List.eq_nil_of_length_eq_zero (by omega)
    rw [hs]; rfl
  | cons c cs ih =>
    intro s h
    have hc := hg c List.mem_cons_self; have hg' : ∀ c ∈ cs, good c := fun d hd => hg d (List.mem_cons_of_mem _ hd)
    have h0 := hc.1; have h1 := (froms_le hg').1
    rw [froms_cons hc] at h
    have hi := ih hg' (s.drop c.f1.toNat) (by rw [List.length_drop]; omega)
    have hl : (s.take c.f1.toNat).length = c.f1.toNat := by rw [List.length_take]; omega
    simp only [bk]
    rcases kinds hc with k | k | k
    · have hz := size0 (hc.2.2.2 (by omega))
      rw [bk1_0 k, ap_keep k, ap_keep k, hz, List.nil_append, List.nil_append, List.take_left' hl, List.drop_left' hl, hi, List.take_append_drop]
    · have hz : c.f1 = 0 := hc.2.2.1 k
      rw [hz] at hi ⊢
      simp only [Int.toNat_zero, List.drop_zero] at hi ⊢
      rw [bk1_1 k, ap_not (by simp), ap_not (by omega), hz]
      simp only [Int.toNat_zero, List.drop_zero, Int.toNat_natCast, bl_nil, List.nil_append]
      rw [← bl_len, List.drop_left, hi]
    · have hz := size0 (hc.2.2.2 (by omega))
      rw [bk1_2 k, ap_not (by simp), ap_not (by omega), hz]
      simp only [Int.toNat_zero, List.drop_zero, bl_bs, List.nil_append]
      rw [hi, List.take_append_drop]
theorem bk_bk {cs : List Cm} (hg : ∀ c ∈ cs, good c) : ∀ s : List UInt8, froms cs = s.length → bk (ap s cs) (bk s cs) = cs := by
  induction cs with
  | nil => intro s h; rfl
  | cons c cs ih =>
    intro s h
    have hc := hg c List.mem_cons_self; have hg' : ∀ c ∈ cs, good c := fun d hd => hg d (List.mem_cons_of_mem _ hd)
    have h0 := hc.1; have h1 := (froms_le hg').1
    rw [froms_cons hc] at h
    have hi := ih hg' (s.drop c.f1.toNat) (by rw [List.length_drop]; omega)
    have hl : (s.take c.f1.toNat).length = c.f1.toNat := by rw [List.length_take]; omega
    simp only [bk]
    rcases kinds hc with k | k | k
    · have hz := size0 (hc.2.2.2 (by omega))
      rw [bk1_0 k, bk1_0 k, ap_keep k, hz, List.nil_append, List.drop_left' hl, hi]
    · have hz : c.f1 = 0 := hc.2.2.1 k
      rw [bk1_1 k, ap_not (by omega), bk1_2 (by rfl)]
      simp only [Int.toNat_natCast]
      rw [← bl_len, List.take_left, List.drop_left, hi, bs_bl, ← k, ← hz]
    · have hz := hc.2.2.2 (by omega)
      rw [bk1_2 k, ap_not (by omega), bk1_1 (by rfl)]
      simp only [Int.toNat_zero, List.drop_zero, size0 hz, List.nil_append, hi, bs_size, hl]
      have e1 : ((c.f1.toNat : Nat) : Int) = c.f1 := by omega
      have e2 : c.f2 = ⟨#[]⟩ := bl_inj (by rw [size0 hz, bl_nil])
      rw [e1, ← k, ← e2]
theorem norm_snoc (a : List Cm) (c : Cm) : norm (a ++ [c]) = add (norm a) c := by unfold norm; rw [List.foldl_append]; rfl
theorem norm_app (a b : List Cm) : norm (a ++ b) = b.foldl add (norm a) := by unfold norm; rw [List.foldl_append]
/-- Taking back what has one more piece. -/
theorem bk_addR (q : List Cm) (c : Cm) (hq : ∀ d ∈ q, good d) (hc : good c) (hz : ∀ d ∈ q, sz d ≠ 0) : ∀ s : List UInt8, froms q.reverse + c.f1 ≤ s.length → norm (bk s (addR q c).reverse) = norm (bk s (q.reverse ++ [c])) := by
  induction q with
  | nil =>
    intro s h
    by_cases h0 : sz c = 0
    · rw [addR_zero h0]
      simp only [List.reverse_nil, List.nil_append, bk, norm, List.foldl_cons, List.foldl_nil]
      rw [add_zero (by rw [bk1_sz hc s (by simpa [froms] using h)]; exact h0)]
    · rw [addR_nil h0]; rfl
  | cons d q ih =>
    intro s h
    have hd := hq d List.mem_cons_self; have hq' : ∀ d ∈ q, good d := fun e he => hq e (List.mem_cons_of_mem _ he)
    have hr : ∀ d ∈ q.reverse, good d := fun e he => hq' e (List.mem_reverse.1 he)
    have hr2 : ∀ e ∈ (d :: q).reverse, good e := fun e he => hq e (List.mem_reverse.1 he)
    have hz' : ∀ d ∈ q, sz d ≠ 0 := fun e he => hz e (List.mem_cons_of_mem _ he)
    have hdz := hz d List.mem_cons_self
    have f0 := (froms_le hr).1; have d0 := hd.1; have c0 := hc.1
    have hfr : froms (d :: q).reverse = froms q.reverse + d.f1 := by rw [List.reverse_cons, froms_append, froms_cons hd]; simp [froms]
    rw [hfr] at h
    have gz : ∀ a ∈ norm (bk s q.reverse), good a := norm_good (bk_good hr s)
    by_cases h0 : sz c = 0
    · rw [addR_zero h0, bk_app hr2, norm_app]
      simp only [bk, List.foldl_cons, List.foldl_nil]
      rw [add_zero (by rw [bk1_sz hc _ (by rw [List.length_drop, hfr]; omega)]; exact h0)]
    · by_cases e : d.f0 = c.f0
      · rw [addR_cons_same h0 e, List.reverse_cons, List.reverse_cons, List.append_assoc, bk_app hr, bk_app hr, norm_app, norm_app]
        generalize hs' : s.drop (froms q.reverse).toNat = s'
        have hl' : d.f1 + c.f1 ≤ s'.length := by rw [← hs', List.length_drop]; omega
        show ([bk1 s' (mrg d c)] : List Cm).foldl add _ = ([bk1 s' d, bk1 (s'.drop d.f1.toNat) c] : List Cm).foldl add _
        simp only [List.foldl_cons, List.foldl_nil]
        rw [add_merge (bk1_good hd _) (bk1_good hc _) (by rw [bk1_sz hd _ (by omega)]; exact hdz) (by rw [bk1_sz hc _ (by rw [List.length_drop]; omega)]; exact h0) (by
          rcases kinds hd with k | k | k
          · rw [bk1_0 k, bk1_0 (by omega)]; exact e
          · rw [bk1_1 k, bk1_1 (by omega)]
          · rw [bk1_2 k, bk1_2 (by omega)])]
        congr 1
        rcases kinds hd with k | k | k
        · rw [bk1_0 (show (mrg d c).f0 = 0 from k), bk1_0 k, bk1_0 (by omega)]
        · rw [bk1_1 (show (mrg d c).f0 = 1 from k), bk1_1 k, bk1_1 (by omega)]
          simp only [mrg, ByteArray.size_append]
          rw [Int.natCast_add]; rfl
        · rw [bk1_2 (show (mrg d c).f0 = 2 from k), bk1_2 k, bk1_2 (by omega)]
          simp only [mrg]
          rw [show (d.f1 + c.f1).toNat = d.f1.toNat + c.f1.toNat by omega, List.take_add, bs_app]; rfl
      · by_cases e2 : c.f0 = 1 ∧ d.f0 = 2
        · have hcf : c.f1 = 0 := hc.2.2.1 e2.1
          have hg2 := addR_good hq' hc
          have hg3 : ∀ a ∈ (addR q c).reverse, good a := fun a ha => hg2 a (List.mem_reverse.1 ha)
          have hfa : froms (addR q c).reverse = froms q.reverse := by
            have := froms_add (r := q.reverse) (c := c) hr hc
            unfold add at this; rw [List.reverse_reverse] at this; rw [this, e2.1]; simp
          rw [addR_cons_past h0 e2.1 e2.2, List.reverse_cons, bk_app hg3, norm_app, ih hq' hz' s (by omega), hfa, bk_app hr, norm_app, List.reverse_cons, List.append_assoc, bk_app hr, norm_app]
          generalize hs' : s.drop (froms q.reverse).toNat = s'
          have hl' : d.f1 + c.f1 ≤ s'.length := by rw [← hs', List.length_drop]; omega
          show ([bk1 s' d] : List Cm).foldl add (([bk1 s' c] : List Cm).foldl add _) = ([bk1 s' d, bk1 (s'.drop d.f1.toNat) c] : List Cm).foldl add _
          simp only [List.foldl_cons, List.foldl_nil]
          rw [show bk1 (s'.drop d.f1.toNat) c = bk1 s' c by rw [bk1_1 e2.1, bk1_1 e2.1]]
          rw [add_swap (d := bk1 s' c) (c := bk1 s' d) (by rw [bk1_sz hc _ (by omega)]; exact h0) (by rw [bk1_sz hd _ (by omega)]; exact hdz) (by rw [bk1_1 e2.1]) (by rw [bk1_2 e2.2]) _ gz]
        · rw [addR_cons_new h0 e e2, List.reverse_cons]
theorem bk_add {r : List Cm} {c : Cm} (hr : ∀ d ∈ r, good d) (hc : good c) (hz : ∀ d ∈ r, sz d ≠ 0) (s : List UInt8) (h : froms r + c.f1 ≤ s.length) : norm (bk s (add r c)) = norm (bk s (r ++ [c])) := by
  have := bk_addR r.reverse c (fun d hd => hr d (List.mem_reverse.1 hd)) hc (fun d hd => hz d (List.mem_reverse.1 hd)) s (by rw [List.reverse_reverse]; exact h)
  rw [List.reverse_reverse] at this
  exact this
theorem bk_fold {cs : List Cm} (hg : ∀ c ∈ cs, good c) : ∀ (r : List Cm) (s : List UInt8), (∀ d ∈ r, good d) → (∀ d ∈ r, sz d ≠ 0) → froms r + froms cs ≤ s.length → norm (bk s (cs.foldl add r)) = norm (bk s (r ++ cs)) := by
  induction cs with
  | nil => intro r s _ _ _; simp
  | cons c cs ih =>
    intro r s hr hz h
    have hc := hg c List.mem_cons_self; have hg' : ∀ c ∈ cs, good c := fun d hd => hg d (List.mem_cons_of_mem _ hd)
    have hf := (froms_le hg').1
    rw [froms_cons hc] at h
    have hr2 : ∀ d ∈ r ++ [c], good d := fun d hd => by
      rcases List.mem_append.1 hd with hd | hd
      · exact hr d hd
      · rw [List.mem_singleton.1 hd]; exact hc
    have e1 : froms (add r c) = froms r + c.f1 := by rw [froms_add hr hc, froms_eq hc]
    have e2 : froms (r ++ [c]) = froms r + c.f1 := by rw [froms_append, froms_cons hc]; simp [froms]
    rw [List.foldl_cons, ih hg' (add r c) s (add_good hr hc) (add_ne hr hc hz) (by omega), bk_app (add_good hr hc), norm_app, bk_add hr hc hz s (by omega), e1, show r ++ c :: cs = (r ++ [c]) ++ cs by simp, bk_app hr2, norm_app, e2]
theorem bk_norm {cs : List Cm} (hg : ∀ c ∈ cs, good c) (s : List UInt8) (h : froms cs ≤ s.length) : norm (bk s (norm cs)) = norm (bk s cs) := by
  have := bk_fold hg [] s no_good (fun d hd => by cases hd) (by simpa [froms] using h)
  rw [List.nil_append] at this
  exact this

/-- What Invert comes to. -/
def ivM (s : ByteArray) (cs : List Cm) : List Cm × Int := if mayB cs = true ∧ froms cs = (s.size : Int) then (norm (bk (bl s) cs), 0) else ([], 700)
theorem ivM_ok {s : ByteArray} {cs : List Cm} (h : mayB cs = true) (e : froms cs = (s.size : Int)) : ivM s cs = (norm (bk (bl s) cs), 0) := if_pos ⟨h, e⟩
theorem ivM_err {s : ByteArray} {cs : List Cm} (h : ¬ (mayB cs = true ∧ froms cs = (s.size : Int))) : ivM s cs = ([], 700) := if_neg h
theorem Invert_l0 (xs : List Cm) (hg : ∀ c ∈ xs, good c) (hl : xs.length ≤ 4096) (ht : tot xs ≤ 16777216) : ∀ (suf pre : List Cm) (s : ByteArray) (out : List Cm), xs = pre ++ suf → froms suf = (s.size : Int) → (∀ c ∈ out, good c) → tot out = tot pre → out.length ≤ pre.length →
    Ev (fun k => invert_Invert.l0 k s out xs (xs.length : Int) (pre.length : Int)) ((bk (bl s) suf).foldl add out, 0) := by
  intro suf
  induction suf with
  | nil =>
    intro pre s out e hs ho hto hlo
    refine Ev.step (fun k => by rw [invert_Invert.l0]) ?_
    simp only [if_neg (nlt_of e), bk, List.foldl_nil]
    exact Ev.now _
  | cons c suf ih =>
    intro pre s out e hs ho hto hlo
    have hlt := lt_len e
    have hc := hg c (mem_of e)
    have hsuf : ∀ c ∈ suf, good c := fun d hd => hg d (by rw [e]; simp [hd])
    have hpre : ∀ c ∈ pre, good c := fun d hd => hg d (by rw [e]; simp [hd])
    have h0 := hc.1; have h2 := froms_le hsuf; have h4 := tot_nonneg hpre
    rw [froms_cons hc] at hs
    have ht2 : tot pre + (sz c + tot suf) ≤ 16777216 := by have := ht; rw [e, tot_append] at this; simpa [tot] using this
    have hcz := good_sz hc
    have hb := bk1_good hc (bl s)
    have hbz : sz (bk1 (bl s) c) = sz c := bk1_sz hc _ (by rw [bl_len]; omega)
    have hnext : Ev (fun k => invert_Invert.l0 k (s.extract c.f1.toNat s.size) (add out (bk1 (bl s) c)) xs (xs.length : Int) ((pre ++ [c]).length : Int)) ((bk (bl s) (c :: suf)).foldl add out, 0) := by
      have hx : bl (s.extract c.f1.toNat s.size) = (bl s).drop c.f1.toNat := by rw [bl_ext, List.take_of_length_le (by rw [List.length_drop, bl_len]; omega)]
      have := ih (pre ++ [c]) (s.extract c.f1.toNat s.size) (add out (bk1 (bl s) c)) (next_of e) (by rw [← bl_len, hx, List.length_drop, bl_len]; omega) (add_good ho hb) (by rw [tot_add ho hb, hbz, hto, tot_append]; simp [tot]) (by have := add_len out (bk1 (bl s) c); simp only [List.length_append, List.length_cons, List.length_nil]; omega)
      rw [hx] at this
      exact this
    have hadd := Add_ev out (bk1 (bl s) c) ho hb (by omega) (by omega)
    refine Ev.step (fun k => by rw [invert_Invert.l0]) ?_
    have hi1 : c.f1 ≤ (s.size : Int) := by omega
    simp only [if_pos (lt_of e), if_pos (nat_nonneg _), rd_of e, len_next pre c (by omega), comp_Cut.f, comp_Put.f, Option.bind_some, if_pos h0, if_pos hi1]
    rcases kinds hc with k | k | k
    · simp only [if_pos k]
      rw [bk1_0 k] at hadd hnext
      exact Ev.bind hadd hnext
    · have k0 : ¬ c.f0 = 0 := by omega
      have k2 : ¬ c.f0 = 2 := by omega
      simp only [if_neg k0, if_neg k2]
      rw [bk1_1 k] at hadd hnext
      exact Ev.bind hadd hnext
    · have k0 : ¬ c.f0 = 0 := by omega
      simp only [if_neg k0, if_pos k]
      have hx : s.extract 0 c.f1.toNat = bs ((bl s).take c.f1.toNat) := by apply bl_inj; rw [bl_ext, bl_bs, List.drop_zero, Nat.sub_zero]
      rw [bk1_2 k, ← hx] at hadd hnext
      exact Ev.bind hadd hnext
theorem Invert_ev (s : ByteArray) (cs : List Cm) : Ev (fun k => invert_Invert.f k s cs) (ivM s cs) := by
  refine Ev.congr (fun k => by rw [invert_Invert.f]) (Ev.bind (Apply_ev s cs) ?_)
  by_cases h : mayB cs = true ∧ froms cs = (s.size : Int)
  · rw [apM_ok h.1 h.2, ivM_ok h.1 h.2]
    obtain ⟨h1, h2, h3⟩ := may_bounds h.1
    simp only [if_true]
    exact Invert_l0 cs h2 h1 h3 cs [] s [] rfl h.2 no_good rfl (by simp)
  · rw [apM_err h, ivM_err h]
    simp only [Int.reduceEq, if_false]
    exact Ev.now _
/-- What Invert gives may be, and leads back. -/
theorem iv_may {s : ByteArray} {cs : List Cm} (h : mayB cs = true) (e : froms cs = (s.size : Int)) : mayB (norm (bk (bl s) cs)) = true ∧ froms (norm (bk (bl s) cs)) = tos cs ∧ tos (norm (bk (bl s) cs)) = froms cs := by
  obtain ⟨h1, h2, h3⟩ := may_bounds h
  have hb := bk_good h2 (bl s)
  obtain ⟨m1, m2, m3⟩ := bk_meas h2 (bl s) (by rw [bl_len]; omega)
  obtain ⟨_, _, _, q1, q2⟩ := (may_iff cs).1 h
  exact ⟨norm_may _ (by rw [bk_len]; exact h1) hb (by omega) (by omega), by rw [norm_froms hb]; exact m1, by rw [norm_tos hb]; exact m2⟩
end Go.Proofs.Ytldaokclpkcmmaa.Pl
