/- Edits upon texts: the model of Apply. No function of the program in sight. -/
import Derived.Test.YtgbajaljfbgilaaB2
namespace Go.Proofs.Ytgbajaljfbgilaa.Pl
open Go.RowKit Go.Proofs.Ytgbajaljfbgilaa.G Go.Proofs.YtgbajaljfbgilaaW.PrintWords Go.Proofs.YtgbajaljfbgilaaW.PrintLast
set_option linter.unusedVariables false
set_option linter.unusedSimpArgs false

theorem Ev_cast {α : Type} {g : Nat → Option α} {r r' : α} (h : Ev g r) (e : r = r') : Ev g r' := e ▸ h
/-! texts as rows of bytes -/
def bl (s : ByteArray) : List UInt8 := s.data.toList
def bs (l : List UInt8) : ByteArray := ⟨l.toArray⟩
theorem bl_bs (l : List UInt8) : bl (bs l) = l := rfl
theorem bs_bl (s : ByteArray) : bs (bl s) = s := rfl
theorem bl_inj {a b : ByteArray} (h : bl a = bl b) : a = b := by rw [← bs_bl a, ← bs_bl b, h]
theorem bl_len (s : ByteArray) : (bl s).length = s.size := by unfold bl; rw [Array.length_toList]; rfl
theorem bs_size (l : List UInt8) : (bs l).size = l.length := by rw [← bl_len, bl_bs]
theorem bl_nil : bl (⟨#[]⟩ : ByteArray) = [] := rfl
theorem bl_app (a b : ByteArray) : bl (a ++ b) = bl a ++ bl b := by
  unfold bl; rw [ByteArray.data_append, Array.toList_append]
theorem bs_app (a b : List UInt8) : bs (a ++ b) = bs a ++ bs b := by apply bl_inj; rw [bl_app, bl_bs, bl_bs, bl_bs]
theorem bl_ext (s : ByteArray) (i j : Nat) : bl (s.extract i j) = ((bl s).drop i).take (j - i) := by
  unfold bl; rw [ByteArray.data_extract, Array.toList_extract, List.extract_eq_take_drop]
theorem bl_to (s : ByteArray) : s.toList = bl s := ByteArray.toList_eq s
theorem size0 {s : ByteArray} (h : s.size = 0) : bl s = [] := List.eq_nil_of_length_eq_zero (by rw [bl_len, h])

/-! Apply -/
def ap : List UInt8 → List Cm → List UInt8
  | _, [] => []
  | s, c :: r => (if c.f0 = 0 then s.take c.f1.toNat else []) ++ (bl c.f2 ++ ap (s.drop c.f1.toNat) r)
theorem ap_keep {c : Cm} (h : c.f0 = 0) (s : List UInt8) (r : List Cm) : ap s (c :: r) = s.take c.f1.toNat ++ (bl c.f2 ++ ap (s.drop c.f1.toNat) r) := by rw [ap, if_pos h]
theorem ap_not {c : Cm} (h : ¬ c.f0 = 0) (s : List UInt8) (r : List Cm) : ap s (c :: r) = bl c.f2 ++ ap (s.drop c.f1.toNat) r := by rw [ap, if_neg h, List.nil_append]
theorem froms_eq {c : Cm} (h : good c) : (if c.f0 = 1 then 0 else c.f1) = c.f1 := by
  split
  · rename_i k; exact (h.2.2.1 k).symm
  · rfl
theorem froms_cons {c : Cm} {r : List Cm} (h : good c) : froms (c :: r) = c.f1 + froms r := by simp only [froms, froms_eq h]
theorem ap_app {a b : List Cm} (ha : ∀ c ∈ a, good c) : ∀ s, ap s (a ++ b) = ap s a ++ ap (s.drop (froms a).toNat) b := by
  induction a with
  | nil => intro s; simp [ap, froms]
  | cons c a ih =>
    intro s
    have hc := ha c List.mem_cons_self; have ha' : ∀ c ∈ a, good c := fun d hd => ha d (List.mem_cons_of_mem _ hd)
    have h0 := hc.1; have h1 := (froms_le ha').1
    rw [List.cons_append]
    simp only [ap, ih ha', froms_cons hc, List.append_assoc, List.drop_drop]
    rw [show c.f1.toNat + (froms a).toNat = (c.f1 + froms a).toNat by omega]
theorem ap_len {cs : List Cm} (hg : ∀ c ∈ cs, good c) : ∀ s : List UInt8, froms cs ≤ s.length → ((ap s cs).length : Int) = tos cs := by
  induction cs with
  | nil => intro s _; simp [ap, tos]
  | cons c cs ih =>
    intro s h
    have hc := hg c List.mem_cons_self; have hg' : ∀ c ∈ cs, good c := fun d hd => hg d (List.mem_cons_of_mem _ hd)
    have h0 := hc.1; have h1 := (froms_le hg').1
    rw [froms_cons hc] at h
    have := ih hg' (s.drop c.f1.toNat) (by rw [List.length_drop]; omega)
    simp only [ap, List.length_append, tos, bl_len, sz]
    by_cases k0 : c.f0 = 0
    · have k2 : ¬ c.f0 = 2 := by omega
      rw [if_pos k0, if_neg k2, List.length_take]; omega
    · rw [if_neg k0]
      by_cases k2 : c.f0 = 2
      · have := hc.2.2.2 (by omega); rw [if_pos k2, List.length_nil]; omega
      · have := hc.2.2.1 (by have := hc.2.1; omega); rw [if_neg k2, List.length_nil]; omega
/-- What stands behind the edit's length is never looked at. -/
theorem ap_more {cs : List Cm} (hg : ∀ c ∈ cs, good c) : ∀ s t : List UInt8, froms cs ≤ s.length → ap (s ++ t) cs = ap s cs := by
  induction cs with
  | nil => intro s t _; rfl
  | cons c cs ih =>
    intro s t h
    have hc := hg c List.mem_cons_self; have hg' : ∀ c ∈ cs, good c := fun d hd => hg d (List.mem_cons_of_mem _ hd)
    have h0 := hc.1; have h1 := (froms_le hg').1
    rw [froms_cons hc] at h
    simp only [ap]
    have hl : c.f1.toNat ≤ s.length := by omega
    rw [List.take_append_of_le_length hl, List.drop_append_of_le_length hl, ih hg' _ _ (by rw [List.length_drop]; omega)]
theorem ap_cut {d : Cm} (h : good d) (k : d.f0 = 2) (s : List UInt8) : ap s [d] = [] := by
  simp [ap, k, size0 (h.2.2.2 (by omega))]
theorem ap_snoc {a : List Cm} {c : Cm} (ha : ∀ d ∈ a, good d) (s : List UInt8) : ap s (a ++ [c]) = ap s a ++ ap (s.drop (froms a).toNat) [c] := ap_app ha s
theorem ap_zero {c : Cm} (h : good c) (h0 : sz c = 0) (s : List UInt8) : ap s [c] = [] := by
  have h1 := h.1
  simp only [sz] at h0
  simp [ap, show c.f1 = 0 by omega, size0 (show c.f2.size = 0 by omega)]
theorem ap_mrg {d c : Cm} (hd : good d) (hc : good c) (e : d.f0 = c.f0) (s : List UInt8) : ap s [mrg d c] = ap s [d, c] := by
  have h1 := hd.1; have h2 := hc.1
  by_cases k : d.f0 = 0
  · have e1 := size0 (hd.2.2.2 (by omega)); have e2 := size0 (hc.2.2.2 (by omega))
    rw [ap_keep (show (mrg d c).f0 = 0 from k), ap_keep k, ap_keep (show c.f0 = 0 by omega)]
    simp only [mrg, bl_app, e1, e2, ap, List.nil_append, List.append_nil]
    rw [show (d.f1 + c.f1).toNat = d.f1.toNat + c.f1.toNat by omega, List.take_add]
  · rw [ap_not (show ¬ (mrg d c).f0 = 0 from k), ap_not k, ap_not (show ¬ c.f0 = 0 by omega)]
    simp only [mrg, bl_app, ap, List.append_nil]
theorem ap_addR (q : List Cm) (c : Cm) (hq : ∀ d ∈ q, good d) (hc : good c) : ∀ s, ap s (addR q c).reverse = ap s (q.reverse ++ [c]) := by
  induction q with
  | nil =>
    intro s
    by_cases h0 : sz c = 0
    · rw [addR_zero h0]; simp [ap_zero hc h0, ap]
    · rw [addR_nil h0]; rfl
  | cons d q ih =>
    intro s
    have hd := hq d List.mem_cons_self; have hq' : ∀ d ∈ q, good d := fun e he => hq e (List.mem_cons_of_mem _ he)
    have hr : ∀ d ∈ q.reverse, good d := fun e he => hq' e (by simpa using he)
    have hr2 : ∀ e ∈ (d :: q).reverse, good e := fun e he => hq e (List.mem_reverse.1 he)
    by_cases h0 : sz c = 0
    · rw [addR_zero h0, ap_snoc hr2, ap_zero hc h0, List.append_nil]
    · by_cases e : d.f0 = c.f0
      · rw [addR_cons_same h0 e, List.reverse_cons, List.reverse_cons, List.append_assoc, ap_snoc hr, ap_mrg hd hc e, ← ap_app hr]; rfl
      · by_cases e2 : c.f0 = 1 ∧ d.f0 = 2
        · have hg2 := addR_good hq' hc
          rw [addR_cons_past h0 e2.1 e2.2, List.reverse_cons, ap_snoc (fun e he => hg2 e (List.mem_reverse.1 he)), ih hq', ap_cut hd e2.2, List.append_nil, List.reverse_cons, List.append_assoc, ap_snoc hr, ap_app hr]
          have hcf : c.f1 = 0 := hc.2.2.1 e2.1
          have hdt := size0 (hd.2.2.2 (by omega))
          simp [ap, e2.1, e2.2, hdt]
        · rw [addR_cons_new h0 e e2, List.reverse_cons]
theorem ap_add {r : List Cm} {c : Cm} (hr : ∀ d ∈ r, good d) (hc : good c) (s : List UInt8) : ap s (add r c) = ap s (r ++ [c]) := by
  unfold add
  rw [ap_addR r.reverse c (fun d hd => hr d (by simpa using hd)) hc, List.reverse_reverse]
theorem ap_fold {cs : List Cm} (hg : ∀ c ∈ cs, good c) : ∀ (r : List Cm) (s : List UInt8), (∀ d ∈ r, good d) → ap s (cs.foldl add r) = ap s (r ++ cs) := by
  induction cs with
  | nil => intro r s _; simp
  | cons c cs ih =>
    intro r s hr
    have hc := hg c List.mem_cons_self; have hg' : ∀ c ∈ cs, good c := fun d hd => hg d (List.mem_cons_of_mem _ hd)
    have hr2 : ∀ d ∈ r ++ [c], good d := fun d hd => by
      rcases List.mem_append.1 hd with hd | hd
      · exact hr d hd
      · rw [List.mem_singleton.1 hd]; exact hc
    rw [List.foldl_cons, ih hg' (add r c) s (add_good hr hc), ap_app (add_good hr hc), ap_add hr hc, froms_add hr hc, show r ++ c :: cs = (r ++ [c]) ++ cs by simp, ap_app hr2, froms_append]
    simp [froms]
theorem ap_norm {cs : List Cm} (hg : ∀ c ∈ cs, good c) (s : List UInt8) : ap s (norm cs) = ap s cs := by
  unfold norm; rw [ap_fold hg [] s (fun d hd => by cases hd)]; rfl

/-- What Apply comes to. -/
def apM (s : ByteArray) (cs : List Cm) : ByteArray × Int := if mayB cs = true ∧ froms cs = (s.size : Int) then (bs (ap (bl s) cs), 0) else (⟨#[]⟩, 300)
theorem apM_ok {s : ByteArray} {cs : List Cm} (h : mayB cs = true) (e : froms cs = (s.size : Int)) : apM s cs = (bs (ap (bl s) cs), 0) := if_pos ⟨h, e⟩
theorem apM_err {s : ByteArray} {cs : List Cm} (h : ¬ (mayB cs = true ∧ froms cs = (s.size : Int))) : apM s cs = (⟨#[]⟩, 300) := if_neg h
theorem apM_iff (s : ByteArray) (cs : List Cm) : (apM s cs).2 = 0 ↔ (mayB cs = true ∧ froms cs = (s.size : Int)) := by
  unfold apM; split
  · rename_i h; simpa using h
  · rename_i h; simpa using h
end Go.Proofs.Ytgbajaljfbgilaa.Pl
