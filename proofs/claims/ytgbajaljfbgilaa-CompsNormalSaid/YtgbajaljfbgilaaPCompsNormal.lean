/- The plain law CompsNormal: no program in sight but the printed function. -/
import Derived.Test.YtgbajaljfbgilaaD2
import Derived.Test.YtgbajaljfbgilaaB2
import Derived.Test.YtgbajaljfbgilaaGMinuetlaw2PCompsNormal
namespace Go.Proofs.Ytgbajaljfbgilaa.Pl
open Go.RowKit Go.Proofs.Ytgbajaljfbgilaa.G Go.Proofs.YtgbajaljfbgilaaW.PrintWords Go.Proofs.YtgbajaljfbgilaaW.PrintLast Go.Proofs.YtgbajaljfbgilaaW.PrintMore
set_option linter.unusedVariables false
set_option linter.unusedSimpArgs false
def kpn (c : Cm) : Int := if c.f0 = 0 then c.f1 else 0
def ctn (c : Cm) : Int := if c.f0 = 2 then c.f1 else 0
theorem meas_kpn : Meas kpn := ⟨fun c hc h => by simp only [sz] at h; have := hc.1; unfold kpn; split <;> omega, fun d c _ _ e => by unfold kpn; simp only; rw [← e]; split <;> omega⟩
theorem meas_ctn : Meas ctn := ⟨fun c hc h => by simp only [sz] at h; have := hc.1; unfold ctn; split <;> omega, fun d c _ _ e => by unfold ctn; simp only; rw [← e]; split <;> omega⟩
theorem fold_sumn {f : Cm → Int} (hf : Meas f) {cs : List Cm} (h : ∀ c ∈ cs, good c) : ∀ r : List Cm, (∀ d ∈ r, good d) → sumOf f (cs.foldl add r) = sumOf f r + sumOf f cs := by
  induction cs with
  | nil => intro r _; simp [sumOf]
  | cons c cs ih =>
    intro r hr
    rw [List.foldl_cons, ih (fun d hd => h d (List.mem_cons_of_mem _ hd)) _ (add_good hr (h c List.mem_cons_self)), sumOf_add hf hr (h c List.mem_cons_self)]
    simp only [sumOf]; omega
theorem norm_sumn {f : Cm → Int} (hf : Meas f) {cs : List Cm} (h : ∀ c ∈ cs, good c) : sumOf f (norm cs) = sumOf f cs := by
  unfold norm; rw [fold_sumn hf h [] no_good]; simp [sumOf]
/-- All that is put, in a row. -/
def ptx : List Cm → ByteArray
  | [] => ⟨#[]⟩
  | c :: r => c.f2 ++ ptx r
theorem no_txt (x : ByteArray) (h : x.size = 0) : x = ⟨#[]⟩ := by
  apply ByteArray.ext; exact Array.eq_empty_of_size_eq_zero h
theorem app_no (x : ByteArray) : x ++ (⟨#[]⟩ : ByteArray) = x := by
  apply ByteArray.ext; simp
theorem no_app (x : ByteArray) : (⟨#[]⟩ : ByteArray) ++ x = x := by
  apply ByteArray.ext; simp
theorem ptx_append (a b : List Cm) : ptx (a ++ b) = ptx a ++ ptx b := by
  induction a with
  | nil => simp only [List.nil_append, ptx, no_app]
  | cons c r ih => simp only [List.cons_append, ptx, ih, ByteArray.append_assoc]
theorem ptx_addR {r : List Cm} {c : Cm} (h : ∀ d ∈ r, good d) (hc : good c) : ptx (addR r c).reverse = ptx r.reverse ++ c.f2 := by
  have z0 : sz c = 0 → c.f2 = ⟨#[]⟩ := fun e => no_txt _ (by have := hc.1; unfold sz at e; omega)
  induction r with
  | nil =>
    unfold addR; split
    · rename_i h0; rw [z0 h0, app_no]
    · simp only [List.reverse_cons, List.reverse_nil, List.nil_append, ptx, app_no, no_app]
  | cons e r ih =>
    have he := h e List.mem_cons_self; have hr : ∀ d ∈ r, good d := fun d hd => h d (List.mem_cons_of_mem _ hd)
    unfold addR; split
    · rename_i h0; rw [z0 h0, app_no]
    · split
      · simp only [List.reverse_cons, ptx_append, ptx, app_no, ByteArray.append_assoc]
      · split
        · rename_i hh
          have : e.f2 = ⟨#[]⟩ := no_txt _ (he.2.2.2 (by omega))
          simp only [List.reverse_cons, ptx_append, ptx, app_no, ih hr, this]
        · simp only [List.reverse_cons, ptx_append, ptx, app_no, ByteArray.append_assoc]
theorem ptx_add {r : List Cm} {c : Cm} (h : ∀ d ∈ r, good d) (hc : good c) : ptx (add r c) = ptx r ++ c.f2 := by
  unfold add; rw [ptx_addR (fun e he => h e (by simpa using he)) hc, List.reverse_reverse]
theorem ptx_fold {cs : List Cm} (h : ∀ c ∈ cs, good c) : ∀ r : List Cm, (∀ d ∈ r, good d) → ptx (cs.foldl add r) = ptx r ++ ptx cs := by
  induction cs with
  | nil => intro r _; simp only [List.foldl_nil, ptx, app_no]
  | cons c cs ih =>
    intro r hr
    rw [List.foldl_cons, ih (fun d hd => h d (List.mem_cons_of_mem _ hd)) _ (add_good hr (h c List.mem_cons_self)), ptx_add hr (h c List.mem_cons_self)]
    simp only [ptx, ByteArray.append_assoc]
theorem ptx_norm {cs : List Cm} (h : ∀ c ∈ cs, good c) : ptx (norm cs) = ptx cs := by
  unfold norm; rw [ptx_fold h [] no_good]; simp only [ptx, no_app]
theorem ptx_size {cs : List Cm} (h : ∀ c ∈ cs, good c) : ((ptx cs).size : Int) ≤ tot cs := by
  induction cs with
  | nil => exact Int.le_refl 0
  | cons c r ih =>
    have := ih (fun d hd => h d (List.mem_cons_of_mem _ hd)); have := (h c List.mem_cons_self).1
    simp only [ptx, tot, sz, ByteArray.size_append]; omega
theorem sz_d (x : ByteArray) : x.size = x.data.toList.length := by rw [Array.length_toList]; rfl
theorem ext_l (x y : ByteArray) : (x ++ y).extract 0 x.size = x := by
  apply ByteArray.ext; apply Array.toList_inj.1
  rw [ByteArray.data_extract, Array.toList_extract, List.extract_eq_take_drop, ByteArray.data_append, Array.toList_append, List.drop_zero, Nat.sub_zero, sz_d x, List.take_left]
theorem ext_r (x y : ByteArray) : (x ++ y).extract x.size (x ++ y).size = y := by
  apply ByteArray.ext; apply Array.toList_inj.1
  rw [ByteArray.data_extract, Array.toList_extract, List.extract_eq_take_drop, ByteArray.data_append, Array.toList_append, ByteArray.size_append, Nat.add_sub_cancel_left, sz_d x, List.drop_left, sz_d y, List.take_length]
theorem sum_nn {f : Cm → Int} {cs : List Cm} (h0 : ∀ c ∈ cs, 0 ≤ f c ∧ f c ≤ sz c) : 0 ≤ sumOf f cs ∧ sumOf f cs ≤ tot cs := by
  induction cs with
  | nil => simp [sumOf, tot]
  | cons c r ih =>
    have := ih (fun d hd => h0 d (List.mem_cons_of_mem _ hd)); have := h0 c List.mem_cons_self
    simp only [sumOf, tot]; omega
theorem kpn_b {c : Cm} (h : good c) : 0 ≤ kpn c ∧ kpn c ≤ sz c := by have := h.1; unfold kpn sz; split <;> omega
theorem ctn_b {c : Cm} (h : good c) : 0 ≤ ctn c ∧ ctn c ≤ sz c := by have := h.1; unfold ctn sz; split <;> omega
theorem nf_joins {pre suf : List Cm} {d c : Cm} (h : nf (pre ++ d :: c :: suf)) : joins c d := by
  have h : nf ((pre ++ [d, c]) ++ suf) := by simpa using h
  have h := nf_append_left h
  unfold nf at h; rw [List.reverse_append] at h
  simp only [List.reverse_cons, List.reverse_nil, List.nil_append, List.singleton_append, List.cons_append] at h
  exact h.2.1
theorem nf_some {pre suf : List Cm} {c : Cm} (h : nf (pre ++ c :: suf)) : sz c ≠ 0 := by
  have h : nf ((pre ++ [c]) ++ suf) := by simpa using h
  have h := nf_append_left h
  unfold nf at h; rw [List.reverse_append] at h
  simp only [List.reverse_cons, List.reverse_nil, List.nil_append, List.singleton_append, List.cons_append] at h
  exact h.1
/-- One piece taken off. -/
theorem cn_j3 (a : List Cm) (c : Cm) (i K C : Int) (P : ByteArray) (hc : good c) (hz : sz c ≠ 0) (h0 : 0 ≤ K) (h1 : 0 ≤ C) (hb : sz c + K + C < 4611686018427387) (hp : c.f2.size + P.size < 4611686018427387)
    (H : Ev (fun k => minuetlaw2_CompsNormal.l1 k a K C P (wrap64 (i + 1))) true) :
    Ev (fun k => minuetlaw2_CompsNormal.j3 k a (kpn c + K) (ctn c + C) (c.f2 ++ P) i false c.f0 c.f1 c.f2) true := by
  have hc1 := hc.1
  have hsz := good_sz hc
  refine Ev.step (fun k => by rw [minuetlaw2_CompsNormal.j3]) ?_
  simp only [Bool.false_eq_true, if_false]
  have hs : c.f1 ≤ sz c := by unfold sz; omega
  rcases hc.2.1 with k | k | k
  · have e2 : c.f2 = ⟨#[]⟩ := no_txt _ (hc.2.2.2 (by omega))
    have k2 : ¬ c.f0 = 2 := by omega
    simp only [kpn, ctn, if_pos k, if_neg k2]
    rw [e2, no_app, w64 (by omega) (by omega), show c.f1 + K - c.f1 = K by omega, show (0 : Int) + C = C by omega]
    exact H
  · have k2 : ¬ c.f0 = 2 := by omega
    have k0 : ¬ c.f0 = 0 := by omega
    have g1 : ¬ (c.f2.size : Int) > ((c.f2 ++ P).size : Int) := by rw [ByteArray.size_append]; omega
    have g2 : (c.f2.size : Int) ≤ ((c.f2 ++ P).size : Int) := by rw [ByteArray.size_append]; omega
    have g3 : (0 : Int) ≤ (c.f2.size : Int) := by omega
    simp only [kpn, ctn, if_neg k0, if_neg k2, if_neg g1, if_pos g2, if_pos g3, Int.toNat_natCast, ext_l, ext_r, if_true]
    rw [show (0 : Int) + K = K by omega, show (0 : Int) + C = C by omega]
    exact H
  · have e2 : c.f2 = ⟨#[]⟩ := no_txt _ (hc.2.2.2 (by omega))
    have k0 : ¬ c.f0 = 0 := by omega
    simp only [kpn, ctn, if_pos k, if_neg k0]
    rw [e2, no_app, w64 (by omega) (by omega), show c.f1 + C - c.f1 = C by omega, show (0 : Int) + K = K by omega]
    exact H
theorem cn_l1 (a : List Cm) (hg : ∀ c ∈ a, good c) (hn : nf a) (hl : a.length ≤ 4096) (ht : tot a ≤ 16777216) : ∀ (suf pre : List Cm), a = pre ++ suf →
    Ev (fun k => minuetlaw2_CompsNormal.l1 k a (sumOf kpn suf) (sumOf ctn suf) (ptx suf) (pre.length : Int)) true := by
  intro suf
  induction suf with
  | nil =>
    intro pre e
    refine Ev.step (fun k => by rw [minuetlaw2_CompsNormal.l1]) ?_
    simp only [if_neg (nlt_of e), sumOf, if_true, ptx]
    rw [show ((⟨#[]⟩ : ByteArray).toList == ([] : List UInt8)) = true by rw [toList_nil]; rfl]
    exact Ev.now _
  | cons c suf ih =>
    intro pre e
    have hlt := lt_len e
    have hc := hg c (mem_of e)
    have hgs : ∀ d ∈ suf, good d := fun d hd => hg d (by rw [e]; simp [hd])
    have hgp : ∀ d ∈ pre, good d := fun d hd => hg d (by rw [e]; simp [hd])
    have hz : sz c ≠ 0 := nf_some (pre := pre) (suf := suf) (by rw [← e]; exact hn)
    have b1 := sum_nn (f := kpn) (fun d hd => kpn_b (hgs d hd)); have b2 := sum_nn (f := ctn) (fun d hd => ctn_b (hgs d hd)); have b3 := ptx_size hgs
    have b4 : tot a = tot pre + (sz c + tot suf) := by rw [e, tot_append]; rfl
    have b5 := tot_nonneg hgp; have b6 := tot_nonneg hgs; have b7 := good_sz hc
    have b8 : (c.f2.size : Int) ≤ sz c := by have := hc.1; unfold sz; omega
    have H := ih (pre ++ [c]) (next_of e)
    rw [← len_next pre c (by omega)] at H
    have J := cn_j3 a c (pre.length : Int) _ _ _ hc hz b1.1 b2.1 (by omega) (by omega) H
    have hno : c.f1 = 0 → (c.f2.toList == ([] : List UInt8)) = false := by
      intro h; rw [toList_nil]; refine decide_eq_false (fun h' => hz ?_); unfold sz; omega
    have J' : Ev (fun k => if c.f1 = 0 then minuetlaw2_CompsNormal.j3 k a (sumOf kpn (c :: suf)) (sumOf ctn (c :: suf)) (ptx (c :: suf)) (pre.length : Int) (c.f2.toList == ([] : List UInt8)) c.f0 c.f1 c.f2
        else minuetlaw2_CompsNormal.j3 k a (sumOf kpn (c :: suf)) (sumOf ctn (c :: suf)) (ptx (c :: suf)) (pre.length : Int) false c.f0 c.f1 c.f2) true := by
      by_cases h : c.f1 = 0
      · simp only [if_pos h, hno h]; exact J
      · simp only [if_neg h]; exact J
    refine Ev.step (fun k => by rw [minuetlaw2_CompsNormal.l1]) ?_
    simp only [if_pos (lt_of e), if_pos (nat_nonneg _), rd_of e]
    rcases List.eq_nil_or_concat pre with rfl | ⟨p, d, rfl⟩
    · have h0 : ¬ ((([] : List Cm).length : Int) > 0) := by simp
      simp only [if_neg h0]
      exact J'
    · simp only [List.concat_eq_append] at *
      have h0 : (((p ++ [d]).length : Int) > 0) := by simp only [List.length_append, List.length_cons, List.length_nil]; omega
      have e' : a = p ++ d :: (c :: suf) := by rw [e]; simp
      have hj := nf_joins (pre := p) (suf := suf) (d := d) (c := c) (by rw [← e']; exact hn)
      have hw : wrap64 (((p ++ [d]).length : Int) - 1) = (p.length : Int) := by
        rw [w64 (by omega) (by omega)]; simp only [List.length_append, List.length_cons, List.length_nil]; omega
      simp only [if_pos h0, hw, if_pos (nat_nonneg _), if_pos (lt_of e'), rd_of e', if_neg (show ¬ d.f0 = c.f0 from fun h => hj.1 h.symm)]
      by_cases h2 : d.f0 = 2
      · have h1 : ¬ c.f0 = 1 := fun h => hj.2 ⟨h, h2⟩
        simp only [if_pos h2, if_neg h1]; exact J'
      · simp only [if_neg h2]; exact J'
theorem cn_l0 (cs a : List Cm) (hg : ∀ c ∈ cs, good c) (hl : cs.length ≤ 4096) (ht : tot cs ≤ 16777216)
    (H : Ev (fun k => minuetlaw2_CompsNormal.l1 k a (sumOf kpn cs) (sumOf ctn cs) (ptx cs) 0) true) : ∀ (suf pre : List Cm), cs = pre ++ suf →
    Ev (fun k => minuetlaw2_CompsNormal.l0 k cs a (sumOf kpn pre) (sumOf ctn pre) (ptx pre) (pre.length : Int)) true := by
  intro suf
  induction suf with
  | nil =>
    intro pre e
    refine Ev.step (fun k => by rw [minuetlaw2_CompsNormal.l0]) ?_
    simp only [if_neg (nlt_of e)]
    rw [List.append_nil] at e; subst e
    exact H
  | cons c suf ih =>
    intro pre e
    have hlt := lt_len e
    have hc := hg c (mem_of e)
    have hgp : ∀ d ∈ pre, good d := fun d hd => hg d (by rw [e]; simp [hd])
    have hgs : ∀ d ∈ suf, good d := fun d hd => hg d (by rw [e]; simp [hd])
    have b1 := sum_nn (f := kpn) (fun d hd => kpn_b (hgp d hd)); have b2 := sum_nn (f := ctn) (fun d hd => ctn_b (hgp d hd)); have b3 := ptx_size hgp
    have b4 : tot cs = tot pre + (sz c + tot suf) := by rw [e, tot_append]; rfl
    have b5 := tot_nonneg hgp; have b6 := tot_nonneg hgs; have b7 := good_sz hc
    have b8 : (c.f2.size : Int) ≤ sz c := by have := hc.1; unfold sz; omega
    have b9 : c.f1 ≤ sz c := by unfold sz; omega
    have hc1 := hc.1
    have H' := ih (pre ++ [c]) (next_of e)
    rw [← len_next pre c (by omega)] at H'
    simp only [sumOf_append, ptx_append, sumOf, ptx, app_no, Int.add_zero] at H'
    refine Ev.step (fun k => by rw [minuetlaw2_CompsNormal.l0]) ?_
    simp only [if_pos (lt_of e), if_pos (nat_nonneg _), rd_of e]
    rcases hc.2.1 with k | k | k
    · have e2 : c.f2 = ⟨#[]⟩ := no_txt _ (hc.2.2.2 (by omega))
      have k2 : ¬ c.f0 = 2 := by omega
      simp only [if_pos k]
      simp only [kpn, ctn, if_pos k, if_neg k2, e2, app_no, Int.add_zero] at H'
      rw [w64 (x := sumOf kpn pre + c.f1) (by omega) (by omega)]
      exact H'
    · have k2 : ¬ c.f0 = 2 := by omega
      have k0 : ¬ c.f0 = 0 := by omega
      have g : (ptx pre).size + c.f2.size ≤ 9223372036854775807 := by omega
      simp only [if_neg k0, if_neg k2, if_pos g]
      simp only [kpn, ctn, if_neg k0, if_neg k2, Int.add_zero] at H'
      exact H'
    · have e2 : c.f2 = ⟨#[]⟩ := no_txt _ (hc.2.2.2 (by omega))
      have k0 : ¬ c.f0 = 0 := by omega
      simp only [if_neg k0, if_pos k]
      simp only [kpn, ctn, if_pos k, if_neg k0, e2, app_no, Int.add_zero] at H'
      rw [w64 (x := sumOf ctn pre + c.f1) (by omega) (by omega)]
      exact H'
theorem CompsNormal_pure {ok : Cm → Prop} (cs : List Cm) (_h : ∀ c ∈ cs, ok c) (_hl : cs.length * 32 ≤ 140737488351232) : ∃ k, minuetlaw2_CompsNormal.f k cs = some true := by
  refine Ev.rounds (Ev.congr (fun k => by rw [minuetlaw2_CompsNormal.f]) (Ev.bind awake2 ?_))
  simp only [if_true]
  refine Ev.bind (Normal_ev cs) ?_
  simp only [num_eq, Option.bind_some]
  by_cases h : (decide (cs.length ≤ 4096) && (cs.all rawB && inB (norm cs))) = true
  · have en : normal cs = (norm cs, 0) := by unfold normal; rw [if_pos h]
    simp only [Bool.and_eq_true, decide_eq_true_eq, List.all_eq_true, inB] at h
    obtain ⟨h1, h2, h3, h4⟩ := h
    have hg : ∀ c ∈ cs, good c := fun c hc => raw_good (h2 c hc)
    have hgn := norm_good hg
    have hnn := norm_nf hg
    have hln : (norm cs).length ≤ 4096 := by have := fold_len cs []; simp only [List.length_nil] at this; unfold norm; omega
    have ht := tot_raw h2
    have htn : tot (norm cs) = tot cs := by unfold norm; rw [fold_tot no_good hg]; simp [tot]
    have e2 : normal (norm cs) = (norm cs, 0) := by
      rw [normal_ok hln (raw_of hgn h3 h4) h3 h4, norm_of_nf hnn]
    rw [en]
    simp only [if_true]
    refine Ev.bind (Normal_ev (norm cs)) ?_
    rw [e2]
    simp only [if_true]
    refine Ev.bind (Same_refl _ (by omega)) ?_
    simp only [if_true]
    refine Ev.bind (May_ev (norm cs)) ?_
    rw [may_of_nf hln hgn hnn h3 h4]
    refine Ev.step (fun k => by rw [minuetlaw2_CompsNormal.j0]) ?_
    simp only [Bool.not_true, Bool.false_eq_true, if_false]
    have L1 := cn_l1 (norm cs) hgn hnn hln (by omega) (norm cs) [] rfl
    rw [norm_sumn meas_kpn hg, norm_sumn meas_ctn hg, ptx_norm hg] at L1
    exact cn_l0 cs (norm cs) hg h1 (by omega) L1 cs [] rfl
  · have en : normal cs = ([], 200) := by unfold normal; rw [if_neg h]
    rw [en]
    simp only [Int.reduceEq, if_false, List.length_nil, Int.natCast_zero, if_true, Int.cast_ofNat_Int, beq_self_eq_true]
    exact Ev.now _
end Go.Proofs.Ytgbajaljfbgilaa.Pl
