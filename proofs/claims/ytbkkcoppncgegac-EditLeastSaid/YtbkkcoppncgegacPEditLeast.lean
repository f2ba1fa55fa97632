/- The plain law EditLeast: no program in sight but the printed function. -/
import Derived.Test.YtbkkcoppncgegacE3
import Derived.Test.YtbkkcoppncgegacE5
import Derived.Test.YtbkkcoppncgegacGMinuetlaw8PEditLeast
namespace Go.Proofs.Ytbkkcoppncgegac.Pl
open Go.RowKit Go.Proofs.Ytbkkcoppncgegac.G Go.Proofs.YtbkkcoppncgegacW.PrintWords Go.Proofs.YtbkkcoppncgegacW.PrintLast Go.Proofs.YtbkkcoppncgegacW.PrintMore
set_option linter.unusedVariables false
set_option linter.unusedSimpArgs false
def elFin : Nat → List Cm → Int → Int → ByteArray → Int × Int × ByteArray
  | _, [], a, c, p => (a, c, p)
  | i, x :: r, a, c, p => if x.f0 = 2 then elFin (i + 1) r a x.f1 p else if x.f0 = 1 then elFin (i + 1) r a c x.f2 else if i = 0 then elFin (i + 1) r x.f1 c p else elFin (i + 1) r a c p
theorem el_l0 (s : ByteArray) (xs : List Cm) (hl : xs.length ≤ 4096) {r : Bool} : ∀ (suf pre : List Cm) (a c : Int) (p : ByteArray), xs = pre ++ suf →
    Ev (fun k => minuetlaw8_EditLeast.l0 k s xs (elFin pre.length suf a c p).1 (elFin pre.length suf a c p).2.1 (elFin pre.length suf a c p).2.2 (xs.length : Int)) r → Ev (fun k => minuetlaw8_EditLeast.l0 k s xs a c p (pre.length : Int)) r := by
  intro suf
  induction suf with
  | nil =>
    intro pre a c p e h
    have e' : xs = pre := by simpa using e
    rw [← e']; exact h
  | cons d suf ih =>
    intro pre a c p e h
    have hlt := lt_len e
    have hn : (pre ++ [d]).length = pre.length + 1 := by simp
    refine Ev.step (fun k => by rw [minuetlaw8_EditLeast.l0]) ?_
    simp only [if_pos (lt_of e), if_pos (nat_nonneg _), rd_of e, len_next pre d (by omega)]
    simp only [elFin] at h
    by_cases k2 : d.f0 = 2
    · simp only [if_pos k2] at h ⊢
      exact ih (pre ++ [d]) a d.f1 p (next_of e) (by rw [hn]; exact h)
    · by_cases k1 : d.f0 = 1
      · simp only [if_neg k2, if_pos k1] at h ⊢
        exact ih (pre ++ [d]) a c d.f2 (next_of e) (by rw [hn]; exact h)
      · by_cases k0 : pre.length = 0
        · have k0' : (pre.length : Int) = 0 := by omega
          simp only [if_neg k2, if_neg k1, if_pos k0, if_pos k0'] at h ⊢
          exact ih (pre ++ [d]) d.f1 c p (next_of e) (by rw [hn]; exact h)
        · have k0' : ¬ (pre.length : Int) = 0 := by omega
          simp only [if_neg k2, if_neg k1, if_neg k0, if_neg k0'] at h ⊢
          exact ih (pre ++ [d]) a c p (next_of e) (by rw [hn]; exact h)
theorem bt_at (s : ByteArray) (i : Nat) (h : i < s.size) : bt s (i : Int) = (((bl s).getD i 0).toNat : Int) := by
  unfold bt
  rw [dif_pos (show ((i : Int)).toNat < s.size by rw [Int.toNat_natCast]; exact h)]
  simp only [Int.toNat_natCast]
  rw [edit_Between.at_byte s i h]; rfl
theorem bt_ne {s t : ByteArray} {i j : Nat} (hi : i < s.size) (hj : j < t.size) (h : (bl s).getD i 0 ≠ (bl t).getD j 0) : ¬ bt s (i : Int) = bt t (j : Int) := by
  rw [bt_at s i hi, bt_at t j hj, Int.ofNat_inj, UInt8.toNat_inj]; exact h
theorem mk4_short (a : Int) (p : ByteArray) (c b : Int) : (mk4 a p c b).length ≤ 4 := by
  have := fold_len (raw4 a p c b) []
  simpa [mk4, norm, raw4] using this
/-- Behind the loop. -/
theorem el_end (s : ByteArray) (xs : List Cm) (a c : Int) (p : ByteArray) (hs : s.size ≤ 4096) (ha : 0 ≤ a) (hc : 0 ≤ c) (hac : a + c ≤ (s.size : Int)) (hp : p.size ≤ 4096)
    (h : c ≠ 0 → p.size ≠ 0 → (bl s).getD a.toNat 0 ≠ (bl p).getD 0 0 ∧ (bl s).getD (a.toNat + c.toNat - 1) 0 ≠ (bl p).getD (p.size - 1) 0) :
    Ev (fun k => minuetlaw8_EditLeast.l0 k s xs a c p (xs.length : Int)) true := by
  refine Ev.step (fun k => by rw [minuetlaw8_EditLeast.l0]) ?_
  rw [show wrap64 ((s.size : Int) - c) = (s.size : Int) - c from w64 (by omega) (by omega), show wrap64 (a + c) = a + c from w64 (by omega) (by omega)]
  have hg : (s.extract a.toNat (a + c).toNat).size = c.toNat := by rw [ByteArray.size_extract]; omega
  have hgl : bl (s.extract a.toNat (a + c).toNat) = ((bl s).drop a.toNat).take c.toNat := by rw [bl_ext, show (a + c).toNat - a.toNat = c.toNat by omega]
  have hlen : ((bl s).drop a.toNat).length = s.size - a.toNat := by rw [List.length_drop, bl_len]
  simp only [if_neg (show ¬ (xs.length : Int) < (xs.length : Int) by omega), if_neg (show ¬ a > (s.size : Int) - c by omega), if_pos ha, if_pos (show a ≤ a + c by omega), if_pos hac, bl_to]
  by_cases c0 : c = 0
  · have : bl (s.extract a.toNat (a + c).toNat) = [] := size0 (by omega)
    simp only [if_pos this]; exact Ev.now _
  · have hne : ¬ bl (s.extract a.toNat (a + c).toNat) = [] := fun e => by have := bl_len (s.extract a.toNat (a + c).toNat); rw [e] at this; simp only [List.length_nil] at this; omega
    simp only [if_neg hne]
    by_cases p0 : p.size = 0
    · simp only [if_pos (size0 p0)]; exact Ev.now _
    · have hnp : ¬ bl p = [] := fun e => by have := bl_len p; rw [e] at this; simp only [List.length_nil] at this; omega
      simp only [if_neg hnp]
      obtain ⟨f1, f2⟩ := h c0 p0
      generalize hG : s.extract a.toNat (a + c).toNat = G at hg hgl hne ⊢
      have g1 : (bl G).getD 0 0 = (bl s).getD a.toNat 0 := by
        rw [hgl, List.getD_eq_getElem?_getD, List.getD_eq_getElem?_getD, List.getElem?_take_of_lt (by omega), List.getElem?_drop]; rfl
      have g2 : (bl G).getD (G.size - 1) 0 = (bl s).getD (a.toNat + c.toNat - 1) 0 := by
        rw [hgl, List.getD_eq_getElem?_getD, List.getD_eq_getElem?_getD, List.getElem?_take_of_lt (by omega), List.getElem?_drop, hg]
        rw [show a.toNat + (c.toNat - 1) = a.toNat + c.toNat - 1 by omega]
      have b1 := bt_ne (s := G) (t := p) (i := 0) (j := 0) (by omega) (by omega) (by rw [g1]; exact f1)
      have b2 := bt_ne (s := G) (t := p) (i := G.size - 1) (j := p.size - 1) (by omega) (by omega) (by rw [g2]; exact f2)
      rw [show wrap64 ((G.size : Int) - 1) = ((G.size - 1 : Nat) : Int) by rw [w64 (by omega) (by omega)]; omega, show wrap64 ((p.size : Int) - 1) = ((p.size - 1 : Nat) : Int) by rw [w64 (by omega) (by omega)]; omega]
      have b1' : ¬ bt G 0 = bt p 0 := b1
      simp only [if_pos (show (0 : Int) < (G.size : Int) by omega), if_pos (show (0 : Int) < (p.size : Int) by omega), if_neg b1', if_pos (nat_nonneg _), if_pos (show ((G.size - 1 : Nat) : Int) < (G.size : Int) by omega), if_pos (show ((p.size - 1 : Nat) : Int) < (p.size : Int) by omega)]
      rw [show (bt G ((G.size - 1 : Nat) : Int) != bt p ((p.size - 1 : Nat) : Int)) = true by simpa using b2]
      exact Ev.now _
theorem EditLeast_pure (s t : ByteArray) (_hs : s.size ≤ 140737488351232) (_ht : t.size ≤ 140737488351232) : ∃ k, minuetlaw8_EditLeast.f k s t = some true := by
  refine Ev.rounds (Ev.congr (fun k => by rw [minuetlaw8_EditLeast.f]) (Ev.bind awake8 ?_))
  simp only [if_true]
  refine Ev.bind (Between_ev s t) ?_
  simp only [num_eq, Option.bind_some]
  by_cases h : s.size ≤ 4096 ∧ t.size ≤ 4096
  · have hb := bhd_le s t; have hp := put_size s t
    rw [btM_ok h]
    simp only [if_true]
    have hlen := mk4_short (ahd s t : Int) (putOf s t) ((s.size : Int) - (ahd s t : Int) - (bhd s t : Int)) (bhd s t : Int)
    obtain ⟨M, hM⟩ : ∃ M, mk4 (ahd s t : Int) (putOf s t) ((s.size : Int) - (ahd s t : Int) - (bhd s t : Int)) (bhd s t : Int) = M := ⟨_, rfl⟩
    rw [hM] at hlen ⊢
    refine el_l0 s M (by omega) M [] 0 0 ⟨#[]⟩ (List.nil_append _).symm ?_
    have e0 : (⟨#[]⟩ : ByteArray).size = 0 := rfl
    by_cases hd : (putOf s t).size = 0 ∧ (s.size : Int) - (ahd s t : Int) - (bhd s t : Int) = 0
    · rw [mk4_deg _ _ _ _ (by omega) (by omega) hd] at hM
      subst hM
      have e : elFin ([] : List Cm).length (kp ((ahd s t : Int) + (bhd s t : Int))) 0 0 ⟨#[]⟩ = ((ahd s t : Int) + (bhd s t : Int), 0, ⟨#[]⟩) := by
        unfold kp
        by_cases z : (ahd s t : Int) + (bhd s t : Int) = 0
        · rw [if_pos z, z]; rfl
        · rw [if_neg z]; rfl
      rw [e]
      exact el_end s _ ((ahd s t : Int) + (bhd s t : Int)) 0 ⟨#[]⟩ h.1 (by omega) (by omega) (by omega) (by omega) (fun hh => absurd rfl hh)
    · rw [mk4_gen _ _ _ _ hd] at hM
      subst hM
      generalize hA : (ahd s t : Int) = A
      generalize hC : (s.size : Int) - A - (bhd s t : Int) = C
      generalize hB : (bhd s t : Int) = B at hC ⊢
      have e : ∃ q : ByteArray, q.size = (putOf s t).size ∧ bl q = bl (putOf s t) ∧ elFin ([] : List Cm).length (kp A ++ pt (putOf s t) ++ ct C ++ kp B) 0 0 ⟨#[]⟩ = (A, C, q) := by
        unfold kp pt ct
        by_cases z1 : A = 0
        · by_cases z2 : (putOf s t).size = 0
          · refine ⟨⟨#[]⟩, by omega, by rw [size0 z2]; rfl, ?_⟩
            by_cases z3 : C = 0
            · by_cases z4 : B = 0 <;> simp [elFin, z1, z2, z3, z4]
              all_goals (exfalso; apply hd; omega)
            · by_cases z4 : B = 0 <;> simp [elFin, z1, z2, z3, z4]
          · refine ⟨putOf s t, rfl, rfl, ?_⟩
            by_cases z3 : C = 0
            · by_cases z4 : B = 0 <;> simp [elFin, z1, z2, z3, z4]
            · by_cases z4 : B = 0 <;> simp [elFin, z1, z2, z3, z4]
        · by_cases z2 : (putOf s t).size = 0
          · refine ⟨⟨#[]⟩, by omega, by rw [size0 z2]; rfl, ?_⟩
            by_cases z3 : C = 0
            · by_cases z4 : B = 0 <;> simp [elFin, z1, z2, z3, z4]
            · by_cases z4 : B = 0 <;> simp [elFin, z1, z2, z3, z4]
          · refine ⟨putOf s t, rfl, rfl, ?_⟩
            by_cases z3 : C = 0
            · by_cases z4 : B = 0 <;> simp [elFin, z1, z2, z3, z4]
            · by_cases z4 : B = 0 <;> simp [elFin, z1, z2, z3, z4]
      obtain ⟨q, q1, q2, e⟩ := e
      rw [e]
      refine el_end s _ A C q h.1 (by omega) (by omega) (by omega) (by omega) (fun hc hq => ?_)
      have hput : bl (putOf s t) = ((bl t).drop (ahd s t)).take (t.size - bhd s t - ahd s t) := by unfold putOf; rw [bl_ext]
      have p1 : (bl q).getD 0 0 = by_ t (ahd s t) := by
        rw [q2, hput]
        rw [List.getD_eq_getElem?_getD, List.getElem?_take_of_lt (by omega), List.getElem?_drop, ← List.getD_eq_getElem?_getD]; rfl
      have p2 : (bl q).getD (q.size - 1) 0 = by_ t (t.size - 1 - bhd s t) := by
        rw [q2, hput]
        rw [List.getD_eq_getElem?_getD, List.getElem?_take_of_lt (by omega), List.getElem?_drop, ← List.getD_eq_getElem?_getD, show ahd s t + (q.size - 1) = t.size - 1 - bhd s t by omega]; rfl
      rw [p1, p2, show A.toNat = ahd s t by omega, show ahd s t + C.toNat - 1 = s.size - 1 - bhd s t by omega]
      exact ⟨ahd_stop s t (by omega) (by omega), bhd_stop s t (by omega) (by omega)⟩
  · rw [btM_err h]
    simp only [Int.reduceEq, if_false]
    by_cases h1 : (s.size : Int) > 4096
    · simp only [if_pos h1]; exact Ev.now _
    · simp only [if_neg h1]; rw [decide_eq_true (show (t.size : Int) > 4096 by omega)]; exact Ev.now _
end Go.Proofs.Ytbkkcoppncgegac.Pl
