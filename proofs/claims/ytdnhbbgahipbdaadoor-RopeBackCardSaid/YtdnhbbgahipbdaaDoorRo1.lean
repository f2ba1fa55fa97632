/- The rope, plainly: chunks cut, laid, found, parted; their bytes; chunks as they ought to be. -/
namespace Go.Proofs.YtdnhbbgahipbdaaDoor
namespace Ro
abbrev byt (s : ByteArray) : List UInt8 := s.data.toList
theorem byt_size (s : ByteArray) : (byt s).length = s.size := by simp [byt]
theorem byt_cat (a b : ByteArray) : byt (a ++ b) = byt a ++ byt b := by simp [byt]
theorem byt_ext (s : ByteArray) (i j : Nat) : byt (s.extract i j) = ((byt s).take j).drop i := by
  unfold byt; rw [ByteArray.data_extract, Array.toList_extract, List.extract_eq_take_drop, List.drop_take]
theorem byt_inj {a b : ByteArray} (h : byt a = byt b) : a = b := by
  cases a; cases b; simp only [byt] at h; congr; exact Array.toList_inj.1 h
/-- A text in pieces of sixteen bytes; the last one may be empty. -/
def cutB : Nat → ByteArray → List ByteArray
  | 0, s => [s]
  | k + 1, s => if 16 < s.size then s.extract 0 16 :: cutB k (s.extract 16 s.size) else [s]
def cutN (s : ByteArray) : List ByteArray := cutB s.size s
/-- One chunk more behind those laid: none if it is empty, with the last one if both fit. -/
def layS (out : List ByteArray) (c : ByteArray) : List ByteArray :=
  if c.size = 0 then out else
    if 0 < out.length ∧ (out.getD (out.length - 1) ByteArray.empty).size + c.size ≤ 16 then out.set (out.length - 1) (out.getD (out.length - 1) ByteArray.empty ++ c) else out ++ [c]
def layN (cs : List ByteArray) : List ByteArray := cs.foldl layS []
/-- The chunk of a place, and where there. -/
def findN : List ByteArray → Nat → Nat → Nat × Nat
  | [], i, _ => (i, 0)
  | c :: r, i, a => if a < c.size then (i, a) else findN r (i + 1) (a - c.size)
def aheadN (cs : List ByteArray) (a : Nat) : List ByteArray :=
  let f := findN cs 0 a
  if f.2 = 0 then cs.take f.1 else cs.take f.1 ++ [(cs.getD f.1 ByteArray.empty).extract 0 f.2]
def behindN (cs : List ByteArray) (a : Nat) : List ByteArray :=
  let f := findN cs 0 a
  if f.2 = 0 then cs.drop f.1 else (cs.getD f.1 ByteArray.empty).extract f.2 (cs.getD f.1 ByteArray.empty).size :: cs.drop (f.1 + 1)
/-- All chunks' bytes. -/
def T (cs : List ByteArray) : List UInt8 := (cs.map byt).flatten
theorem T_nil : T [] = [] := rfl
theorem T_cons (c : ByteArray) (cs : List ByteArray) : T (c :: cs) = byt c ++ T cs := by simp [T]
theorem T_app (a b : List ByteArray) : T (a ++ b) = T a ++ T b := by simp [T]
theorem T_cut : ∀ (k : Nat) (s : ByteArray), T (cutB k s) = byt s
  | 0, s => by simp [cutB, T]
  | k + 1, s => by
    unfold cutB; split
    · rw [T_cons, T_cut k, byt_ext, byt_ext]
      simp only [List.drop_zero]
      rw [List.take_of_length_le (l := byt s) (i := s.size) (by rw [byt_size]; exact Nat.le_refl _)]
      exact List.take_append_drop 16 (byt s)
    · simp [T]
theorem T_layS (out : List ByteArray) (c : ByteArray) : T (layS out c) = T out ++ byt c := by
  unfold layS
  split
  · next h => have : byt c = [] := List.eq_nil_of_length_eq_zero (by rw [byt_size]; exact h); simp [this]
  split
  · next h =>
    obtain ⟨h1, h2⟩ := h
    obtain ⟨l, r, rfl⟩ : ∃ l r, out = l ++ [r] := ⟨out.dropLast, out.getLast (by intro e; simp [e] at h1), (List.dropLast_concat_getLast _).symm⟩
    simp only [List.length_append, List.length_cons, List.length_nil, Nat.zero_add, Nat.add_sub_cancel]
    rw [List.set_append_right _ _ (Nat.le_refl _)]
    simp only [Nat.sub_self, List.set_cons_zero, T_app, T_cons, T_nil, List.append_nil, byt_cat]
    rw [List.getD_eq_getElem?_getD, List.getElem?_append_right (Nat.le_refl _)]
    simp
  · simp [T_app, T_cons, T_nil]
theorem T_lay_from : ∀ (cs out : List ByteArray), T (cs.foldl layS out) = T out ++ T cs
  | [], out => by simp [T_nil]
  | c :: r, out => by simp only [List.foldl_cons]; rw [T_lay_from r, T_layS, T_cons, List.append_assoc]
theorem T_lay (cs : List ByteArray) : T (layN cs) = T cs := by unfold layN; rw [T_lay_from]; rfl
theorem find_T : ∀ (cs : List ByteArray) (i a : Nat), a ≤ (T cs).length →
    ∃ j, (findN cs i a).1 = i + j ∧ j ≤ cs.length ∧ T (cs.take j) ++ (byt (cs.getD j ByteArray.empty)).take (findN cs i a).2 = (T cs).take a ∧ (byt (cs.getD j ByteArray.empty)).drop (findN cs i a).2 ++ T (cs.drop (j + 1)) = (T cs).drop a ∧ ((findN cs i a).2 = 0 ∨ j < cs.length ∧ (findN cs i a).2 < (cs.getD j ByteArray.empty).size)
  | [], i, a, h => by
    have e : a = 0 := by simp only [T_nil, List.length_nil] at h; omega
    subst e; exact ⟨0, rfl, Nat.le_refl _, rfl, rfl, .inl rfl⟩
  | c :: r, i, a, h => by
    unfold findN
    by_cases hc : a < c.size
    · rw [if_pos hc]
      have h2 : a ≤ (byt c).length := by rw [byt_size]; omega
      refine ⟨0, rfl, by simp, ?_, ?_, ?_⟩
      · simp only [List.take_zero, T_nil, List.nil_append, List.getD_cons_zero, T_cons]; rw [List.take_append_of_le_length h2]
      · simp only [List.getD_cons_zero, Nat.zero_add, List.drop_succ_cons, List.drop_zero, T_cons]; rw [List.drop_append_of_le_length h2]
      · exact .inr ⟨by simp, by simpa using hc⟩
    · rw [if_neg hc]
      have e : (byt c).length = c.size := byt_size c
      obtain ⟨j, h1, h2, h3, h4, h5⟩ := find_T r (i + 1) (a - c.size) (by rw [T_cons, List.length_append, e] at h; omega)
      refine ⟨j + 1, by rw [h1]; omega, by simp; omega, ?_, ?_, ?_⟩
      · simp only [List.take_succ_cons, T_cons, List.getD_cons_succ]
        rw [List.append_assoc, h3, List.take_append, e, List.take_of_length_le (l := byt c) (by rw [e]; omega)]
      · simp only [List.getD_cons_succ, List.drop_succ_cons, T_cons]
        rw [h4, List.drop_append, e, List.drop_eq_nil_of_le (as := byt c) (by rw [e]; omega), List.nil_append]
      · rcases h5 with h5 | ⟨h5, h6⟩
        · exact .inl h5
        · exact .inr ⟨by simp; omega, by simpa using h6⟩
theorem T_take_succ (cs : List ByteArray) (j : Nat) (h : j < cs.length) : T (cs.drop j) = byt (cs.getD j ByteArray.empty) ++ T (cs.drop (j + 1)) := by
  rw [List.drop_eq_getElem_cons h, T_cons, List.getD_eq_getElem?_getD, List.getElem?_eq_getElem h]; rfl
theorem ahead_T (cs : List ByteArray) (a : Nat) (h : a ≤ (T cs).length) : T (aheadN cs a) = (T cs).take a := by
  obtain ⟨j, h1, h2, h3, h4, h5⟩ := find_T cs 0 a h
  unfold aheadN
  simp only [h1, Nat.zero_add]
  split
  · next hz => rw [← h3, hz]; simp
  · rw [← h3, T_app, T_cons, T_nil, List.append_nil, byt_ext]; simp
theorem behind_T (cs : List ByteArray) (a : Nat) (h : a ≤ (T cs).length) : T (behindN cs a) = (T cs).drop a := by
  obtain ⟨j, h1, h2, h3, h4, h5⟩ := find_T cs 0 a h
  unfold behindN
  simp only [h1, Nat.zero_add]
  split
  · next hz =>
    rw [← h4, hz]
    by_cases hj : j < cs.length
    · rw [T_take_succ cs j hj]; simp
    · have e : cs.getD j ByteArray.empty = ByteArray.empty := by rw [List.getD_eq_getElem?_getD, List.getElem?_eq_none (by omega)]; rfl
      rw [e, List.drop_eq_nil_of_le (as := cs) (i := j) (by omega), List.drop_eq_nil_of_le (as := cs) (i := j + 1) (by omega)]; rfl
  · rw [← h4, T_cons, byt_ext, List.take_of_length_le (l := byt (cs.getD j ByteArray.empty)) (by rw [byt_size]; exact Nat.le_refl _)]
/-- Chunks as they ought to be: none is empty, none too long, two neighbors don't fit in one. -/
def Ck (cs : List ByteArray) : Prop := (∀ c ∈ cs, 1 ≤ c.size ∧ c.size ≤ 16) ∧ ∀ j, j + 1 < cs.length → 16 < (cs.getD j ByteArray.empty).size + (cs.getD (j + 1) ByteArray.empty).size
theorem Ck_nil : Ck [] := ⟨(fun _ h => nomatch h), (fun _ h => absurd h (Nat.not_lt_zero _))⟩
theorem Ck_layS {out : List ByteArray} {c : ByteArray} (h : Ck out) (hc : c.size ≤ 16) : Ck (layS out c) := by
  unfold layS
  split
  · exact h
  next h0 =>
  split
  · next hk =>
    obtain ⟨k1, k2⟩ := hk
    obtain ⟨l, r, rfl⟩ : ∃ l r, out = l ++ [r] := ⟨out.dropLast, out.getLast (by intro e; simp [e] at k1), (List.dropLast_concat_getLast _).symm⟩
    have er : ((l ++ [r]).getD ((l ++ [r]).length - 1) ByteArray.empty) = r := by
      rw [List.getD_eq_getElem?_getD, List.getElem?_append_right (by simp)]; simp
    rw [er] at k2 ⊢
    have es : (l ++ [r]).set ((l ++ [r]).length - 1) (r ++ c) = l ++ [r ++ c] := by
      simp only [List.length_append, List.length_cons, List.length_nil, Nat.zero_add, Nat.add_sub_cancel]
      rw [List.set_append_right _ _ (Nat.le_refl _)]; simp
    rw [es]
    have sz : (r ++ c).size = r.size + c.size := by simp
    refine ⟨?_, ?_⟩
    · intro x hx
      rcases List.mem_append.1 hx with hx | hx
      · exact h.1 x (by simp [hx])
      · rw [List.mem_singleton.1 hx, sz]; have := h.1 r (by simp); omega
    · intro j hj
      have hn := h.2 j (by simp at hj ⊢; omega)
      simp only [List.length_append, List.length_cons, List.length_nil, Nat.zero_add] at hj
      rw [List.getD_eq_getElem?_getD, List.getD_eq_getElem?_getD] at hn ⊢
      rw [List.getElem?_append_left (by omega)] at hn ⊢
      by_cases hl : j + 1 < l.length
      · rw [List.getElem?_append_left hl] at hn ⊢; exact hn
      · have e : j + 1 = l.length := by omega
        rw [e, List.getElem?_append_right (Nat.le_refl _)] at hn ⊢
        simp only [Nat.sub_self, List.getElem?_cons_zero, Option.getD_some] at hn ⊢
        rw [sz]; omega
  · next hk =>
    refine ⟨?_, ?_⟩
    · intro x hx
      rcases List.mem_append.1 hx with hx | hx
      · exact h.1 x hx
      · rw [List.mem_singleton.1 hx]; omega
    · intro j hj
      simp only [List.length_append, List.length_cons, List.length_nil, Nat.zero_add] at hj
      by_cases hl : j + 1 < out.length
      · have hn := h.2 j hl
        rw [List.getD_eq_getElem?_getD, List.getD_eq_getElem?_getD] at hn ⊢
        rw [List.getElem?_append_left (by omega), List.getElem?_append_left hl]; exact hn
      · have e : j + 1 = out.length := by omega
        have e2 : j = out.length - 1 := by omega
        have hk2 : ¬ ((out.getD (out.length - 1) ByteArray.empty).size + c.size ≤ 16) := fun hh => hk ⟨by omega, hh⟩
        rw [← e2] at hk2
        rw [List.getD_eq_getElem?_getD] at hk2 ⊢
        rw [List.getElem?_append_left (by omega), List.getD_eq_getElem?_getD, e, List.getElem?_append_right (Nat.le_refl _)]
        simp only [Nat.sub_self, List.getElem?_cons_zero, Option.getD_some]
        omega
theorem Ck_lay_from : ∀ (cs out : List ByteArray), Ck out → (∀ c ∈ cs, c.size ≤ 16) → Ck (cs.foldl layS out)
  | [], _, h, _ => h
  | c :: r, out, h, hc => Ck_lay_from r _ (Ck_layS h (hc c (by simp))) (fun x hx => hc x (by simp [hx]))
theorem Ck_lay {cs : List ByteArray} (h : ∀ c ∈ cs, c.size ≤ 16) : Ck (layN cs) := Ck_lay_from cs [] Ck_nil h
theorem cut_small : ∀ (k : Nat) (s : ByteArray), s.size ≤ k + 16 → ∀ c ∈ cutB k s, c.size ≤ 16
  | 0, s, h, c, hc => by rw [List.mem_singleton.1 hc]; omega
  | k + 1, s, h, c, hc => by
    unfold cutB at hc
    split at hc
    · rcases List.mem_cons.1 hc with hc | hc
      · rw [hc]; simp; omega
      · exact cut_small k _ (by simp; omega) c hc
    · rw [List.mem_singleton.1 hc]; omega
theorem ahead_small {cs : List ByteArray} (h : ∀ c ∈ cs, c.size ≤ 16) (a : Nat) : ∀ c ∈ aheadN cs a, c.size ≤ 16 := by
  intro c hc
  unfold aheadN at hc
  simp only at hc
  split at hc
  · exact h c (List.mem_of_mem_take hc)
  · rcases List.mem_append.1 hc with hc | hc
    · exact h c (List.mem_of_mem_take hc)
    · rw [List.mem_singleton.1 hc]
      have : (cs.getD (findN cs 0 a).1 ByteArray.empty).size ≤ 16 := by
        rw [List.getD_eq_getElem?_getD]
        cases e : cs[(findN cs 0 a).1]? with
        | none => simp
        | some x => exact h x (List.mem_of_getElem? e)
      rw [ByteArray.size_extract]; omega
theorem behind_small {cs : List ByteArray} (h : ∀ c ∈ cs, c.size ≤ 16) (a : Nat) : ∀ c ∈ behindN cs a, c.size ≤ 16 := by
  intro c hc
  unfold behindN at hc
  simp only at hc
  split at hc
  · exact h c (List.mem_of_mem_drop hc)
  · rcases List.mem_cons.1 hc with hc | hc
    · rw [hc]
      have : (cs.getD (findN cs 0 a).1 ByteArray.empty).size ≤ 16 := by
        rw [List.getD_eq_getElem?_getD]
        cases e : cs[(findN cs 0 a).1]? with
        | none => simp
        | some x => exact h x (List.mem_of_getElem? e)
      rw [ByteArray.size_extract]; omega
    · exact h c (List.mem_of_mem_drop hc)
end Ro
end Go.Proofs.YtdnhbbgahipbdaaDoor
