/- Edits made: the model of made, Make, Between, and what both sides' functions come to. -/
import Derived.Test.YtldaokclpkcmmaaM6
import Derived.Test.YtldaokclpkcmmaaGZ6
import Derived.Test.YtldaokclpkcmmaaGEditPBetween
namespace Go.Proofs.Ytldaokclpkcmmaa.Pl
open Go.RowKit Go.Proofs.Ytldaokclpkcmmaa.G Go.Proofs.YtldaokclpkcmmaaW.PrintWords Go.Proofs.YtldaokclpkcmmaaW.PrintLast Go.Proofs.YtldaokclpkcmmaaW.PrintMore
set_option linter.unusedVariables false
set_option linter.unusedSimpArgs false
def raw4 (a : Int) (p : ByteArray) (c b : Int) : List Cm := [⟨0, a, ⟨#[]⟩⟩, ⟨1, 0, p⟩, ⟨2, c, ⟨#[]⟩⟩, ⟨0, b, ⟨#[]⟩⟩]
def mk4 (a : Int) (p : ByteArray) (c b : Int) : List Cm := norm (raw4 a p c b)
theorem raw4_good {a : Int} {p : ByteArray} {c b : Int} (ha : 0 ≤ a) (hc : 0 ≤ c) (hb : 0 ≤ b) : ∀ x ∈ raw4 a p c b, good x := by
  intro x hx
  simp only [raw4, List.mem_cons, List.not_mem_nil, or_false] at hx
  have e0 : (⟨#[]⟩ : ByteArray).size = 0 := rfl
  rcases hx with rfl | rfl | rfl | rfl
  · exact ⟨ha, by simp, by simp, fun _ => e0⟩
  · exact ⟨by simp, by simp, by simp, by simp⟩
  · exact ⟨hc, by simp, by simp, fun _ => e0⟩
  · exact ⟨hb, by simp, by simp, fun _ => e0⟩
theorem raw4_froms {a : Int} {p : ByteArray} {c b : Int} : froms (raw4 a p c b) = a + c + b := by simp [raw4, froms]; omega
theorem raw4_tos {a : Int} {p : ByteArray} {c b : Int} : tos (raw4 a p c b) = a + (p.size : Int) + b := by
  have e0 : (⟨#[]⟩ : ByteArray).size = 0 := rfl
  simp [raw4, tos, sz, e0]; omega
theorem raw4_tot {a : Int} {p : ByteArray} {c b : Int} : tot (raw4 a p c b) = a + (p.size : Int) + c + b := by
  have e0 : (⟨#[]⟩ : ByteArray).size = 0 := rfl
  simp [raw4, tot, sz, e0]; omega
theorem made_l0 (xs : List Cm) (hg : ∀ c ∈ xs, good c) (hl : xs.length ≤ 4096) (ht : tot xs ≤ 4611686018427387) : ∀ (suf pre : List Cm) (out : List Cm), xs = pre ++ suf → (∀ c ∈ out, good c) → tot out = tot pre → out.length ≤ pre.length →
    Ev (fun k => edit_made.l0 k out xs (xs.length : Int) (pre.length : Int)) (suf.foldl add out) := by
  intro suf
  induction suf with
  | nil =>
    intro pre out e ho hto hlo
    refine Ev.step (fun k => by rw [edit_made.l0]) ?_
    simp only [if_neg (nlt_of e), List.foldl_nil]
    exact Ev.now _
  | cons c suf ih =>
    intro pre out e ho hto hlo
    have hlt := lt_len e
    have hc := hg c (mem_of e)
    have hsuf : ∀ c ∈ suf, good c := fun d hd => hg d (by rw [e]; simp [hd])
    have hpre : ∀ c ∈ pre, good c := fun d hd => hg d (by rw [e]; simp [hd])
    have h4 := tot_nonneg hpre; have h5 := tot_nonneg hsuf
    have ht2 : tot pre + (sz c + tot suf) ≤ 4611686018427387 := by have := ht; rw [e, tot_append] at this; simpa [tot] using this
    refine Ev.step (fun k => by rw [edit_made.l0]) ?_
    simp only [if_pos (lt_of e), if_pos (nat_nonneg _), rd_of e, len_next pre c (by omega)]
    refine Ev.bind (Add_ev out c ho hc (by omega) (by omega)) ?_
    exact ih (pre ++ [c]) (add out c) (next_of e) (add_good ho hc) (by rw [tot_add ho hc, hto, tot_append]; simp [tot]) (by have := add_len out c; simp only [List.length_append, List.length_cons, List.length_nil]; omega)
theorem made_ev (a : Int) (p : ByteArray) (c b : Int) (ha : 0 ≤ a) (hc : 0 ≤ c) (hb : 0 ≤ b) (ht : a + (p.size : Int) + c + b ≤ 4611686018427387) : Ev (fun k => edit_made.f k a p c b) (mk4 a p c b) := by
  refine Ev.congr (fun k => by rw [edit_made.f]) ?_
  simp only [comp_Keep.f, comp_Put.f, comp_Cut.f, Option.bind_some]
  exact made_l0 (raw4 a p c b) (raw4_good ha hc hb) (by simp [raw4]) (by rw [raw4_tot]; exact ht) (raw4 a p c b) [] [] rfl no_good rfl (by simp)

/-! Make -/
def isThere (s : ByteArray) (at_ cut : Int) : Bool := decide (s.size ≤ 4096) && (decide (0 ≤ at_) && (decide (at_ ≤ (s.size : Int)) && (decide (0 ≤ cut) && decide (cut ≤ (s.size : Int) - at_))))
def mkM (s : ByteArray) (at_ cut : Int) (p : ByteArray) : List Cm × Int :=
  if isThere s at_ cut = true then (if p.size ≤ 300 ∧ (s.size : Int) - cut + (p.size : Int) ≤ 300 then (mk4 at_ p cut ((s.size : Int) - at_ - cut), 0) else ([], 801)) else ([], 800)
theorem isThere_iff (s : ByteArray) (at_ cut : Int) : isThere s at_ cut = true ↔ s.size ≤ 4096 ∧ 0 ≤ at_ ∧ at_ ≤ (s.size : Int) ∧ 0 ≤ cut ∧ cut ≤ (s.size : Int) - at_ := by
  simp [isThere]
theorem Make_ev (s : ByteArray) (at_ cut : Int) (p : ByteArray) (hp : p.size ≤ 140737488351232) : Ev (fun k => edit_Make.f k s at_ cut p) (mkM s at_ cut p) := by
  have bad : ¬ isThere s at_ cut = true → Ev (fun k => edit_Make.j0 k s at_ cut p true) (mkM s at_ cut p) := by
    intro h
    refine Ev.step (fun k => by rw [edit_Make.j0]) ?_
    simp only [if_true, mkM, if_neg h]
    exact Ev.now _
  refine Ev.congr (fun k => by rw [edit_Make.f]) ?_
  by_cases h0 : s.size ≤ 4096
  · have h0' : ¬ (s.size : Int) > 4096 := by omega
    simp only [if_neg h0', edit_There.f]
    by_cases h1 : 0 ≤ at_
    · by_cases h2 : at_ ≤ (s.size : Int)
      · by_cases h3 : 0 ≤ cut
        · simp only [if_pos (show at_ ≥ 0 from h1), if_pos h2, if_pos (show cut ≥ 0 from h3), Option.bind_some]
          rw [show wrap64 ((s.size : Int) - at_) = (s.size : Int) - at_ from w64 (by omega) (by omega)]
          by_cases h4 : cut ≤ (s.size : Int) - at_
          · have ht : isThere s at_ cut = true := (isThere_iff _ _ _).2 ⟨h0, h1, h2, h3, h4⟩
            simp only [decide_eq_true h4, Bool.not_true]
            refine Ev.step (fun k => by rw [edit_Make.j0]) ?_
            simp only [Bool.false_eq_true, if_false]
            rw [show wrap64 ((s.size : Int) - cut) = (s.size : Int) - cut from w64 (by omega) (by omega), show wrap64 ((s.size : Int) - cut + (p.size : Int)) = (s.size : Int) - cut + (p.size : Int) from w64 (by omega) (by omega), show wrap64 ((s.size : Int) - at_) = (s.size : Int) - at_ from w64 (by omega) (by omega), show wrap64 ((s.size : Int) - at_ - cut) = (s.size : Int) - at_ - cut from w64 (by omega) (by omega)]
            unfold mkM
            simp only [ht, if_true]
            by_cases h5 : (p.size : Int) > 300
            · have h5' : ¬ (p.size ≤ 300 ∧ (s.size : Int) - cut + (p.size : Int) ≤ 300) := by omega
              simp only [if_pos h5, if_neg h5']; exact Ev.now _
            · by_cases h6 : (s.size : Int) - cut + (p.size : Int) > 300
              · have h6' : ¬ (p.size ≤ 300 ∧ (s.size : Int) - cut + (p.size : Int) ≤ 300) := by omega
                simp only [if_neg h5, if_pos h6, if_neg h6']; exact Ev.now _
              · have h6' : (p.size ≤ 300 ∧ (s.size : Int) - cut + (p.size : Int) ≤ 300) := by omega
                simp only [if_neg h5, if_neg h6, if_pos h6']
                refine Ev.bind (made_ev _ _ _ _ h1 h3 (by omega) (by omega)) ?_
                exact Ev.now _
          · simp only [decide_eq_false h4, Bool.not_false]
            exact bad (fun h => h4 ((isThere_iff _ _ _).1 h).2.2.2.2)
        · simp only [if_pos (show at_ ≥ 0 from h1), if_pos h2, if_neg (show ¬ cut ≥ 0 from h3), Option.bind_some, Bool.not_false]
          exact bad (fun h => h3 ((isThere_iff _ _ _).1 h).2.2.2.1)
      · simp only [if_pos (show at_ ≥ 0 from h1), if_neg h2, Option.bind_some, Bool.not_false]
        exact bad (fun h => h2 ((isThere_iff _ _ _).1 h).2.2.1)
    · simp only [if_neg (show ¬ at_ ≥ 0 from h1), Option.bind_some, Bool.not_false]
      exact bad (fun h => h1 ((isThere_iff _ _ _).1 h).2.1)
  · have h0' : (s.size : Int) > 4096 := by omega
    simp only [if_pos h0']
    exact bad (fun h => h0 ((isThere_iff _ _ _).1 h).1)

/-! Between -/
def ahd (s t : ByteArray) : Nat := edit_Between.ahead s t
def tailOf (s : ByteArray) (n : Nat) : ByteArray := s.extract n s.size
def bhd (s t : ByteArray) : Nat := edit_Between.behind (tailOf s (ahd s t)) (tailOf t (ahd s t))
def putOf (s t : ByteArray) : ByteArray := t.extract (ahd s t) (t.size - bhd s t)
def btM (s t : ByteArray) : List Cm × Int :=
  if s.size ≤ 4096 ∧ t.size ≤ 4096 then (mk4 (ahd s t) (putOf s t) ((s.size : Int) - (ahd s t : Int) - (bhd s t : Int)) (bhd s t), 0) else ([], 800)
theorem ahd_le (s t : ByteArray) : ahd s t ≤ s.size ∧ ahd s t ≤ t.size := by
  have := edit_Between.alk_le (edit_Between.same1 s t) (min s.size t.size) 0
  have a := Nat.min_le_left s.size t.size; have b := Nat.min_le_right s.size t.size
  unfold ahd edit_Between.ahead; omega
theorem tail_size (s : ByteArray) (n : Nat) (h : n ≤ s.size) : (tailOf s n).size = s.size - n := by unfold tailOf; rw [ByteArray.size_extract]; omega
theorem bhd_le (s t : ByteArray) : bhd s t + ahd s t ≤ s.size ∧ bhd s t + ahd s t ≤ t.size := by
  have h := ahd_le s t
  have := edit_Between.alk_le (edit_Between.same2 (tailOf s (ahd s t)) (tailOf t (ahd s t))) (min (tailOf s (ahd s t)).size (tailOf t (ahd s t)).size) 0
  have a := Nat.min_le_left (tailOf s (ahd s t)).size (tailOf t (ahd s t)).size; have b := Nat.min_le_right (tailOf s (ahd s t)).size (tailOf t (ahd s t)).size
  rw [tail_size s _ h.1, tail_size t _ h.2] at a b this
  unfold bhd edit_Between.behind
  rw [tail_size s _ h.1, tail_size t _ h.2]
  omega
theorem put_size (s t : ByteArray) : (putOf s t).size = t.size - bhd s t - ahd s t := by
  have h := bhd_le s t
  unfold putOf; rw [ByteArray.size_extract]; omega
theorem put_eq (s t : ByteArray) : (tailOf t (ahd s t)).extract 0 ((tailOf t (ahd s t)).size - bhd s t) = putOf s t := by
  have h := bhd_le s t; have h2 := ahd_le s t
  apply bl_inj
  rw [bl_ext, tail_size t _ h2.2]
  unfold putOf tailOf
  rw [bl_ext, bl_ext, List.drop_zero, Nat.sub_zero, List.take_take]
  generalize ahd s t = a at h h2 ⊢
  generalize bhd s t = b at h ⊢
  rw [show min (t.size - a - b) (t.size - a) = t.size - b - a by omega]
theorem Between_ev (s t : ByteArray) : Ev (fun k => edit_Between.f k s t) (btM s t) := by
  refine Ev.congr (fun k => by rw [edit_Between.f]) ?_
  unfold btM
  by_cases h0 : s.size ≤ 4096
  · by_cases h1 : t.size ≤ 4096
    · have a0 : ¬ s.size > 4096 := by omega
      have a1 : ¬ t.size > 4096 := by omega
      have hb := bhd_le s t; have ha := ahd_le s t; have hp := put_size s t
      simp only [if_neg a0, if_neg a1, if_pos (show s.size ≤ 4096 ∧ t.size ≤ 4096 from ⟨h0, h1⟩)]
      refine Ev.congr (fun k => by rw [edit_Between.fin]) ?_
      have e1 : edit_Between.behind (s.extract (edit_Between.ahead s t) s.size) (t.extract (edit_Between.ahead s t) t.size) = bhd s t := rfl
      have e2 := put_eq s t
      have e3 := tail_size s _ ha.1
      simp only [e1]
      rw [show (t.extract (edit_Between.ahead s t) t.size) = tailOf t (ahd s t) from rfl, show (s.extract (edit_Between.ahead s t) s.size) = tailOf s (ahd s t) from rfl, e2, e3, show edit_Between.ahead s t = ahd s t from rfl]
      have e4 : ((s.size - ahd s t - bhd s t : Nat) : Int) = (s.size : Int) - (ahd s t : Int) - (bhd s t : Int) := by omega
      rw [e4]
      refine Ev.bind (made_ev _ _ _ _ (by omega) (by omega) (by omega) (by omega)) ?_
      exact Ev.now _
    · have a0 : ¬ s.size > 4096 := by omega
      have a1 : t.size > 4096 := by omega
      simp only [if_neg a0, if_pos a1, if_neg (show ¬ (s.size ≤ 4096 ∧ t.size ≤ 4096) from fun h => h1 h.2)]; exact Ev.now _
  · have a0 : s.size > 4096 := by omega
    simp only [if_pos a0, if_neg (show ¬ (s.size ≤ 4096 ∧ t.size ≤ 4096) from fun h => h0 h.1)]; exact Ev.now _
theorem btM_ok {s t : ByteArray} (h : s.size ≤ 4096 ∧ t.size ≤ 4096) : btM s t = (mk4 (ahd s t) (putOf s t) ((s.size : Int) - (ahd s t : Int) - (bhd s t : Int)) (bhd s t), 0) := if_pos h
theorem btM_err {s t : ByteArray} (h : ¬ (s.size ≤ 4096 ∧ t.size ≤ 4096)) : btM s t = ([], 800) := if_neg h
end Go.Proofs.Ytldaokclpkcmmaa.Pl
