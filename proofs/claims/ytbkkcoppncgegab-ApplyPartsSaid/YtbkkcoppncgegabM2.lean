/- What the printed functions of package comp, and of the reference's pieces, come to: the model of M1. -/
import Derived.Test.YtbkkcoppncgegabM1
import Derived.Laws.Strings
import Derived.Test.YtbkkcoppncgegabGCompPLengths
import Derived.Test.YtbkkcoppncgegabGCompPSpans
import Derived.Test.YtbkkcoppncgegabGCompqraw
import Derived.Test.YtbkkcoppncgegabGCompPMay
import Derived.Test.YtbkkcoppncgegabGCompqwithin
import Derived.Test.YtbkkcoppncgegabGCompPSize
namespace Go.Proofs.Ytbkkcoppncgegab.Pl
open Go.RowKit Go.Proofs.Ytbkkcoppncgegab.G Go.Proofs.YtbkkcoppncgegabW.PrintWords Go.Proofs.YtbkkcoppncgegabW.PrintLast
set_option linter.unusedVariables false
set_option linter.unusedSimpArgs false

theorem w64 {x : Int} (h0 : -9223372036854775808 ≤ x) (h1 : x < 9223372036854775808) : wrap64 x = x := by unfold wrap64; omega
theorem rd_of {xs pre suf : List Cm} {c : Cm} (e : xs = pre ++ c :: suf) : rd_T30 xs (pre.length : Int) = c := by
  subst e; simp [rd_T30]
theorem lt_of {α : Type} {xs pre suf : List α} {c : α} (e : xs = pre ++ c :: suf) : (pre.length : Int) < (xs.length : Int) := by
  subst e; simp only [List.length_append, List.length_cons]; omega
theorem nlt_of {α : Type} {xs pre : List α} (e : xs = pre ++ []) : ¬ (pre.length : Int) < (xs.length : Int) := by
  subst e; simp
theorem next_of {α : Type} {xs pre suf : List α} {c : α} (e : xs = pre ++ c :: suf) : xs = (pre ++ [c]) ++ suf := by
  subst e; simp
theorem len_next {α : Type} (pre : List α) (c : α) (h : pre.length < 9223372036854775807) : wrap64 ((pre.length : Int) + 1) = ((pre ++ [c]).length : Int) := by
  rw [w64 (by omega) (by omega)]; simp
theorem lt_len {α : Type} {xs pre suf : List α} {c : α} (e : xs = pre ++ c :: suf) : pre.length < xs.length := by
  subst e; simp only [List.length_append, List.length_cons]; omega
theorem mem_of {α : Type} {xs pre suf : List α} {c : α} (e : xs = pre ++ c :: suf) : c ∈ xs := by subst e; simp
theorem nat_nonneg (n : Nat) : (0 : Int) ≤ (n : Int) := Int.natCast_nonneg n
theorem toList_len (s : ByteArray) : s.toList.length = s.size := by
  rw [ByteArray.toList_eq]; simp
theorem toList_nil (s : ByteArray) : (s.toList == ([] : List UInt8)) = decide (s.size = 0) := by
  rw [Bool.eq_iff_iff]
  simp only [beq_iff_eq, decide_eq_true_eq]
  constructor
  · intro h
    have h2 : s.toList.length = s.size := toList_len s
    rw [h] at h2; simpa using h2.symm
  · intro h
    have h2 : s.toList.length = s.size := toList_len s
    exact List.eq_nil_of_length_eq_zero (h2.trans h)
/-- Behind a bind, a value that is there at once. -/
theorem Ev_some {α β : Type} {a : α} {f : Nat → α → Option β} {r : β} (h : Ev (fun k => f k a) r) : Ev (fun k => (some a).bind (f k)) r := h

/-! raw, Size -/
theorem Size_eq (c : Cm) (h : good c) (hb : sz c < 9223372036854775808) : comp_Size.f c.f0 c.f1 c.f2 = some (sz c) := by
  have := good_sz h
  unfold comp_Size.f
  rw [show c.f1 + (c.f2.size : Int) = sz c from rfl, w64 (by omega) (by omega)]
theorem raw_ev (c : Cm) : Ev (fun k => comp_raw.f k c.f0 c.f1 c.f2) (rawB c) := by
  have key : ∀ b, (b = (c.f0 == 0 || c.f0 == 2)) → Ev (fun k => comp_raw.j0 k c.f0 b c.f0 c.f1 c.f2) (rawB c) := by
    intro b hb
    refine Ev.step (fun k => by rw [comp_raw.j0]) ?_
    refine ⟨0, fun k _ => ?_⟩
    simp only [toList_nil, rawB]
    cases b with
    | true =>
      have h : c.f0 = 0 ∨ c.f0 = 2 := by simpa using hb.symm
      have h1 : ¬ c.f0 = 1 := by omega
      simp only [if_true, h, h1, true_and, false_and, or_false]
      by_cases a1 : 0 ≤ c.f1
      · by_cases a2 : c.f1 ≤ 4096 <;> simp [a1, a2]
      · simp [a1]
    | false =>
      have h : ¬ c.f0 = 0 ∧ ¬ c.f0 = 2 := by simpa using hb.symm
      simp only [Bool.false_eq_true, if_false, h.1, h.2, false_or, false_and, or_self]
      by_cases a1 : c.f0 = 1
      · by_cases a2 : c.f1 = 0
        · simp [a1, a2]; omega
        · simp [a1, a2]
      · simp [a1]
  unfold comp_raw.f
  by_cases h : c.f0 = 0
  · simp only [if_pos h]; exact key _ (by simp [h])
  · simp only [if_neg h]; exact key _ (by simp [h])

/-! Spans -/
theorem Spans_l0 (xs : List Cm) (hg : ∀ c ∈ xs, good c) (hl : xs.length < 9223372036854775807) : ∀ (suf pre : List Cm) (a b : Int), xs = pre ++ suf → 0 ≤ a → 0 ≤ b → a + tot suf < 9223372036854775808 → b + tot suf < 9223372036854775808 →
    Ev (fun k => comp_Spans.l0 k a b xs (xs.length : Int) (pre.length : Int)) (a + froms suf, b + tos suf) := by
  intro suf
  induction suf with
  | nil =>
    intro pre a b e h0 h1 h2 h3
    refine Ev.step (fun k => by rw [comp_Spans.l0]) ?_
    simp only [if_neg (nlt_of e), froms, tos, Int.add_zero]
    exact Ev.now _
  | cons c suf ih =>
    intro pre a b e h0 h1 h2 h3
    have hc := hg c (mem_of e)
    have hs := good_sz hc
    have h1' := hc.1
    have ht : 0 ≤ tot suf := tot_nonneg (fun d hd => hg d (by rw [e]; simp [hd]))
    simp only [tot] at h2 h3
    have hle : c.f1 ≤ sz c := by unfold sz; omega
    refine Ev.step (fun k => by rw [comp_Spans.l0]) ?_
    simp only [if_pos (lt_of e), if_pos (nat_nonneg _), rd_of e, Size_eq c hc (by omega), Option.bind_some, len_next pre c (Nat.lt_trans (lt_len e) hl)]
    have e2 := next_of e
    by_cases k1 : c.f0 = 1
    · have k2 : ¬ c.f0 = 2 := by omega
      simp only [if_pos k1, if_neg k2, froms, tos]
      rw [w64 (by omega) (by omega)]
      have := ih (pre ++ [c]) a (b + sz c) e2 h0 (by omega) (by omega) (by omega)
      rw [show a + (0 + froms suf) = a + froms suf by omega, show b + (sz c + tos suf) = b + sz c + tos suf by omega]
      exact this
    · by_cases k2 : c.f0 = 2
      · simp only [if_neg k1, if_pos k2, froms, tos]
        rw [w64 (by omega) (by omega)]
        have := ih (pre ++ [c]) (a + c.f1) b e2 (by omega) h1 (by omega) (by omega)
        rw [show a + (c.f1 + froms suf) = a + c.f1 + froms suf by omega, show b + (0 + tos suf) = b + tos suf by omega]
        exact this
      · simp only [if_neg k1, if_neg k2, froms, tos]
        rw [w64 (by omega) (by omega), w64 (by omega) (by omega)]
        have := ih (pre ++ [c]) (a + c.f1) (b + sz c) e2 (by omega) (by omega) (by omega) (by omega)
        rw [show a + (c.f1 + froms suf) = a + c.f1 + froms suf by omega, show b + (sz c + tos suf) = b + sz c + tos suf by omega]
        exact this
theorem Spans_ev (xs : List Cm) (hg : ∀ c ∈ xs, good c) (hl : xs.length < 9223372036854775807) (ht : tot xs < 9223372036854775808) : Ev (fun k => comp_Spans.f k xs) (froms xs, tos xs) := by
  have := Spans_l0 xs hg hl xs [] 0 0 rfl (by omega) (by omega) (by omega) (by omega)
  simpa [comp_Spans.f] using this
theorem within_ev (xs : List Cm) (hg : ∀ c ∈ xs, good c) (hl : xs.length < 9223372036854775807) (ht : tot xs < 9223372036854775808) : Ev (fun k => comp_within.f k xs) (decide (froms xs ≤ 4096) && decide (tos xs ≤ 4096)) := by
  refine Ev.congr (fun k => by rw [comp_within.f]) (Ev.bind (Spans_ev xs hg hl ht) ?_)
  by_cases h : froms xs ≤ 4096
  · simp only [if_pos h, decide_eq_true h, Bool.true_and]; exact Ev.now _
  · simp only [if_neg h, decide_eq_false h, Bool.false_and]; exact Ev.now _

/-! May -/
theorem May_l0 (xs : List Cm) (hl : xs.length ≤ 4096) : ∀ (suf pre : List Cm) (last : Int), xs = pre ++ suf → (∀ c ∈ pre, rawB c = true) →
    Ev (fun k => comp_May.l0 k xs last xs (xs.length : Int) (pre.length : Int)) (okSeq last suf && (decide (froms xs ≤ 4096) && decide (tos xs ≤ 4096))) := by
  intro suf
  induction suf with
  | nil =>
    intro pre last e hp
    have e' : xs = pre := by simpa using e
    have hr : ∀ c ∈ xs, rawB c = true := by rw [e']; exact hp
    have := tot_raw hr
    refine Ev.step (fun k => by rw [comp_May.l0]) ?_
    simp only [if_neg (nlt_of e), okSeq, Bool.true_and]
    exact Ev.bind (within_ev xs (fun c hc => raw_good (hr c hc)) (by omega) (by omega)) (Ev.now _)
  | cons c suf ih =>
    intro pre last e hp
    have hlt := lt_len e
    refine Ev.step (fun k => by rw [comp_May.l0]) ?_
    simp only [if_pos (lt_of e), if_pos (nat_nonneg _), rd_of e, len_next pre c (by omega)]
    refine Ev.bind (raw_ev c) ?_
    by_cases hr : rawB c = true
    · have hg := raw_good hr
      have hz := raw_sz hr
      simp only [hr, if_true, Size_eq c hg (by omega), Option.bind_some, okSeq, Bool.true_and]
      have := ih (pre ++ [c]) c.f0 (next_of e) (fun d hd => by
        rcases List.mem_append.1 hd with hd | hd
        · exact hp d hd
        · rw [List.mem_singleton.1 hd]; exact hr)
      by_cases h0 : sz c = 0
      · simp only [if_pos h0, h0, ne_eq, not_true_eq_false, decide_false, Bool.false_and]; exact Ev.now _
      · by_cases h1 : c.f0 = last
        · simp only [if_neg h0, if_pos h1]
          simp [h1]; exact Ev.now _
        · simp only [if_neg h0, if_neg h1]
          by_cases h2 : c.f0 = 1
          · simp only [if_pos h2]
            by_cases h3 : last = 2
            · simp only [if_pos h3]; simp [h2, h3]; exact Ev.now _
            · simp only [if_neg h3]
              rw [show (decide (sz c ≠ 0) && decide (c.f0 ≠ last) && !(decide (c.f0 = 1) && decide (last = 2)) && okSeq c.f0 suf) = okSeq c.f0 suf by simp [h0, h1, h3]]
              exact this
          · simp only [if_neg h2]
            rw [show (decide (sz c ≠ 0) && decide (c.f0 ≠ last) && !(decide (c.f0 = 1) && decide (last = 2)) && okSeq c.f0 suf) = okSeq c.f0 suf by simp [h0, h1, h2]]
            exact this
    · have hr' : rawB c = false := by simpa using hr
      simp only [hr', Bool.false_eq_true, if_false, okSeq, Bool.false_and]; exact Ev.now _
theorem May_ev (xs : List Cm) : Ev (fun k => comp_May.f k xs) (mayB xs) := by
  unfold comp_May.f mayB
  by_cases h : xs.length ≤ 4096
  · have h1 : ¬ ((xs.length : Int) > 4096) := by omega
    simp only [if_neg h1, decide_eq_true h, Bool.true_and]
    have := May_l0 xs h xs [] (-1) rfl (fun c hc => by cases hc)
    simpa using this
  · have h1 : (xs.length : Int) > 4096 := by omega
    simp only [if_pos h1, decide_eq_false h, Bool.false_and]
    exact Ev.now _
/-- What Lengths comes to. -/
def lens (xs : List Cm) : Int × Int × Int := if mayB xs = true then (froms xs, tos xs, 0) else (0, 0, 200)
theorem may_bounds {xs : List Cm} (h : mayB xs = true) : xs.length ≤ 4096 ∧ (∀ c ∈ xs, good c) ∧ tot xs ≤ 16777216 := by
  obtain ⟨h1, h2, _⟩ := (may_iff xs).1 h
  have := tot_raw h2
  exact ⟨h1, fun c hc => raw_good (h2 c hc), by omega⟩
theorem Lengths_ev (xs : List Cm) : Ev (fun k => comp_Lengths.f k xs) (lens xs) := by
  refine Ev.congr (fun k => by rw [comp_Lengths.f]) (Ev.bind (May_ev xs) ?_)
  unfold lens
  by_cases h : mayB xs = true
  · simp only [h, if_true]
    obtain ⟨h1, h2, h3⟩ := may_bounds h
    exact Ev.bind (Spans_ev xs h2 (by omega) (by omega)) (Ev.now _)
  · simp only [if_neg h]; exact Ev.now _
theorem lens_err (xs : List Cm) (h : ¬ mayB xs = true) : lens xs = (0, 0, 200) := by unfold lens; rw [if_neg h]
theorem lens_ok (xs : List Cm) (h : mayB xs = true) : lens xs = (froms xs, tos xs, 0) := by unfold lens; rw [if_pos h]
end Go.Proofs.Ytbkkcoppncgegab.Pl
