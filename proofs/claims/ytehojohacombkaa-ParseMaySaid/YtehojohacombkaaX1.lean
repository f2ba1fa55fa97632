/- Tokens of a text: the plain model, over what is left of the text. No program in sight. -/
import Derived.Test.YtehojohacombkaaGx0
namespace Go.Proofs.Ytehojohacombkaa.Lx
open Go.RowKit Go.Proofs.Ytehojohacombkaa.G Go.Proofs.YtehojohacombkaaW.PrintWords Go.Proofs.YtehojohacombkaaW.PrintLast
set_option linter.unusedVariables false
set_option linter.unusedSimpArgs false
abbrev Tk := S46
def isB (b : UInt8) : Bool := b == 32 || b == 9 || b == 10 || b == 13
def isD (b : UInt8) : Bool := decide (48 ≤ b.toNat) && decide (b.toNat ≤ 57)
def isL (b : UInt8) : Bool := (decide (97 ≤ b.toNat) && decide (b.toNat ≤ 122)) || (decide (65 ≤ b.toNat) && decide (b.toNat ≤ 90)) || b == 95
/-- How many bytes of a kind stand ahead. -/
def run (p : UInt8 → Bool) : List UInt8 → Nat
  | [] => 0
  | b :: r => if p b = true then run p r + 1 else 0
/-- Does a byte of a kind stand at a place? -/
def at_ (p : UInt8 → Bool) (l : List UInt8) (i : Nat) : Bool := match l[i]? with | some b => p b | none => false
/-- The parts of a number. -/
def nWhole (l : List UInt8) (i : Nat) : Nat := if at_ (· == 48) l i = true then i + 1 else i + run isD (l.drop i)
def nPart (l : List UInt8) (i : Nat) : Nat := if at_ (· == 46) l i = true ∧ at_ isD l (i + 1) = true then i + 1 + run isD (l.drop (i + 1)) else i
def nPow (l : List UInt8) (i : Nat) : Nat :=
  if at_ (fun b => b == 101 || b == 69) l i = true then
    (if at_ (fun b => b == 43 || b == 45) l (i + 1) = true then (if at_ isD l (i + 2) = true then i + 2 + run isD (l.drop (i + 2)) else i)
     else if at_ isD l (i + 1) = true then i + 1 + run isD (l.drop (i + 1)) else i)
  else i
def num (l : List UInt8) : Nat :=
  let m := if at_ (· == 45) l 0 = true then 1 else 0
  if at_ isD l m = true then nPow l (nPart l (nWhole l m)) else 0
/-- Behind a quote: how far, and is it closed? -/
def txt : List UInt8 → Nat × Bool
  | [] => (0, false)
  | b :: r =>
    if b = 10 then (0, false) else if b = 34 then (1, true)
    else if b = 92 then (match r with
      | [] => (1, false)
      | c :: r' => if c = 10 then (1, false) else ((txt r').1 + 2, (txt r').2))
    else ((txt r).1 + 1, (txt r).2)
/-- Where the first star with a stroke behind it ends. -/
def shut : List UInt8 → Option Nat
  | [] => none
  | b :: r => if b = 42 ∧ r.head? = some 47 then some 2 else (shut r).map (· + 1)
def rmk (l : List UInt8) : Nat × Bool :=
  match l with
  | _ :: 47 :: _ => (run (fun b => b != 10) l, true)
  | _ :: 42 :: r => (match shut r with | some k => (k + 2, true) | none => (l.length, false))
  | _ => (1, false)
def word (l : List UInt8) : Bool := l == [116, 114, 117, 101] || l == [102, 97, 108, 115, 101] || l == [110, 117, 108, 108]
def sign (b : UInt8) : Option Int := if b = 123 then some 0 else if b = 125 then some 1 else if b = 91 then some 2 else if b = 93 then some 3 else if b = 58 then some 4 else if b = 44 then some 5 else none
/-- The token ahead: its kind, its length. -/
def tk (l : List UInt8) : Int × Nat :=
  match l with
  | [] => (11, 0)
  | b :: r =>
    match sign b with
    | some k => (k, 1)
    | none =>
      if isB b = true then (10, run isB l)
      else if b = 34 then (if (txt r).2 = true then 6 else 11, (txt r).1 + 1)
      else if b = 47 then (if (rmk l).2 = true then 9 else 11, (rmk l).1)
      else if isL b = true then (if word (l.take (run isL l)) = true then 8 else 11, run isL l)
      else if num l = 0 then (11, 1) else (7, num l)
/-- All tokens, from a place on; the fuel is the text's length. -/
def tks : Nat → Nat → List UInt8 → List Tk
  | 0, _, _ => []
  | _ + 1, _, [] => []
  | n + 1, i, b :: r => ⟨(tk (b :: r)).1, (i : Int), ((i + (tk (b :: r)).2 : Nat) : Int)⟩ :: tks n (i + (tk (b :: r)).2) ((b :: r).drop (tk (b :: r)).2)
def toks (l : List UInt8) : List Tk := tks l.length 0 l
theorem run_le (p : UInt8 → Bool) (l : List UInt8) : run p l ≤ l.length := by
  induction l with
  | nil => simp [run]
  | cons b r ih => simp only [run, List.length_cons]; split <;> omega
theorem run_pos {p : UInt8 → Bool} {b : UInt8} {r : List UInt8} (h : p b = true) : 0 < run p (b :: r) := by simp only [run, if_pos h]; omega
theorem at_lt {p : UInt8 → Bool} {l : List UInt8} {i : Nat} (h : at_ p l i = true) : i < l.length := by
  unfold at_ at h
  by_cases e : i < l.length
  · exact e
  · rw [List.getElem?_eq_none (by omega)] at h; cases h
theorem run_at {p : UInt8 → Bool} {l : List UInt8} {i : Nat} (h : at_ p l i = true) : 0 < run p (l.drop i) := by
  have hl := at_lt h
  rw [List.drop_eq_getElem_cons hl]
  refine run_pos ?_
  unfold at_ at h
  rwa [List.getElem?_eq_getElem hl] at h
theorem run_drop_le (p : UInt8 → Bool) (l : List UInt8) (i : Nat) (h : i ≤ l.length) : i + run p (l.drop i) ≤ l.length := by
  have := run_le p (l.drop i)
  rw [List.length_drop] at this; omega
theorem nWhole_le {l : List UInt8} {i : Nat} (h : at_ isD l i = true) : i < nWhole l i ∧ nWhole l i ≤ l.length := by
  have hl := at_lt h; have h1 := run_at h; have h2 := run_drop_le isD l i (by omega)
  unfold nWhole; split <;> omega
theorem nPart_le {l : List UInt8} {i : Nat} (h : i ≤ l.length) : i ≤ nPart l i ∧ nPart l i ≤ l.length := by
  unfold nPart; split
  · rename_i k; have := at_lt k.2; have := run_drop_le isD l (i + 1) (by omega); omega
  · omega
theorem nPow_le {l : List UInt8} {i : Nat} (h : i ≤ l.length) : i ≤ nPow l i ∧ nPow l i ≤ l.length := by
  unfold nPow; split
  · split
    · split
      · rename_i k; have := at_lt k; have := run_drop_le isD l (i + 2) (by omega); omega
      · omega
    · split
      · rename_i k; have := at_lt k; have := run_drop_le isD l (i + 1) (by omega); omega
      · omega
  · omega
theorem num_le (l : List UInt8) : num l ≤ l.length := by
  have key : ∀ m, at_ isD l m = true → nPow l (nPart l (nWhole l m)) ≤ l.length := fun m h => (nPow_le (nPart_le (nWhole_le h).2).2).2
  unfold num
  simp only
  generalize (if at_ (· == 45) l 0 = true then 1 else 0) = m
  by_cases h : at_ isD l m = true
  · rw [if_pos h]; exact key m h
  · rw [if_neg h]; omega
theorem txt_le (l : List UInt8) : (txt l).1 ≤ l.length := by
  have : ∀ n, ∀ l : List UInt8, l.length ≤ n → (txt l).1 ≤ l.length := by
    intro n
    induction n with
    | zero => intro l h; have : l = [] := List.eq_nil_of_length_eq_zero (by omega); subst this; simp [txt]
    | succ n ih =>
      intro l h
      cases l with
      | nil => simp [txt]
      | cons b r =>
        simp only [List.length_cons] at h
        rw [txt.eq_def]
        simp only
        split
        · simp
        · split
          · simp
          · split
            · cases r with
              | nil => simp
              | cons c r' =>
                simp only
                split
                · simp
                · have := ih r' (by simp only [List.length_cons] at h; omega)
                  simp only [List.length_cons]; omega
            · have := ih r (by omega)
              simp only [List.length_cons]; omega
  exact this l.length l (Nat.le_refl _)
theorem shut_le : ∀ (l : List UInt8) (k : Nat), shut l = some k → 2 ≤ k ∧ k ≤ l.length := by
  intro l
  induction l with
  | nil => intro k h; simp [shut] at h
  | cons b r ih =>
    intro k h
    rw [shut] at h
    split at h
    · rename_i c
      cases r with
      | nil => simp at c
      | cons d r' => cases h; simp
    · cases hs : shut r with
      | none => rw [hs] at h; cases h
      | some j => rw [hs] at h; cases h; have := ih j hs; simp only [List.length_cons]; omega
theorem rmk_le {l : List UInt8} (h : l ≠ []) (h1 : ∀ b, l.head? = some b → b = 47) : 1 ≤ (rmk l).1 ∧ (rmk l).1 ≤ l.length := by
  have hl : 0 < l.length := by cases l with | nil => exact absurd rfl h | cons _ _ => simp
  unfold rmk
  split
  · rename_i b r
    refine ⟨?_, run_le _ _⟩
    have := h1 b rfl
    show 0 < run (fun b => b != 10) (b :: 47 :: r)
    exact run_pos (p := fun b => b != 10) (by rw [this]; decide)
  · rename_i b r
    split
    · rename_i k hk; have := shut_le _ _ hk; simp only [List.length_cons]; omega
    · simp
  · simp; omega
theorem tk_le {b : UInt8} {r : List UInt8} : 1 ≤ (tk (b :: r)).2 ∧ (tk (b :: r)).2 ≤ (b :: r).length := by
  rw [tk]
  cases hs : sign b with
  | some k => simp
  | none =>
    simp only
    split
    · rename_i h; exact ⟨run_pos h, run_le _ _⟩
    · split
      · have := txt_le r; simp only [List.length_cons]; omega
      · split
        · rename_i h; exact rmk_le (by simp) (fun c hc => by simp at hc; rw [← hc]; exact h)
        · split
          · rename_i h; exact ⟨run_pos h, run_le _ _⟩
          · split
            · simp
            · have := num_le (b :: r); omega
end Go.Proofs.Ytehojohacombkaa.Lx
