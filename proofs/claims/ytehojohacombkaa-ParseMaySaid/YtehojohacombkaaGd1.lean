/- The language, over tokens: the plain model of good.Good. No program in sight. -/
import Derived.Test.YtehojohacombkaaX1
namespace Go.Proofs.Ytehojohacombkaa.Gd
open Go.RowKit Go.Proofs.Ytehojohacombkaa.G Go.Proofs.YtehojohacombkaaW.PrintWords Go.Proofs.YtehojohacombkaaW.PrintLast
open Go.Proofs.Ytehojohacombkaa.Lx (Tk)
set_option linter.unusedVariables false
set_option linter.unusedSimpArgs false
/-- Is the next token of a kind? -/
def hdk (ts : List Tk) (k : Int) : Bool := match ts with | [] => false | c :: _ => c.f0 == k
/-- Elements with commas between, and the bracket that closes. -/
def lp (one : List Tk → Option (List Tk)) (c : Int) : Nat → List Tk → Option (List Tk)
  | 0, _ => none
  | n + 1, ts => match one ts with
    | none => none
    | some us => if hdk us c = true then some us.tail else if hdk us 5 = true then lp one c n us.tail else none
def rs (one : List Tk → Option (List Tk)) (c : Int) (ts : List Tk) : Option (List Tk) := if hdk ts c = true then some ts.tail else lp one c (ts.length + 1) ts
def one1 (v : List Tk → Option (List Tk)) (ts : List Tk) : Option (List Tk) := if hdk ts 6 = true then (if hdk ts.tail 4 = true then v ts.tail.tail else none) else none
/-- A value, so many levels below it at most. -/
def val : Nat → List Tk → Option (List Tk)
  | 0, ts => if hdk ts 6 = true ∨ hdk ts 7 = true ∨ hdk ts 8 = true then some ts.tail else none
  | k + 1, ts => if hdk ts 6 = true ∨ hdk ts 7 = true ∨ hdk ts 8 = true then some ts.tail
    else if hdk ts 0 = true then rs (one1 (val k)) 1 ts.tail
    else if hdk ts 2 = true then rs (val k) 3 ts.tail else none
def Less (one : List Tk → Option (List Tk)) : Prop := ∀ ts us, one ts = some us → us.length < ts.length
theorem hdk_len {ts : List Tk} {k : Int} (h : hdk ts k = true) : ts.tail.length < ts.length := by
  cases ts with
  | nil => cases h
  | cons c r => simp
theorem tail_le (ts : List Tk) : ts.tail.length ≤ ts.length := by cases ts <;> simp
theorem lp_less {one : List Tk → Option (List Tk)} (h : Less one) (c : Int) : ∀ (n : Nat) (ts us : List Tk), lp one c n ts = some us → us.length < ts.length := by
  intro n
  induction n with
  | zero => intro ts us e; simp [lp] at e
  | succ n ih =>
    intro ts us e
    rw [lp] at e
    cases ho : one ts with
    | none => rw [ho] at e; cases e
    | some vs =>
      have hv := h ts vs ho
      have ht := tail_le vs
      rw [ho] at e
      simp only at e
      split at e
      · cases e; omega
      · split at e
        · have := ih _ _ e; omega
        · cases e
theorem rs_less {one : List Tk → Option (List Tk)} (h : Less one) (c : Int) : Less (rs one c) := by
  intro ts us e
  unfold rs at e
  split at e
  · rename_i hc; cases e; exact hdk_len hc
  · exact lp_less h c _ _ _ e
theorem one1_less {v : List Tk → Option (List Tk)} (h : Less v) : Less (one1 v) := by
  intro ts us e
  unfold one1 at e
  split at e
  · split at e
    · have := h _ _ e; have := tail_le ts; have := tail_le ts.tail; omega
    · cases e
  · cases e
theorem val_less : ∀ k, Less (val k) := by
  intro k
  induction k with
  | zero =>
    intro ts us e
    rw [val] at e
    split at e
    · rename_i hc
      cases e
      rcases hc with h | h | h <;> exact hdk_len h
    · cases e
  | succ k ih =>
    intro ts us e
    rw [val] at e
    split at e
    · rename_i hc
      cases e
      rcases hc with h | h | h <;> exact hdk_len h
    · split at e
      · have := rs_less (one1_less ih) 1 _ _ e; have := tail_le ts; omega
      · split at e
        · have := rs_less ih 3 _ _ e; have := tail_le ts; omega
        · cases e
/-- Tokens without blanks and remarks. -/
def solid (ts : List Tk) : List Tk := ts.filter fun c => !(c.f0 == 10 || c.f0 == 9)
def good (l : List UInt8) : Bool := match val 12 (solid (Go.Proofs.Ytehojohacombkaa.Lx.toks l)) with | some [] => true | _ => false
end Go.Proofs.Ytehojohacombkaa.Gd
