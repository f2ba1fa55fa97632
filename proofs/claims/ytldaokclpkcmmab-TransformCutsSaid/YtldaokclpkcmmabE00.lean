/- Alike ahead and behind: for a seat that does not reach the package edit. -/
import Derived.Test.YtldaokclpkcmmabM6a
namespace Go.Proofs.Ytldaokclpkcmmab.G
set_option linter.unusedVariables false
theorem edit_Between.at_byte (s : ByteArray) (i : Nat) (h : i < s.size) : s[i] = s.data.toList.getD i 0 := by
  have h' : i < s.data.toList.length := by simpa using h
  rw [List.getD_eq_getElem?_getD, List.getElem?_eq_getElem h']
  simp
  rfl
def edit_Between.alk (same : Nat → Bool) : Nat → Nat → Nat
  | 0, i => i
  | m + 1, i => if same i = true then edit_Between.alk same m (i + 1) else i
def edit_Between.same1 (s t : ByteArray) (i : Nat) : Bool := decide (s.data.toList.getD i 0 = t.data.toList.getD i 0)
def edit_Between.same2 (s t : ByteArray) (i : Nat) : Bool := decide (s.data.toList.getD (s.size - 1 - i) 0 = t.data.toList.getD (t.size - 1 - i) 0)

theorem edit_Between.alk_le (same : Nat → Bool) (m : Nat) : ∀ i, i ≤ edit_Between.alk same m i ∧ edit_Between.alk same m i ≤ i + m := by
  induction m with
  | zero => intro i; simp [edit_Between.alk]
  | succ m ih =>
    intro i; rw [edit_Between.alk]
    split
    · have := ih (i + 1); omega
    · omega
def edit_Between.ahead (s t : ByteArray) : Nat := edit_Between.alk (edit_Between.same1 s t) (min s.size t.size) 0
def edit_Between.behind (s t : ByteArray) : Nat := edit_Between.alk (edit_Between.same2 s t) (min s.size t.size) 0
end Go.Proofs.Ytldaokclpkcmmab.G
