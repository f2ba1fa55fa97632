/- May a tree be of a text of so many bytes? The plain model. No program in sight. -/
import Derived.Test.YtehojohacombkaaPm1
namespace Go.Proofs.Ytehojohacombkaa.Ps
open Go.RowKit Go.Proofs.Ytehojohacombkaa.G Go.Proofs.YtehojohacombkaaW.PrintWords Go.Proofs.YtehojohacombkaaW.PrintLast
set_option linter.unusedVariables false
set_option linter.unusedSimpArgs false
def leafB (k : Int) : Bool := k == 4 || k == 5 || k == 6
def rootB (root size : Int) (x : Nd) : Bool := x.f1 != 0 || (x.f0 == root && x.f2 == 0 && x.f3 == size)
def aloneB (root next size : Int) (x : Nd) (before : Int) : Bool :=
  rootB root size x && (decide (x.f0 > before) && (decide (x.f0 < next) && (decide (x.f1 ≥ 0) && (decide (x.f1 ≤ 7) && (decide (x.f2 ≥ 0) && (decide (x.f2 ≤ x.f3) && (decide (x.f3 ≤ size) && (!leafB x.f1 || x.f4.length == 0))))))))
/-- All nodes by themselves; where the root stands. -/
def firstN (root next size : Int) : List Nd → Int → Int → Int → Option Int
  | [], _, ri, _ => some ri
  | x :: r, i, ri, b => if (!aloneB root next size x b || (x.f1 == 0 && decide (ri ≥ 0))) = true then none else firstN root next size r (i + 1) (if x.f1 = 0 then i else ri) x.f0
/-- Where the last node of such an id stands, of the first so many. -/
def idxM (ns : List Nd) : Nat → Int → Option Int
  | 0, _ => none
  | m + 1, id => if (rdn ns (m : Int)).f0 = id then some (m : Int) else idxM ns m id
def idxN (ns : List Nd) (id : Int) : Option Int := idxM ns ns.length id
theorem idxM_range {ns : List Nd} : ∀ {m : Nat} {id k : Int}, idxM ns m id = some k → 0 ≤ k ∧ k < (m : Int) := by
  intro m
  induction m with
  | zero => intro id k h; cases h
  | succ m ih =>
    intro id k h
    rw [idxM] at h
    split at h
    · cases h; omega
    · have := ih h; omega
def rdb (l : List Bool) (i : Int) : Bool := l.getD i.toNat false
/-- A node's children, each within it and none before. -/
def kidsN (ns : List Nd) (x : Nd) : List Int → Int → List Bool → List Int → Option (List Bool × List Int)
  | [], _, seen, row => some (seen, row)
  | id :: r, from_, seen, row => match idxN ns id with
    | none => none
    | some k => if (rdb seen k || (decide ((rdn ns k).f2 < from_) || decide ((rdn ns k).f3 > x.f3))) = true then none
      else kidsN ns x r (rdn ns k).f3 (seen.set k.toNat true) (row ++ [k])
def bfsN (ns : List Nd) : Nat → List Int → List Bool → Option (List Bool)
  | 0, _, _ => none
  | _ + 1, [], seen => some seen
  | n + 1, j :: row, seen => match kidsN ns (rdn ns j) (rdn ns j).f4 (rdn ns j).f2 seen (j :: row) with
    | none => none
    | some (seen', row') => bfsN ns n row'.tail seen'
def mayT (root next size : Int) (ns : List Nd) : Bool :=
  if ns.length < 1 ∨ 2048 < ns.length ∨ next < 0 ∨ 16777216 < next ∨ size < 0 ∨ 4096 < size then false
  else match firstN root next size ns 0 (-1) (-1) with
    | none => false
    | some ri => if ri < 0 then false else match bfsN ns (ns.length + 1) [ri] ((List.replicate ns.length false).set ri.toNat true) with
      | none => false
      | some seen => seen.all id
end Go.Proofs.Ytehojohacombkaa.Ps
