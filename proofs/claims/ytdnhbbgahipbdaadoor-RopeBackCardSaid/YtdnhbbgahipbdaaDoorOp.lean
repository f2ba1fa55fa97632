/- Arguments that are slices of structs, opened: what reads as data of a type reads as a kind of the print's says. -/
import Derived.Test.YtdnhbbgahipbdaaDoorRows
import Derived.Test.YtdnhbbgahipbdaaDoorV
import Derived.Deep.Slices
import Derived.Deep.Strs
import Derived.ChangeArms
import Derived.ChangeSame
import Derived.DataReads
import Derived.WideShapes
import Derived.SizedLaws
namespace Go.Proofs.YtdnhbbgahipbdaaDoor.Op
open Go.RowKit Go.Proofs.YtdnhbbgahipbdaaDoorW.PrintWords Go.WideShapes
set_option linter.unusedVariables false

/-- g: how much of it there is. -/
def Opens {α : Type} (P : Program) (t : TypeId) (d : Kd α) (ok : α → Prop) (g : α → Nat) : Prop :=
  ∀ (H : Type) (enc : TypeId × Value → H) (w : World) (fuel : Nat) (cs : List Value) (x : DataW H × List MemPlace),
    DataW.trod enc P w 0 (fun _ => true) true fuel t cs = some x → ∃ a, d.K w a cs ∧ ok a ∧ g a + 1 ≤ Rows.uptoBulk x.1
theorem opens_int {P : Program} {t : TypeId} {k : IntKind} (ht : P.underlying t = some (.int k)) : Opens P t (Kd.int k) (fun n => (Lit.int k n).wf = true) (fun _ => 0) := by
  intro H enc w fuel cs x h
  obtain ⟨n, rfl, rfl, hw⟩ := DataW.trod_int ht h
  exact ⟨n, rfl, hw, by simp [Rows.uptoBulk]⟩
theorem opens_bool {P : Program} {t : TypeId} (ht : P.underlying t = some .bool) : Opens P t Kd.bool (fun _ => True) (fun _ => 0) := by
  intro H enc w fuel cs x h
  obtain ⟨n, rfl, rfl⟩ := DataW.trod_bool ht h
  exact ⟨n, rfl, trivial, by simp [Rows.uptoBulk]⟩
theorem opens_string {P : Program} {t : TypeId} (ht : P.underlying t = some .string) : Opens P t Kd.string (fun s => s.size ≤ maxLen) (fun s => s.size) := by
  intro H enc w fuel cs x h
  obtain ⟨s, rfl, rfl, hw⟩ := DataW.trod_string ht h
  exact ⟨s, rfl, hw, by simp only [Rows.uptoBulk, Array.length_toList]; exact Nat.le_refl _⟩
theorem choose_list {α : Type} {Q : Nat → α → Prop} (n : Nat) (h : ∀ i, i < n → ∃ a, Q i a) : ∃ xs : List α, xs.length = n ∧ ∀ j p, xs[j]? = some p → Q j p := by
  induction n with
  | zero => exact ⟨[], rfl, fun j p hj => by simp at hj⟩
  | succ n ih =>
    obtain ⟨xs, hl, hx⟩ := ih (fun i hi => h i (by omega))
    obtain ⟨a, ha⟩ := h n (by omega)
    refine ⟨xs ++ [a], by simp [hl], fun j p hj => ?_⟩
    by_cases hjl : j < xs.length
    · rw [List.getElem?_append_left hjl] at hj; exact hx j p hj
    · have hj2 := (List.getElem?_eq_some_iff.1 hj).1
      simp only [List.length_append, List.length_singleton] at hj2
      have : j = xs.length := by omega
      subst this
      simp at hj
      subst hj
      rw [hl]; exact ha
def bulkOf {α : Type} (g : α → Nat) : List α → Nat
  | [] => 0
  | a :: r => g a + 1 + bulkOf g r
theorem bulkOf_append {α : Type} (g : α → Nat) (a b : List α) : bulkOf g (a ++ b) = bulkOf g a + bulkOf g b := by
  induction a with
  | nil => simp [bulkOf]
  | cons c r ih => simp only [List.cons_append, bulkOf, ih]; omega
theorem bulkAll_append {H : Type} (l r : List (DataW H)) : Rows.uptoBulkAll (l ++ r) = Rows.uptoBulkAll l + Rows.uptoBulkAll r := by
  induction l with
  | nil => simp [Rows.uptoBulkAll]
  | cons x l ih => simp only [List.cons_append, Rows.uptoBulkAll, ih]; omega
theorem bulk_range {α H : Type} (g : α → Nat) (D : Nat → DataW H) : ∀ (n : Nat) (xs : List α), xs.length = n → (∀ j p, xs[j]? = some p → g p + 1 ≤ Rows.uptoBulk (D j)) → bulkOf g xs ≤ Rows.uptoBulkAll ((List.range n).map D) := by
  intro n
  induction n with
  | zero => intro xs hl h; rw [List.eq_nil_of_length_eq_zero hl]; simp [bulkOf]
  | succ n ih =>
    intro xs hl h
    obtain ⟨ys, a, rfl⟩ : ∃ ys a, xs = ys ++ [a] := ⟨xs.dropLast, xs.getLast (by intro e; simp [e] at hl), (List.dropLast_concat_getLast _).symm⟩
    have hl' : ys.length = n := by simpa using hl
    rw [List.range_succ, List.map_append, bulkAll_append, bulkOf_append]
    have h1 := ih ys hl' (fun j p hj => h j p (by rw [List.getElem?_append_left (List.getElem?_eq_some_iff.1 hj).1]; exact hj))
    have h2 := h n a (by rw [← hl']; simp)
    simp only [bulkOf, List.map_cons, List.map_nil, Rows.uptoBulkAll]
    omega
theorem bulk_len {α : Type} (g : α → Nat) (xs : List α) : xs.length ≤ bulkOf g xs := by
  induction xs with
  | nil => simp
  | cons a r ih => simp only [bulkOf, List.length_cons]; omega
theorem bulk_mem {α : Type} (g : α → Nat) {xs : List α} {a : α} (h : a ∈ xs) : g a + 1 ≤ bulkOf g xs := by
  induction xs with
  | nil => cases h
  | cons b r ih =>
    simp only [bulkOf]
    rcases List.mem_cons.1 h with rfl | h
    · omega
    · have := ih h; omega
/-- A slice's own reading, told with its elements. -/
theorem open_elems {α : Type} {P : Program} {t e : TypeId} {d : Kd α} {ok : α → Prop} {g : α → Nat} (ht : P.underlying t = some (.slice e)) (hc : P.cellsOf e = d.sz) (ho : Opens P e d ok g)
    {H : Type} {enc : TypeId × Value → H} {w : World} {fuel : Nat} {cs : List Value} {x : DataW H × List MemPlace} (h : DataW.trod enc P w 0 (fun _ => true) true fuel t cs = some x) :
    ∃ (A : Option Addr) (xs : List α) (c : Nat), cs = [.slice A xs.length c] ∧ xs.length ≤ c ∧ d.C w A xs.length xs ∧ (∀ a ∈ xs, ok a) ∧ bulkOf g xs + 1 ≤ Rows.uptoBulk x.1 ∧
      (x.1 = .nil ∧ xs = [] ∨ ∃ l r, x.1 = .slice l r ∧ l.length = xs.length) := by
  rcases Go.Deep.open_slice ht h with ⟨rfl, rfl⟩ | ⟨a, len, cap, m, n, D, Pl, rfl, _, hl, hm, rfl, rfl, hel⟩
  · exact ⟨none, [], 0, rfl, Nat.le_refl _, ⟨rfl, by simp, fun h => absurd h (by simp)⟩, fun a ha => (by cases ha), by simp [bulkOf, Rows.uptoBulk], .inl ⟨rfl, rfl⟩⟩
  · have key : ∀ i, i < len → ∃ p : α, (∃ c, c.length = d.sz ∧ d.K w p c ∧ ∀ j u, c[j]? = some u → w.cell? (a.add (i * d.sz + j)) = some u) ∧ ok p ∧ g p + 1 ≤ Rows.uptoBulk (D i) := by
      intro i hi
      obtain ⟨cs', h1, h2⟩ := hel i (by omega)
      obtain ⟨p, hp, hok, hg⟩ := ho H enc w n cs' _ h2
      refine ⟨p, ⟨cs', d.K_len hp, hp, fun j u hu => ?_⟩, hok, hg⟩
      have h3 := World.cells?_some h1
      have hj : j < P.cellsOf e := by
        have := (List.getElem?_eq_some_iff.1 hu).1
        rw [d.K_len hp] at this; omega
      have h4 := h3.2.2 j hj
      rw [hu] at h4
      rw [← hc, ← Addr.add_add]; exact h4
    obtain ⟨xs, hxl, hx⟩ := choose_list len key
    refine ⟨some a, xs, m, by rw [hxl], by omega, ⟨rfl, by simp only [maxLen] at hm; omega, fun _ => ⟨a, rfl, fun j p hj => (hx j p hj).1⟩⟩, ?_, ?_, .inr ⟨_, _, rfl, by simp [hxl]⟩⟩
    · intro p hp
      obtain ⟨j, hj⟩ := List.getElem?_of_mem hp
      exact (hx j p hj).2.1
    · have := bulk_range g D len xs hxl (fun j p hj => (hx j p hj).2.2)
      simp only [Rows.uptoBulk]
      omega
theorem opens_slice {α : Type} {P : Program} {t e : TypeId} {d : Kd α} {ok : α → Prop} {g : α → Nat} (ht : P.underlying t = some (.slice e)) (hc : P.cellsOf e = d.sz) (ho : Opens P e d ok g) :
    Opens P t (Kd.slice e d) (fun xs => ∀ a ∈ xs, ok a) (bulkOf g) := by
  intro H enc w fuel cs x h
  obtain ⟨A, xs, c, rfl, h1, h2, h3, h4, _⟩ := open_elems ht hc ho h
  exact ⟨xs, ⟨A, c, rfl, h1, h2⟩, h3, h4⟩
/-- An argument that is a slice, opened: its elements, its length within the reach. -/
theorem open_arg {α : Type} {P : Program} {t e : TypeId} {d : Kd α} {ok : α → Prop} {g : α → Nat} {H : Type} {enc : TypeId × Value → H} {W : World} {v : Value} {D : DataW H} {ps : List MemPlace} {ts : List TypeId} {ds : List (DataW H)} {j : Nat}
    (hu : P.underlying t = some (.slice e)) (hc : P.cellsOf e = d.sz) (ho : Opens P e d ok g) {B : Nat} (hB : P.bytesOf e = B) (hv : Value.okWide P W .any 0 t v)
    (hsz : (DataW.weightsEach P ts ds).all (· ≤ reachBytes) = true) (ht : ts[j]? = some t) (hd : ds[j]? = some D) (h : DataW.Trod enc P W 0 (fun _ => true) true t v D ps) :
    ∃ (A : Option Addr) (xs : List α) (c : Nat), v = .slice A xs.length c ∧ xs.length ≤ c ∧ d.C W A xs.length xs ∧ (∀ a ∈ xs, ok a) ∧ bulkOf g xs + 1 ≤ Rows.uptoBulk D ∧ xs.length * B ≤ 140737488351232 := by
  obtain ⟨a, len, cap, rfl⟩ := okWide_slice hu hv
  obtain ⟨fuel, hf⟩ := h
  obtain ⟨A, xs, c, hcs, h1, h2, h3, h4, h5⟩ := open_elems hu hc ho hf
  have hcs : Value.slice a len cap = .slice A xs.length c := by simpa [Value.cells] using hcs
  refine ⟨A, xs, c, hcs, h1, h2, h3, h4, ?_⟩
  rcases h5 with ⟨_, rfl⟩ | ⟨l, r, e1, e2⟩
  · simp
  · simp only at e1
    subst e1
    have z := sized_slice hsz ht hd hu
    rw [hB] at z
    exact Nat.le_trans (Nat.mul_le_mul_right _ (by omega)) z
end Go.Proofs.YtdnhbbgahipbdaaDoor.Op
