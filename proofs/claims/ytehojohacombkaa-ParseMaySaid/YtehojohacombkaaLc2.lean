/- The table of classes that the lexer makes: what the closure handed to Once fills in. -/
import Derived.Test.YtehojohacombkaaLc1
import Derived.Maps.RangeWalk
import Derived.Maps.StringElems
import Derived.Maps.Ext
namespace Go.Proofs.Ytehojohacombkaa.G
open Go.RowKit Go.Maps Go.Proofs.YtehojohacombkaaW.PrintWords Go.Proofs.YtehojohacombkaaW.PrintLast Go.Proofs.YtehojohacombkaaW.PrintMore
set_option linter.unusedVariables false
set_option linter.unusedSimpArgs false
/-- 'm[k] = v' of a map's literal. -/
theorem Lx.insert_own {H : Type} {P : Program} (w : World) {ops : Array Oper} {rest : List Oper} {o : Oper} {a : Act} {Q : Exit → Act → World → Prop}
    (m x v : Operand) (t : TypeId) (hop : o.op = Op.insert t m x v) (hg : o.guard = none)
    (k e : TypeId) (K : Keyed P k) (ht : P.underlying t = some (.map k e)) (R : Value → Option (DataW H × List MemPlace)) (b n : Nat) (D : DataW H)
    (hm : a.eval m = .map (some b)) (hown : w.ownsMap P k R b n D) (hn : n < maxLen) (key val : Value) (kl : Lit) (hx : a.eval x = key) (hv : a.eval v = val) (hkey : keyOf P k key = some kl)
    (d : DataW H) (ps : List MemPlace) (hval : R val = some (d, ps))
    (hK : ∀ w', w'.ownsMap P k R b (n + 1) (D.put kl d) → w.grownBy w' (some b) → wpList P ops Q rest (a.put o.dst undef) w') :
    wpList P ops Q (o :: rest) a w := by
  refine wpList_plain hg fun K' hK' => ?_
  obtain ⟨w', hrun, r1, r2⟩ := hown.update K ht hn hkey hval
  unfold Oper.wp
  simp [execOp, hop, hm, hx, hv, hrun, Result.andThen]
  exact hK' _ _ (hK w' r1 r2)
/-! the seven rows -/
def Lx.row (x : Int) : ByteArray :=
  if x = 1 then ⟨#[123, 125, 91, 93, 58, 44]⟩ else if x = 2 then ⟨#[32, 9, 10, 13]⟩ else if x = 3 then ⟨#[48, 49, 50, 51, 52, 53, 54, 55, 56, 57]⟩
  else if x = 4 then ⟨#[97, 98, 99, 100, 101, 102, 103, 104, 105, 106, 107, 108, 109, 110, 111, 112, 113, 114, 115, 116, 117, 118, 119, 120, 121, 122, 65, 66, 67, 68, 69, 70, 71, 72, 73, 74, 75, 76, 77, 78, 79, 80, 81, 82, 83, 84, 85, 86, 87, 88, 89, 90, 95]⟩
  else if x = 5 then ⟨#[34]⟩ else if x = 6 then ⟨#[47]⟩ else ⟨#[45]⟩
/-- The class of a byte. -/
def Lx.cls (i : Nat) : Int :=
  if i = 123 ∨ i = 125 ∨ i = 91 ∨ i = 93 ∨ i = 58 ∨ i = 44 then 1 else if i = 32 ∨ i = 9 ∨ i = 10 ∨ i = 13 then 2 else if 48 ≤ i ∧ i ≤ 57 then 3
  else if (97 ≤ i ∧ i ≤ 122) ∨ (65 ≤ i ∧ i ≤ 90) ∨ i = 95 then 4 else if i = 34 then 5 else if i = 47 then 6 else if i = 45 then 7 else 0
theorem Lx.row_cls : ∀ x : Fin 8, ∀ i : Fin 256, x.val ≠ 0 → (((Lx.row x.val).data.toList.any (fun b => b.toNat == i.val)) = decide (Lx.cls i.val = x.val)) := by decide +kernel
theorem Lx.cls_le (i : Nat) : 0 ≤ Lx.cls i ∧ Lx.cls i ≤ 7 := by unfold Lx.cls; split <;> (try split) <;> (try split) <;> (try split) <;> (try split) <;> (try split) <;> (try split) <;> omega
def Lx.dict {H : Type} : DataW H := (((((((DataW.map [] : DataW H).put (.int .u8 1) (.lit (.string (Lx.row 1).data.toList))).put (.int .u8 2) (.lit (.string (Lx.row 2).data.toList))).put (.int .u8 3) (.lit (.string (Lx.row 3).data.toList))).put (.int .u8 4) (.lit (.string (Lx.row 4).data.toList))).put (.int .u8 5) (.lit (.string (Lx.row 5).data.toList))).put (.int .u8 6) (.lit (.string (Lx.row 6).data.toList))).put (.int .u8 7) (.lit (.string (Lx.row 7).data.toList))
theorem Lx.dict_has {H : Type} {x : Int} (h : Maps.has (Lx.dict : DataW H) (.int .u8 x) = true) : 1 ≤ x ∧ x ≤ 7 := by
  by_cases k : 1 ≤ x ∧ x ≤ 7
  · exact k
  · unfold Lx.dict at h
    have ne : ∀ n : Int, 1 ≤ n ∧ n ≤ 7 → (Lit.int .u8 x) ≠ .int .u8 n := fun n hn e => by injection e with _ e; omega
    rw [has_put_other (ne 7 (by omega)), has_put_other (ne 6 (by omega)), has_put_other (ne 5 (by omega)), has_put_other (ne 4 (by omega)), has_put_other (ne 3 (by omega)), has_put_other (ne 2 (by omega)), has_put_other (ne 1 (by omega))] at h
    cases h
theorem Lx.dict_at {H : Type} {x : Int} (h1 : 1 ≤ x) (h2 : x ≤ 7) (z : DataW H) : (Lx.dict : DataW H).atKey (.int .u8 x) z = .lit (.string (Lx.row x).data.toList) := by
  have c : x = 1 ∨ x = 2 ∨ x = 3 ∨ x = 4 ∨ x = 5 ∨ x = 6 ∨ x = 7 := by omega
  unfold Lx.dict
  have ne : ∀ m n : Int, m ≠ n → (Lit.int .u8 m) ≠ .int .u8 n := fun m n hn e => by injection e with _ e; exact hn e
  have i0 : IsMap (DataW.map [] : DataW H) := isMap_empty
  have kL : ∀ n : Int, WideAt.IsKeyLit (.int .u8 n) := fun _ => trivial
  rcases c with rfl | rfl | rfl | rfl | rfl | rfl | rfl
  · rw [atKey_put_other (ne _ _ (by decide)), atKey_put_other (ne _ _ (by decide)), atKey_put_other (ne _ _ (by decide)), atKey_put_other (ne _ _ (by decide)), atKey_put_other (ne _ _ (by decide)), atKey_put_other (ne _ _ (by decide)), atKey_put_same i0 (kL _)]
  · rw [atKey_put_other (ne _ _ (by decide)), atKey_put_other (ne _ _ (by decide)), atKey_put_other (ne _ _ (by decide)), atKey_put_other (ne _ _ (by decide)), atKey_put_other (ne _ _ (by decide)), atKey_put_same (i0.put _ _) (kL _)]
  · rw [atKey_put_other (ne _ _ (by decide)), atKey_put_other (ne _ _ (by decide)), atKey_put_other (ne _ _ (by decide)), atKey_put_other (ne _ _ (by decide)), atKey_put_same ((i0.put _ _).put _ _) (kL _)]
  · rw [atKey_put_other (ne _ _ (by decide)), atKey_put_other (ne _ _ (by decide)), atKey_put_other (ne _ _ (by decide)), atKey_put_same (((i0.put _ _).put _ _).put _ _) (kL _)]
  · rw [atKey_put_other (ne _ _ (by decide)), atKey_put_other (ne _ _ (by decide)), atKey_put_same ((((i0.put _ _).put _ _).put _ _).put _ _) (kL _)]
  · rw [atKey_put_other (ne _ _ (by decide)), atKey_put_same (((((i0.put _ _).put _ _).put _ _).put _ _).put _ _) (kL _)]
  · rw [atKey_put_same ((((((i0.put _ _).put _ _).put _ _).put _ _).put _ _).put _ _) (kL _)]
/-! the table, while some rows are still to come -/
def Lx.val (left : Lit → Bool) (i : Nat) : Int := if Lx.cls i = 0 ∨ left (.int .u8 (Lx.cls i)) = true then 0 else Lx.cls i
def Lx.tab (F : Nat → Int) : Array Value := ((List.range 256).map (fun i => Value.int .u8 (F i))).toArray
/-- A byte's place is given a class. -/
def Lx.upd (F : Nat → Int) (b : Nat) (c : Int) (i : Nat) : Int := if i = b then c else F i
theorem Lx.tab_set (F : Nat → Int) (b : Nat) (c : Int) (hb : b < 256) : (Lx.tab F).setIfInBounds b (.int .u8 c) = Lx.tab (Lx.upd F b c) := by
  unfold Lx.tab
  rw [List.setIfInBounds_toArray]
  congr 1
  refine List.ext_getElem (by simp) (fun i h1 h2 => ?_)
  rw [List.getElem_set]
  simp only [List.getElem_map, List.getElem_range, Lx.upd]
  by_cases e : b = i
  · rw [if_pos e, if_pos e.symm]
  · rw [if_neg e, if_neg (fun h => e h.symm)]
theorem Lx.tab_at (F : Nat → Int) (b : Nat) (hb : b < 256) : (Lx.tab F)[b]? = some (.int .u8 (F b)) := by
  unfold Lx.tab; simp [hb]
theorem Lx.tab_congr {F G : Nat → Int} (h : ∀ i, i < 256 → F i = G i) : Lx.tab F = Lx.tab G := by
  unfold Lx.tab; congr 1; exact List.map_congr_left (fun i hi => by rw [h i (List.mem_range.1 hi)])
/-- So many bytes of a row are in. -/
def Lx.part (F : Nat → Int) (s : ByteArray) (c : Int) (n : Nat) (i : Nat) : Int := if (s.data.toList.take n).any (fun b => b.toNat == i) = true then c else F i
theorem Lx.part_zero (F : Nat → Int) (s : ByteArray) (c : Int) : Lx.part F s c 0 = F := by funext i; simp [Lx.part]
theorem Lx.part_step (F : Nat → Int) (s : ByteArray) (c : Int) (n : Nat) (h : n < s.size) : Lx.upd (Lx.part F s c n) (s[n]).toNat c = Lx.part F s c (n + 1) := by
  funext i
  have hl : n < s.data.toList.length := by simpa using h
  have e : s.data.toList[n] = s[n] := by simp; rfl
  unfold Lx.upd Lx.part
  rw [List.take_succ_eq_append_getElem hl, List.any_append, e]
  by_cases k : i = (s[n]).toNat
  · rw [if_pos k, if_pos (by simp [k])]
  · rw [if_neg k]
    have : ([s[n]].any (fun b => b.toNat == i)) = false := by simp; exact fun h => k h.symm
    rw [this, Bool.or_false]
theorem Lx.row_done {left : Lit → Bool} {x : Int} (h1 : 1 ≤ x) (h2 : x ≤ 7) (i : Nat) (hi : i < 256) : Lx.part (Lx.val left) (Lx.row x) x (Lx.row x).size i = Lx.val (fun z => left z && !z.sameKey (.int .u8 x)) i := by
  have e := Lx.row_cls ⟨x.toNat, by omega⟩ ⟨i, hi⟩ (by simp; omega)
  simp only at e
  rw [show ((x.toNat : Nat) : Int) = x by omega] at e
  unfold Lx.part
  have et : (Lx.row x).data.toList.take (Lx.row x).size = (Lx.row x).data.toList := List.take_of_length_le (by simp)
  rw [et, e]
  unfold Lx.val
  by_cases k : Lx.cls i = x
  · rw [if_pos (decide_eq_true k), k, if_neg]
    rintro (h | h)
    · omega
    · have : (Lit.int .u8 x).sameKey (.int .u8 x) = true := WideAt.sameKey_self trivial
      simp [this] at h
  · rw [if_neg (by simpa using k)]
    have : (Lit.int .u8 (Lx.cls i)).sameKey (.int .u8 x) = false := sameKey_ne (fun h => by injection h with _ h; exact k h)
    simp only [this, Bool.not_false, Bool.and_true]
theorem Lx.val_start {H : Type} {i : Nat} (hi : i < 256) : Lx.val (Maps.has (Lx.dict : DataW H)) i = 0 := by
  unfold Lx.val
  by_cases k : Lx.cls i = 0
  · rw [if_pos (.inl k)]
  · have hc := Lx.cls_le i
    refine if_pos (.inr (has_true_of_atKey (y := .lit (.string (Lx.row (Lx.cls i)).data.toList)) (fun z => Lx.dict_at (by omega) (by omega) z)))
theorem Lx.val_end {left : Lit → Bool} (h : ∀ kl, left kl = false) (i : Nat) : Lx.val left i = Lx.cls i := by
  unfold Lx.val; rw [h]
  by_cases k : Lx.cls i = 0
  · rw [if_pos (.inl k), k]
  · rw [if_neg (by simp [k])]
end Go.Proofs.Ytehojohacombkaa.G
