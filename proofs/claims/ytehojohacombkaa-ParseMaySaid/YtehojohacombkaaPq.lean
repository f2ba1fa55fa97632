/- The tree, the marks and the queue of parse.May. (Written by mkpy3.py of this session.) -/
import Derived.Test.YtehojohacombkaaPy1
import Derived.ArgAppend
namespace Go.Proofs.Ytehojohacombkaa.G
open Go.RowKit Go.Maps Go.WideShapes Go.Proofs.YtehojohacombkaaW.PrintWords Go.Proofs.YtehojohacombkaaW.PrintLast Go.Proofs.YtehojohacombkaaW.PrintMore
open Go.Proofs.Ytehojohacombkaa.Ps (Nd rdn leafB rootB aloneB firstN idxN rdb kidsN bfsN mayT idxM)
set_option linter.unusedVariables false
set_option linter.unusedSimpArgs false
/-- The tree's own block, and its nodes, in a later world. -/
structure TreeIn (w W : World) (bt : Nat) (root next : Int) (A : Option Addr) (n c : Nat) (ns : List Nd) : Prop where
  t : W.heap[bt]? = some (.cells #[.int .i64 root, .int .i64 next, .slice A n c] 28 (0, 0))
  C : Kd.C k34 w A n ns
  b : Below w.heap.size w W
theorem TreeIn.below {w W W2 : World} {bt : Nat} {root next : Int} {A : Option Addr} {n c : Nat} {ns : List Nd} (h : TreeIn w W bt root next A n c ns) (k : Below W.heap.size W W2) : TreeIn w W2 bt root next A n c ns := ⟨blk_below h.t k, h.C, below_step h.b k⟩
theorem TreeIn.cells {w W : World} {bt : Nat} {root next : Int} {A : Option Addr} {n c : Nat} {ns : List Nd} (h : TreeIn w W bt root next A n c ns) : W.cell? ⟨bt, 0, none⟩ = some (.int .i64 root) ∧ W.cell? ⟨bt, 1, none⟩ = some (.int .i64 next) ∧ W.cell? ⟨bt, 2, none⟩ = some (.slice A n c) := by
  obtain ⟨x0, x1, x2, -⟩ := Ps.three h.t; exact ⟨x0, x1, x2⟩
theorem Ps.index_at (bt : Nat) (root next : Int) (A : Option Addr) (n c : Nat) (ns : List Nd) (w W : World) (hT : TreeIn w W bt root next A n c ns) (hn : n = ns.length) (hl : n ≤ 2048) (hwf : ∀ x ∈ ns, (Lit.int .i64 x.f0).wf = true) :
    Calls Try.prog 44 #[.pointer (some ⟨bt, 0, none⟩)] W fun e w' => ∃ b, e = .returned (.map (some b)) ∧ OwnsIdx w' b n ns ∧ W.heap.size ≤ b ∧ Below W.heap.size W w' := by
  subst hn
  exact Ps.index_any bt root next A c ns W hT.t (Kd.C_below hT.C hT.b) (by omega) hwf
/-- The node at a place, as alone and the walk read it. -/
theorem TreeIn.node {w W : World} {bt : Nat} {root next : Int} {A : Option Addr} {n c : Nat} {ns : List Nd} (h : TreeIn w W bt root next A n c ns) (i : Int) (h0 : 0 ≤ i) (h1 : i < (n : Int)) :
    ∃ ad A4 c4, A = some ad ∧ NodeAt W bt root next A n c (ad.add (i.toNat * 5)) (rdn ns i) A4 c4 ∧ (Kd.int .i64).C W A4 (rdn ns i).f4.length (rdn ns i).f4 := by
  obtain ⟨ad, A4, c4, e, y0, y1, y2, y3, y4, -, hk⟩ := at_T34 (Kd.C_below h.C h.b) i h0 h1
  exact ⟨ad, A4, c4, e, ⟨h.t, y0, y1, y2, y3, y4⟩, hk⟩
theorem Ps.made (m : Nat) : madeCells #[Value.bool false] m = Array.replicate m (Value.bool false) := by
  apply Array.ext
  · simp [madeCells]
  · intro i h1 h2
    simp [madeCells, Nat.mod_one]
theorem Ps.run_mk (n : Nat) (hn : n ≤ 2048) (W : World) : (Instr.makeSlice 81 (.int .i64 (n : Int)) (.int .i64 (n : Int))).run Try.prog W = .ok (.slice (some ⟨W.heap.size, 0, none⟩) n n) (W.alloc (.cells (Array.replicate n (Value.bool false)) 4)) := by
  obtain ⟨i0, hi0, hz0⟩ := Option.map_eq_some_iff.1 (show (Try.prog.info? 4).map (fun i => (i.zero, i.size, i.bytes)) = some (some (.bool false), 1, 1) by kernel_rfl)
  simp only [Prod.mk.injEq] at hz0
  obtain ⟨z1, z2, z3⟩ := hz0
  have h := Go.run_make W 81 4 i0 (.bool false) Try.underlying81 hi0 z1 .i64 .i64 (n : Int) (n : Int) (by omega) (Int.le_refl _) (by rw [z3]; omega) (by omega)
  rw [z2, Int.toNat_natCast, Nat.mul_one, show (Value.bool false).cells = #[Value.bool false] from rfl, Ps.made] at h
  exact h
theorem Ps.marks (n : Nat) : ((List.replicate n false).map Value.bool).toArray = Array.replicate n (Value.bool false) := by
  apply Array.toList_inj.1
  simp
theorem Ps.zero_int (W : World) : (zeroValue 3).run Try.prog W = .ok (.int .i64 0) W := by kernel_rfl
/-- The marks: which nodes were seen. -/
def IsSeen (W : World) (bs : Nat) (seen : List Bool) : Prop := W.heap[bs]? = some (.cells (seen.map Value.bool).toArray 4 (0, 0))
theorem IsSeen.cell {W : World} {bs : Nat} {seen : List Bool} (h : IsSeen W bs seen) (i : Nat) (hi : i < seen.length) : W.cell? ⟨bs, i, none⟩ = some (.bool (rdb seen (i : Int))) ∧ W.frozen? ⟨bs, i, none⟩ = false := by
  refine ⟨(blk_cell h i).trans ?_, blk_frozen h i⟩
  unfold Go.Proofs.Ytehojohacombkaa.Ps.rdb
  rw [Int.toNat_natCast, List.getD_eq_getElem?_getD, List.getElem?_eq_getElem hi]
  simp [hi]
theorem IsSeen.set {W : World} {bs : Nat} {seen : List Bool} (h : IsSeen W bs seen) (i : Nat) : IsSeen (W.setCell ⟨bs, i, none⟩ (.bool true)) bs (seen.set i true) := by
  unfold IsSeen
  rw [blk_set h i (.bool true)]
  congr 2
  apply Array.toList_inj.1
  simp [List.map_set]
/-- The queue: a row of numbers that is cut from the front. -/
def IsQ (base : Nat) (W : World) (v : Value) (xs : List Int) : Prop := ∃ (g o cap : Nat) (cells : Array Value), v = .slice (some ⟨g, o, none⟩) xs.length cap ∧ xs.length ≤ cap ∧ base ≤ g ∧ W.heap[g]? = some (.cells cells 3 (0, 0)) ∧ o + cap ≤ cells.size ∧ ∀ (j : Nat) (k : Int), xs[j]? = some k → cells[o + j]? = some (.int .i64 k)
theorem IsQ.block {base : Nat} {W W2 : World} {v : Value} {xs : List Int} (h : IsQ base W v xs) (k : Below W.heap.size W W2) : IsQ base W2 v xs := by
  obtain ⟨g, o, cap, cells, e, h1, h2, h3, h4, h5⟩ := h
  exact ⟨g, o, cap, cells, e, h1, h2, blk_below h3 k, h4, h5⟩
/-- A number is put behind the queue: in place where there is room, else in a new row. -/
theorem Ps.q_append {P : Program} {base : Nat} {W : World} {g o cap : Nat} {cells : Array Value} {xs : List Int} (h1 : xs.length ≤ cap) (h2 : base ≤ g) (h3 : W.heap[g]? = some (.cells cells 3 (0, 0))) (h4 : o + cap ≤ cells.size) (h5 : ∀ (j : Nat) (k : Int), xs[j]? = some k → cells[o + j]? = some (.int .i64 k)) (hbw : base ≤ W.heap.size) (kn : Int) (hb : xs.length + 1 ≤ 10000)
    {ops : Array Oper} {rest : List Oper} {op : Oper} {a : Act} {Q : Exit → Act → World → Prop} (hgd : op.guard = none) (s x : Operand) (hop : op.op = Op.call { callee := Callee.builtin Builtin.append, args := #[s, x], argTypes := #[32, 32] })
    (hu : P.underlying 32 = some (.slice 3)) (i0 : TypeInfo) (hi : P.info? 3 = some i0) (hz0 : i0.zero = some (.int .i64 0)) (hz1 : i0.size = 1) (hz2 : i0.bytes = 8)
    (hs : a.eval s = .slice (some ⟨g, o, none⟩) xs.length cap) (hx : a.eval x = .slice (some ⟨W.heap.size, 0, none⟩) 1 1)
    (hK : ∀ v' w', IsQ base w' v' (xs ++ [kn]) → (∀ k, k < W.heap.size → k ≠ g → w'.heap[k]? = W.heap[k]?) → Below base W w' → wpList P ops Q rest (a.put op.dst v') w') :
    wpList P ops Q (op :: rest) a (W.alloc (.cells #[.int .i64 kn] 3)) := by
  have hgl : g < W.heap.size := blk_lt h3
  have h3' : (W.alloc (.cells #[.int .i64 kn] 3)).heap[g]? = some (.cells cells 3 (0, 0)) := blk_alloc h3 _
  have hbA : Below base W (W.alloc (.cells #[.int .i64 kn] 3)) := (Below.refl base W).alloc hbw _
  refine wpList_append_arg _ hgd s x 32 hop 3 i0 (.int .i64 0) 1 8 hu hi hz0 hz1 hz2 rfl (by decide) g o xs.length cap (xs.map (Value.int .i64)) hs (by simp) ?olds ⟨W.heap.size, 0, none⟩ 1 1 [.int .i64 kn] hx rfl ?c1 ?c2 ?spare (by unfold maxLen; omega) (by omega) ?room ?grow
  case olds =>
    intro j u hj
    rw [blk_cell h3']
    rw [List.getElem?_map] at hj
    cases hx' : xs[j]? with
    | none => rw [hx'] at hj; exact absurd hj (by simp)
    | some k => rw [hx'] at hj; rw [h5 j k hx']; exact hj
  case c1 =>
    intro j u hj
    match j, hj with
    | 0, hj =>
      simp at hj; subst hj
      have := blk_cell (blk_new W (.cells #[.int .i64 kn] 3)) 0
      simp [Addr.add]
  case c2 => intro u hu'; simp at hu'; subst hu'; rfl
  case spare =>
    intro hr j hj
    have hj0 : j = 0 := by simpa using hj
    subst hj0
    refine ⟨?_, blk_frozen h3' _⟩
    rw [blk_cell h3', Array.getElem?_eq_getElem (by omega)]
    rfl
  case room =>
    intro hr
    rw [show o + xs.length * 1 = o + xs.length by omega]
    refine hK _ _ ⟨g, o, cap, cells.setIfInBounds (o + xs.length) (.int .i64 kn), by simp, by simpa using hr, h2, ?_, by simpa using h4, ?_⟩ ?_ ?_
    · show ((W.alloc (.cells #[.int .i64 kn] 3)).setCell ⟨g, o + xs.length, none⟩ (.int .i64 kn)).heap[g]? = _
      exact blk_set h3' _ _
    · intro j k hj
      by_cases hjx : j < xs.length
      · rw [List.getElem?_append_left hjx] at hj
        rw [Array.getElem?_setIfInBounds_ne (by omega)]
        exact h5 j k hj
      · have hjl : j = xs.length := by
          have := (List.getElem?_eq_some_iff.1 hj).1
          simp at this; omega
        subst hjl
        simp at hj
        subst hj
        rw [Array.getElem?_setIfInBounds_self_of_lt (by omega)]
    · intro k hk hkg
      show ((W.alloc (.cells #[.int .i64 kn] 3)).setCell ⟨g, o + xs.length, none⟩ (.int .i64 kn)).heap[k]? = _
      rw [Below.heap_setCell _ _ _ _ hkg]
      exact Below.heap_alloc W _ k hk
    · exact hbA.setCell (p := ⟨g, o + xs.length, none⟩) h2 _
  case grow =>
    intro hgr v' w' hown hgrow
    have hbB : Below base W w' := hbA.grown hgrow (by simp; omega) (fun k h => by cases h)
    refine hK _ _ ?_ ?_ hbB
    · obtain ⟨hlen, hq⟩ := hown
      rcases hq with hq | ⟨b', cap', cur, hv, hb', hblk, hcap', hmx, hsz, hcells⟩
      · exact absurd hq.2 (by simp)
      · have hb2 : W.heap.size + 1 ≤ b' := by simpa using hb'
        refine ⟨b', 0, cap', cur, by rw [hv]; simp, by simpa using hcap', by omega, hblk, by omega, ?_⟩
        intro j k hj
        have hjl : j < xs.length + 1 := by
          have := (List.getElem?_eq_some_iff.1 hj).1
          simpa using this
        rw [Nat.zero_add, ← Array.getElem?_toList]
        have e : (cur.toList.take ((xs.length + 1) * 1))[j]? = cur.toList[j]? := List.getElem?_take_of_lt (by omega)
        rw [← e, hcells, show xs.map (Value.int .i64) ++ [Value.int .i64 kn] = (xs ++ [kn]).map (Value.int .i64) by simp, List.getElem?_map, hj]
        rfl
    · intro k hk hkg
      rw [hgrow.block k (by simp; omega) (by simp)]
      exact Below.heap_alloc W _ k hk
end Go.Proofs.Ytehojohacombkaa.G
