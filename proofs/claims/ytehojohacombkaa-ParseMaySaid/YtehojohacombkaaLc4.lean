/- lexer.class by its contract: its table is made once. -/
import Derived.Test.YtehojohacombkaaLc3
namespace Go.Proofs.Ytehojohacombkaa.G
open Go.RowKit Go.Maps Go.Proofs.YtehojohacombkaaW.PrintWords Go.Proofs.YtehojohacombkaaW.PrintLast Go.Proofs.YtehojohacombkaaW.PrintMore
set_option linter.unusedVariables false
set_option linter.unusedSimpArgs false
def Lx.fresh (s : ByteArray) : Obj := .cells #[.string s, .int .u32 0, .int .i32 0, .int .u32 0, .slice none 0 0] 108 (0, 0)
def Lx.ready (s : ByteArray) (gm : Nat) : Obj := .cells #[.string s, .int .u32 1, .int .i32 0, .int .u32 0, .slice (some ⟨gm, 0, none⟩) 256 256] 108 (0, 0)
set_option maxRecDepth 100000 in
set_option maxHeartbeats 4000000 in
theorem Lx.slow (g : Nat) (pl : Addr) (s : ByteArray) (w : World) (hne : ¬ pl.block = g) (hp : w.cell? pl = some (.pointer (some ⟨g, 0, none⟩))) (hb : w.heap[g]? = some (Lx.fresh s)) :
    Calls Try.prog 86 #[.pointer (some ⟨g, 1, none⟩), .func (.func 80) #[] #[.pointer (some pl)]] w fun e w' => e = .returned (.tuple #[]) ∧ ∃ gm, w.heap.size ≤ gm ∧ w'.heap[g]? = some (Lx.ready s gm) ∧ w'.heap[gm]? = some (.cells (Lx.tab Lx.cls) 111 (0, 0)) ∧ Kept w w' (fun k => k = g) ∧ Below g w w' := by
  unfold Lx.fresh at hb
  have b1 := blk_set hb 2 (.int .i32 1)
  have hl := run_call_load (P := Try.prog) Try.func90 (by kernel_rfl) (by kernel_rfl) (by kernel_rfl) .u32 (by kernel_rfl) (w := w.setCell ⟨g, 2, none⟩ (.int .i32 1)) (a := ⟨g, 1, none⟩) (x := 0) ((blk_cell b1 1).trans rfl)
  have k1 : Kept w (w.setCell ⟨g, 2, none⟩ (.int .i32 1)) (fun k => k = g) := (Kept.refl w (fun k => k = g)).setCell (p := ⟨g, 2, none⟩) (.inl rfl) _
  have hp1 := cell_kept hp k1 hne
  have es : (w.setCell ⟨g, 2, none⟩ (.int .i32 1)).heap.size = w.heap.size := by simp
  have HB1 := Aside0.mk b1
  have HK1 := Aside0.mk k1
  have HP1 := Aside0.mk hp1
  have HS := Aside0.mk es
  have HL := Aside0.mk (blk_lt hb)
  have hnot : ∀ (x : Bool) (w : World), (Op.unary .not (.bool x)).run Try.prog w = .ok (.bool (!x)) w := fun _ _ => rfl
  have c2 : w.cell? ⟨g, 2, none⟩ = some (.int .i32 0) := (blk_cell hb 2).trans rfl
  have f2 : w.frozen? ⟨g, 2, none⟩ = false := blk_frozen hb 2
  clear b1 k1 hp1 es hb hp
  go_enter_defers Try.func86, Try.ntmps86
  go_wp2_with (first | (go_at_call 91; refine (Lx.lock_free ⟨g, 2, none⟩ _ (by go_simp) (by go_simp)).mono ?_; rintro e w' ⟨rfl, rfl⟩) | (go_at_call 80; refine (Lx.fill g pl s _ _ _ _ _ hne HP1.out HB1.out).mono ?_; rintro e w2 ⟨rfl, gm, h1, h2, h3, h4, hbl⟩) | (go_at_call 85; go_in))
  go_wp2
  have cc1 : w2.cell? ⟨g, 1, none⟩ = some (.int .u32 0) := (blk_cell h2 1).trans rfl
  have ff1 : w2.frozen? ⟨g, 1, none⟩ = false := blk_frozen h2 1
  have h5 : w2.drew.heap[g]? = _ := h2
  have h6 := blk_set h5 1 (.int .u32 1)
  have cc2 : (w2.drew.setCell ⟨g, 1, none⟩ (.int .u32 1)).cell? ⟨g, 2, none⟩ = some (.int .i32 1) := (blk_cell h6 2).trans rfl
  have ff2 : (w2.drew.setCell ⟨g, 1, none⟩ (.int .u32 1)).frozen? ⟨g, 2, none⟩ = false := blk_frozen h6 2
  have hgm : g ≠ gm := fun e => by have := HL.out; have := HS.out; omega
  refine leaves_cons (f := 93) (args := #[.pointer (some ⟨g, 1, none⟩), .bool true]) (by simp) (by simp [go_sem]) ?_
  refine (Lx.store_deferred ⟨g, 1, none⟩ (.int .u32 0) .returning _ cc1 ff1).mono ?_
  rintro e u' w'' ⟨rfl, rfl, rfl⟩
  refine leaves_cons (f := 92) (args := #[.pointer (some ⟨g, 2, none⟩)]) (by simp [settle]) (by simp [go_sem]) ?_
  refine (Lx.unlock_deferred ⟨g, 2, none⟩ _ _ cc2 ff2).mono ?_
  rintro e u' w'' ⟨rfl, rfl, rfl⟩
  have fin : ∃ gm', w.heap.size ≤ gm' ∧ ((w2.drew.setCell ⟨g, 1, none⟩ (.int .u32 1)).setCell ⟨g, 2, none⟩ (.int .i32 0)).heap[g]? = some (Lx.ready s gm') ∧ ((w2.drew.setCell ⟨g, 1, none⟩ (.int .u32 1)).setCell ⟨g, 2, none⟩ (.int .i32 0)).heap[gm']? = some (.cells (Lx.tab Lx.cls) 111 (0, 0)) ∧ Kept w ((w2.drew.setCell ⟨g, 1, none⟩ (.int .u32 1)).setCell ⟨g, 2, none⟩ (.int .i32 0)) (fun k => k = g) ∧ Below g w ((w2.drew.setCell ⟨g, 1, none⟩ (.int .u32 1)).setCell ⟨g, 2, none⟩ (.int .i32 0)) := by
    refine ⟨gm, ?_, ?_, ?_, ?_, ?_⟩
    · rw [← HS.out]; exact h1
    · exact (blk_set h6 2 (.int .i32 0)).trans rfl
    · rw [Below.heap_setCell _ _ _ _ (Ne.symm hgm), Below.heap_setCell _ _ _ _ (Ne.symm hgm)]; exact h3
    · exact (((HK1.out.then_ h4 (fun k hk => .inl hk)).drew).setCell (p := ⟨g, 1, none⟩) (.inl rfl) _).setCell (p := ⟨g, 2, none⟩) (.inl rfl) _
    · exact ((((Below.refl g w).setCell (p := ⟨g, 2, none⟩) (Nat.le_refl g) (.int .i32 1)).trans hbl).drew.setCell (p := ⟨g, 1, none⟩) (Nat.le_refl g) _).setCell (p := ⟨g, 2, none⟩) (Nat.le_refl g) _
  generalize ((w2.drew.setCell ⟨g, 1, none⟩ (.int .u32 1)).setCell ⟨g, 2, none⟩ (.int .i32 0)) = w9 at fin ⊢
  simp [Leaves, settle, results, Try.results86]
  exact fin
set_option maxRecDepth 100000 in
set_option maxHeartbeats 4000000 in
theorem Lx.doFirst (g : Nat) (pl : Addr) (s : ByteArray) (w : World) (hne : ¬ pl.block = g) (hp : w.cell? pl = some (.pointer (some ⟨g, 0, none⟩))) (hb : w.heap[g]? = some (Lx.fresh s)) :
    Calls Try.prog 79 #[.pointer (some ⟨g, 1, none⟩), .func (.func 80) #[] #[.pointer (some pl)]] w fun e w' => e = .returned (.tuple #[]) ∧ ∃ gm, w.heap.size ≤ gm ∧ w'.heap[g]? = some (Lx.ready s gm) ∧ w'.heap[gm]? = some (.cells (Lx.tab Lx.cls) 111 (0, 0)) ∧ Kept w w' (fun k => k = g) ∧ Below g w w' := by
  have hl := run_call_load (P := Try.prog) Try.func90 (by kernel_rfl) (by kernel_rfl) (by kernel_rfl) .u32 (by kernel_rfl) (w := w) (a := ⟨g, 1, none⟩) (x := 0) ((blk_cell (show w.heap[g]? = some (.cells _ _ _) from hb) 1).trans rfl)
  have hnot : ∀ (x : Bool) (w : World), (Op.unary .not (.bool x)).run Try.prog w = .ok (.bool (!x)) w := fun _ _ => rfl
  have HB := Aside0.mk hb
  have HP := Aside0.mk hp
  clear hb hp
  go_enter Try.func79, Try.ntmps79
  go_wp2_with (first | (go_at_call 86; refine (Lx.slow g pl s _ hne HP.out HB.out).mono ?_; rintro e w2 ⟨rfl, gm, h1, h2, h3, h4, h5⟩) | (go_at_call 85; go_in))
  go_end0
  exact ⟨rfl, gm, h1, h2, h3, h4, h5⟩
set_option maxRecDepth 100000 in
theorem Lx.doDone (g : Nat) (s : ByteArray) (gm : Nat) (fv : Value) (w : World) (hb : w.heap[g]? = some (Lx.ready s gm)) :
    Calls Try.prog 79 #[.pointer (some ⟨g, 1, none⟩), fv] w fun e w' => e = .returned (.tuple #[]) ∧ w = w' := by
  have hl := run_call_load (P := Try.prog) Try.func90 (by kernel_rfl) (by kernel_rfl) (by kernel_rfl) .u32 (by kernel_rfl) (w := w) (a := ⟨g, 1, none⟩) (x := 1) ((blk_cell (show w.heap[g]? = some (.cells _ _ _) from hb) 1).trans rfl)
  have hnot : ∀ (x : Bool) (w : World), (Op.unary .not (.bool x)).run Try.prog w = .ok (.bool (!x)) w := fun _ _ => rfl
  clear hb
  go_enter Try.func79, Try.ntmps79
  go_wp2
  go_end0
  exact ⟨rfl, rfl⟩
/-- A lexer over s at block g: its table is not yet made, or is. -/
def IsLx (w0 W : World) (g : Nat) (s : ByteArray) : Prop := w0.heap.size ≤ g ∧ (W.heap[g]? = some (Lx.fresh s) ∨ ∃ gm, w0.heap.size ≤ gm ∧ gm ≠ g ∧ W.heap[g]? = some (Lx.ready s gm) ∧ W.heap[gm]? = some (.cells (Lx.tab Lx.cls) 111 (0, 0)))
theorem IsLx.lt {w0 W : World} {g : Nat} {s : ByteArray} (h : IsLx w0 W g s) : g < W.heap.size := by
  rcases h.2 with h | ⟨gm, _, _, h, _⟩ <;> exact blk_lt h
theorem IsLx.text {w0 W : World} {g : Nat} {s : ByteArray} (h : IsLx w0 W g s) : W.cell? ⟨g, 0, none⟩ = some (.string s) := by
  rcases h.2 with h | ⟨gm, _, _, h, _⟩
  · exact (blk_cell (show W.heap[g]? = some (.cells _ _ _) from h) 0).trans rfl
  · exact (blk_cell (show W.heap[g]? = some (.cells _ _ _) from h) 0).trans rfl
theorem IsLx.below {w0 W W1 : World} {g : Nat} {s : ByteArray} (h : IsLx w0 W g s) (hb : Below W.heap.size W W1) : IsLx w0 W1 g s :=
  ⟨h.1, h.2.elim (fun h => .inl (blk_below h hb)) (fun ⟨gm, h1, h2, h3, h4⟩ => .inr ⟨gm, h1, h2, blk_below h3 hb, blk_below h4 hb⟩)⟩
/-- What a call on the lexer leaves. -/
structure LxStep (w0 w w' : World) (g : Nat) (s : ByteArray) : Prop where
  is : IsLx w0 w' g s
  below : Below w0.heap.size w0 w'
  kept : Kept w w' (fun k => k = g)
theorem LxStep.refl {w0 w : World} {g : Nat} {s : ByteArray} (h : IsLx w0 w g s) (hb : Below w0.heap.size w0 w) : LxStep w0 w w g s := ⟨h, hb, Kept.refl _ _⟩
theorem LxStep.trans {w0 w w1 w2 : World} {g : Nat} {s : ByteArray} (h : LxStep w0 w w1 g s) (k : LxStep w0 w1 w2 g s) : LxStep w0 w w2 g s := ⟨k.is, k.below, h.kept.then_ k.kept (fun _ hk => .inl hk)⟩
theorem LxStep.more {w0 w w1 w2 : World} {g : Nat} {s : ByteArray} (h : LxStep w0 w w1 g s) (k : Below w1.heap.size w1 w2) : LxStep w0 w w2 g s := ⟨h.is.below k, below_step h.below k, h.kept.below k⟩
theorem LxStep.drew {w0 w w1 : World} {g : Nat} {s : ByteArray} (h : LxStep w0 w w1 g s) : LxStep w0 w w1.drew g s := h.more (Below.refl _ _).drew
set_option maxRecDepth 100000 in
set_option maxHeartbeats 4000000 in
theorem Lx.class_any (g : Nat) (s : ByteArray) (b : Int) (b0 : 0 ≤ b) (b1 : b < 256) (w0 w : World) (hB : Below w0.heap.size w0 w) (h : IsLx w0 w g s) :
    Calls Try.prog 72 #[.pointer (some ⟨g, 0, none⟩), .int .u8 b] w fun e w' => e = .returned (.int .u8 (Lx.cls b.toNat)) ∧ LxStep w0 w w' g s := by
  have hlt := h.lt
  have hg := h.1
  have hmf : ∀ (fn : Fn) (first cap : Array Value) (w : World), (Instr.makeFunc fn first cap).run Try.prog w = .ok (.func fn first cap) w := fun _ _ _ _ => rfl
  have hpl : (w.alloc (.cells #[.pointer (some ⟨g, 0, none⟩)] 93)).cell? ⟨w.heap.size, 0, none⟩ = some (.pointer (some ⟨g, 0, none⟩)) := by simp
  have hne : ¬ (⟨w.heap.size, 0, none⟩ : Addr).block = g := by show ¬ w.heap.size = g; omega
  have hba : Below w.heap.size w (w.alloc (.cells #[.pointer (some ⟨g, 0, none⟩)] 93)) := below_alloc (Below.refl _ _) _
  rcases h.2 with hf | ⟨gm, m1, m2, m3, m4⟩
  · have hb := blk_below hf hba
    go_enter Try.func72, Try.ntmps72
    go_wp2_with (go_at_call 79; refine (Lx.doFirst g ⟨w.heap.size, 0, none⟩ s _ hne hpl hb).mono ?_; rintro e w2 ⟨rfl, gm, h1, h2, h3, h4, h5⟩; have p2 := cell_kept hpl h4 hne; have c4 := (blk_cell (show w2.heap[g]? = some (.cells _ _ _) from h2) 4).trans rfl; have ct := (blk_cell h3 b.toNat).trans (Lx.tab_at _ _ (by omega)); have HN := Aside0.mk h1; have H2 := Aside0.mk h2; have H3 := Aside0.mk h3; have H4 := Aside0.mk h4; have H5 := Aside0.mk h5; clear h1 h2 h3 h4 h5)
    go_ret
    have hs1 : (w.alloc (.cells #[.pointer (some ⟨g, 0, none⟩)] 93)).heap.size = w.heap.size + 1 := by simp
    have hn := HN.out
    have hs0 := hB.size
    refine ⟨rfl, ⟨hg, .inr ⟨gm, by omega, by omega, H2.out, H3.out⟩⟩, ?_, (Kept.of_below hba _).then_ H4.out (fun _ hk => .inl hk)⟩
    exact below_weaken hB hg ((hba.mono (Nat.le_of_lt hlt)).trans H5.out)
  · have hb := blk_below m3 hba
    have hpl2 := hpl
    have c4 : (w.alloc (.cells #[.pointer (some ⟨g, 0, none⟩)] 93)).cell? ⟨g, 4, none⟩ = some (.slice (some ⟨gm, 0, none⟩) 256 256) := (blk_cell (show (w.alloc _).heap[g]? = some (.cells _ _ _) from hb) 4).trans rfl
    have ct : (w.alloc (.cells #[.pointer (some ⟨g, 0, none⟩)] 93)).cell? ⟨gm, b.toNat, none⟩ = _ := (blk_cell (blk_below m4 hba) b.toNat).trans (Lx.tab_at _ _ (by omega))
    have HM := Aside0.mk h
    have HA := Aside0.mk hba
    have HBB := Aside0.mk hb
    clear h m3 m4 hb hba
    go_enter Try.func72, Try.ntmps72
    go_wp2_with (go_at_call 79; refine (Lx.doDone g s gm _ _ HBB.out).mono ?_; rintro e w2 ⟨rfl, rfl⟩)
    go_ret
    exact ⟨rfl, (LxStep.refl HM.out hB).more HA.out⟩
end Go.Proofs.Ytehojohacombkaa.G
