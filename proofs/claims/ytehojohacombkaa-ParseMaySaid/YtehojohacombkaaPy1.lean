/- parse.Index by its contract: a map from an id to where its node stands. -/
import Derived.Test.YtehojohacombkaaPy2
import Derived.Maps.Own
import Derived.Maps.OwnOps
import Derived.Maps.OwnSet
import Derived.Maps.Views
namespace Go.Proofs.Ytehojohacombkaa.G
open Go.RowKit Go.Maps Go.WideShapes Go.Proofs.YtehojohacombkaaW.PrintWords Go.Proofs.YtehojohacombkaaW.PrintLast Go.Proofs.YtehojohacombkaaW.PrintMore
open Go.Proofs.Ytehojohacombkaa.Ps (Nd rdn idxM)
set_option linter.unusedVariables false
set_option linter.unusedSimpArgs false
/-- The map behind so many nodes. -/
def idxD (ns : List Nd) : Nat → DataW Unit
  | 0 => .map []
  | m + 1 => (idxD ns m).put (.int .i64 (rdn ns (m : Int)).f0) (.lit (.int .i64 (m : Int)))
theorem idx_look (ns : List Nd) : ∀ (m : Nat), IsMap (idxD ns m) ∧ ∀ id : Int, Maps.has (idxD ns m) (.int .i64 id) = (idxM ns m id).isSome ∧ ∀ k, idxM ns m id = some k → (idxD ns m).atKey (.int .i64 id) (.lit (.int .i64 0)) = .lit (.int .i64 k) := by
  intro m
  induction m with
  | zero => exact ⟨isMap_empty, fun id => ⟨rfl, fun k h => by cases h⟩⟩
  | succ m ih =>
    obtain ⟨hm, ih⟩ := ih
    refine ⟨hm.put _ _, fun id => ?_⟩
    have e : idxM ns (m + 1) id = if (rdn ns (m : Int)).f0 = id then some (m : Int) else idxM ns m id := rfl
    rw [e]
    show Maps.has ((idxD ns m).put _ _) _ = _ ∧ ∀ k, _ → ((idxD ns m).put _ _).atKey _ _ = _
    by_cases h : (rdn ns (m : Int)).f0 = id
    · rw [if_pos h, h]
      have hk : WideAt.IsKeyLit (Lit.int .i64 id) := by first | trivial | exact ⟨⟩ | simp [WideAt.IsKeyLit]
      exact ⟨by rw [has_put_same hm hk]; rfl, fun k hk' => by cases hk'; exact atKey_put_same hm hk _ _⟩
    · rw [if_neg h]
      have hne : (Lit.int .i64 (rdn ns (m : Int)).f0) ≠ (Lit.int .i64 id) := fun e => h (by injection e)
      exact ⟨by rw [has_put_other (Ne.symm hne)]; exact (ih id).1, fun k hk => by rw [atKey_put_other (Ne.symm hne)]; exact (ih id).2 k hk⟩
def OwnsIdx (W : World) (b m : Nat) (ns : List Nd) : Prop := W.ownsMap Try.prog 3 (plainElem (H := Unit) Try.prog 3) b m (idxD ns m)
theorem OwnsIdx.block {W W2 : World} {b m : Nat} {ns : List Nd} (h : OwnsIdx W b m ns) (e : W2.heap[b]? = W.heap[b]?) : OwnsIdx W2 b m ns := by
  obtain ⟨es, clock, hb, r⟩ := h; exact ⟨es, clock, e.trans hb, r⟩
theorem OwnsIdx.lt {W : World} {b m : Nat} {ns : List Nd} (h : OwnsIdx W b m ns) : b < W.heap.size := by
  obtain ⟨es, clock, hb, r⟩ := h; exact blk_lt hb
theorem OwnsIdx.below {W W2 : World} {b m : Nat} {ns : List Nd} (h : OwnsIdx W b m ns) (k : Below W.heap.size W W2) : OwnsIdx W2 b m ns := h.block (k.block b h.lt)
theorem i64_wf (a : Int) (h0 : -9223372036854775808 ≤ a) (h1 : a < 9223372036854775808) : (Lit.int .i64 a).wf = true := WalkArith.wf_i64 (by omega)
theorem Ps.make_map (n : Int) (W : World) : (Instr.makeMap 76 (some (.int .i64 n))).run Try.prog W = .ok (.map (some W.heap.size)) (W.alloc (.map #[] 0)) := by kernel_rfl
set_option maxHeartbeats 8000000 in
set_option maxRecDepth 100000 in
theorem Ps.index_any (bt : Nat) (root next : Int) (A : Option Addr) (c : Nat) (ns : List Nd) (w : World) (ht : w.heap[bt]? = some (.cells #[.int .i64 root, .int .i64 next, .slice A ns.length c] 28 (0, 0))) (hC : Kd.C k34 w A ns.length ns) (hl : ns.length ≤ 4096) (hwf : ∀ x ∈ ns, (Lit.int .i64 x.f0).wf = true) :
    Calls Try.prog 44 #[.pointer (some ⟨bt, 0, none⟩)] w fun e w' => ∃ b, e = .returned (.map (some b)) ∧ OwnsIdx w' b ns.length ns ∧ w.heap.size ≤ b ∧ Below w.heap.size w w' := by
  have hmm := Ps.make_map
  obtain ⟨x0, x1, x2, -, -, -⟩ := Ps.three ht
  obtain ⟨n, hn⟩ : ∃ n, n = ns.length := ⟨_, rfl⟩
  rw [← hn] at x2 hC hl ⊢
  have HT := Aside0.mk ht
  have HC := Aside0.mk hC
  have HL := Aside0.mk hl
  have HN := Aside0.mk hn
  have HW := Aside0.mk hwf
  clear ht hC hl hn hwf
  go_enter Try.func44, Try.ntmps44
  go_upto_region 2 with (fail)
  have hb := below_alloc (Below.refl w.heap.size w) (.map #[] 0)
  have HB := Aside0.mk hb
  have HM : Aside0 (OwnsIdx (w.alloc (.map #[] 0)) w.heap.size 0 ns) := ⟨World.ownsMap_made w Try.prog 3 (plainElem (H := Unit) Try.prog 3)⟩
  have y2 : (w.alloc (.map #[] 0)).cell? ⟨bt, 2, none⟩ = some (.slice A n c) := pw_cell_below hb x2
  obtain ⟨b, eb⟩ : ∃ b, w.heap.size = b := ⟨_, rfl⟩
  have HGB : Aside0 (w.heap.size ≤ b) := ⟨Nat.le_of_eq eb⟩
  rw [eb] at HM ⊢
  clear hb x0 x1 x2 eb
  generalize (w.alloc (.map #[] 0)) = w2 at HB HM y2 ⊢
  go_upto_region 3 with (fail)
  clear y2
  go_loopg [17] (n + 1) (fun kq v17 wr => ∃ (i : Nat), v17 = .int .i64 (i : Int) ∧ Aside0 (i ≤ n ∧ n - i < kq) ∧ Aside0 (OwnsIdx wr b i ns) ∧ Aside0 (Below w.heap.size w wr))
  case atStart => exact ⟨0, rfl, ⟨Nat.zero_le _, by omega⟩, HM, HB⟩
  case round =>
    clear HM HB
    obtain ⟨i, rfl, HI, HM, HB⟩ := hrel
    have hi := HI.out
    cases gk with
    | zero => exact absurd HI.out.2 (by omega)
    | succ k1 =>
      by_cases hin : i < n
      · have c0 : decide ((i : Int) < (n : Int)) = true := decide_eq_true (by omega)
        have hix : (i : Int) < (n : Int) := by omega
        obtain ⟨ad, A4, c4, rfl, y0, y1, y2, y3, y4, hl4, -⟩ := at_T34 (Kd.C_below HC.out HB.out) (i : Int) (by omega) hix
        have hxm : rdn ns (i : Int) ∈ ns := Ps.rdn_mem (by omega) (by rw [← HN.out]; exact hix)
        have hwx := HW.out _ hxm
        have hx0 : idxD ns (i + 1) = (idxD ns i).put (.int .i64 (rdn ns (i : Int)).f0) (.lit (.int .i64 (i : Int))) := rfl
        have er : rd_T34 ns (i : Int) = rdn ns (i : Int) := rfl
        rw [er] at y0 y1 y2 y3 y4
        obtain ⟨x, hx⟩ : ∃ x, rdn ns (i : Int) = x := ⟨_, rfl⟩
        rw [hx] at y0 y1 y2 y3 y4 hwx hx0
        have HX0 := Aside0.mk hx0
        have HWX := Aside0.mk hwx
        obtain ⟨m4, hm4⟩ : ∃ m4, m4 = x.f4.length := ⟨_, rfl⟩
        rw [← hm4] at y4
        simp only [Int.toNat_natCast] at y0 y1 y2 y3 y4
        have q0 := eq_true (show (0 : Int) ≤ (i : Int) by omega)
        have q1 := eq_true hix
        have q2 := eq_true (show (i : Int).toNat < n by omega)
        have q3 := eq_true hin
        have wi : IntKind.i64.wrap ((i : Int) + 1) = (((i + 1 : Nat)) : Int) := by rw [i64_w]; have := HL.out; unfold wrap64; omega
        have HII : Aside0 (i < n ∧ n - i < k1 + 1) := ⟨hin, hi.2⟩
        clear hl4 hxm hwx hx0 er hx hm4 hix hin hi HI
        go_upto_region 5 with (first | ((with_reducible refine gate_dst (N := 5) rfl ?_); refine box_event ?hg (N := 5) ?hd (cs := #[.int .i64 0, .int .i64 0, .int .i64 0, .int .i64 0, .slice none 0 0]) (t := 34) ?hr ?_; (case hd => rfl); (case hg => rfl); (case hr => first | (go_simp; done) | (go_simp; rfl)); intro b5 hgr W_ hbox hb; have HX_ := Aside0.mk hbox; have HB_ := Aside0.mk hb; have HG_ := Aside0.mk hgr; have z0 := (blk_cell hbox 0).trans rfl; have z1 := (blk_cell hbox 1).trans rfl; have z2 := (blk_cell hbox 2).trans rfl; have z3 := (blk_cell hbox 3).trans rfl; have z4 := (blk_cell hbox 4).trans rfl; have f0 := blk_frozen hbox 0; have f1 := blk_frozen hbox 1; have f2 := blk_frozen hbox 2; have f3 := blk_frozen hbox 3; have f4 := blk_frozen hbox 4; clear hbox hb hgr y0 y1 y2 y3 y4))
        have hge : w.heap.size ≤ b5 := by rw [HG_.out]; exact HB.out.size
        have hne : b ≠ b5 := by have := HM.out.lt; have := HG_.out; omega
        have hb1 := below_step HB.out HB_.out
        have hbs := ((((hb1.setCell (p := ⟨b5, 0, none⟩) hge (.int .i64 x.f0)).setCell (p := ⟨b5, 1, none⟩) hge (.int .i64 x.f1)).setCell (p := ⟨b5, 2, none⟩) hge (.int .i64 x.f2)).setCell (p := ⟨b5, 3, none⟩) hge (.int .i64 x.f3)).setCell (p := ⟨b5, 4, none⟩) hge (.slice A4 m4 c4)
        have hm0 := HM.out.below HB_.out
        have hms : OwnsIdx (((((W_.setCell ⟨b5, 0, none⟩ (.int .i64 x.f0)).setCell ⟨b5, 1, none⟩ (.int .i64 x.f1)).setCell ⟨b5, 2, none⟩ (.int .i64 x.f2)).setCell ⟨b5, 3, none⟩ (.int .i64 x.f3)).setCell ⟨b5, 4, none⟩ (.slice A4 m4 c4)) b i ns := hm0.block (by rw [Below.heap_setCell _ _ _ _ hne, Below.heap_setCell _ _ _ _ hne, Below.heap_setCell _ _ _ _ hne, Below.heap_setCell _ _ _ _ hne, Below.heap_setCell _ _ _ _ hne])
        have y0 : (((((W_.setCell ⟨b5, 0, none⟩ (.int .i64 x.f0)).setCell ⟨b5, 1, none⟩ (.int .i64 x.f1)).setCell ⟨b5, 2, none⟩ (.int .i64 x.f2)).setCell ⟨b5, 3, none⟩ (.int .i64 x.f3)).setCell ⟨b5, 4, none⟩ (.slice A4 m4 c4)).cell? ⟨b5, 0, none⟩ = some (.int .i64 x.f0) := (blk_cell (blk_set (blk_set (blk_set (blk_set (blk_set HX_.out 0 (.int .i64 x.f0)) 1 (.int .i64 x.f1)) 2 (.int .i64 x.f2)) 3 (.int .i64 x.f3)) 4 (.slice A4 m4 c4)) 0).trans rfl
        clear HM HB HB_ HX_ HG_ z0 z1 z2 z3 z4 f0 f1 f2 f3 f4 hb1 hm0 hge hne
        have HM := Aside0.mk hms
        have HB := Aside0.mk hbs
        clear hms hbs
        generalize (((((W_.setCell ⟨b5, 0, none⟩ (.int .i64 x.f0)).setCell ⟨b5, 1, none⟩ (.int .i64 x.f1)).setCell ⟨b5, 2, none⟩ (.int .i64 x.f2)).setCell ⟨b5, 3, none⟩ (.int .i64 x.f3)).setCell ⟨b5, 4, none⟩ (.slice A4 m4 c4)) = W5 at HM HB y0 ⊢
        go_wp2_with (first | (at_mapUpdate; refine wpList_mapUpdate_own _ rfl _ _ _ 76 rfl 3 3 (int_keyed Try.underlying3) Try.underlying76 _ b i _ rfl HM.out (by have h1_ := HL.out; have h2_ := HII.out.1; unfold maxLen; omega) _ _ _ rfl rfl (keyOf_int_mk Try.underlying3 HWX.out) _ [] (plainElem_int Try.underlying3 (i64_wf _ (by omega) (by have h1_ := HL.out; have h2_ := HII.out.1; omega))) ?_; intro w9 hown hgrow; have m_ : Aside0 (OwnsIdx w9 b (i + 1) ns) := ⟨by have h_ := hown; rw [← HX0.out] at h_; exact h_⟩; have b_ := Aside0.mk (HB.out.grown hgrow HB.out.size (fun j hj => by cases hj; exact HGB.out)); clear HM HB y0 hown hgrow; have HM := m_; have HB := b_; clear m_ b_))
        go_roundg k1
        case measure => have := HII.out; omega
        case rel => exact ⟨i + 1, rfl, ⟨by have := HII.out; omega, by have := HII.out; omega⟩, HM, HB⟩
      · have c0 : decide ((i : Int) < (n : Int)) = false := decide_eq_false (by omega)
        have ein : i = n := by omega
        subst ein
        clear hin hi
        go_wp2
        go_ret
        exact ⟨b, rfl, HM.out, HGB.out, HB.out⟩
end Go.Proofs.Ytehojohacombkaa.G
