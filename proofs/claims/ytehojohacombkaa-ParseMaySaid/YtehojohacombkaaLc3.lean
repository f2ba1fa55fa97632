/- The closure that lexer.class hands to Once: the table of classes is made. -/
import Derived.Test.YtehojohacombkaaLc2
namespace Go.Proofs.Ytehojohacombkaa.G
open Go.RowKit Go.Maps Go.Proofs.YtehojohacombkaaW.PrintWords Go.Proofs.YtehojohacombkaaW.PrintLast Go.Proofs.YtehojohacombkaaW.PrintMore
set_option linter.unusedVariables false
set_option linter.unusedSimpArgs false
theorem Lx.law : Keyed Try.prog 111 := int_keyed Try.underlying111
theorem Lx.info : (Try.prog.info? 111).map (fun i => (i.zero, i.size, i.bytes)) = some (some (.int .u8 0), 1, 1) := by kernel_rfl
theorem Lx.made : madeCells #[Value.int .u8 0] 256 = Lx.tab (fun _ => 0) := by kernel_rfl
theorem Lx.make (W : World) : (Instr.makeSlice 106 (.int .i64 256) (.int .i64 256)).run Try.prog W = .ok (.slice (some ⟨W.heap.size, 0, none⟩) 256 256) (W.alloc (.cells (Lx.tab (fun _ => 0)) 111)) := by
  have := print_make (P := Try.prog) 106 111 .u8 1 Try.underlying106 Lx.info (by decide) 256 (by decide) W
  rw [Lx.made] at this
  exact this
set_option maxHeartbeats 4000000 in
set_option maxRecDepth 100000 in
theorem Lx.fill (g : Nat) (pl : Addr) (s : ByteArray) (d m x y : Value) (w : World) (hne : ¬ pl.block = g) (hp : w.cell? pl = some (.pointer (some ⟨g, 0, none⟩))) (hb : w.heap[g]? = some (.cells #[.string s, d, m, x, y] 108 (0, 0))) :
    Calls Try.prog 80 #[.pointer (some pl)] w fun e w' => e = .returned (.tuple #[]) ∧ ∃ gm, w.heap.size ≤ gm ∧ w'.heap[g]? = some (.cells #[.string s, d, m, x, .slice (some ⟨gm, 0, none⟩) 256 256] 108 (0, 0)) ∧ w'.heap[gm]? = some (.cells (Lx.tab Lx.cls) 111 (0, 0)) ∧ Kept w w' (fun k => k = g) ∧ Below g w w' := by
  have c4 : w.cell? ⟨g, 4, none⟩ = some y := (blk_cell hb 4).trans rfl
  have f4 : w.frozen? ⟨g, 4, none⟩ = false := blk_frozen hb 4
  have hlt := blk_lt hb
  have hlp := World.block_lt_of_cell? _ _ hp
  have hpA : ∀ o, (w.alloc o).cell? pl = some (.pointer (some ⟨g, 0, none⟩)) := fun o => pw_cell_below (below_alloc (Below.refl _ _) o) hp
  have c4A : ∀ o, (w.alloc o).cell? ⟨g, 4, none⟩ = some y := fun o => pw_cell_below (below_alloc (Below.refl _ _) o) c4
  have f4A : ∀ o, (w.alloc o).frozen? ⟨g, 4, none⟩ = false := fun o => blk_frozen (blk_alloc hb o) 4
  have hmk := Lx.make
  go_enter Try.func80, Try.ntmps80
  go_wp2
  go_region
  have B1 : Aside0 ((((w.setCell ⟨g, 4, none⟩ (.slice (some ⟨w.heap.size, 0, none⟩) 256 256)).alloc (.cells (Lx.tab (fun _ => 0)) 111)).drew).heap[g]? = some (.cells #[.string s, d, m, x, .slice (some ⟨w.heap.size, 0, none⟩) 256 256] 108 (0, 0))) := ⟨blk_alloc ((blk_set hb 4 _).trans rfl) _⟩
  have es : (w.setCell ⟨g, 4, none⟩ (.slice (some ⟨w.heap.size, 0, none⟩) 256 256)).heap.size = w.heap.size := by simp
  have T1 : Aside0 ((((w.setCell ⟨g, 4, none⟩ (.slice (some ⟨w.heap.size, 0, none⟩) 256 256)).alloc (.cells (Lx.tab (fun _ => 0)) 111)).drew).heap[w.heap.size]? = some (.cells (Lx.tab (fun _ => 0)) 111 (0, 0))) := ⟨by have := blk_new (w.setCell ⟨g, 4, none⟩ (.slice (some ⟨w.heap.size, 0, none⟩) 256 256)) (.cells (Lx.tab (fun _ => 0)) 111); rw [es] at this; exact this⟩
  have K1 : Aside0 (Kept w (((w.setCell ⟨g, 4, none⟩ (.slice (some ⟨w.heap.size, 0, none⟩) 256 256)).alloc (.cells (Lx.tab (fun _ => 0)) 111)).drew) (fun k => k = g)) := ⟨(((Kept.refl w (fun k => k = g)).setCell (p := ⟨g, 4, none⟩) (.inl rfl) _).alloc _).drew⟩
  have W1 : Aside0 (Below g w (((w.setCell ⟨g, 4, none⟩ (.slice (some ⟨w.heap.size, 0, none⟩) 256 256)).alloc (.cells (Lx.tab (fun _ => 0)) 111)).drew)) := ⟨(((Below.refl g w).setCell (p := ⟨g, 4, none⟩) (Nat.le_refl g) _).alloc (by rw [es]; omega) _).drew⟩
  have P1 : Aside0 ((((w.setCell ⟨g, 4, none⟩ (.slice (some ⟨w.heap.size, 0, none⟩) 256 256)).alloc (.cells (Lx.tab (fun _ => 0)) 111)).drew).cell? pl = some (.pointer (some ⟨g, 0, none⟩))) := ⟨cell_kept hp K1.out hne⟩
  have HP := Aside0.mk hp
  have HNE := Aside0.mk hne
  obtain ⟨gm, egm⟩ : ∃ gm, w.heap.size = gm := ⟨_, rfl⟩
  have NG : Aside0 (g ≠ gm) := ⟨by omega⟩
  have EG := Aside0.mk egm
  have HGL := Aside0.mk hlt
  have LPG : Aside0 (¬ pl.block = gm) := ⟨by omega⟩
  rw [egm] at B1 T1 K1 P1 W1 ⊢
  generalize (((w.setCell ⟨g, 4, none⟩ (.slice (some ⟨gm, 0, none⟩) 256 256)).alloc (.cells (Lx.tab (fun _ => 0)) 111)).drew) = w1 at B1 T1 K1 P1 W1 ⊢
  clear c4 f4 hlt hlp hpA c4A f4A hmk es hb hp hne egm
  have HN0 : Aside0 ((w1.alloc (.map #[] 0)).ownsMap Try.prog 111 (plainElem (H := Unit) Try.prog 9) w1.heap.size 0 (.map [])) := ⟨World.ownsMap_made w1 _ _ _⟩
  have L1 : Aside0 (gm ≠ w1.heap.size ∧ g ≠ w1.heap.size ∧ ¬ pl.block = w1.heap.size) := ⟨⟨Nat.ne_of_lt (blk_lt T1.out), Nat.ne_of_lt (blk_lt B1.out), Nat.ne_of_lt (World.block_lt_of_cell? _ _ P1.out)⟩⟩
  have HG0 : Aside0 (w1.grownBy (w1.alloc (.map #[] 0)) (some w1.heap.size)) := ⟨World.grownBy_alloc w1 _ _⟩
  obtain ⟨mb, emb⟩ : ∃ mb, w1.heap.size = mb := ⟨_, rfl⟩
  have EM := Aside0.mk emb
  rw [emb] at HN0 L1 HG0
  have hmm : ∀ t, (Instr.makeMap t none).run Try.prog w1 = .ok (.map (some mb)) (w1.alloc (.map #[] 0)) := fun t => by rw [← emb]; exact run_makeMap t w1
  clear emb
  obtain ⟨v1, hrun1, hown_, hgr_⟩ := HN0.out.update (val := .string ⟨#[123, 125, 91, 93, 58, 44]⟩) Lx.law Try.underlying117 (by decide) (key := .int .u8 1) (kl := .int .u8 1) (keyOf_int_mk Try.underlying111 (by decide)) (plainElem_string Try.underlying9 (by decide))
  have HN1 := Aside0.mk hown_
  have HG1 := Aside0.mk (HG0.out.trans hgr_)
  clear hown_ hgr_ HN0 HG0
  obtain ⟨v2, hrun2, hown_, hgr_⟩ := HN1.out.update (val := .string ⟨#[32, 9, 10, 13]⟩) Lx.law Try.underlying117 (by decide) (key := .int .u8 2) (kl := .int .u8 2) (keyOf_int_mk Try.underlying111 (by decide)) (plainElem_string Try.underlying9 (by decide))
  have HN2 := Aside0.mk hown_
  have HG2 := Aside0.mk (HG1.out.trans hgr_)
  clear hown_ hgr_ HN1 HG1
  obtain ⟨v3, hrun3, hown_, hgr_⟩ := HN2.out.update (val := .string ⟨#[48, 49, 50, 51, 52, 53, 54, 55, 56, 57]⟩) Lx.law Try.underlying117 (by decide) (key := .int .u8 3) (kl := .int .u8 3) (keyOf_int_mk Try.underlying111 (by decide)) (plainElem_string Try.underlying9 (by decide))
  have HN3 := Aside0.mk hown_
  have HG3 := Aside0.mk (HG2.out.trans hgr_)
  clear hown_ hgr_ HN2 HG2
  obtain ⟨v4, hrun4, hown_, hgr_⟩ := HN3.out.update (val := .string ⟨#[97, 98, 99, 100, 101, 102, 103, 104, 105, 106, 107, 108, 109, 110, 111, 112, 113, 114, 115, 116, 117, 118, 119, 120, 121, 122, 65, 66, 67, 68, 69, 70, 71, 72, 73, 74, 75, 76, 77, 78, 79, 80, 81, 82, 83, 84, 85, 86, 87, 88, 89, 90, 95]⟩) Lx.law Try.underlying117 (by decide) (key := .int .u8 4) (kl := .int .u8 4) (keyOf_int_mk Try.underlying111 (by decide)) (plainElem_string Try.underlying9 (by decide))
  have HN4 := Aside0.mk hown_
  have HG4 := Aside0.mk (HG3.out.trans hgr_)
  clear hown_ hgr_ HN3 HG3
  obtain ⟨v5, hrun5, hown_, hgr_⟩ := HN4.out.update (val := .string ⟨#[34]⟩) Lx.law Try.underlying117 (by decide) (key := .int .u8 5) (kl := .int .u8 5) (keyOf_int_mk Try.underlying111 (by decide)) (plainElem_string Try.underlying9 (by decide))
  have HN5 := Aside0.mk hown_
  have HG5 := Aside0.mk (HG4.out.trans hgr_)
  clear hown_ hgr_ HN4 HG4
  obtain ⟨v6, hrun6, hown_, hgr_⟩ := HN5.out.update (val := .string ⟨#[47]⟩) Lx.law Try.underlying117 (by decide) (key := .int .u8 6) (kl := .int .u8 6) (keyOf_int_mk Try.underlying111 (by decide)) (plainElem_string Try.underlying9 (by decide))
  have HN6 := Aside0.mk hown_
  have HG6 := Aside0.mk (HG5.out.trans hgr_)
  clear hown_ hgr_ HN5 HG5
  obtain ⟨v7, hrun7, hown_, hgr_⟩ := HN6.out.update (val := .string ⟨#[45]⟩) Lx.law Try.underlying117 (by decide) (key := .int .u8 7) (kl := .int .u8 7) (keyOf_int_mk Try.underlying111 (by decide)) (plainElem_string Try.underlying9 (by decide))
  have HN7 := Aside0.mk hown_
  have HG7 := Aside0.mk (HG6.out.trans hgr_)
  clear hown_ hgr_ HN6 HG6
  go_wp2_with ((at_range; refine wpList_range_own _ rfl (.tmp 9) 117 rfl 111 9 Lx.law Try.underlying117 _ mb 7 (Lx.dict (H := Unit)) rfl HN7.out ?_; intro w0 hrg0 hg0 hs0))

  have LT := L1.out
  obtain ⟨rb, erb⟩ : ∃ rb, v7.heap.size = rb := ⟨_, rfl⟩
  have hsz7 := HG7.out.size
  have LM := Nat.lt_of_lt_of_le (blk_lt B1.out) hsz7
  have LM2 := Nat.lt_of_lt_of_le (blk_lt T1.out) hsz7
  have LM3 := Nat.lt_of_lt_of_le (World.block_lt_of_cell? _ _ P1.out) hsz7
  have RB : Aside0 (g ≠ rb ∧ gm ≠ rb ∧ ¬ pl.block = rb) := ⟨⟨by omega, by omega, by omega⟩⟩
  have B2 : Aside0 (w0.heap[g]? = _) := ⟨blk_grown (blk_grown B1.out HG7.out (fun h => by injection h with h; exact LT.2.1 h)) hg0 (by simp)⟩
  have T2 : Aside0 (w0.heap[gm]? = _) := ⟨blk_grown (blk_grown T1.out HG7.out (fun h => by injection h with h; exact LT.1 h)) hg0 (by simp)⟩
  have K2 : Aside0 (Kept w w0 (fun k => k = g)) := ⟨(K1.out.of_grown HG7.out (fun k h => by injection h with h; exact .inr (by have := K1.out.1; have := EM.out; omega))).of_grown hg0 (fun k h => by cases h)⟩
  have W2 : Aside0 (Below g w w0) := ⟨pw_below_grown (pw_below_grown W1.out _ (Nat.le_of_lt (blk_lt B1.out)) HG7.out (fun k h => by injection h with h; have := EM.out; have := blk_lt B1.out; omega)) none (Nat.le_of_lt LM) hg0 (fun k h => by cases h)⟩
  have P2 : Aside0 (w0.cell? pl = some (.pointer (some ⟨g, 0, none⟩))) := ⟨cell_kept HP.out K2.out HNE.out⟩
  have EV : Lx.tab (fun _ => 0) = Lx.tab (Lx.val (Maps.has (Lx.dict (H := Unit)))) := Lx.tab_congr (fun i hi => (Lx.val_start hi).symm)
  have HR := Aside0.mk hrg0
  rw [erb] at HR ⊢
  rw [EV] at T2
  have LT' := Aside0.mk LT
  have ERB : Aside0 (w.heap.size ≤ mb ∧ w.heap.size ≤ rb) := ⟨⟨by have := K1.out.1; have := EM.out; omega, by have := K1.out.1; omega⟩⟩
  clear hrg0 hg0 hs0 LT erb LM LM2 LM3 hsz7 HG7 HN7 hrun1 hrun2 hrun3 hrun4 hrun5 hrun6 hrun7 hmm EV B1 T1 P1 K1 W1
  go_loopg [11] (Maps.size (Lx.dict (H := Unit)) + 1) (fun kq v11 wr => ∃ (left : Lit → Bool) (cnt : Nat), Aside0 (wr.ranges Try.prog 111 (plainElem (H := Unit) Try.prog 9) mb rb 7 Lx.dict left cnt) ∧ Aside0 (cnt < kq) ∧ Aside0 (wr.heap[g]? = some (.cells #[.string s, d, m, x, .slice (some ⟨gm, 0, none⟩) 256 256] 108 (0, 0))) ∧ Aside0 (wr.heap[gm]? = some (.cells (Lx.tab (Lx.val left)) 111 (0, 0))) ∧ Aside0 (wr.cell? pl = some (.pointer (some ⟨g, 0, none⟩))) ∧ Aside0 (Kept w wr (fun k => k = g)) ∧ Aside0 (Below g w wr))
  case atStart => exact ⟨_, _, HR, ⟨Nat.lt_succ_self _⟩, B2, T2, P2, K2, W2⟩
  case round =>
    clear HR B2 T2 P2 K2 W2
    obtain ⟨left, cnt, HR, HC, HB, HT, HPC, HK, HW⟩ := hrel
    cases gk with
    | zero => exact absurd HC.out (Nat.not_lt_zero _)
    | succ k1 =>
      go_wp2_with (at_next; refine wpList_next_ranges (H := Unit) _ rfl (.tmp 10) rfl 111 Lx.law (plainElem Try.prog 9) (Value.int .u8) Value.string (fun key kl hkey => by obtain ⟨x_, rfl, _⟩ := Maps.keyOf_int_inv Try.underlying111 hkey; exact ⟨x_, rfl⟩) (fun v_ y_ hv => by obtain ⟨s_, rfl, _⟩ := plainElem_string_inv Try.underlying9 hv; exact ⟨s_, rfl⟩) mb rb 7 Lx.dict left cnt rfl HR.out ?_ ?_)
      · intro _ hl0
        go_wp2
        go_end0
        exact ⟨rfl, gm, Nat.le_of_eq EG.out, HB.out, (Lx.tab_congr (fun i_ _ => Lx.val_end hl0 i_)) ▸ HT.out, HK.out, HW.out⟩
      · intro x1 c kl a_ b_ wn cnt1 hkey hlk hv hat hrg1 hlt hg1 hs1 hen
        obtain ⟨x2, ex, rfl, hwx⟩ := Maps.keyOf_int_inv Try.underlying111 hkey
        cases ex
        obtain ⟨s2, es, ey, hsz⟩ := plainElem_string_inv Try.underlying9 hv
        cases es
        cases ey
        have HX := Aside0.mk (Lx.dict_has (has_true_of_atKey hat))
        have HCR : Aside0 (c = Lx.row x1) := ⟨by
          have h1 := hat .nil
          rw [Lx.dict_at HX.out.1 HX.out.2] at h1
          injection h1 with h1
          injection h1 with h1
          exact ByteArray.ext (Array.toList_inj.1 h1.symm)⟩
        have HR1 := Aside0.mk hrg1
        have HB1 := Aside0.mk (blk_grown HB.out hg1 (fun h => by injection h with h; exact RB.out.1 h))
        have HT1 := Aside0.mk (blk_grown HT.out hg1 (fun h => by injection h with h; exact RB.out.2.1 h))
        have HK1 := Aside0.mk (HK.out.of_grown hg1 (fun k_ h => by injection h with h; exact .inr (h ▸ ERB.out.2)))
        have HP1 := Aside0.mk (cell_kept HP.out HK1.out HNE.out)
        have HW1 := Aside0.mk (pw_below_grown HW.out _ (Nat.le_of_lt (blk_lt HB.out)) hg1 (fun k_ h => by injection h with h; have := ERB.out.2; have := HGL.out; omega))
        have HLT := Aside0.mk hlt
        have HSZ := Aside0.mk hsz
        clear hkey hlk hv hat hrg1 hlt hg1 hs1 hwx hsz HR HB HT HPC HK HW
        go_wp2
        go_loopg [18] (c.size + 1) (fun kq2 v18 wr2 => ∃ (i : Int), v18 = .int .i64 i ∧ Aside0 (0 ≤ i ∧ i ≤ (c.size : Int) ∧ (c.size : Int) - i < (kq2 : Int)) ∧ Aside0 (wr2.ranges Try.prog 111 (plainElem (H := Unit) Try.prog 9) mb rb 7 Lx.dict (fun z => left z && !z.sameKey (.int .u8 x1)) cnt1) ∧ Aside0 (wr2.heap[g]? = some (.cells #[.string s, d, m, x, .slice (some ⟨gm, 0, none⟩) 256 256] 108 (0, 0))) ∧ Aside0 (wr2.heap[gm]? = some (.cells (Lx.tab (Lx.part (Lx.val left) c x1 i.toNat)) 111 (0, 0))) ∧ Aside0 (wr2.cell? pl = some (.pointer (some ⟨g, 0, none⟩))) ∧ Aside0 (Kept w wr2 (fun k => k = g)) ∧ Aside0 (Below g w wr2))
        case atStart => exact ⟨0, rfl, ⟨⟨Int.le_refl _, by omega, by omega⟩⟩, HR1, HB1, ⟨by rw [Int.toNat_zero, Lx.part_zero]; exact HT1.out⟩, HP1, HK1, HW1⟩
        case round =>
          clear HR1 HB1 HT1 HP1 HK1 HW1 hen
          obtain ⟨i, rfl, HI, HR2, HB2, HT2, HP2, HK2, HW2⟩ := hrel
          cases gk with
          | zero => exact absurd HI.out.2.2 (by have := HI.out.2.1; omega)
          | succ k2 =>
            obtain ⟨i0, i1, i2⟩ := HI.out
            by_cases hi : i < (c.size : Int)
            · have b1 : decide (i < (c.size : Int)) = true := decide_eq_true hi
              have p1 := eq_true i0
              have q1 := eq_true hi
              have hx := bt_at c i
              have hr := bt_range c i
              have hzv : bt c i = ((c[i.toNat]'(by omega)).toNat : Int) := (bt_at c i (by omega)).symm
              obtain ⟨z, hz⟩ : ∃ z, bt c i = z := ⟨_, rfl⟩
              rw [hz] at hx hr hzv
              have HZV := Aside0.mk hzv
              have HZ := Aside0.mk hz
              clear hzv hz
              obtain ⟨z0, z1⟩ := hr
              have c0 := HP2.out
              have c4 : wr.cell? ⟨g, 4, none⟩ = some (.slice (some ⟨gm, 0, none⟩) 256 256) := (blk_cell HB2.out 4).trans rfl
              have cz : wr.cell? ⟨gm, z.toNat, none⟩ = some (.int .u8 (Lx.part (Lx.val left) c x1 i.toNat z.toNat)) := (blk_cell HT2.out _).trans (Lx.tab_at _ _ (by omega))
              have fz : wr.frozen? ⟨gm, z.toNat, none⟩ = false := blk_frozen HT2.out _
              have hsz := HSZ.out
              go_wp2
              go_region
              have HB3 : Aside0 ((wr.setCell ⟨gm, z.toNat, none⟩ (.int .u8 x1)).drew.heap[g]? = _) := ⟨(Below.heap_setCell _ _ _ _ NG.out).trans HB2.out⟩
              have HT3 : Aside0 ((wr.setCell ⟨gm, z.toNat, none⟩ (.int .u8 x1)).drew.heap[gm]? = some (.cells (Lx.tab (Lx.part (Lx.val left) c x1 (i + 1).toNat)) 111 (0, 0))) := ⟨by
                refine (blk_set HT2.out z.toNat (.int .u8 x1)).trans ?_
                rw [Lx.tab_set _ _ _ (by omega), show (i + 1).toNat = i.toNat + 1 by omega, ← Lx.part_step _ c x1 i.toNat (by omega), ← show z.toNat = (c[i.toNat]'(by omega)).toNat by have := HZV.out; omega]⟩
              have HK3 : Aside0 (Kept w (wr.setCell ⟨gm, z.toNat, none⟩ (.int .u8 x1)).drew (fun k => k = g)) := ⟨(HK2.out.setCell (p := ⟨gm, z.toNat, none⟩) (.inr (Nat.le_of_eq EG.out)) _).drew⟩
              have HW3 : Aside0 (Below g w (wr.setCell ⟨gm, z.toNat, none⟩ (.int .u8 x1)).drew) := ⟨(HW2.out.setCell (p := ⟨gm, z.toNat, none⟩) (by have := EG.out; have := HGL.out; show g ≤ gm; omega) _).drew⟩
              have HP3 : Aside0 ((wr.setCell ⟨gm, z.toNat, none⟩ (.int .u8 x1)).drew.cell? pl = some (.pointer (some ⟨g, 0, none⟩))) := ⟨cell_kept HP.out HK3.out HNE.out⟩
              have HR3 : Aside0 ((wr.setCell ⟨gm, z.toNat, none⟩ (.int .u8 x1)).drew.ranges Try.prog 111 (plainElem (H := Unit) Try.prog 9) mb rb 7 Lx.dict (fun z => left z && !z.sameKey (.int .u8 x1)) cnt1) := ⟨HR2.out.kept (row := some gm) (w' := (wr.setCell ⟨gm, z.toNat, none⟩ (.int .u8 x1)).drew) ⟨rfl, rfl, rfl, by simp, fun j_ hj_ hne_ => Below.heap_setCell _ _ _ _ (fun e_ => hne_ (by rw [e_]))⟩ (fun h => by injection h with h; exact LT'.out.1 h.symm) (fun h => by injection h with h; exact RB.out.2.1 h.symm)⟩
              generalize (wr.setCell ⟨gm, z.toNat, none⟩ (.int .u8 x1)).drew = w9 at HB3 HT3 HK3 HP3 HR3 HW3 ⊢
              clear HR2 HB2 HT2 HP2 HK2 HW2 c0 c4 cz fz z0 z1 hx p1 q1
              have i3 : wrap64 (i + 1) = i + 1 := by unfold wrap64; unfold maxLen at hsz; omega
              go_wp2
              go_roundg k2
              case measure => omega
              case rel => exact ⟨i + 1, by first | rfl | (rw [i3]) | simp [i3], ⟨⟨by omega, by omega, by omega⟩⟩, HR3, HB3, HT3, HP3, HK3, HW3⟩
            · have b1 : decide (i < (c.size : Int)) = false := decide_eq_false hi
              have ei : i.toNat = c.size := by omega
              have HT4 : Aside0 (wr.heap[gm]? = some (.cells (Lx.tab (Lx.val (fun z => left z && !z.sameKey (.int .u8 x1)))) 111 (0, 0))) := ⟨by
                rw [HT2.out, ei]
                refine congrArg (fun t_ => some (Obj.cells t_ 111 (0, 0))) (Lx.tab_congr (fun j_ hj_ => ?_))
                rw [HCR.out]
                exact Lx.row_done HX.out.1 HX.out.2 j_ hj_⟩
              clear HT2 ei
              go_wp2
              go_roundg k1
              case measure => omega
              case rel => exact ⟨_, cnt1, HR2, ⟨by have := HLT.out; have := HC.out; omega⟩, HB2, HT4, HP2, HK2, HW2⟩
end Go.Proofs.Ytehojohacombkaa.G
