/- split by its contract. -/
import Derived.Test.YtdnhbbgahipbdaaDoorRw2
import Derived.Deep.RegionLawGrows
import Derived.BigQuiet
import Derived.Deep.RegionHeld3
namespace Go.Proofs.YtdnhbbgahipbdaaDoor.G
open Go.RowKit Go.Proofs.YtdnhbbgahipbdaaDoorW.PrintWords Go.Proofs.YtdnhbbgahipbdaaDoorW.PrintLast Go.Proofs.YtdnhbbgahipbdaaDoorW.PrintMore
open Go.Proofs.YtdnhbbgahipbdaaDoor.Ro (T cutN cutB layS layN findN aheadN behindN Ck)
set_option linter.unusedVariables false
set_option linter.unusedSimpArgs false
/-- A slice value that reads as a row of texts. -/
def Reads (W : World) (v : Value) (cs : List ByteArray) : Prop := ∃ A c, v = .slice A cs.length c ∧ cs.length ≤ c ∧ Kd.C Kd.string W A cs.length cs
theorem Reads.below {W W2 : World} {v : Value} {cs : List ByteArray} (h : Reads W v cs) (k : Below W.heap.size W W2) : Reads W2 v cs := by
  obtain ⟨A, c, h1, h2, h3⟩ := h; exact ⟨A, c, h1, h2, Kd.C_below h3 k⟩
theorem Ro.reads_take {w : World} {A : Option Addr} {cs : List ByteArray} {j : Nat} (h : Kd.C Kd.string w A cs.length cs) (hj : j ≤ cs.length) : Reads w (.slice A j j) (cs.take j) :=
  ⟨A, j, by rw [List.length_take, Nat.min_eq_left hj], by rw [List.length_take, Nat.min_eq_left hj]; exact Nat.le_refl _, Kd.C_take h hj⟩
theorem Ro.reads_drop {w : World} {A : Option Addr} {cs : List ByteArray} {j c : Nat} (h : Kd.C Kd.string w A cs.length cs) (hc : cs.length ≤ c) (hj : j ≤ cs.length) : Reads w (.slice (if c = j then A else A.map (·.add j)) (cs.length - j) (c - j)) (cs.drop j) := by
  have hd := Kd.C_drop h hj hc
  rw [show j * Kd.string.sz = j from Nat.mul_one j] at hd
  exact ⟨_, c - j, by rw [List.length_drop], by rw [List.length_drop]; omega, hd⟩
theorem Ro.cut_lo {P : Program} (t e : TypeId) {i : TypeInfo} (ht : P.underlying t = some (.slice e)) (hi : P.info? e = some i) (hsz : i.size = 1) (A : Option Addr) (n c j : Nat) (h1 : j ≤ n) :
    ∀ W : World, (Instr.slice t (.slice A n c) (some (.int .i64 (j : Int))) none none).run P W = .ok (.slice (if c = j then A else A.map (·.add (j * 1))) (n - j) (c - j)) W := by
  intro W
  have hel : P.elem t = e := by simp [Program.elem, ht]
  have hu : P.underlying t = some (.slice (P.elem t)) := by rw [hel]; exact ht
  rw [run_slice_l W t A n c hu .i64 (j : Int) (by omega) (by omega), hel]
  simp [sizeOf, typeInfo, hi, hsz, sliced, Result.andThen]
theorem Ro.cut_hi {P : Program} (t e : TypeId) {i : TypeInfo} (ht : P.underlying t = some (.slice e)) (hi : P.info? e = some i) (hsz : i.size = 1) (A : Option Addr) (n c j : Nat) (h1 : j ≤ c) :
    ∀ W : World, (Instr.slice t (.slice A n c) none (some (.int .i64 (j : Int))) (some (.int .i64 (j : Int)))).run P W = .ok (.slice A j j) W := by
  intro W
  have hel : P.elem t = e := by simp [Program.elem, ht]
  have hu : P.underlying t = some (.slice (P.elem t)) := by rw [hel]; exact ht
  rw [run_slice_hm W t A n c hu .i64 .i64 (j : Int) (j : Int) (by omega) (by omega) (by omega), hel]
  have ea : ∀ ad : Addr, ad.add 0 = ad := fun ad => by simp [Addr.add]
  cases A <;> simp [sizeOf, typeInfo, hi, hsz, sliced, Result.andThen, ea]
theorem Ro.cell_at (W : World) (v : Value) (t : TypeId) (b : Nat) (h : b = W.heap.size) : (W.alloc (.cells #[v] t)).cell? ⟨b, 0, none⟩ = some v := by
  subst h; exact (blk_cell (heap_alloc_new W (.cells #[v] t)) 0).trans rfl
theorem Ro.one_cell {W : World} {b : Nat} {v : Value} (h : W.cell? ⟨b, 0, none⟩ = some v) : ∀ q u, [v][q]? = some u → W.cell? ((Addr.mk b 0 none).add q) = some u := by
  intro q u hq
  match q, hq with
  | 0, hq => cases hq; exact h
theorem Ro.below_none {w w' : World} (h : w.grownBy w' none) : Below w.heap.size w w' := ⟨h.os, h.tape, h.output, h.size, fun k hk => h.block k hk (by simp)⟩
theorem Ro.reads_own {w : World} {base n : Nat} {v : Value} {cs : List ByteArray} {olds : List Value} (he : cs.map Value.string = olds) (hn : cs.length = n) (h : w.ownsRow base 9 1 v n olds) : Reads w v cs := by
  subst hn; subst he
  exact Kd.R_reads (d := Kd.string) (Kd.R_of_own (enc := Value.string) (h1 := fun _ => rfl) (ok := fun _ => True) h (fun _ _ => trivial))
theorem Ro.reads_one {W : World} {b c : Nat} {x : ByteArray} (h : W.cell? ⟨b, 0, none⟩ = some (.string x)) : Reads W (.slice (some ⟨b, 0, none⟩) 1 (1 + c)) [x] :=
  ⟨some ⟨b, 0, none⟩, 1 + c, rfl, Nat.le_add_right 1 c, Kd.C_of_reads (enc := Value.string) (d := ByteArray.empty) (h1 := fun _ => rfl) (n := [x].length) ⟨rfl, by simp, fun _ => ⟨_, rfl, fun j hj => by
    obtain rfl : j = 0 := by simp only [List.length_cons, List.length_nil] at hj; omega
    exact h⟩⟩⟩
theorem Ro.setCells_nil (W : World) (b o : Nat) : W.setCells b o [] = W := rfl
set_option maxHeartbeats 8000000 in
set_option maxRecDepth 100000 in
theorem Ro.split_any (g : Nat) (cs : List ByteArray) (n : Int) (a : Nat) (w : World) (h : IsRc w g cs n) (ha : a ≤ (T cs).length) (hT : (T cs).length ≤ 100000) (hl : cs.length ≤ 100000) :
    Calls Tryd.prog 23 #[.pointer (some ⟨g, 0, none⟩), .int .i64 (a : Int)] w fun e w' => ∃ v1 v2, e = .returned (.tuple #[v1, v2]) ∧ Reads w' v1 (aheadN cs a) ∧ Reads w' v2 (behindN cs a) ∧ Below w.heap.size w w' := by
  obtain ⟨j, hj1, hj2, -, -, hj5⟩ := Ro.find_T cs 0 a ha
  have HFI := Aside0.mk (fun w2 (k : Below w.heap.size w w2) => Ro.find_any g cs n a w2 (h.below k) (by omega) hl)
  obtain ⟨A, c, hb, hc, hC⟩ := h.cells
  have HX := Aside0.mk hb
  have HB := Aside0.mk (Below.refl w.heap.size w)
  have HC := Aside0.mk hC
  have HCC := Aside0.mk hc
  rw [Nat.zero_add] at hj1
  unfold aheadN behindN
  dsimp only
  rw [hj1] at HFI ⊢
  obtain ⟨k, hk⟩ : ∃ k, (findN cs 0 a).2 = k := ⟨_, rfl⟩
  rw [hk] at HFI hj5 ⊢
  obtain ⟨m, hm⟩ : ∃ m, m = cs.length := ⟨_, rfl⟩
  have HM := Aside0.mk hm
  have hj6 : j ≤ m := by omega
  have hc6 : m ≤ c := by omega
  obtain ⟨i0, hi0, _, hsz0, _⟩ := info_parts info9
  have hcutA := Ro.cut_hi (P := Tryd.prog) 52 9 Tryd.underlying52 hi0 hsz0 A m c j (by omega)
  clear hb hC hi0 hsz0 h hj1 hk
  rw [← hm] at HX
  clear hm
  go_enter Tryd.func23, Tryd.ntmps23
  go_upto_region 2 with (go_at_call 29; refine (HFI.out _ (by repeat (first | (with_reducible first | exact HB.out | apply below_alloc | apply pw_below_drewN | apply below_drew1) | exact HB.out))).mono ?_; rintro e w2 ⟨rfl, hb2⟩; have n0_ := Aside0.mk (below_step HB.out hb2); clear HB hb2; have HB := n0_; clear n0_)
  obtain ⟨x0, x1, x2, x3⟩ := Ro.two (blk_below HX.out HB.out)
  by_cases h0 : k = 0
  · subst h0
    obtain ⟨i0, hi0, _, hsz0, _⟩ := info_parts info9
    have hcutB := Ro.cut_lo (P := Tryd.prog) 52 9 Tryd.underlying52 hi0 hsz0 A m c j hj6
    clear hi0 hsz0
    go_upto_region 3 with (fail)
    go_quiet (fail)
    go_wp2
    all_goals
      go_ret2
      have hb9 : Below w.heap.size w (w2.drewN nq) := by repeat (first | (with_reducible first | exact HB.out | apply below_alloc | apply pw_below_drewN | apply below_drew1) | exact HB.out)
      refine ⟨_, _, rfl, Ro.reads_take (Kd.C_below HC.out hb9) hj2, ?_, hb9⟩
      have hr := Ro.reads_drop (Kd.C_below HC.out hb9) hc hj2
      rw [← HM.out] at hr
      first
        | (have hcj : c = j := by assumption
           rw [if_pos hcj, show c - j = 0 by omega] at hr; exact hr)
        | (have hcj : ¬ c = j := by assumption
           rw [if_neg hcj] at hr; exact hr)
  · obtain ⟨hj7, hk7⟩ := hj5.resolve_left h0
    have e0 : ((k : Int) == 0) = false := beq_eq_false_iff_ne.mpr (by omega)
    have p1 := eq_true (show (0 : Int) ≤ (j : Int) by omega)
    have q1 := eq_true (show (j : Int) < (m : Int) by have := HM.out; omega)
    obtain ⟨ad, rfl, hx⟩ := Kd.at_string (Kd.C_below HC.out HB.out) (j : Int) (by omega) (by omega)
    rw [Ro.rd, Int.toNat_natCast] at hx
    obtain ⟨x, hxx⟩ : ∃ x, cs.getD j ByteArray.empty = x := ⟨_, rfl⟩
    rw [hxx] at hx hk7
    have HXE : Aside0 (cs[j]'hj7 = x) := ⟨by rw [← hxx, List.getD_eq_getElem?_getD, List.getElem?_eq_getElem hj7]; rfl⟩
    have p2 := eq_true (show (0 : Int) ≤ (k : Int) by omega)
    have q2 := eq_true (show (k : Int) ≤ (x.size : Int) by omega)
    clear hj5
    go_upto_region 5 with (fail)
    have HB2 := Aside0.mk (Below.refl w2.heap.size w2)
    have HX0 := Aside0.mk x0
    have x9 : ∀ o_, (World.alloc w2 o_).cell? ⟨g, 0, none⟩ = some (.slice (some ad) m c) := fun o_ => pw_cell_below (below_alloc (Below.refl _ _) o_) x0
    have x8 : ∀ o_ o2_, (World.alloc (World.alloc w2 o_) o2_).cell? ⟨g, 0, none⟩ = some (.slice (some ad) m c) := fun o_ o2_ => pw_cell_below (below_alloc (below_alloc (Below.refl _ _) o_) o2_) x0
    obtain ⟨olds, holds⟩ : ∃ olds, (cs.take j).map Value.string = olds := ⟨_, rfl⟩
    have hlo : olds.length = j * 1 := by rw [← holds, List.length_map, List.length_take]; omega
    have HOLD : Aside0 (∀ q u, olds[q]? = some u → w2.cell? (ad.add q) = some u) := ⟨fun q u hq => by
      rw [← holds, List.getElem?_map] at hq
      cases hh : (cs.take j)[q]? with
      | none => rw [hh] at hq; exact absurd hq (by simp)
      | some y =>
        rw [hh] at hq
        have hq2 : Value.string y = u := Option.some.inj hq
        have hlt : q < (cs.take j).length := (List.getElem?_eq_some_iff.1 hh).1
        rw [List.length_take] at hlt
        obtain ⟨ad9, e9, hx9⟩ := Kd.at_string (Kd.C_below HC.out HB.out) (q : Int) (by omega) (by omega)
        cases e9
        rw [Ro.rd, Int.toNat_natCast] at hx9
        rw [hx9, ← hq2, List.getD_eq_getElem?_getD]
        rw [List.getElem?_take_of_lt (by omega)] at hh
        rw [hh]; rfl⟩
    obtain ⟨i0, hi0, hz0, hsz0, hby0⟩ := info_parts info9
    obtain ⟨news, hnews⟩ : ∃ news, (cs.drop (j + 1)).map Value.string = news := ⟨_, rfl⟩
    have hln : news.length = (m - (j + 1)) * 1 := by rw [← hnews, List.length_map, List.length_drop, ← HM.out]; omega
    have HNEW : Aside0 (∀ q u, news[q]? = some u → w2.cell? ((ad.add (j + 1)).add q) = some u) := ⟨fun q u hq => by
      rw [← hnews, List.getElem?_map] at hq
      cases hh : (cs.drop (j + 1))[q]? with
      | none => rw [hh] at hq; exact absurd hq (by simp)
      | some y =>
        rw [hh] at hq
        have hq2 : Value.string y = u := Option.some.inj hq
        have hlt : q < (cs.drop (j + 1)).length := (List.getElem?_eq_some_iff.1 hh).1
        rw [List.length_drop] at hlt
        obtain ⟨ad9, e9, hx9⟩ := Kd.at_string (Kd.C_below HC.out HB.out) ((j + 1 + q : Nat) : Int) (by omega) (by omega)
        cases e9
        rw [Ro.rd, Int.toNat_natCast] at hx9
        rw [show (ad.add (j + 1)).add q = ad.add (j + 1 + q) from by simp [Addr.add, Nat.add_assoc], hx9, ← hq2, List.getD_eq_getElem?_getD]
        rw [List.getElem?_drop] at hh
        rw [hh]; rfl⟩
    have HNS := Aside0.mk hnews
    have HOS := Aside0.mk holds
    clear hnews holds
    by_cases hlast : j + 1 < m
    · have hcj := eq_false (show ¬ c = j + 1 by omega)
      have p3 := eq_true (show (0 : Int) ≤ (j : Int) + 1 by omega)
      have q3 := eq_true (show (j : Int) + 1 ≤ (m : Int) by omega)
      have f1 : c - (j + 1) ≤ c ∧ 1 < 1 + (m - (j + 1)) ∧ 1 + (m - (j + 1)) ≤ maxLen ∧ (1 + (m - (j + 1))) * 16 ≤ 140737488355328 ∧ j + 1 ≤ maxLen ∧ (j + 1) * 16 ≤ 140737488355328 := by have := HM.out; simp only [maxLen]; omega
      have FF := Aside0.mk f1
      have hw : IntKind.i64.wrap ((j : Int) + 1) = (j : Int) + 1 := by rw [i64_w]; unfold wrap64; have := HM.out; omega
      have ht : ((j : Int) + 1).toNat = j + 1 := by omega
      clear f1
      go_region_held3 (fun w_ => w_.cell? ⟨g, 0, none⟩ = some (.slice (some ad) m c)) (first | assumption | exact x0 | exact y0 | exact x9 _ | exact x8 _ _ | exact y1 _ | exact pw_cell_below HB8.out HX0.out | go_keep) (first
        | (refine step_append_grows rfl (.tmp 43) (.tmp 47) 52 rfl 9 i0 (.string ⟨#[]⟩) 1 16 Tryd.underlying52 hi0 hz0 hsz0 hby0 rfl ?g0 (some ad) j j olds ?hs ?hn hlo ?ho (Addr.mk ?_ 0 none) 1 1 [.string (x.extract 0 k)] ?hx rfl ?hc ?h1 ?full ?b1 ?b2 ?_
           (case hx => first | rfl | (simp only [Act.eval, Act.put]; done) | (simp only [Act.eval, Act.put]; rfl))
           (case g0 => exact Nat.one_pos)
           (case hn => intro h_; cases h_)
           (case hs => first | rfl | (simp only [Act.eval, Act.put]; done) | (simp only [Act.eval, Act.put]; rfl))
           (case ho => intro b_ e_ q_ u_ hq_; cases e_; exact pw_cell_below (by repeat (first | (with_reducible first | exact HB2.out | apply below_alloc | apply pw_below_drewN | apply below_drew1) | exact HB2.out)) (HOLD.out q_ u_ hq_))
           (case hc => refine Ro.one_cell ?_; first | (refine Ro.cell_at _ _ _ _ ?_; first | rfl | exact (World.size_alloc _ _).symm) | (refine pw_cell_below (below_alloc (Below.refl _ _) _) (Ro.cell_at _ _ _ _ ?_); first | rfl | exact (World.size_alloc _ _).symm))
           (case h1 => intro u_ hu_; rw [List.mem_singleton.1 hu_]; rfl)
           (case full => exact Nat.lt_succ_self j)
           (case b1 => exact FF.out.2.2.2.2.1)
           (case b2 => exact FF.out.2.2.2.2.2)
           intro v9 w9 hown hgrow
           have HG9 := Aside0.mk (Ro.below_none hgrow)
           have HA9 : Aside0 (Reads w9 v9 (cs.take j ++ [x.extract 0 k])) := ⟨Ro.reads_own (olds := olds ++ [.string (x.extract 0 k)]) (by rw [List.map_append, HOS.out]; rfl) (by simp only [List.length_append, List.length_take, List.length_cons, List.length_nil]; omega) hown⟩
           have HB9 := Aside0.mk (below_step (by repeat (first | (with_reducible first | exact HB2.out | apply below_alloc | apply pw_below_drewN | apply below_drew1) | exact HB2.out)) HG9.out)
           have y0 := pw_cell_below HB9.out HX0.out
           have y1 := fun (o_ : Obj) => pw_cell_below (below_alloc (Below.refl w9.heap.size w9) o_) y0
           clear hown hgrow)
        | (refine step_append_grows rfl (.tmp 52) (.tmp 59) 52 rfl 9 i0 (.string ⟨#[]⟩) 1 16 Tryd.underlying52 hi0 hz0 hsz0 hby0 rfl ?g0 (some (Addr.mk ?_ 0 none)) 1 1 [.string (x.extract k x.size)] ?hs ?hn rfl ?ho (ad.add (j + 1)) (m - (j + 1)) (c - (j + 1)) news ?hx hln ?hc ?h1 ?full ?b1 ?b2 ?_
           (case hs => first | rfl | (simp only [Act.eval, Act.put]; done) | (simp only [Act.eval, Act.put]; rfl))
           (case g0 => exact Nat.one_pos)
           (case hn => intro h_; cases h_)
           (case hx => first | rfl | (simp only [Act.eval, Act.put]; done) | (simp only [Act.eval, Act.put]; rfl))
           (case ho => intro b_ e_; cases e_; refine Ro.one_cell ?_; first | (refine Ro.cell_at _ _ _ _ ?_; first | rfl | exact (World.size_alloc _ _).symm) | (refine pw_cell_below HG9.out (Ro.cell_at _ _ _ _ ?_); first | rfl | exact (World.size_alloc _ _).symm) | (refine pw_cell_below HG9.out (pw_cell_below (below_alloc (Below.refl _ _) _) (Ro.cell_at _ _ _ _ ?_)); first | rfl | exact (World.size_alloc _ _).symm))
           (case hc => intro q_ u_ hq_; exact pw_cell_below (by repeat (first | (with_reducible first | exact HB9.out | apply below_alloc | apply pw_below_drewN | apply below_drew1) | exact HB9.out)) (HNEW.out q_ u_ hq_))
           (case h1 => intro u_ hu_; rw [← HNS.out] at hu_; obtain ⟨y_, -, rfl⟩ := List.mem_map.1 hu_; rfl)
           (case full => exact FF.out.2.1)
           (case b1 => exact FF.out.2.2.1)
           (case b2 => exact FF.out.2.2.2.1)
           intro v8 w8 hown hgrow
           have HG8 := Aside0.mk (Ro.below_none hgrow)
           have HA8 : Aside0 (Reads w8 v8 (x.extract k x.size :: cs.drop (j + 1))) := ⟨Ro.reads_own (olds := [.string (x.extract k x.size)] ++ news) (by rw [← HNS.out]; first | done | rfl) (by simp only [List.length_cons, List.length_drop]; rw [← HM.out]; omega) hown⟩
           have HA7 := Aside0.mk (Reads.below (Reads.below HA9.out (by repeat (first | (with_reducible first | exact Below.refl _ _ | apply below_alloc | apply pw_below_drewN | apply below_drew1) | exact Below.refl _ _))) HG8.out)
           have HB8 := Aside0.mk (below_step (by repeat (first | (with_reducible first | exact HB9.out | apply below_alloc | apply pw_below_drewN | apply below_drew1) | exact HB9.out)) HG8.out)
           have z0 := pw_cell_below HB8.out HX0.out
           clear hown hgrow))
      all_goals
        go_wp2
        go_ret2
        exact ⟨_, _, rfl, by first | exact HA7.out | (rw [HXE.out]; exact HA7.out), by first | exact HA8.out | (rw [HXE.out]; exact HA8.out), below_step HB.out HB8.out⟩
    · obtain rfl : m = j + 1 := by have := HM.out; omega
      have hdr : cs.drop (j + 1) = [] := List.drop_eq_nil_of_le (by have := HM.out; omega)
      have p3 := eq_true (show (0 : Int) ≤ (j : Int) + 1 by omega)
      have f1 : j + 1 ≤ maxLen ∧ (j + 1) * 16 ≤ 140737488355328 := by have := HM.out; simp only [maxLen]; omega
      have FF : Aside0 (True ∧ True ∧ True ∧ True ∧ j + 1 ≤ maxLen ∧ (j + 1) * 16 ≤ 140737488355328) := ⟨trivial, trivial, trivial, trivial, f1.1, f1.2⟩
      have hw : IntKind.i64.wrap ((j : Int) + 1) = (j : Int) + 1 := by rw [i64_w]; unfold wrap64; have := HM.out; omega
      have ht : ((j : Int) + 1).toNat = j + 1 := by omega
      have HDR := Aside0.mk hdr
      clear f1 hdr hlast
      by_cases hcc : c = j + 1
      · subst hcc
        go_region_held3 (fun w_ => w_.cell? ⟨g, 0, none⟩ = some (.slice (some ad) (j + 1) (j + 1))) (first | assumption | exact x0 | exact y0 | exact x9 _ | exact x8 _ _ | exact y1 _ | exact pw_cell_below HB8.out HX0.out | go_keep) (first
        | (refine step_append_grows rfl (.tmp 43) (.tmp 47) 52 rfl 9 i0 (.string ⟨#[]⟩) 1 16 Tryd.underlying52 hi0 hz0 hsz0 hby0 rfl ?g0 (some ad) j j olds ?hs ?hn hlo ?ho (Addr.mk ?_ 0 none) 1 1 [.string (x.extract 0 k)] ?hx rfl ?hc ?h1 ?full ?b1 ?b2 ?_
           (case hx => first | rfl | (simp only [Act.eval, Act.put]; done) | (simp only [Act.eval, Act.put]; rfl))
           (case g0 => exact Nat.one_pos)
           (case hn => intro h_; cases h_)
           (case hs => first | rfl | (simp only [Act.eval, Act.put]; done) | (simp only [Act.eval, Act.put]; rfl))
           (case ho => intro b_ e_ q_ u_ hq_; cases e_; exact pw_cell_below (by repeat (first | (with_reducible first | exact HB2.out | apply below_alloc | apply pw_below_drewN | apply below_drew1) | exact HB2.out)) (HOLD.out q_ u_ hq_))
           (case hc => refine Ro.one_cell ?_; first | (refine Ro.cell_at _ _ _ _ ?_; first | rfl | exact (World.size_alloc _ _).symm) | (refine pw_cell_below (below_alloc (Below.refl _ _) _) (Ro.cell_at _ _ _ _ ?_); first | rfl | exact (World.size_alloc _ _).symm))
           (case h1 => intro u_ hu_; rw [List.mem_singleton.1 hu_]; rfl)
           (case full => exact Nat.lt_succ_self j)
           (case b1 => exact FF.out.2.2.2.2.1)
           (case b2 => exact FF.out.2.2.2.2.2)
           intro v9 w9 hown hgrow
           have HG9 := Aside0.mk (Ro.below_none hgrow)
           have HA9 : Aside0 (Reads w9 v9 (cs.take j ++ [x.extract 0 k])) := ⟨Ro.reads_own (olds := olds ++ [.string (x.extract 0 k)]) (by rw [List.map_append, HOS.out]; rfl) (by simp only [List.length_append, List.length_take, List.length_cons, List.length_nil]; omega) hown⟩
           have HB9 := Aside0.mk (below_step (by repeat (first | (with_reducible first | exact HB2.out | apply below_alloc | apply pw_below_drewN | apply below_drew1) | exact HB2.out)) HG9.out)
           have y0 := pw_cell_below HB9.out HX0.out
           have y1 := fun (o_ : Obj) => pw_cell_below (below_alloc (Below.refl w9.heap.size w9) o_) y0
           clear hown hgrow)
        | (refine step_append_room rfl (.tmp 52) (.tmp 59) 52 rfl 9 i0 1 Tryd.underlying52 hi0 hsz0 ?_ 0 1 1 ?hs ?_ 0 ?_ [] ?hx rfl ?hc ?h1 (Nat.le_refl _) ?sp ?_
           (case hs => first | rfl | (simp only [Act.eval, Act.put]; done) | (simp only [Act.eval, Act.put]; rfl))
           (case hx => first | rfl | (simp only [Act.eval, Act.put]; done) | (simp only [Act.eval, Act.put]; rfl))
           (case hc => intro q_ u_ hq_; exact absurd hq_ (by simp))
           (case h1 => intro u_ hu_; exact absurd hu_ (by simp))
           (case sp => intro q_ hq_; exact absurd hq_ (Nat.not_lt_zero _))
           have HA8 := Aside0.mk (Ro.reads_one (x := x.extract k x.size) (by first | (refine Ro.cell_at _ _ _ _ ?_; first | rfl | exact (World.size_alloc _ _).symm) | (refine pw_cell_below HG9.out (Ro.cell_at _ _ _ _ ?_); first | rfl | exact (World.size_alloc _ _).symm) | (refine pw_cell_below HG9.out (pw_cell_below (below_alloc (Below.refl _ _) _) (Ro.cell_at _ _ _ _ ?_)); first | rfl | exact (World.size_alloc _ _).symm)))
           rw [Ro.setCells_nil]
           have HA7 := Aside0.mk (Reads.below HA9.out (by repeat (first | (with_reducible first | exact Below.refl _ _ | apply below_alloc | apply pw_below_drewN | apply below_drew1) | exact Below.refl _ _)))
           have HB8 := Aside0.mk (by repeat (first | (with_reducible first | exact HB9.out | apply below_alloc | apply pw_below_drewN | apply below_drew1) | exact HB9.out))
           have z0 := pw_cell_below HB8.out HX0.out))
        all_goals
          go_wp2
          go_ret2
          refine ⟨_, _, rfl, ?_, ?_, below_step HB.out ?_⟩
          · first | exact Reads.below HA9.out (by repeat (first | (with_reducible first | exact Below.refl _ _ | apply below_alloc | apply pw_below_drewN | apply below_drew1) | exact Below.refl _ _)) | (rw [HXE.out]; exact Reads.below HA9.out (by repeat (first | (with_reducible first | exact Below.refl _ _ | apply below_alloc | apply pw_below_drewN | apply below_drew1) | exact Below.refl _ _)))
          · rw [HDR.out]; first | (refine Ro.reads_one (c := 0) ?_; (first | (refine Ro.cell_at _ _ _ _ ?_; first | rfl | exact (World.size_alloc _ _).symm) | (refine pw_cell_below HG9.out (Ro.cell_at _ _ _ _ ?_); first | rfl | exact (World.size_alloc _ _).symm) | (refine pw_cell_below HG9.out (pw_cell_below (below_alloc (Below.refl _ _) _) (Ro.cell_at _ _ _ _ ?_)); first | rfl | exact (World.size_alloc _ _).symm))) | (rw [HXE.out]; refine Ro.reads_one (c := 0) ?_; (first | (refine Ro.cell_at _ _ _ _ ?_; first | rfl | exact (World.size_alloc _ _).symm) | (refine pw_cell_below HG9.out (Ro.cell_at _ _ _ _ ?_); first | rfl | exact (World.size_alloc _ _).symm) | (refine pw_cell_below HG9.out (pw_cell_below (below_alloc (Below.refl _ _) _) (Ro.cell_at _ _ _ _ ?_)); first | rfl | exact (World.size_alloc _ _).symm)))
          · (repeat (first | (with_reducible first | exact HB9.out | apply below_alloc | apply pw_below_drewN | apply below_drew1) | exact HB9.out))
      · have hcj := eq_false hcc
        go_region_held3 (fun w_ => w_.cell? ⟨g, 0, none⟩ = some (.slice (some ad) (j + 1) c)) (first | assumption | exact x0 | exact y0 | exact x9 _ | exact x8 _ _ | exact y1 _ | exact pw_cell_below HB8.out HX0.out | go_keep) (first
        | (refine step_append_grows rfl (.tmp 43) (.tmp 47) 52 rfl 9 i0 (.string ⟨#[]⟩) 1 16 Tryd.underlying52 hi0 hz0 hsz0 hby0 rfl ?g0 (some ad) j j olds ?hs ?hn hlo ?ho (Addr.mk ?_ 0 none) 1 1 [.string (x.extract 0 k)] ?hx rfl ?hc ?h1 ?full ?b1 ?b2 ?_
           (case hx => first | rfl | (simp only [Act.eval, Act.put]; done) | (simp only [Act.eval, Act.put]; rfl))
           (case g0 => exact Nat.one_pos)
           (case hn => intro h_; cases h_)
           (case hs => first | rfl | (simp only [Act.eval, Act.put]; done) | (simp only [Act.eval, Act.put]; rfl))
           (case ho => intro b_ e_ q_ u_ hq_; cases e_; exact pw_cell_below (by repeat (first | (with_reducible first | exact HB2.out | apply below_alloc | apply pw_below_drewN | apply below_drew1) | exact HB2.out)) (HOLD.out q_ u_ hq_))
           (case hc => refine Ro.one_cell ?_; first | (refine Ro.cell_at _ _ _ _ ?_; first | rfl | exact (World.size_alloc _ _).symm) | (refine pw_cell_below (below_alloc (Below.refl _ _) _) (Ro.cell_at _ _ _ _ ?_); first | rfl | exact (World.size_alloc _ _).symm))
           (case h1 => intro u_ hu_; rw [List.mem_singleton.1 hu_]; rfl)
           (case full => exact Nat.lt_succ_self j)
           (case b1 => exact FF.out.2.2.2.2.1)
           (case b2 => exact FF.out.2.2.2.2.2)
           intro v9 w9 hown hgrow
           have HG9 := Aside0.mk (Ro.below_none hgrow)
           have HA9 : Aside0 (Reads w9 v9 (cs.take j ++ [x.extract 0 k])) := ⟨Ro.reads_own (olds := olds ++ [.string (x.extract 0 k)]) (by rw [List.map_append, HOS.out]; rfl) (by simp only [List.length_append, List.length_take, List.length_cons, List.length_nil]; omega) hown⟩
           have HB9 := Aside0.mk (below_step (by repeat (first | (with_reducible first | exact HB2.out | apply below_alloc | apply pw_below_drewN | apply below_drew1) | exact HB2.out)) HG9.out)
           have y0 := pw_cell_below HB9.out HX0.out
           have y1 := fun (o_ : Obj) => pw_cell_below (below_alloc (Below.refl w9.heap.size w9) o_) y0
           clear hown hgrow)
        | (refine step_append_room rfl (.tmp 52) (.tmp 59) 52 rfl 9 i0 1 Tryd.underlying52 hi0 hsz0 ?_ 0 1 1 ?hs ?_ 0 ?_ [] ?hx rfl ?hc ?h1 (Nat.le_refl _) ?sp ?_
           (case hs => first | rfl | (simp only [Act.eval, Act.put]; done) | (simp only [Act.eval, Act.put]; rfl))
           (case hx => first | rfl | (simp only [Act.eval, Act.put]; done) | (simp only [Act.eval, Act.put]; rfl))
           (case hc => intro q_ u_ hq_; exact absurd hq_ (by simp))
           (case h1 => intro u_ hu_; exact absurd hu_ (by simp))
           (case sp => intro q_ hq_; exact absurd hq_ (Nat.not_lt_zero _))
           have HA8 := Aside0.mk (Ro.reads_one (x := x.extract k x.size) (by first | (refine Ro.cell_at _ _ _ _ ?_; first | rfl | exact (World.size_alloc _ _).symm) | (refine pw_cell_below HG9.out (Ro.cell_at _ _ _ _ ?_); first | rfl | exact (World.size_alloc _ _).symm) | (refine pw_cell_below HG9.out (pw_cell_below (below_alloc (Below.refl _ _) _) (Ro.cell_at _ _ _ _ ?_)); first | rfl | exact (World.size_alloc _ _).symm)))
           rw [Ro.setCells_nil]
           have HA7 := Aside0.mk (Reads.below HA9.out (by repeat (first | (with_reducible first | exact Below.refl _ _ | apply below_alloc | apply pw_below_drewN | apply below_drew1) | exact Below.refl _ _)))
           have HB8 := Aside0.mk (by repeat (first | (with_reducible first | exact HB9.out | apply below_alloc | apply pw_below_drewN | apply below_drew1) | exact HB9.out))
           have z0 := pw_cell_below HB8.out HX0.out))
        all_goals
          go_wp2
          go_ret2
          refine ⟨_, _, rfl, ?_, ?_, below_step HB.out ?_⟩
          · first | exact Reads.below HA9.out (by repeat (first | (with_reducible first | exact Below.refl _ _ | apply below_alloc | apply pw_below_drewN | apply below_drew1) | exact Below.refl _ _)) | (rw [HXE.out]; exact Reads.below HA9.out (by repeat (first | (with_reducible first | exact Below.refl _ _ | apply below_alloc | apply pw_below_drewN | apply below_drew1) | exact Below.refl _ _)))
          · rw [HDR.out]; first | (refine Ro.reads_one (c := 0) ?_; (first | (refine Ro.cell_at _ _ _ _ ?_; first | rfl | exact (World.size_alloc _ _).symm) | (refine pw_cell_below HG9.out (Ro.cell_at _ _ _ _ ?_); first | rfl | exact (World.size_alloc _ _).symm) | (refine pw_cell_below HG9.out (pw_cell_below (below_alloc (Below.refl _ _) _) (Ro.cell_at _ _ _ _ ?_)); first | rfl | exact (World.size_alloc _ _).symm))) | (rw [HXE.out]; refine Ro.reads_one (c := 0) ?_; (first | (refine Ro.cell_at _ _ _ _ ?_; first | rfl | exact (World.size_alloc _ _).symm) | (refine pw_cell_below HG9.out (Ro.cell_at _ _ _ _ ?_); first | rfl | exact (World.size_alloc _ _).symm) | (refine pw_cell_below HG9.out (pw_cell_below (below_alloc (Below.refl _ _) _) (Ro.cell_at _ _ _ _ ?_)); first | rfl | exact (World.size_alloc _ _).symm)))
          · (repeat (first | (with_reducible first | exact HB9.out | apply below_alloc | apply pw_below_drewN | apply below_drew1) | exact HB9.out))
end Go.Proofs.YtdnhbbgahipbdaaDoor.G
