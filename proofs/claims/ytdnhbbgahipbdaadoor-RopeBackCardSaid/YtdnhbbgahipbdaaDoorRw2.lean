/- cut and lay by their contracts. -/
import Derived.Test.YtdnhbbgahipbdaaDoorRw1
import Derived.Test.YtdnhbbgahipbdaaDoorGRopeqcut
namespace Go.Proofs.YtdnhbbgahipbdaaDoor.G
open Go.RowKit Go.Proofs.YtdnhbbgahipbdaaDoorW.PrintWords Go.Proofs.YtdnhbbgahipbdaaDoorW.PrintLast Go.Proofs.YtdnhbbgahipbdaaDoorW.PrintMore
open Go.Proofs.YtdnhbbgahipbdaaDoor.Ro (T cutN cutB layS layN findN aheadN behindN Ck)
set_option linter.unusedVariables false
set_option linter.unusedSimpArgs false
theorem Ro.cut_ev : ∀ (k : Nat) (s : ByteArray) (acc : List ByteArray), s.size ≤ k + 16 → acc.length + k < 8796093022208 → rope_cut.l0 (k + 1) s acc = some (acc ++ cutB k s)
  | 0, s, acc, h, hl => by
    unfold rope_cut.l0 cutB
    rw [if_neg (by omega), if_pos (by omega)]
  | k + 1, s, acc, h, hl => by
    unfold rope_cut.l0 cutB
    by_cases hc : 16 < s.size
    · rw [if_pos (by omega), if_pos (by omega), if_pos (by omega), if_pos (by omega), if_pos hc]
      rw [Ro.cut_ev k _ _ (by rw [ByteArray.size_extract]; omega) (by simp only [List.length_append, List.length_cons, List.length_nil]; omega)]
      simp
    · rw [if_neg (by omega), if_pos (by omega), if_neg hc]
theorem Ro.cut_any (s : ByteArray) (w : World) (hs : s.size ≤ 100000) :
    Calls Tryd.prog 22 #[.string s] w fun e w' => ∃ v, e = .returned v ∧ Kd.R Kd.string 9 w' w.heap.size (fun _ => True) v (cutN s) ∧ Below w.heap.size w w' := by
  refine rope_cut.calls (s.size + 1) s (cutN s) w ?_
  unfold rope_cut.f cutN
  rw [Ro.cut_ev s.size s [] (by omega) (by simp only [List.length_nil]; omega)]
  simp
theorem Ro.at_rows {rows : List (List ByteArray)} {w : World} {A : Option Addr} {n : Nat} (h : (Kd.slice 9 Kd.string).C w A n rows) (i : Nat) (hi : i < n) :
    ∃ ad B c, A = some ad ∧ w.cell? (ad.add i) = some (.slice B (rows.getD i []).length c) ∧ (rows.getD i []).length ≤ c ∧ Kd.C Kd.string w B (rows.getD i []).length (rows.getD i []) := by
  obtain ⟨ad, cs, e, hl, ⟨B, c, rfl, hc, hC⟩, hat⟩ := Kd.C_get h [] (i : Int) (by omega) (by omega)
  rw [Int.toNat_natCast] at hc hC hat
  refine ⟨ad, B, c, e, ?_, hc, hC⟩
  have := hat 0 _ rfl
  rw [show i * (Kd.slice 9 Kd.string).sz + 0 = i from by show i * 1 + 0 = i; omega] at this
  exact this
theorem Ro.some_size {x : ByteArray} (h : ¬ x.size = 0) : x.toList.isEmpty = false := by
  rw [ByteArray.toList_eq]
  cases hl : x.data.toList with
  | nil => exact absurd (by rw [← Ro.byt_size, Ro.byt, hl]; rfl) h
  | cons _ _ => rfl
set_option maxHeartbeats 8000000 in
set_option maxRecDepth 100000 in
theorem Ro.lay_any (g : Nat) (v0 : Value) (n : Int) (rows : List (List ByteArray)) (A : Option Addr) (c : Nat) (w : World) (hg : w.heap[g]? = some (.cells #[v0, .int .i64 n] 54 (0, 0)))
    (hR : (Kd.slice 9 Kd.string).C w A rows.length rows) (hl : rows.flatten.length ≤ 100000) (hn : rows.length ≤ 1000) (hs : ∀ c ∈ rows.flatten, c.size ≤ 16) :
    Calls Tryd.prog 21 #[.pointer (some ⟨g, 0, none⟩), .slice A rows.length c] w fun e w' => e = .returned (.tuple #[]) ∧ IsRc w' g (layN rows.flatten) n ∧ Below g w w' := by
  have HG := Aside0.mk hg
  have HB := Aside0.mk (Below.refl w.heap.size w)
  have HR := Aside0.mk hR
  have HS := Aside0.mk hs
  obtain ⟨m, hm⟩ : ∃ m, m = rows.length := ⟨_, rfl⟩
  have HM := Aside0.mk hm
  obtain ⟨F, hF⟩ : ∃ F, layN rows.flatten = F := ⟨_, rfl⟩
  have HF : Aside0 ((rows.drop 0).flatten.foldl layS [] = F) := ⟨hF⟩
  have HL : Aside0 ((rows.drop 0).flatten.length ≤ 100000) := ⟨hl⟩
  rw [hF]
  rw [← hm] at hn ⊢
  clear hg hR hm hF hl hs
  go_enter Tryd.func21, Tryd.ntmps21
  go_wp2
  go_loopg [4, 12] (m + 1) (fun kq v4 v12 wr => ∃ (i : Nat) (out : List ByteArray), v12 = .int .i64 (i : Int) ∧ Aside0 ((rows.drop i).flatten.foldl layS out = F) ∧ Aside0 (i ≤ m ∧ m - i < kq) ∧ Aside0 (out.length + (rows.drop i).flatten.length ≤ 100000) ∧ Aside0 (Ck out) ∧ Aside0 (Kd.R Kd.string 9 wr w.heap.size (fun _ => True) v4 out) ∧ Aside0 (Below w.heap.size w wr))
  case atStart => exact ⟨0, [], rfl, HF, ⟨Nat.zero_le _, by omega⟩, ⟨by have := HL.out; simp only [List.length_nil]; omega⟩, ⟨Ro.Ck_nil⟩, ⟨Kd.R_nil _ _ _ _ _⟩, ⟨by repeat (first | (with_reducible first | exact HB.out | apply below_alloc | apply pw_below_drewN | apply below_drew1) | exact HB.out)⟩⟩
  case round =>
    clear HF HB HL
    obtain ⟨i, out, rfl, HF, HI, HL, HCK, HO, HB⟩ := hrel
    obtain ⟨i0, i1⟩ := HI.out
    cases gk with
    | zero => omega
    | succ k1 =>
      by_cases hi : i < m
      · have b1 : decide ((i : Int) < (m : Int)) = true := decide_eq_true (by omega)
        have b2 : decide (i < m) = true := decide_eq_true hi
        have p1 := eq_true (show (0 : Int) ≤ (i : Int) by omega)
        have q1 := eq_true (show (i : Int) < (m : Int) by omega)
        have hh : i < rows.length := by have := HM.out; omega
        obtain ⟨ad, B, cB, rfl, hx, hcB, hC⟩ := Ro.at_rows HR.out i hh
        replace hx := pw_cell_below HB.out hx
        have hd : rows.drop i = rows.getD i [] :: rows.drop (i + 1) := by
          rw [List.drop_eq_getElem_cons hh, List.getD_eq_getElem?_getD, List.getElem?_eq_getElem hh]; rfl
        obtain ⟨row, hrow⟩ : ∃ row, rows.getD i [] = row := ⟨_, rfl⟩
        rw [hrow] at hd hx hcB hC
        obtain ⟨rest, hrest⟩ : ∃ rest, (rows.drop (i + 1)).flatten = rest := ⟨_, rfl⟩
        have hf := HF.out
        have hll := HL.out
        rw [hd, List.flatten_cons, hrest] at hf hll
        have HF1 : Aside0 ((row.drop 0 ++ rest).foldl layS out = F) := ⟨hf⟩
        have HL1 : Aside0 (out.length + (row.drop 0 ++ rest).length ≤ 100000) := ⟨hll⟩
        have HRS := Aside0.mk hrest
        have HC1 := Aside0.mk hC
        have HS1 : Aside0 (∀ c ∈ row, c.size ≤ 16) := ⟨fun c hc => HS.out c (List.mem_flatten.2 ⟨row, by rw [← hrow, List.getD_eq_getElem?_getD, List.getElem?_eq_getElem hh]; exact List.getElem_mem hh, hc⟩)⟩
        obtain ⟨rl, hrl⟩ : ∃ rl, rl = row.length := ⟨_, rfl⟩
        have hr5 : rl ≤ 100000 := by rw [hrl]; simp only [List.length_append] at hll; omega
        have HRL := Aside0.mk hrl
        rw [← hrl] at hx
        clear hf hll hd hrow hrest HF HL hh hcB hC hrl
        go_upto_region 5 with (fail)
        go_loopg [4, 18] (rl + 1) (fun kq3 v4 v18 wr3 => ∃ (j : Nat) (ou : List ByteArray), v18 = .int .i64 (j : Int) ∧ Aside0 ((row.drop j ++ rest).foldl layS ou = F) ∧ Aside0 (j ≤ rl ∧ rl - j < kq3) ∧ Aside0 (ou.length + (row.drop j ++ rest).length ≤ 100000) ∧ Aside0 (Ck ou) ∧ Aside0 (Kd.R Kd.string 9 wr3 w.heap.size (fun _ => True) v4 ou) ∧ Aside0 (Below w.heap.size w wr3))
        case atStart => exact ⟨0, out, rfl, HF1, ⟨Nat.zero_le _, by omega⟩, HL1, HCK, HO, HB⟩
        case round =>
          clear HF1 HL1 HCK HO HB
          obtain ⟨j, ou, rfl, HF, HJ, HL, HCK, HO, HB⟩ := hrel
          obtain ⟨j0, j1⟩ := HJ.out
          cases gk with
          | zero => omega
          | succ k3 =>
            by_cases hj : j < rl
            · have b3 : decide ((j : Int) < (rl : Int)) = true := decide_eq_true (by omega)
              have b4 : decide (j < rl) = true := decide_eq_true hj
              have p2 := eq_true (show (0 : Int) ≤ (j : Int) by omega)
              have q2 := eq_true (show (j : Int) < (rl : Int) by omega)
              have hh2 : j < row.length := by have := HRL.out; omega
              obtain ⟨ad2, rfl, hx2⟩ := Kd.at_string (Kd.C_below HC1.out HB.out) (j : Int) (by omega) (by have := HRL.out; omega)
              rw [Ro.rd, Int.toNat_natCast] at hx2
              have hd2 : row.drop j = row.getD j ByteArray.empty :: row.drop (j + 1) := by
                rw [List.drop_eq_getElem_cons hh2, List.getD_eq_getElem?_getD, List.getElem?_eq_getElem hh2]; rfl
              obtain ⟨x, hxx⟩ : ∃ x, row.getD j ByteArray.empty = x := ⟨_, rfl⟩
              rw [hxx] at hd2 hx2
              obtain ⟨tl, htl⟩ : ∃ tl, row.drop (j + 1) ++ rest = tl := ⟨_, rfl⟩
              have HTL := Aside0.mk htl
              have xs5 : x.size ≤ 16 := HS1.out x (by rw [← hxx, List.getD_eq_getElem?_getD, List.getElem?_eq_getElem hh2]; exact List.getElem_mem hh2)
              have HCK2 : Aside0 (Ck (layS ou x)) := ⟨Ro.Ck_layS HCK.out xs5⟩
              have hf := HF.out
              have hll := HL.out
              rw [hd2, List.cons_append, htl] at hf hll
              simp only [List.foldl_cons, List.length_cons] at hf hll
              obtain ⟨z, hzz⟩ : ∃ z, layS ou x = z := ⟨_, rfl⟩
              rw [hzz] at hf
              have HFF := Aside0.mk hf
              have HZ := Aside0.mk hzz
              have HLL := Aside0.mk hll
              clear hf hll hd2 hxx htl HF HL hh2 hzz
              obtain ⟨Ao, co, rfl⟩ := Kd.R_slice HO.out
              have hp5 : ou.length ≤ 100000 := by have := HLL.out; omega
              by_cases hz : x.size = 0
              · obtain rfl : x = ByteArray.empty := by
                  apply ByteArray.ext; exact Array.eq_empty_of_size_eq_zero hz
                have hf := HZ.out
                unfold layS at hf
                rw [if_pos hz] at hf
                have HF3 : Aside0 (tl.foldl layS ou = F) := ⟨by rw [hf]; exact HFF.out⟩
                clear hf HFF hz
                go_wp2
                go_roundg k3
                case measure => omega
                case rel => exact ⟨j + 1, ou, by first | rfl | exact congrArg (Value.int .i64) (by omega), ⟨by rw [HTL.out]; exact HF3.out⟩, ⟨by omega, by omega⟩, ⟨by rw [HTL.out]; have := HLL.out; omega⟩, HCK, ⟨by (with_reducible repeat (first | apply Kd.R_alloc | apply Kd.R_drewN | apply Kd.R_drew)); exact HO.out⟩, ⟨by repeat (first | (with_reducible first | exact HB.out | apply below_alloc | apply pw_below_drewN | apply below_drew1) | exact HB.out)⟩⟩
              · have e2 := Ro.some_size hz
                by_cases hk : 0 < ou.length ∧ (ou.getD (ou.length - 1) ByteArray.empty).size + x.size ≤ 16
                · obtain ⟨gr, cap, e9, hgr, hgl, cells, hcells⟩ := Kd.R_form HO.out hk.1
                  injection e9 with e9 e10 e11
                  subst e9 e11
                  clear e10
                  obtain ⟨l, hle⟩ : ∃ l, ou.getD (ou.length - 1) ByteArray.empty = l := ⟨_, rfl⟩
                  obtain ⟨y0, y1⟩ := Kd.R_cell ByteArray.empty HO.out ((ou.length : Int) - 1) (by omega) (by omega)
                  have et : ((ou.length : Int) - 1).toNat = ou.length - 1 := by omega
                  have er : rdOf ByteArray.empty ou ((ou.length : Int) - 1) = l := by rw [← hle]; simp [rdOf, et]
                  rw [et] at y0 y1
                  rw [er] at y0
                  have hf := HZ.out
                  unfold layS at hf
                  rw [if_neg hz, if_pos hk] at hf
                  have hk2 := hk.2
                  have hk1 := hk.1
                  rw [hle] at hk2 hf
                  have b5 : decide ((0 : Int) ≤ (ou.length : Int) - 1) = true := decide_eq_true (by omega)
                  have p3 := eq_true (show (0 : Int) ≤ (ou.length : Int) - 1 by omega)
                  have q3 := eq_true (show (ou.length : Int) - 1 < (ou.length : Int) by omega)
                  have p4 := eq_true (show (1 : Int) ≤ (ou.length : Int) by omega)
                  have b6 : decide ((l.size : Int) + (x.size : Int) ≤ 16) = true := decide_eq_true (by omega)
                  have HF3 : Aside0 (tl.foldl layS (ou.set (ou.length - 1) (l ++ x)) = F) := ⟨by rw [hf]; exact HFF.out⟩
                  have HCK3 : Aside0 (Ck (ou.set (ou.length - 1) (l ++ x))) := ⟨by rw [hf, ← HZ.out]; exact HCK2.out⟩
                  have HO4 := (Kd.R_put HO.out ((ou.length : Int) - 1) (l ++ x)).1
                  rw [et] at HO4
                  have HO5 := Aside0.mk HO4
                  clear HO4
                  have HK := Aside0.mk hk
                  have HLE := Aside0.mk hle
                  have HGR := Aside0.mk hgr
                  have ls5 : l.size ≤ 16 := by omega
                  clear hf HFF hz hcells hle er et hk hk2 hgr
                  go_wp2
                  go_roundg k3
                  case measure => omega
                  case rel => exact ⟨j + 1, ou.set (ou.length - 1) (l ++ x), by first | rfl | exact congrArg (Value.int .i64) (by omega), ⟨by rw [HTL.out]; exact HF3.out⟩, ⟨by omega, by omega⟩, ⟨by rw [HTL.out, List.length_set]; have := HLL.out; omega⟩, HCK3, ⟨HO5.out⟩, ⟨by refine below_set ?_ HGR.out; repeat (first | (with_reducible first | exact HB.out | apply below_alloc | apply pw_below_drewN | apply below_drew1) | exact HB.out)⟩⟩
                · have hf := HZ.out
                  unfold layS at hf
                  rw [if_neg hz, if_neg hk] at hf
                  have HF3 : Aside0 (tl.foldl layS (ou ++ [x]) = F) := ⟨by rw [hf]; exact HFF.out⟩
                  have HCK3 : Aside0 (Ck (ou ++ [x])) := ⟨by rw [hf, ← HZ.out]; exact HCK2.out⟩
                  clear hf
                  by_cases hk1 : 0 < ou.length
                  · obtain ⟨gr, cap, e9, hgr, hgl, cells, hcells⟩ := Kd.R_form HO.out hk1
                    injection e9 with e9 e10 e11
                    subst e9 e11
                    clear e10
                    obtain ⟨l, hle⟩ : ∃ l, ou.getD (ou.length - 1) ByteArray.empty = l := ⟨_, rfl⟩
                    obtain ⟨y0, y1⟩ := Kd.R_cell ByteArray.empty HO.out ((ou.length : Int) - 1) (by omega) (by omega)
                    have et : ((ou.length : Int) - 1).toNat = ou.length - 1 := by omega
                    have er : rdOf ByteArray.empty ou ((ou.length : Int) - 1) = l := by rw [← hle]; simp [rdOf, et]
                    rw [et] at y0 y1
                    rw [er] at y0
                    have ls5 : l.size ≤ 16 := (HCK.out.1 l (by rw [← hle, List.getD_eq_getElem?_getD, List.getElem?_eq_getElem (show ou.length - 1 < ou.length by omega)]; exact List.getElem_mem _)).2
                    have hk2 : ¬ (l.size + x.size ≤ 16) := fun e => hk ⟨hk1, by rw [hle]; exact e⟩
                    have b5 : decide ((0 : Int) ≤ (ou.length : Int) - 1) = true := decide_eq_true (by omega)
                    have p3 := eq_true (show (0 : Int) ≤ (ou.length : Int) - 1 by omega)
                    have q3 := eq_true (show (ou.length : Int) - 1 < (ou.length : Int) by omega)
                    have p4 := eq_true (show (1 : Int) ≤ (ou.length : Int) by omega)
                    have b6 : decide ((l.size : Int) + (x.size : Int) ≤ 16) = false := decide_eq_false (by omega)
                    have HGR := Aside0.mk hgr
                    clear hcells hle er et hk2 hgr HFF
                    go_wp2_with (first | ((with_reducible refine gate_builtin (b := .append) (xs := #[.tmp 25, .tmp 27]) rfl ?_); at_builtin; refine Kd.R_append Kd.string (w0 := w) w.heap.size rfl (.tmp 25) (.tmp 27) 52 9 (.string ⟨#[]⟩) 16 rfl Tryd.underlying52 info9 rfl (by decide) (by omega) _ ou x [.string x] (fun _ => True) (fun _ => False) rfl rfl ?aP (fun _ hk => hk.elim) ?aF ?aO ?aB ?aS ?aL ?_; (case aP => exact rfl); (case aB => exact (by repeat (first | (with_reducible first | exact HB.out | apply below_alloc | apply pw_below_drewN | apply below_drew1) | exact HB.out))); (case aF => exact (fun _ _ => trivial)); (case aO => exact (by (with_reducible repeat (first | apply Kd.R_alloc | apply Kd.R_drewN | apply Kd.R_drew)); exact HO.out)); (case aS => exact (below_size (by repeat (first | (with_reducible first | exact HB.out | apply below_alloc | apply pw_below_drewN | apply below_drew1) | exact HB.out)))); (case aL => have := HLL.out; omega); intro v9 w9 ho hb hg hat; have n0_ := Aside0.mk (hb); have n1_ := Aside0.mk (ho); clear HB; clear HO; have HB := n0_; have HOX := n1_; clear n0_ n1_; clear ho hb hg hat))
                    go_roundg k3
                    case measure => omega
                    case rel => exact ⟨j + 1, ou ++ [x], by first | rfl | exact congrArg (Value.int .i64) (by omega), ⟨by rw [HTL.out]; exact HF3.out⟩, ⟨by omega, by omega⟩, ⟨by rw [HTL.out]; have := HLL.out; simp only [List.length_append, List.length_cons, List.length_nil]; omega⟩, HCK3, ⟨by (with_reducible repeat (first | apply Kd.R_alloc | apply Kd.R_drewN | apply Kd.R_drew)); exact HOX.out⟩, ⟨by repeat (first | (with_reducible first | exact HB.out | apply below_alloc | apply pw_below_drewN | apply below_drew1) | exact HB.out)⟩⟩
                  · have b5 : decide ((0 : Int) ≤ (ou.length : Int) - 1) = false := decide_eq_false (by omega)
                    have p3 := eq_false (show ¬ (0 : Int) ≤ (ou.length : Int) - 1 by omega)
                    have p4 := eq_false (show ¬ (1 : Int) ≤ (ou.length : Int) by omega)
                    clear HFF
                    go_wp2_with (first | ((with_reducible refine gate_builtin (b := .append) (xs := #[.tmp 25, .tmp 27]) rfl ?_); at_builtin; refine Kd.R_append Kd.string (w0 := w) w.heap.size rfl (.tmp 25) (.tmp 27) 52 9 (.string ⟨#[]⟩) 16 rfl Tryd.underlying52 info9 rfl (by decide) (by omega) _ ou x [.string x] (fun _ => True) (fun _ => False) rfl rfl ?aP (fun _ hk => hk.elim) ?aF ?aO ?aB ?aS ?aL ?_; (case aP => exact rfl); (case aB => exact (by repeat (first | (with_reducible first | exact HB.out | apply below_alloc | apply pw_below_drewN | apply below_drew1) | exact HB.out))); (case aF => exact (fun _ _ => trivial)); (case aO => exact (by (with_reducible repeat (first | apply Kd.R_alloc | apply Kd.R_drewN | apply Kd.R_drew)); exact HO.out)); (case aS => exact (below_size (by repeat (first | (with_reducible first | exact HB.out | apply below_alloc | apply pw_below_drewN | apply below_drew1) | exact HB.out)))); (case aL => have := HLL.out; omega); intro v9 w9 ho hb hg hat; have n0_ := Aside0.mk (hb); have n1_ := Aside0.mk (ho); clear HB; clear HO; have HB := n0_; have HOX := n1_; clear n0_ n1_; clear ho hb hg hat))
                    go_roundg k3
                    case measure => omega
                    case rel => exact ⟨j + 1, ou ++ [x], by first | rfl | exact congrArg (Value.int .i64) (by omega), ⟨by rw [HTL.out]; exact HF3.out⟩, ⟨by omega, by omega⟩, ⟨by rw [HTL.out]; have := HLL.out; simp only [List.length_append, List.length_cons, List.length_nil] at this ⊢; omega⟩, HCK3, ⟨by (with_reducible repeat (first | apply Kd.R_alloc | apply Kd.R_drewN | apply Kd.R_drew)); exact HOX.out⟩, ⟨by repeat (first | (with_reducible first | exact HB.out | apply below_alloc | apply pw_below_drewN | apply below_drew1) | exact HB.out)⟩⟩
            · have b3 : decide ((j : Int) < (rl : Int)) = false := decide_eq_false (by omega)
              have b4 : decide (j < rl) = false := decide_eq_false hj
              have hf := HF.out
              have hll := HL.out
              rw [List.drop_eq_nil_of_le (by have := HRL.out; omega), List.nil_append] at hf hll
              have HF3 := Aside0.mk hf
              have HL3 := Aside0.mk hll
              clear hf hll HF HL
              go_wp2
              go_roundg k1
              case measure => omega
              case rel => exact ⟨i + 1, ou, by first | rfl | exact congrArg (Value.int .i64) (by omega), ⟨by rw [HRS.out]; exact HF3.out⟩, ⟨by omega, by omega⟩, ⟨by rw [HRS.out]; exact HL3.out⟩, HCK, ⟨by (with_reducible repeat (first | apply Kd.R_alloc | apply Kd.R_drewN | apply Kd.R_drew)); exact HO.out⟩, ⟨by repeat (first | (with_reducible first | exact HB.out | apply below_alloc | apply pw_below_drewN | apply below_drew1) | exact HB.out)⟩⟩
      · have b1 : decide ((i : Int) < (m : Int)) = false := decide_eq_false (by omega)
        have b2 : decide (i < m) = false := decide_eq_false hi
        have hf := HF.out
        rw [List.drop_eq_nil_of_le (by have := HM.out; omega)] at hf
        have HFF : Aside0 (out = F) := ⟨hf⟩
        obtain ⟨x0, x1, x2, x3⟩ := Ro.two (blk_below HG.out HB.out)
        clear hf HF
        obtain ⟨Ao, co, rfl⟩ := Kd.R_slice HO.out
        go_wp2
        go_end0
        refine ⟨rfl, ⟨.slice Ao out.length co, (blk_set (blk_below HG.out HB.out) 0 _).trans rfl, ?_⟩, (Below.mono HB.out (Nat.le_of_lt (blk_lt HG.out))).setCell (p := ⟨g, 0, none⟩) (Nat.le_refl _) _⟩
        rw [← HFF.out]
        exact Kd.R_lower (Kd.R_set HO.out (blk_below HG.out HB.out) (by decide) 0 _) (Nat.zero_le _)
end Go.Proofs.YtdnhbbgahipbdaaDoor.G
