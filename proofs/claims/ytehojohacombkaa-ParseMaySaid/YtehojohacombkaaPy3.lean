/- parse.May by its contract. (Written by mkpy3.py of this session.) -/
import Derived.Test.YtehojohacombkaaPq
namespace Go.Proofs.Ytehojohacombkaa.G
open Go.RowKit Go.Maps Go.WideShapes Go.Proofs.YtehojohacombkaaW.PrintWords Go.Proofs.YtehojohacombkaaW.PrintLast Go.Proofs.YtehojohacombkaaW.PrintMore
open Go.Proofs.Ytehojohacombkaa.Ps (Nd rdn leafB rootB aloneB firstN idxN rdb kidsN bfsN mayT idxM)
set_option linter.unusedVariables false
set_option linter.unusedSimpArgs false
set_option maxHeartbeats 16000000 in
set_option maxRecDepth 100000 in
theorem Ps.may_any (root next size : Int) (A : Option Addr) (c : Nat) (ns : List Nd) (w : World) (hC : Kd.C k34 w A ns.length ns) (hwf : ∀ x ∈ ns, (Lit.int .i64 x.f0).wf = true) (hwk : ∀ x ∈ ns, ∀ k ∈ x.f4, (Lit.int .i64 k).wf = true) (hkb : ∀ x ∈ ns, x.f4.length < 4611686018427387904) :
    Calls Try.prog 21 #[.agg #[.int .i64 root, .int .i64 next, .slice A ns.length c], .int .i64 size] w fun e w' => e = .returned (.bool (mayT root next size ns)) ∧ Below w.heap.size w w' := by
  obtain ⟨R, hR⟩ : ∃ R, mayT root next size ns = R := ⟨_, rfl⟩
  rw [hR]
  unfold Go.Proofs.Ytehojohacombkaa.Ps.mayT at hR
  obtain ⟨n, hn⟩ : ∃ n, n = ns.length := ⟨_, rfl⟩
  rw [← hn] at hC hR ⊢
  have HC := Aside0.mk hC
  have HN := Aside0.mk hn
  have HW := Aside0.mk hwf
  have HWK := Aside0.mk hwk
  have HKB0 := Aside0.mk hkb
  clear hC hn hwf hwk hkb
  by_cases p1 : (n : Int) < 1
  · have b1 : decide ((n : Int) < 1) = true := decide_eq_true p1
    rw [if_pos (by omega : n < 1 ∨ 2048 < n ∨ next < 0 ∨ 16777216 < next ∨ size < 0 ∨ 4096 < size)] at hR
    subst hR
    clear p1
    go_enter Try.func21, Try.ntmps21
    go_wp2_with (first | ((with_reducible refine gate_dst (N := 2) rfl ?_); refine box_event ?hg (N := 2) ?hd (cs := #[.int .i64 root, .int .i64 next, .slice A n c]) (t := 28) ?hr ?_; (case hd => rfl); (case hg => rfl); (case hr => first | (go_simp; done) | (go_simp; rfl)); intro bt hgr w_ hbox hb; have HT : Aside0 (TreeIn w w_ bt root next A n c ns) := ⟨⟨hbox, HC.out, hb⟩⟩; obtain ⟨x0, x1, x2⟩ := HT.out.cells; clear hbox hb hgr))
    go_ret
    exact ⟨rfl, HT.out.b⟩
  have b1 : decide ((n : Int) < 1) = false := decide_eq_false p1
  by_cases p2 : 2048 < (n : Int)
  · have b2 : decide (2048 < (n : Int)) = true := decide_eq_true p2
    rw [if_pos (by omega : n < 1 ∨ 2048 < n ∨ next < 0 ∨ 16777216 < next ∨ size < 0 ∨ 4096 < size)] at hR
    subst hR
    clear p2
    go_enter Try.func21, Try.ntmps21
    go_wp2_with (first | ((with_reducible refine gate_dst (N := 2) rfl ?_); refine box_event ?hg (N := 2) ?hd (cs := #[.int .i64 root, .int .i64 next, .slice A n c]) (t := 28) ?hr ?_; (case hd => rfl); (case hg => rfl); (case hr => first | (go_simp; done) | (go_simp; rfl)); intro bt hgr w_ hbox hb; have HT : Aside0 (TreeIn w w_ bt root next A n c ns) := ⟨⟨hbox, HC.out, hb⟩⟩; obtain ⟨x0, x1, x2⟩ := HT.out.cells; clear hbox hb hgr))
    go_ret
    exact ⟨rfl, HT.out.b⟩
  have b2 : decide (2048 < (n : Int)) = false := decide_eq_false p2
  by_cases p3 : next < 0
  · have b3 : decide (next < 0) = true := decide_eq_true p3
    rw [if_pos (by omega : n < 1 ∨ 2048 < n ∨ next < 0 ∨ 16777216 < next ∨ size < 0 ∨ 4096 < size)] at hR
    subst hR
    clear p3
    go_enter Try.func21, Try.ntmps21
    go_wp2_with (first | ((with_reducible refine gate_dst (N := 2) rfl ?_); refine box_event ?hg (N := 2) ?hd (cs := #[.int .i64 root, .int .i64 next, .slice A n c]) (t := 28) ?hr ?_; (case hd => rfl); (case hg => rfl); (case hr => first | (go_simp; done) | (go_simp; rfl)); intro bt hgr w_ hbox hb; have HT : Aside0 (TreeIn w w_ bt root next A n c ns) := ⟨⟨hbox, HC.out, hb⟩⟩; obtain ⟨x0, x1, x2⟩ := HT.out.cells; clear hbox hb hgr))
    go_ret
    exact ⟨rfl, HT.out.b⟩
  have b3 : decide (next < 0) = false := decide_eq_false p3
  by_cases p4 : 16777216 < next
  · have b4 : decide (16777216 < next) = true := decide_eq_true p4
    rw [if_pos (by omega : n < 1 ∨ 2048 < n ∨ next < 0 ∨ 16777216 < next ∨ size < 0 ∨ 4096 < size)] at hR
    subst hR
    clear p4
    go_enter Try.func21, Try.ntmps21
    go_wp2_with (first | ((with_reducible refine gate_dst (N := 2) rfl ?_); refine box_event ?hg (N := 2) ?hd (cs := #[.int .i64 root, .int .i64 next, .slice A n c]) (t := 28) ?hr ?_; (case hd => rfl); (case hg => rfl); (case hr => first | (go_simp; done) | (go_simp; rfl)); intro bt hgr w_ hbox hb; have HT : Aside0 (TreeIn w w_ bt root next A n c ns) := ⟨⟨hbox, HC.out, hb⟩⟩; obtain ⟨x0, x1, x2⟩ := HT.out.cells; clear hbox hb hgr))
    go_ret
    exact ⟨rfl, HT.out.b⟩
  have b4 : decide (16777216 < next) = false := decide_eq_false p4
  by_cases p5 : size < 0
  · have b5 : decide (size < 0) = true := decide_eq_true p5
    rw [if_pos (by omega : n < 1 ∨ 2048 < n ∨ next < 0 ∨ 16777216 < next ∨ size < 0 ∨ 4096 < size)] at hR
    subst hR
    clear p5
    go_enter Try.func21, Try.ntmps21
    go_wp2_with (first | ((with_reducible refine gate_dst (N := 2) rfl ?_); refine box_event ?hg (N := 2) ?hd (cs := #[.int .i64 root, .int .i64 next, .slice A n c]) (t := 28) ?hr ?_; (case hd => rfl); (case hg => rfl); (case hr => first | (go_simp; done) | (go_simp; rfl)); intro bt hgr w_ hbox hb; have HT : Aside0 (TreeIn w w_ bt root next A n c ns) := ⟨⟨hbox, HC.out, hb⟩⟩; obtain ⟨x0, x1, x2⟩ := HT.out.cells; clear hbox hb hgr))
    go_ret
    exact ⟨rfl, HT.out.b⟩
  have b5 : decide (size < 0) = false := decide_eq_false p5
  by_cases p6 : 4096 < size
  · have b6 : decide (4096 < size) = true := decide_eq_true p6
    rw [if_pos (by omega : n < 1 ∨ 2048 < n ∨ next < 0 ∨ 16777216 < next ∨ size < 0 ∨ 4096 < size)] at hR
    subst hR
    clear p6
    go_enter Try.func21, Try.ntmps21
    go_wp2_with (first | ((with_reducible refine gate_dst (N := 2) rfl ?_); refine box_event ?hg (N := 2) ?hd (cs := #[.int .i64 root, .int .i64 next, .slice A n c]) (t := 28) ?hr ?_; (case hd => rfl); (case hg => rfl); (case hr => first | (go_simp; done) | (go_simp; rfl)); intro bt hgr w_ hbox hb; have HT : Aside0 (TreeIn w w_ bt root next A n c ns) := ⟨⟨hbox, HC.out, hb⟩⟩; obtain ⟨x0, x1, x2⟩ := HT.out.cells; clear hbox hb hgr))
    go_ret
    exact ⟨rfl, HT.out.b⟩
  have b6 : decide (4096 < size) = false := decide_eq_false p6
  rw [if_neg (by omega)] at hR
  have HNB : Aside0 (n ≤ 2048) := ⟨by omega⟩
  clear p1 p2 p3 p4 p5 p6
  go_enter Try.func21, Try.ntmps21
  go_upto_region 3 with (first | ((with_reducible refine gate_dst (N := 2) rfl ?_); refine box_event ?hg (N := 2) ?hd (cs := #[.int .i64 root, .int .i64 next, .slice A n c]) (t := 28) ?hr ?_; (case hd => rfl); (case hg => rfl); (case hr => first | (go_simp; done) | (go_simp; rfl)); intro bt hgr w_ hbox hb; have HT : Aside0 (TreeIn w w_ bt root next A n c ns) := ⟨⟨hbox, HC.out, hb⟩⟩; obtain ⟨x0, x1, x2⟩ := HT.out.cells; clear hbox hb hgr))
  clear b1 b2 b3 b4 b5 b6
  go_upto_region 4 with (first | (go_at_call 44; (with_reducible refine (Ps.index_at bt root next A n c ns w _ HT.out HN.out HNB.out HW.out).mono ?_); rintro e w9 ⟨bm, rfl, hm_, hg_, hb_⟩; have t_ := Aside0.mk (HT.out.below hb_); have HM := Aside0.mk hm_; clear HT x0 x1 x2 hm_ hg_ hb_; have HT := t_; clear t_; obtain ⟨x0, x1, x2⟩ := HT.out.cells))
  go_upto_block 0 with (fail)
  obtain ⟨F, hF⟩ : ∃ F, firstN root next size ns 0 (-1) (-1) = F := ⟨_, rfl⟩
  rw [hF] at hR
  have HF := Aside0.mk hF
  have HR := Aside0.mk hR
  clear hF hR
  go_cut [6] (fun v6 wc => ∃ (ri : Int), v6 = .int .i64 ri ∧ Aside0 (F = some ri) ∧ Aside0 (-1 ≤ ri ∧ ri < (n : Int)) ∧ Aside0 (TreeIn w wc bt root next A n c ns) ∧ Aside0 (OwnsIdx wc bm n ns))
  case first =>
    go_wp2
    clear x0 x1 x2
    go_loopg [6, 7, 52] (n + 1) (fun kq v6 v7 v52 wr => ∃ (i : Nat) (ri bf : Int), v6 = .int .i64 ri ∧ v7 = .int .i64 bf ∧ v52 = .int .i64 (i : Int) ∧ Aside0 (firstN root next size (ns.drop i) (i : Int) ri bf = F) ∧ Aside0 (i ≤ n ∧ n - i < kq) ∧ Aside0 (-1 ≤ ri ∧ ri < (i : Int)) ∧ Aside0 (TreeIn w wr bt root next A n c ns) ∧ Aside0 (OwnsIdx wr bm n ns))
    case atStart => exact ⟨0, -1, -1, rfl, rfl, rfl, HF, ⟨Nat.zero_le _, by omega⟩, ⟨by omega, by omega⟩, HT, HM⟩
    case round =>
      clear HT HM HF
      obtain ⟨i, ri, bf, rfl, rfl, rfl, HF, HI, HRI, HT, HM⟩ := hrel
      obtain ⟨x0, x1, x2⟩ := HT.out.cells
      cases gk with
      | zero => exact absurd HI.out.2 (by omega)
      | succ k1 =>
        by_cases hin : i < n
        · have hix : (i : Int) < (n : Int) := by omega
          have c0 : decide ((i : Int) < (n : Int)) = true := decide_eq_true hix
          have hf := HF.out
          have hlen : i < ns.length := by rw [← HN.out]; exact hin
          rw [List.drop_eq_getElem_cons hlen, show ns[i] = rdn ns (i : Int) from (by unfold Go.Proofs.Ytehojohacombkaa.Ps.rdn rd_T34; rw [Int.toNat_natCast, List.getD_eq_getElem?_getD, List.getElem?_eq_getElem hlen]; rfl)] at hf
          rw [Go.Proofs.Ytehojohacombkaa.Ps.firstN] at hf
          obtain ⟨ad, A4, c4, rfl, hnode, -⟩ := HT.out.node (i : Int) (by omega) hix
          rw [Int.toNat_natCast] at hnode
          obtain ⟨x, hx⟩ : ∃ x, rdn ns (i : Int) = x := ⟨_, rfl⟩
          rw [hx] at hnode hf
          have HNO := Aside0.mk hnode
          have y0 := hnode.y0
          have y1 := hnode.y1
          have q0 := eq_true (show (0 : Int) ≤ (i : Int) by omega)
          have q1 := eq_true hix
          have q2 := eq_true (show (i : Int).toNat < n by omega)
          have q3 := eq_true hin
          have wi : IntKind.i64.wrap ((i : Int) + 1) = (((i + 1 : Nat)) : Int) := by rw [i64_w]; have := HNB.out; unfold wrap64; omega
          have HII : Aside0 (i < n ∧ n - i < k1 + 1) := ⟨hin, HI.out.2⟩
          clear hnode hlen hx hix hin HI HF
          cases hB : aloneB root next size x bf with
          | false =>
            rw [hB] at hf
            have hf2 : none = F := hf
            have HB0 := Aside0.mk hB
            clear hB hf
            subst hf2
            have hr : false = R := HR.out
            subst hr
            go_wp2_with (first | (go_at_call 45; (with_reducible refine (Ps.alone_any bt root next size bf (some ad) n c _ x A4 c4 _ HNO.out).mono ?_); rw [HB0.out]; rintro e w9 ⟨rfl, hd_⟩; have hb_ : Below wr.heap.size wr w9 := (by obtain ⟨n_, rfl⟩ := hd_; exact pw_below_drewN (Below.refl _ _) n_); have t_ := Aside0.mk (HT.out.below hb_); have m_ := Aside0.mk (HM.out.below hb_); have z0_ := pw_cell_below hb_ y0; have z1_ := pw_cell_below hb_ y1; clear HT HM HNO y0 y1 x0 x1 x2 hd_ hb_; have HT := t_; have HM := m_; have y0 := z0_; have y1 := z1_; clear t_ m_ z0_ z1_; obtain ⟨x0, x1, x2⟩ := HT.out.cells))
            go_ret
            exact ⟨rfl, HT.out.b⟩
          | true =>
            rw [hB] at hf
            have HB0 := Aside0.mk hB
            clear hB
            cases hk : (x.f1 == 0) with
            | true =>
              cases hq : decide (0 ≤ ri) with
              | true =>
                have hf2 : none = F := by rw [← hf]; rw [hk, show decide (ri ≥ 0) = true from hq]; rfl
                clear hf
                subst hf2
                have hr : false = R := HR.out
                subst hr
                go_wp2_with (first | (go_at_call 45; (with_reducible refine (Ps.alone_any bt root next size bf (some ad) n c _ x A4 c4 _ HNO.out).mono ?_); rw [HB0.out]; rintro e w9 ⟨rfl, hd_⟩; have hb_ : Below wr.heap.size wr w9 := (by obtain ⟨n_, rfl⟩ := hd_; exact pw_below_drewN (Below.refl _ _) n_); have t_ := Aside0.mk (HT.out.below hb_); have m_ := Aside0.mk (HM.out.below hb_); have z0_ := pw_cell_below hb_ y0; have z1_ := pw_cell_below hb_ y1; clear HT HM HNO y0 y1 x0 x1 x2 hd_ hb_; have HT := t_; have HM := m_; have y0 := z0_; have y1 := z1_; clear t_ m_ z0_ z1_; obtain ⟨x0, x1, x2⟩ := HT.out.cells))
                go_ret
                exact ⟨rfl, HT.out.b⟩
              | false =>
                have hk0 : x.f1 = 0 := beq_iff_eq.mp hk
                have HFN : Aside0 (firstN root next size (ns.drop (i + 1)) ((i + 1 : Nat) : Int) (i : Int) x.f0 = F) := ⟨by rw [← hf]; rw [hk, show decide (ri ≥ 0) = false from hq, if_neg (by decide), if_pos hk0]; rfl⟩
                clear hf hk0
                go_wp2_with (first | (go_at_call 45; (with_reducible refine (Ps.alone_any bt root next size bf (some ad) n c _ x A4 c4 _ HNO.out).mono ?_); rw [HB0.out]; rintro e w9 ⟨rfl, hd_⟩; have hb_ : Below wr.heap.size wr w9 := (by obtain ⟨n_, rfl⟩ := hd_; exact pw_below_drewN (Below.refl _ _) n_); have t_ := Aside0.mk (HT.out.below hb_); have m_ := Aside0.mk (HM.out.below hb_); have z0_ := pw_cell_below hb_ y0; have z1_ := pw_cell_below hb_ y1; clear HT HM HNO y0 y1 x0 x1 x2 hd_ hb_; have HT := t_; have HM := m_; have y0 := z0_; have y1 := z1_; clear t_ m_ z0_ z1_; obtain ⟨x0, x1, x2⟩ := HT.out.cells))
                go_roundg k1
                case measure => have := HII.out; omega
                case rel => exact ⟨i + 1, (i : Int), x.f0, rfl, rfl, rfl, HFN, ⟨by have := HII.out; omega, by have := HII.out; omega⟩, ⟨by omega, by omega⟩, HT, HM⟩
            | false =>
              have hk0 : ¬ x.f1 = 0 := beq_eq_false_iff_ne.mp hk
              have HFN : Aside0 (firstN root next size (ns.drop (i + 1)) ((i + 1 : Nat) : Int) ri x.f0 = F) := ⟨by rw [← hf]; rw [hk, if_neg (by simp), if_neg hk0]; rfl⟩
              clear hf hk0
              go_wp2_with (first | (go_at_call 45; (with_reducible refine (Ps.alone_any bt root next size bf (some ad) n c _ x A4 c4 _ HNO.out).mono ?_); rw [HB0.out]; rintro e w9 ⟨rfl, hd_⟩; have hb_ : Below wr.heap.size wr w9 := (by obtain ⟨n_, rfl⟩ := hd_; exact pw_below_drewN (Below.refl _ _) n_); have t_ := Aside0.mk (HT.out.below hb_); have m_ := Aside0.mk (HM.out.below hb_); have z0_ := pw_cell_below hb_ y0; have z1_ := pw_cell_below hb_ y1; clear HT HM HNO y0 y1 x0 x1 x2 hd_ hb_; have HT := t_; have HM := m_; have y0 := z0_; have y1 := z1_; clear t_ m_ z0_ z1_; obtain ⟨x0, x1, x2⟩ := HT.out.cells))
              go_roundg k1
              case measure => have := HII.out; omega
              case rel => exact ⟨i + 1, ri, x.f0, rfl, rfl, rfl, HFN, ⟨by have := HII.out; omega, by have := HII.out; omega⟩, ⟨by have := HRI.out; omega, by have := HRI.out; omega⟩, HT, HM⟩
        · have c0 : decide ((i : Int) < (n : Int)) = false := decide_eq_false (by omega)
          have hi := HI.out
          have ein : i = n := by omega
          subst ein
          have hf := HF.out
          rw [List.drop_eq_nil_of_le (by have := HN.out; omega)] at hf
          have hf2 : some ri = F := hf
          have HF2 := Aside0.mk hf2.symm
          clear hf hf2 hin hi HF HI
          go_wp2
          go_meet
          case rel => exact ⟨ri, rfl, HF2, HRI, HT, HM⟩
  case rest =>
    obtain ⟨ri, rfl, HF2, HRI, HT, HM⟩ := hcut
    have hr := HR.out
    rw [HF2.out] at hr
    have hr2 : (if ri < 0 then false else match bfsN ns (n + 1) [ri] ((List.replicate n false).set ri.toNat true) with | none => false | some seen => seen.all id) = R := hr
    clear hr HR HF2
    obtain ⟨x0, x1, x2⟩ := HT.out.cells
    by_cases hneg : ri < 0
    · have c0 : decide (ri < 0) = true := decide_eq_true hneg
      rw [if_pos hneg] at hr2
      subst hr2
      clear hneg
      go_wp2
      go_ret
      exact ⟨rfl, HT.out.b⟩
    · have c0 : decide (ri < 0) = false := decide_eq_false hneg
      rw [if_neg hneg] at hr2
      have HR2 := Aside0.mk hr2
      obtain ⟨rn, hrn⟩ := Int.eq_ofNat_of_zero_le (by omega : 0 ≤ ri)
      subst hrn
      rw [Int.toNat_natCast] at HR2
      have HRN : Aside0 (rn < n) := ⟨by have := HRI.out.2; omega⟩
      clear hneg hr2 HRI
      have hmk := Ps.run_mk n HNB.out
      go_upto_region 18 with (fail)
      have hb1 := below_alloc (Below.refl wc.heap.size wc) (.cells (Array.replicate n (Value.bool false)) 4)
      have HT1 := Aside0.mk (HT.out.below hb1)
      have HM1 := Aside0.mk (HM.out.below hb1)
      have HS1 : Aside0 (IsSeen (wc.alloc (.cells (Array.replicate n (Value.bool false)) 4)) wc.heap.size (List.replicate n false)) := ⟨by unfold IsSeen; rw [Ps.marks]; exact blk_new wc _⟩
      have HGS0 : Aside0 (w.heap.size ≤ wc.heap.size) := ⟨HT.out.b.size⟩
      clear HT HM x0 x1 x2 hb1 hmk
      obtain ⟨bs, ebs⟩ : ∃ bs, wc.heap.size = bs := ⟨_, rfl⟩
      rw [ebs] at HS1 HGS0 ⊢
      clear ebs
      generalize (wc.alloc (.cells (Array.replicate n (Value.bool false)) 4)) = W1 at HT1 HM1 HS1 ⊢
      obtain ⟨s0, s1⟩ := HS1.out.cell rn (by rw [List.length_replicate]; exact HRN.out)
      have q0 := eq_true (show (0 : Int) ≤ (rn : Int) by omega)
      have q1 := eq_true (show (rn : Int) < (n : Int) by have := HRN.out; omega)
      have q2 := eq_true HRN.out
      go_upto_region 19 with (fail)
      have hne : bt ≠ bs := blk_ne HT1.out.t HS1.out (by decide)
      have hnm : bm ≠ bs := by
        intro e
        obtain ⟨es, clock, hb, -⟩ := HM1.out
        rw [e, HS1.out] at hb
        cases hb
      have HS2 := Aside0.mk (HS1.out.set rn)
      have HT2 : Aside0 (TreeIn w (W1.setCell ⟨bs, rn, none⟩ (.bool true)) bt root next A n c ns) := ⟨⟨(Below.heap_setCell _ _ _ _ hne).trans HT1.out.t, HT1.out.C, HT1.out.b.setCell (p := ⟨bs, rn, none⟩) HGS0.out _⟩⟩
      have HM2 := Aside0.mk (HM1.out.block (W2 := W1.setCell ⟨bs, rn, none⟩ (.bool true)) (Below.heap_setCell _ _ _ _ hnm))
      have HNE := Aside0.mk (And.intro hne hnm)
      clear HT1 HM1 HS1 s0 s1 q0 q1 q2 hne hnm
      generalize (W1.setCell ⟨bs, rn, none⟩ (.bool true)) = W2 at HT2 HM2 HS2 ⊢
      go_wp2
      have hb3 := below_alloc (Below.refl W2.heap.size W2) (.cells #[.int .i64 (rn : Int)] 3)
      have HT3 := Aside0.mk (HT2.out.below hb3)
      have HM3 := Aside0.mk (HM2.out.below hb3)
      have HS3 : Aside0 (IsSeen (W2.alloc (.cells #[.int .i64 (rn : Int)] 3)) bs ((List.replicate n false).set rn true)) := ⟨blk_below HS2.out hb3⟩
      have HQ3 : Aside0 (IsQ w.heap.size (W2.alloc (.cells #[.int .i64 (rn : Int)] 3)) (.slice (some ⟨W2.heap.size, 0, none⟩) 1 1) [(rn : Int)]) := ⟨⟨W2.heap.size, 0, 1, _, rfl, Nat.le_refl _, HT2.out.b.size, blk_new W2 _, by simp, fun j k hj => by
        cases j with
        | zero => simp only [List.getElem?_cons_zero, Option.some.injEq] at hj; subst hj; rfl
        | succ j => simp at hj⟩⟩
      obtain ⟨v0, ev0⟩ : ∃ v0, v0 = Value.slice (some ⟨W2.heap.size, 0, none⟩) 1 1 := ⟨_, rfl⟩
      rw [← ev0] at HQ3 ⊢
      clear HT2 HM2 HS2 hb3 ev0
      generalize (W2.alloc (.cells #[.int .i64 (rn : Int)] 3)) = W3 at HT3 HM3 HS3 HQ3 ⊢
      have hs0 : ((List.replicate n false).set rn true).length = n := by simp
      have hf0 : ((List.replicate n false).set rn true).count false + 1 ≤ n := by
        have h1_ := HRN.out
        rw [List.count_set (by simpa using h1_)]
        simp [List.count_replicate]
        omega
      obtain ⟨seen0, es0⟩ : ∃ s, (List.replicate n false).set rn true = s := ⟨_, rfl⟩
      rw [es0] at HS3 hs0 hf0 HR2
      have HS0 := Aside0.mk hs0
      have HF0 := Aside0.mk hf0
      clear es0 hs0 hf0
      go_loopg [11] (n + 1) (fun kq v11 wr => ∃ (row : List Int) (seen : List Bool) (m : Nat), Aside0 ((match bfsN ns m row seen with | none => false | some seen => seen.all id) = R) ∧ Aside0 (seen.count false + row.length < m ∧ m ≤ kq ∧ m ≤ n + 1) ∧ Aside0 (seen.length = n) ∧ Aside0 (∀ k ∈ row, 0 ≤ k ∧ k < (n : Int)) ∧ Aside0 (IsQ w.heap.size wr v11 row) ∧ Aside0 (IsSeen wr bs seen) ∧ Aside0 (TreeIn w wr bt root next A n c ns) ∧ Aside0 (OwnsIdx wr bm n ns))
      case atStart => exact ⟨[(rn : Int)], seen0, n + 1, HR2, ⟨by have := HF0.out; simp only [List.length_cons, List.length_nil]; omega, Nat.le_refl _, Nat.le_refl _⟩, HS0, ⟨fun k hk => by rw [List.mem_singleton.1 hk]; have := HRN.out; omega⟩, HQ3, HS3, HT3, HM3⟩
      case round =>
        clear HR2 HS0 HF0 HQ3 HS3 HT3 HM3
        obtain ⟨row, seen, m, HR, HN2, HSL, HRO, HQ, HS, HT, HM⟩ := hrel
        cases gk with
        | zero => exact absurd HN2.out (by omega)
        | succ k1 =>
          cases m with
          | zero => exact absurd HN2.out (by omega)
          | succ m =>
            obtain ⟨g, o, cap, cells, rfl, hcap, hg, hblk, hsz, hcells⟩ := HQ.out
            obtain ⟨x0, x1, x2⟩ := HT.out.cells
            cases row with
            | nil =>
              have hr : seen.all id = R := HR.out
              have HAL : Aside0 ((seen.drop 0).all id = R) := ⟨hr⟩
              have HB4 : Aside0 (Below w.heap.size w wr) := ⟨HT.out.b⟩
              clear hr HR HQ hcap hg hblk hsz hcells x0 x1 x2 HT HM
              go_wp2
              go_loopg [174] (n + 1) (fun kq4 v174 wr4 => ∃ (i : Nat), v174 = .int .i64 (i : Int) ∧ Aside0 ((seen.drop i).all id = R) ∧ Aside0 (i ≤ n ∧ n - i < kq4) ∧ Aside0 (IsSeen wr4 bs seen) ∧ Aside0 (Below w.heap.size w wr4))
              case atStart => exact ⟨0, rfl, HAL, ⟨Nat.zero_le _, by omega⟩, HS, HB4⟩
              case round =>
                clear HAL HB4 HS
                obtain ⟨i, rfl, HAL, HI, HS, HB4⟩ := hrel
                cases gk with
                | zero => exact absurd HI.out.2 (by omega)
                | succ k4 =>
                  by_cases hin : i < n
                  · have c5 : decide ((i : Int) < (n : Int)) = true := decide_eq_true (by omega)
                    have hil : i < seen.length := by rw [HSL.out]; exact hin
                    obtain ⟨s0, -⟩ := HS.out.cell i hil
                    have ha := HAL.out
                    have hrb : rdb seen (i : Int) = seen[i] := by unfold Go.Proofs.Ytehojohacombkaa.Ps.rdb; rw [Int.toNat_natCast, List.getD_eq_getElem?_getD, List.getElem?_eq_getElem hil]; rfl
                    rw [List.drop_eq_getElem_cons hil, ← hrb] at ha
                    have q3 := eq_true (show (0 : Int) ≤ (i : Int) by omega)
                    have q4 := eq_true (show (i : Int) < (n : Int) by omega)
                    have q5 := eq_true hin
                    have wi : IntKind.i64.wrap ((i : Int) + 1) = (((i + 1 : Nat)) : Int) := by rw [i64_w]; have := HNB.out; unfold wrap64; omega
                    have HII : Aside0 (i < n ∧ n - i < k4 + 1) := ⟨hin, HI.out.2⟩
                    clear hil hin HI HAL hrb
                    cases hb1 : rdb seen (i : Int) with
                    | false =>
                      rw [hb1] at s0 ha
                      have hr3 : false = R := ha
                      subst hr3
                      clear hb1 ha
                      go_wp2
                      go_ret
                      exact ⟨rfl, HB4.out⟩
                    | true =>
                      rw [hb1] at s0 ha
                      have HAL2 : Aside0 ((seen.drop (i + 1)).all id = R) := ⟨by rw [← ha]; simp⟩
                      clear hb1 ha
                      go_wp2
                      go_roundg k4
                      case measure => have := HII.out; omega
                      case rel => exact ⟨i + 1, rfl, HAL2, ⟨by have := HII.out; omega, by have := HII.out; omega⟩, HS, HB4⟩
                  · have c5 : decide ((i : Int) < (n : Int)) = false := decide_eq_false (by omega)
                    have ha := HAL.out
                    rw [List.drop_eq_nil_of_le (by rw [HSL.out]; omega)] at ha
                    have hr3 : true = R := ha
                    subst hr3
                    have c6 := eq_false (show ¬ (i : Int) < (n : Int) by omega)
                    have c7 := eq_false hin
                    clear ha hin
                    go_wp2
                    go_ret
                    exact ⟨rfl, HB4.out⟩
            | cons j row =>
              have hr := HR.out
              rw [Go.Proofs.Ytehojohacombkaa.Ps.bfsN] at hr
              obtain ⟨j0, j1⟩ := HRO.out j List.mem_cons_self
              obtain ⟨jn, rfl⟩ := Int.eq_ofNat_of_zero_le j0
              obtain ⟨ad, A4, c4, rfl, -, -, y2w, y3w, y4w, -, hkc⟩ := at_T34 HC.out (jn : Int) j0 j1
              rw [Int.toNat_natCast] at y2w y3w y4w
              have e34 : rd_T34 ns (jn : Int) = rdn ns (jn : Int) := rfl
              rw [e34] at y2w y3w y4w hkc
              obtain ⟨x, hx⟩ : ∃ x, rdn ns (jn : Int) = x := ⟨_, rfl⟩
              have hxm : x ∈ ns := by rw [← hx]; exact Ps.rdn_mem j0 (by rw [← HN.out]; exact j1)
              have hkw := HWK.out x hxm
              rw [hx] at y2w y3w y4w hr hkc
              have HKW := Aside0.mk hkw
              have y2 := pw_cell_below HT.out.b y2w
              have y4 := pw_cell_below HT.out.b y4w
              have w0 : wr.cell? ⟨g, o, none⟩ = some (.int .i64 (jn : Int)) := (blk_cell hblk o).trans (hcells 0 _ rfl)
              obtain ⟨rl, hrl⟩ : ∃ rl, ((jn : Int) :: row).length = rl := ⟨_, rfl⟩
              rw [hrl]
              have hrp : 0 < rl := by rw [← hrl]; simp
              have c1 : decide ((0 : Int) < (rl : Int)) = true := decide_eq_true (by omega)
              have c2 := eq_true (show (0 : Int) < (rl : Int) by omega)
              have c3 := eq_true hrp
              have q0 := eq_true j0
              have q1 := eq_true j1
              have q2 := eq_true (show jn < n by omega)
              clear hkw hrp j0 j1 hx e34 y2w y4w
              go_upto_region 22 with (fail)
              go_region
              obtain ⟨K, hK⟩ : ∃ K, kidsN ns x x.f4 x.f2 seen ((jn : Int) :: row) = K := ⟨_, rfl⟩
              rw [hK] at hr
              have HK := Aside0.mk hK
              have HR3 := Aside0.mk hr
              obtain ⟨kl, hkl⟩ : ∃ kl, kl = x.f4.length := ⟨_, rfl⟩
              rw [← hkl] at y4 hkc
              have HKL := Aside0.mk hkl
              have HKB : Aside0 (kl < 4611686018427387904) := ⟨by rw [hkl]; exact HKB0.out x hxm⟩
              have hbd := below_drew (Below.refl wr.heap.size wr)
              have HQ1 : Aside0 (IsQ w.heap.size wr.drew (.slice (some ⟨g, o, none⟩) rl cap) ((jn : Int) :: row)) := ⟨by rw [← hrl]; exact HQ.out.block hbd⟩
              have HS1 : Aside0 (IsSeen wr.drew bs seen) := ⟨HS.out⟩
              have HT1 := Aside0.mk (HT.out.below hbd)
              have HM1 := Aside0.mk (HM.out.below hbd)
              have HKC := Aside0.mk hkc
              have HY3 := Aside0.mk y3w
              clear y3w
              have HRL := Aside0.mk hrl
              clear hr hK hkl hbd HQ HS HT HM hcap hg hblk hsz hcells w0 hkc HR
              go_wp2
              go_loopg [11, 13, 117] (kl + 1) (fun kq3 v11 v13 v117 wr3 => ∃ (i : Nat) (fr : Int) (sn : List Bool) (rest : List Int), v13 = .int .i64 fr ∧ v117 = .int .i64 (i : Int) ∧ Aside0 (kidsN ns x (x.f4.drop i) fr sn ((jn : Int) :: rest) = K) ∧ Aside0 (i ≤ kl ∧ kl - i < kq3) ∧ Aside0 (sn.length = n ∧ sn.count false + (rest.length + 1) < m + 1) ∧ Aside0 (∀ k ∈ ((jn : Int) :: rest), 0 ≤ k ∧ k < (n : Int)) ∧ Aside0 (IsQ w.heap.size wr3 v11 ((jn : Int) :: rest)) ∧ Aside0 (IsSeen wr3 bs sn) ∧ Aside0 (TreeIn w wr3 bt root next (some ad) n c ns) ∧ Aside0 (OwnsIdx wr3 bm n ns))
              case atStart => exact ⟨0, x.f2, seen, row, rfl, rfl, HK, ⟨Nat.zero_le _, by omega⟩, ⟨HSL.out, by have := HN2.out.1; simp only [List.length_cons] at this; omega⟩, HRO, HQ1, HS1, HT1, HM1⟩
              case round =>
                clear HQ1 HS1 HT1 HM1 HK y2 y4 x0 x1 x2
                obtain ⟨i, fr, sn, rest, rfl, rfl, HK, HI, HSN, HRO3, HQ, HS, HT, HM⟩ := hrel
                obtain ⟨x0, x1, x2⟩ := HT.out.cells
                cases gk with
                | zero => exact absurd HI.out.2 (by omega)
                | succ k2 =>
                  by_cases hin : i < kl
                  · have c5 : decide ((i : Int) < (kl : Int)) = true := decide_eq_true (by omega)
                    have hik : (i : Int) < (kl : Int) := by omega
                    obtain ⟨ak, rfl, w1⟩ := Kd.at_int (Kd.C_below HKC.out HT.out.b) (i : Int) (by omega) hik
                    rw [Int.toNat_natCast] at w1
                    have hil : i < x.f4.length := by rw [← HKL.out]; exact hin
                    obtain ⟨id, hid⟩ : ∃ id, rd x.f4 (i : Int) = id := ⟨_, rfl⟩
                    have hidg : x.f4[i] = id := by rw [← hid]; unfold rd; rw [Int.toNat_natCast, List.getD_eq_getElem?_getD, List.getElem?_eq_getElem hil]; rfl
                    have HWF : Aside0 ((Lit.int .i64 id).wf = true) := ⟨HKW.out id (by rw [← hidg]; exact List.getElem_mem _)⟩
                    rw [hid] at w1
                    have hk := HK.out
                    rw [List.drop_eq_getElem_cons hil, hidg, Go.Proofs.Ytehojohacombkaa.Ps.kidsN] at hk
                    have hix : idxN ns id = idxM ns n id := by unfold Go.Proofs.Ytehojohacombkaa.Ps.idxN; rw [HN.out]
                    rw [hix] at hk
                    obtain ⟨-, hlk⟩ := idx_look ns n
                    obtain ⟨hl1, hl2⟩ := hlk id
                    have q3 := eq_true (show (0 : Int) ≤ (i : Int) by omega)
                    have q4 := eq_true hik
                    have q5 := eq_true hin
                    have wi : IntKind.i64.wrap ((i : Int) + 1) = (((i + 1 : Nat)) : Int) := by rw [i64_w]; have := HI.out; unfold wrap64; have := HKB.out; omega
                    have HII : Aside0 (i < kl ∧ kl - i < k2 + 1) := ⟨hin, HI.out.2⟩
                    clear hil hid hidg hix hlk hin hik HI HK
                    cases hxi : idxM ns n id with
                    | none =>
                      rw [hxi] at hk hl1
                      have hk2 : none = K := hk
                      subst hk2
                      have hr3 : false = R := HR3.out
                      subst hr3
                      have HHAS : Aside0 (Maps.has (idxD ns n) (.int .i64 id) = false) := ⟨hl1⟩
                      clear hl1 hl2 hxi hk
                      go_upto_region 28 with (first | (at_lookup; refine wpList_lookup_own_ok_int _ rfl _ _ 76 rfl 3 3 .i64 (int_keyed Try.underlying3) Try.underlying76 Try.underlying3 (Ps.zero_int _) bm n (idxD ns n) rfl HM.out _ (.int .i64 id) rfl (keyOf_int_mk Try.underlying3 HWF.out) ?_; intro c_ hat hwc; simp only [HHAS.out]))
                      go_quiet (fail)
                      go_wp2
                      go_ret
                      exact ⟨rfl, pw_below_drewN HT.out.b _⟩
                    | some k =>
                      rw [hxi] at hk hl1
                      have HHAS : Aside0 (Maps.has (idxD ns n) (.int .i64 id) = true) := ⟨hl1⟩
                      obtain ⟨k0, k1_⟩ := Ps.idxM_range hxi
                      have HAT := Aside0.mk (hl2 k hxi)
                      obtain ⟨kn, rfl⟩ := Int.eq_ofNat_of_zero_le k0
                      obtain ⟨ad2, A42, c42, e2, hnk, -⟩ := HT.out.node (kn : Int) k0 k1_
                      cases e2
                      rw [Int.toNat_natCast] at hnk
                      obtain ⟨s0, s1⟩ := HS.out.cell kn (by rw [HSN.out.1]; omega)
                      have hk2 : (if (rdb sn (kn : Int) || (decide ((rdn ns (kn : Int)).f2 < fr) || decide ((rdn ns (kn : Int)).f3 > x.f3))) = true then none else kidsN ns x (x.f4.drop (i + 1)) (rdn ns (kn : Int)).f3 (sn.set kn true) ((jn : Int) :: rest ++ [(kn : Int)])) = K := hk
                      obtain ⟨y, hy⟩ : ∃ y, rdn ns (kn : Int) = y := ⟨_, rfl⟩
                      rw [hy] at hnk hk2
                      have z2 := hnk.y2
                      have z3 := hnk.y3
                      have z4 := pw_cell_below HT.out.b HY3.out
                      have r0 := eq_true k0
                      have r1 := eq_true k1_
                      have r2 := eq_true (show kn < n by omega)
                      have HKN : Aside0 (kn < n) := ⟨by omega⟩
                      clear hl1 hl2 hxi hk hnk hy k0 k1_
                      cases hb1 : rdb sn (kn : Int) with
                      | true =>
                        rw [hb1] at s0 hk2
                        have hk3 : none = K := hk2
                        subst hk3
                        have hr3 : false = R := HR3.out
                        subst hr3
                        clear hb1 hk2
                        go_upto_region 28 with (first | (at_lookup; refine wpList_lookup_own_ok_int _ rfl _ _ 76 rfl 3 3 .i64 (int_keyed Try.underlying3) Try.underlying76 Try.underlying3 (Ps.zero_int _) bm n (idxD ns n) rfl HM.out _ (.int .i64 id) rfl (keyOf_int_mk Try.underlying3 HWF.out) ?_; intro c_ hat hwc; simp only [HHAS.out]; (have hc_ : c_ = (kn : Int) := (by have h_ := hat.symm.trans HAT.out; injection h_ with h_; injection h_)); subst hc_; clear hat hwc))
                        go_quiet (fail)
                        go_wp2
                        go_ret
                        exact ⟨rfl, pw_below_drewN HT.out.b _⟩
                      | false =>
                        rw [hb1] at s0 hk2
                        cases hb2 : decide (y.f2 < fr) with
                        | true =>
                          rw [hb2] at hk2
                          have hk3 : none = K := hk2
                          subst hk3
                          have hr3 : false = R := HR3.out
                          subst hr3
                          clear hb1 hk2
                          go_upto_region 28 with (first | (at_lookup; refine wpList_lookup_own_ok_int _ rfl _ _ 76 rfl 3 3 .i64 (int_keyed Try.underlying3) Try.underlying76 Try.underlying3 (Ps.zero_int _) bm n (idxD ns n) rfl HM.out _ (.int .i64 id) rfl (keyOf_int_mk Try.underlying3 HWF.out) ?_; intro c_ hat hwc; simp only [HHAS.out]; (have hc_ : c_ = (kn : Int) := (by have h_ := hat.symm.trans HAT.out; injection h_ with h_; injection h_)); subst hc_; clear hat hwc))
                          go_quiet (fail)
                          go_wp2
                          go_ret
                          exact ⟨rfl, pw_below_drewN HT.out.b _⟩
                        | false =>
                          cases hb3 : decide (x.f3 < y.f3) with
                          | true =>
                            rw [hb2, show decide (y.f3 > x.f3) = true from hb3] at hk2
                            have hk3 : none = K := hk2
                            subst hk3
                            have hr3 : false = R := HR3.out
                            subst hr3
                            clear hb1 hk2
                            go_upto_region 28 with (first | (at_lookup; refine wpList_lookup_own_ok_int _ rfl _ _ 76 rfl 3 3 .i64 (int_keyed Try.underlying3) Try.underlying76 Try.underlying3 (Ps.zero_int _) bm n (idxD ns n) rfl HM.out _ (.int .i64 id) rfl (keyOf_int_mk Try.underlying3 HWF.out) ?_; intro c_ hat hwc; simp only [HHAS.out]; (have hc_ : c_ = (kn : Int) := (by have h_ := hat.symm.trans HAT.out; injection h_ with h_; injection h_)); subst hc_; clear hat hwc))
                            go_quiet (fail)
                            go_wp2
                            go_ret
                            exact ⟨rfl, pw_below_drewN HT.out.b _⟩
                          | false =>
                            rw [hb2, show decide (y.f3 > x.f3) = false from hb3] at hk2
                            have HKS : Aside0 (kidsN ns x (x.f4.drop (i + 1)) y.f3 (sn.set kn true) ((jn : Int) :: rest ++ [(kn : Int)]) = K) := ⟨hk2⟩
                            have HB1 := Aside0.mk hb1
                            clear hk2 hb1
                            obtain ⟨g3, o3, cap3, cells3, rfl, hcap3, hg3, hblk3, hsz3, hcells3⟩ := HQ.out
                            have HQP := Aside0.mk (And.intro hcap3 (And.intro hg3 (And.intro hblk3 (And.intro hsz3 hcells3))))
                            clear hcap3 hg3 hblk3 hsz3 hcells3
                            go_upto_region 28 with (first | (at_lookup; refine wpList_lookup_own_ok_int _ rfl _ _ 76 rfl 3 3 .i64 (int_keyed Try.underlying3) Try.underlying76 Try.underlying3 (Ps.zero_int _) bm n (idxD ns n) rfl HM.out _ (.int .i64 id) rfl (keyOf_int_mk Try.underlying3 HWF.out) ?_; intro c_ hat hwc; simp only [HHAS.out]; (have hc_ : c_ = (kn : Int) := (by have h_ := hat.symm.trans HAT.out; injection h_ with h_; injection h_)); subst hc_; clear hat hwc))
                            go_quiet (fail)
                            go_upto_region 31 with (fail)
                            have hb0 := pw_below_drewN (Below.refl wr.heap.size wr) nq
                            have hg4 : g3 ≠ bs := blk_ne HQP.out.2.2.1 HS.out (by decide)
                            have HS5 := Aside0.mk (IsSeen.set (W := wr.drewN nq) (bs := bs) (seen := sn) HS.out kn)
                            have HT5 : Aside0 (TreeIn w ((wr.drewN nq).setCell ⟨bs, kn, none⟩ (.bool true)) bt root next (some ad) n c ns) := ⟨⟨(Below.heap_setCell _ _ _ _ HNE.out.1).trans (HT.out.below hb0).t, HT.out.C, ((HT.out.below hb0).b).setCell (p := ⟨bs, kn, none⟩) HGS0.out _⟩⟩
                            have HM5 := Aside0.mk ((HM.out.below hb0).block (W2 := (wr.drewN nq).setCell ⟨bs, kn, none⟩ (.bool true)) (Below.heap_setCell _ _ _ _ HNE.out.2))
                            have hblk5 : ((wr.drewN nq).setCell ⟨bs, kn, none⟩ (.bool true)).heap[g3]? = _ := (Below.heap_setCell _ _ _ _ hg4).trans HQP.out.2.2.1
                            generalize ((wr.drewN nq).setCell ⟨bs, kn, none⟩ (.bool true)) = W5 at HS5 HT5 HM5 hblk5 ⊢
                            have HBLK5 := Aside0.mk hblk5
                            obtain ⟨i0, hi0, hz0⟩ := Option.map_eq_some_iff.1 (show (Try.prog.info? 3).map (fun i => (i.zero, i.size, i.bytes)) = some (some (.int .i64 0), 1, 8) by kernel_rfl)
                            simp only [Prod.mk.injEq] at hz0
                            have HI0 := Aside0.mk (And.intro hi0 hz0)
                            have HXL : Aside0 (((jn : Int) :: rest).length + 1 ≤ 10000) := ⟨by have h1_ := HSN.out.2; have h2_ := HN2.out.2.2; have h3_ := HNB.out; simp only [List.length_cons]; omega⟩
                            clear hblk5 hb0 HQ HS HT HM z2 z3 z4 s0 s1 hi0 hz0 x0 x1 x2 w1
                            go_upto_region 32 with (first | (at_builtin; refine Ps.q_append (xs := (jn : Int) :: rest) HQP.out.1 HQP.out.2.1 HBLK5.out HQP.out.2.2.2.1 HQP.out.2.2.2.2 HT5.out.b.size (kn : Int) HXL.out rfl (.tmp 167) (.tmp 169) rfl Try.underlying32 i0 HI0.out.1 HI0.out.2.1 HI0.out.2.2.1 HI0.out.2.2.2 rfl rfl ?_; intro v5 w5 hq5 hk5 hb5))
                            have HQ6 := Aside0.mk hq5
                            have HS6 : Aside0 (IsSeen w5 bs (sn.set kn true)) := ⟨(hk5 bs (blk_lt HS5.out) hg4.symm).trans HS5.out⟩
                            have HT6 : Aside0 (TreeIn w w5 bt root next (some ad) n c ns) := ⟨⟨(hk5 bt (blk_lt HT5.out.t) (blk_ne HT5.out.t HBLK5.out (by decide))).trans HT5.out.t, HT5.out.C, below_weaken HT5.out.b (Nat.le_refl _) hb5⟩⟩
                            have hbl : bm < W5.heap.size ∧ bm ≠ g3 := by
                              obtain ⟨es, clock, hb, -⟩ := HM5.out
                              refine ⟨blk_lt hb, fun e => ?_⟩
                              rw [e, HBLK5.out] at hb
                              cases hb
                            have HM6 := Aside0.mk (HM5.out.block (W2 := w5) (hk5 bm hbl.1 hbl.2))
                            have HSN6 : Aside0 ((sn.set kn true).length = n ∧ (sn.set kn true).count false + ((rest ++ [(kn : Int)]).length + 1) < m + 1) := ⟨by
                              have h1_ := HSN.out.1
                              have h2_ := HSN.out.2
                              have h3_ : kn < sn.length := by rw [h1_]; exact HKN.out
                              have h4_ : sn[kn] = false := by
                                have h5_ := HB1.out
                                unfold Go.Proofs.Ytehojohacombkaa.Ps.rdb at h5_
                                rw [Int.toNat_natCast, List.getD_eq_getElem?_getD, List.getElem?_eq_getElem h3_] at h5_
                                exact h5_
                              have h6_ : 0 < sn.count false := List.count_pos_iff.2 (by rw [← h4_]; exact List.getElem_mem h3_)
                              refine ⟨by rw [List.length_set]; exact h1_, ?_⟩
                              rw [List.count_set h3_, h4_]
                              simp only [List.length_append, List.length_cons, List.length_nil]
                              simp
                              omega⟩
                            clear hq5 hk5 hb5 hbl HS5 HT5 HM5 HBLK5 HI0 HXL HB1 hg4 HQP
                            go_wp2
                            go_roundg k2
                            case measure => have := HII.out; omega
                            case rel => exact ⟨i + 1, y.f3, sn.set kn true, rest ++ [(kn : Int)], rfl, rfl, HKS, ⟨by have := HII.out; omega, by have := HII.out; omega⟩, HSN6, ⟨fun k hk => by
                              rw [← List.cons_append] at hk
                              rcases List.mem_append.1 hk with hk | hk
                              · exact HRO3.out k hk
                              · rw [List.mem_singleton.1 hk]; have := HKN.out; omega⟩, HQ6, HS6, HT6, HM6⟩
                  · have c5 : decide ((i : Int) < (kl : Int)) = false := decide_eq_false (by omega)
                    have hk := HK.out
                    rw [List.drop_eq_nil_of_le (by have := HKL.out; omega)] at hk
                    have hk2 : some (sn, (jn : Int) :: rest) = K := hk
                    have HRF : Aside0 ((match bfsN ns m rest sn with | none => false | some seen => seen.all id) = R) := ⟨by have h_ := HR3.out; rw [← hk2] at h_; exact h_⟩
                    obtain ⟨g3, o3, cap3, cells3, rfl, hcap3, hg3, hblk3, hsz3, hcells3⟩ := HQ.out
                    obtain ⟨i0, hi0, hz0⟩ := Option.map_eq_some_iff.1 (show (Try.prog.info? 3).map (fun i => (i.zero, i.size, i.bytes)) = some (some (.int .i64 0), 1, 8) by kernel_rfl)
                    simp only [Prod.mk.injEq] at hz0
                    have hcut := Ps.cut (P := Try.prog) 32 3 Try.underlying32 hi0 1 hz0.2.1 (some ⟨g3, o3, none⟩) (rest.length + 1) cap3 (by omega)
                    have HQN : Aside0 (IsQ w.heap.size wr (.slice (if cap3 = 1 then some ⟨g3, o3, none⟩ else (some (⟨g3, o3, none⟩ : Addr)).map (·.add (1 * 1))) (rest.length + 1 - 1) (cap3 - 1)) rest) := ⟨by
                      simp only [List.length_cons] at hcap3
                      by_cases h1 : cap3 = 1
                      · rw [if_pos h1]
                        refine ⟨g3, o3, cap3 - 1, cells3, by rw [Nat.add_sub_cancel], by omega, hg3, hblk3, by omega, fun j k hj => ?_⟩
                        have : rest.length = 0 := by omega
                        rw [List.eq_nil_of_length_eq_zero this] at hj
                        simp at hj
                      · rw [if_neg h1]
                        refine ⟨g3, o3 + 1, cap3 - 1, cells3, by rw [Nat.add_sub_cancel]; simp [Addr.add], by omega, hg3, hblk3, by omega, fun j k hj => ?_⟩
                        have := hcells3 (j + 1) k (by simpa using hj)
                        rw [← this]; congr 1; omega⟩
                    obtain ⟨vq, hvq⟩ : ∃ vq, vq = Value.slice (if cap3 = 1 then some ⟨g3, o3, none⟩ else (some (⟨g3, o3, none⟩ : Addr)).map (·.add (1 * 1))) (rest.length + 1 - 1) (cap3 - 1) := ⟨_, rfl⟩
                    rw [← hvq] at hcut HQN
                    have c6 := eq_false (show ¬ (i : Int) < (kl : Int) by omega)
                    have c7 := eq_false hin
                    clear hk hk2 hin hvq hz0 hi0 hcap3 hg3 hblk3 hsz3 hcells3
                    go_wp2
                    go_roundg k1
                    case measure => have := HN2.out; omega
                    case rel => exact ⟨rest, sn, m, HRF, ⟨by have := HSN.out.2; omega, by have := HN2.out; omega, by have := HN2.out; omega⟩, ⟨HSN.out.1⟩, ⟨fun k hk => HRO3.out k (List.mem_cons_of_mem _ hk)⟩, HQN, HS, HT, HM⟩
end Go.Proofs.Ytehojohacombkaa.G
