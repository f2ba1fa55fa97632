/- The plain law GoodMade. -/
import Derived.Test.YtnhkdpcncjkmlaaGt
import Derived.Test.YtnhkdpcncjkmlaaGa
import Derived.Test.YtnhkdpcncjkmlaaGMinuetlaw12PGoodMade
namespace Go.Proofs.Ytnhkdpcncjkmlaa.Pl
open Go.RowKit Go.Proofs.Ytnhkdpcncjkmlaa.G Go.Proofs.Ytnhkdpcncjkmlaa.Lx Go.Proofs.YtnhkdpcncjkmlaaW.PrintWords Go.Proofs.YtnhkdpcncjkmlaaW.PrintLast Go.Proofs.YtnhkdpcncjkmlaaW.PrintMore
open Go.Proofs.Ytnhkdpcncjkmlaa.Gd (solid good)
open Go.Proofs.Ytnhkdpcncjkmlaa.Gk (kd vk op hd klp krs k1 vk_ext vk_lift vk_agree vk_clean vk_head good_iff)
set_option linter.unusedVariables false
set_option linter.unusedSimpArgs false
theorem gf {s : ByteArray} (h : s.size ≤ 300) : good_Good.f s = some (good (byt s), 0) := by unfold good_Good.f; rw [if_neg (by omega)]
theorem gf_big {s : ByteArray} (h : ¬ s.size ≤ 300) : good_Good.f s = some (false, 1200) := by unfold good_Good.f; rw [if_pos (by omega)]
theorem good_vk {l : List UInt8} (h : good l = true) : vk 12 (kds l) = some [] := (good_iff l).1 h
theorem vk_good {l : List UInt8} (h : vk 12 (kds l) = some []) : good l = true := (good_iff l).2 h
theorem not_good {l : List UInt8} (h : vk 12 (kds l) ≠ some []) : good l = false := by
  cases e : good l with
  | false => rfl
  | true => exact absurd (good_vk e) h
theorem good_clean {l : List UInt8} (h : good l = true) : 11 ∉ kds l := by
  intro hm
  have := vk_clean 12 _ _ (good_vk h) hm
  cases this
theorem kds_key {c : UInt8} (h1 : c ≠ 10) (h2 : c ≠ 34) (h3 : c ≠ 92) (m : List UInt8) : kds (34 :: c :: 34 :: m) = 6 :: kds m := by
  have e : tk (34 :: c :: 34 :: m) = (6, 3) := by
    have : txt (c :: 34 :: m) = (2, true) := by
      rw [txt.eq_def]
      simp only [if_neg h1, if_neg h2, if_neg h3]
      rw [txt.eq_def]
      simp
    rw [tk, show sign 34 = none from rfl]
    simp only [show isB 34 = false from rfl, Bool.false_eq_true, if_false, if_true]
    rw [this]; rfl
  rw [kds_step, e]
  simp
/-! ### loops of two elements -/
theorem klp_two {one : List Int → Option (List Int)} {c : Int} {a vs ws : List Int} (hc : c ≠ 5) (h1 : one a = some (5 :: vs)) (h2 : one vs = some (c :: ws)) (n : Nat) : klp one c (n + 1 + 1) a = some ws := by
  have k1 : hd (5 :: vs) c = false := by simp [hd]; exact fun h => hc h.symm
  have k2 : hd (5 :: vs) 5 = true := by simp [hd]
  have k3 : hd (c :: ws) c = true := by simp [hd]
  rw [klp, h1]
  simp only [k1, k2, Bool.false_eq_true, if_false, if_true, List.tail_cons]
  rw [klp, h2]
  simp only [k3, if_true, List.tail_cons]
theorem klp_stop {one : List Int → Option (List Int)} {c x : Int} {a vs : List Int} (h1 : ∀ us, one a = some us → us = x :: vs) (h2 : x ≠ c) (h3 : x ≠ 5 ∨ one vs = none) (n : Nat) : klp one c n a = none := by
  cases n with
  | zero => rfl
  | succ n =>
    rw [klp]
    cases ho : one a with
    | none => rfl
    | some us =>
      have := h1 us ho
      subst this
      have k1 : hd (x :: vs) c = false := by simp [hd]; exact h2
      simp only [k1, Bool.false_eq_true, if_false, List.tail_cons]
      by_cases k2 : hd (x :: vs) 5 = true
      · rw [if_pos k2]
        rcases h3 with h3 | h3
        · exact absurd (by simpa [hd] using k2) h3
        · cases n with
          | zero => rfl
          | succ n => rw [klp, h3]
      · rw [if_neg k2]
theorem vk_obj (k : Nat) (a : List Int) : vk (k + 1) (0 :: a) = krs (k1 (vk k)) 1 a := by rw [vk]; simp [hd]
theorem vk_arr (k : Nat) (a : List Int) : vk (k + 1) (2 :: a) = krs (vk k) 3 a := by rw [vk]; simp [hd]
theorem vk_five (k : Nat) (a : List Int) : vk k (5 :: a) = none := by cases k <;> rw [vk] <;> simp [hd]
theorem k1_five (f : List Int → Option (List Int)) (a : List Int) : k1 f (5 :: a) = none := by unfold k1; simp [hd]
theorem k1_key (f : List Int → Option (List Int)) (a : List Int) : k1 f (6 :: 4 :: a) = f a := by unfold k1; simp [hd]
theorem krs_not {one : List Int → Option (List Int)} {c : Int} {a : List Int} (h : hd a c = false) : krs one c a = klp one c (a.length + 1) a := by unfold krs; rw [h]; simp
theorem obj_yes {A B : List Int} (hA : vk 11 A = some []) (hB : vk 11 B = some []) : vk 12 (0 :: 6 :: 4 :: (A ++ 5 :: 6 :: 4 :: (B ++ [1]))) = some [] := by
  rw [vk_obj, krs_not (by simp [hd])]
  have h1 : k1 (vk 11) (6 :: 4 :: (A ++ 5 :: 6 :: 4 :: (B ++ [1]))) = some (5 :: 6 :: 4 :: (B ++ [1])) := by
    rw [k1_key]; have := (vk_ext 11 _ _ hA).2 (5 :: 6 :: 4 :: (B ++ [1])); simpa using this
  have h2 : k1 (vk 11) (6 :: 4 :: (B ++ [1])) = some (1 :: []) := by
    rw [k1_key]; have := (vk_ext 11 _ _ hB).2 [1]; simpa using this
  exact klp_two (by decide) h1 h2 _
theorem arr_head {A : List Int} (hA : ∃ k b, vk k A = some b) (R : List Int) : hd (A ++ R) 3 = false ∧ ∃ x vs, A ++ R = x :: vs ∧ x ≠ 3 ∧ x ≠ 5 := by
  obtain ⟨k, b, h⟩ := hA
  have := vk_head h
  cases A with
  | nil => simp [hd] at this
  | cons x A =>
    simp only [hd, beq_iff_eq] at this
    refine ⟨?_, x, A ++ R, rfl, by omega, by omega⟩
    simp only [List.cons_append, hd]
    exact beq_eq_false_iff_ne.mpr (by omega)
theorem arr_yes {A B : List Int} (hA : vk 11 A = some []) (hB : vk 11 B = some []) : vk 12 (2 :: (A ++ 5 :: (B ++ [3]))) = some [] := by
  rw [vk_arr, krs_not (arr_head ⟨11, [], hA⟩ _).1]
  have h1 : vk 11 (A ++ 5 :: (B ++ [3])) = some (5 :: (B ++ [3])) := by
    have := (vk_ext 11 _ _ hA).2 (5 :: (B ++ [3])); simpa using this
  have h2 : vk 11 (B ++ [3]) = some (3 :: []) := by
    have := (vk_ext 11 _ _ hB).2 [3]; simpa using this
  obtain ⟨n, hn⟩ : ∃ n, (A ++ 5 :: (B ++ [3])).length + 1 = n + 1 + 1 := ⟨(A ++ 5 :: (B ++ [3])).length - 1, by simp; omega⟩
  rw [hn]
  exact klp_two (by decide) h1 h2 _
/-- Any answer is what stands behind. -/
theorem only {A : List Int} (hA : vk 12 A = some []) (R us : List Int) (h : vk 11 (A ++ R) = some us) : us = R := by
  have := (vk_ext 12 _ _ hA).2 R
  rw [List.nil_append] at this
  exact (vk_agree 12 11 _ _ _ this h).symm
theorem obj_no {A : List Int} (hA : vk 12 A = some []) (x : Int) (vs : List Int) (h1 : x ≠ 1) (h2 : x ≠ 5 ∨ k1 (vk 11) vs = none) : vk 12 (0 :: 6 :: 4 :: (A ++ x :: vs)) ≠ some [] := by
  rw [vk_obj, krs_not (by simp [hd]), klp_stop (x := x) (vs := vs) (fun us h => by rw [k1_key] at h; exact only hA _ _ h) h1 h2]
  simp
theorem arr_no {A : List Int} (hA : vk 12 A = some []) (x : Int) (vs : List Int) (h1 : x ≠ 3) (h2 : x ≠ 5 ∨ vk 11 vs = none) : vk 12 (2 :: (A ++ x :: vs)) ≠ some [] := by
  rw [vk_arr, krs_not (arr_head ⟨12, [], hA⟩ _).1, klp_stop (x := x) (vs := vs) (fun us h => only hA _ _ h) h1 h2]
  simp
/-! ### the made texts -/
theorem ob_app (a b : List UInt8) : ob (a ++ b) = ob a + ob b := List.countP_append
theorem lower {l : List UInt8} (h : good l = true) (hb : ob l < 12) : vk 11 (kds l) = some [] := by
  have h1 := op_kds l.length l (Nat.le_refl _)
  exact vk_lift 12 11 _ _ (good_vk h) (by have : op ([] : List Int) = 0 := rfl; omega)
def mkO (S M T : List UInt8) : List UInt8 := 123 :: 34 :: 107 :: 34 :: 58 :: 32 :: (S ++ 10 :: (M ++ 34 :: 109 :: 34 :: 58 :: 32 :: (T ++ [10, 125])))
def mkA (S M T : List UInt8) : List UInt8 := 91 :: (S ++ 10 :: (M ++ (T ++ [10, 93])))
theorem commas (n : Nat) (m : List UInt8) : kds (List.replicate n 44 ++ m) = List.replicate n 5 ++ kds m := by
  induction n with
  | zero => rfl
  | succ n ih => rw [List.replicate_succ, List.cons_append, kds_sign (k := 5) rfl (by decide), ih]; rfl
theorem kds_mkO {S T : List UInt8} (hS : 11 ∉ kds S) (hT : 11 ∉ kds T) (n : Nat) : kds (mkO S (List.replicate n 44) T) = 0 :: 6 :: 4 :: (kds S ++ (List.replicate n 5 ++ 6 :: 4 :: (kds T ++ [1]))) := by
  unfold mkO
  rw [kds_sign (k := 0) rfl (by decide), kds_key (by decide) (by decide) (by decide), kds_sign (k := 4) rfl (by decide), kds_blank rfl, kds_line _ _ hS, commas, kds_key (by decide) (by decide) (by decide), kds_sign (k := 4) rfl (by decide), kds_blank rfl, kds_line _ _ hT, kds_sign (k := 1) rfl (by decide), kds_nil]
theorem kds_mkA {S T : List UInt8} (hS : 11 ∉ kds S) (hT : 11 ∉ kds T) (n : Nat) : kds (mkA S (List.replicate n 44) T) = 2 :: (kds S ++ (List.replicate n 5 ++ (kds T ++ [3]))) := by
  unfold mkA
  rw [kds_sign (k := 2) rfl (by decide), kds_line _ _ hS, commas, kds_line _ _ hT, kds_sign (k := 3) rfl (by decide), kds_nil]
theorem mkO_all {S T : List UInt8} (hS : good S = true) (hT : good T = true) : (ob (S ++ T) < 12 → good (mkO S [44] T) = true) ∧ good (mkO S [44, 44] T) = false ∧ good (mkO S [] T) = false := by
  have cS := good_clean hS
  have cT := good_clean hT
  have k1_ := kds_mkO cS cT 1
  have k2_ := kds_mkO cS cT 2
  have k0_ := kds_mkO cS cT 0
  refine ⟨fun h => vk_good ?_, not_good ?_, not_good ?_⟩
  · rw [ob_app] at h
    rw [show ([44] : List UInt8) = List.replicate 1 44 from rfl, k1_]
    exact obj_yes (lower hS (by omega)) (lower hT (by omega))
  · rw [show ([44, 44] : List UInt8) = List.replicate 2 44 from rfl, k2_]
    exact obj_no (good_vk hS) 5 (5 :: 6 :: 4 :: (kds T ++ [1])) (by decide) (.inr (k1_five _ _))
  · rw [show ([] : List UInt8) = List.replicate 0 44 from rfl, k0_]
    exact obj_no (good_vk hS) 6 (4 :: (kds T ++ [1])) (by decide) (.inl (by decide))
theorem mkA_all {S T : List UInt8} (hS : good S = true) (hT : good T = true) : (ob (S ++ T) < 12 → good (mkA S [44] T) = true) ∧ good (mkA S [44, 44] T) = false ∧ good (mkA S [] T) = false := by
  have cS := good_clean hS
  have cT := good_clean hT
  have k1_ := kds_mkA cS cT 1
  have k2_ := kds_mkA cS cT 2
  have k0_ := kds_mkA cS cT 0
  refine ⟨fun h => vk_good ?_, not_good ?_, not_good ?_⟩
  · rw [ob_app] at h
    rw [show ([44] : List UInt8) = List.replicate 1 44 from rfl, k1_]
    exact arr_yes (lower hS (by omega)) (lower hT (by omega))
  · rw [show ([44, 44] : List UInt8) = List.replicate 2 44 from rfl, k2_]
    exact arr_no (good_vk hS) 5 (5 :: (kds T ++ [3])) (by decide) (.inr (vk_five _ _))
  · rw [show ([] : List UInt8) = List.replicate 0 44 from rfl, k0_]
    obtain ⟨_, x, vs, e, e3, e5⟩ := arr_head ⟨12, [], good_vk hT⟩ [3]
    rw [show List.replicate 0 (5 : Int) ++ (kds T ++ [3]) = x :: vs from e]
    exact arr_no (good_vk hS) x vs e3 (.inl e5)
/-! ### the law's own loop -/
theorem made_l0 (s t : ByteArray) (hst : s.size + t.size ≤ 300) (C : Bool) : ∀ (g i : Nat) (d : Int), i + g = s.size + t.size → 0 ≤ d → d ≤ (i : Int) → (C = true ∨ 12 ≤ d + (ob ((byt (s ++ t)).drop i) : Int)) →
    Ev (fun k => minuetlaw12_GoodMade.l0 k s t C 0 false 0 false 0 d (i : Int)) true := by
  have hz : (s ++ t).size = s.size + t.size := ByteArray.size_append
  have w0 : wrap64 ((s.size : Int) + (t.size : Int)) = ((s.size + t.size : Nat) : Int) := by rw [w64 (by omega) (by omega)]; omega
  intro g
  induction g with
  | zero =>
    intro i d h h0 h1 hc
    refine Ev.step (fun k => by rw [minuetlaw12_GoodMade.l0]) ?_
    rw [w0]
    simp only [if_neg (show ¬ (i : Int) < ((s.size + t.size : Nat) : Int) by omega), num_eq, opt_some, if_true, Bool.false_eq_true, if_false]
    rw [List.drop_eq_nil_of_le (by rw [byt_len, hz]; omega)] at hc
    refine Ev_ite (fun _ => Ev.now _) (fun hC => Ev_ite (fun _ => Ev.now _) (fun h12 => ?_))
    rcases hc with hc | hc
    · exact absurd hc hC
    · have : (ob [] : Int) = 0 := rfl
      omega
  | succ g ih =>
    intro i d h h0 h1 hc
    have hi : i < (s ++ t).size := by omega
    have w1 : wrap64 (d + 1) = d + 1 := w64 (by omega) (by omega)
    have w2 : wrap64 ((i : Int) + 1) = ((i + 1 : Nat) : Int) := by rw [w64 (by omega) (by omega)]; omega
    have hd := byt_drop (s ++ t) i hi
    have hb : bt (s ++ t) (i : Int) = (((s ++ t)[i]'hi).toNat : Int) := by rw [bt_eq (s ++ t) (i : Int) (by omega) (by omega)]; rfl
    have ho : ob ((byt (s ++ t)).drop i) = ob ((byt (s ++ t)).drop (i + 1)) + (if (((s ++ t)[i]'hi) == 91 || ((s ++ t)[i]'hi) == 123) = true then 1 else 0) := by
      rw [hd]; unfold ob; rw [List.countP_cons]
    refine Ev.step (fun k => by rw [minuetlaw12_GoodMade.l0]) ?_
    rw [w0]
    simp only [if_pos (show (i : Int) < ((s.size + t.size : Nat) : Int) by omega), if_pos (show s.size + t.size ≤ 9223372036854775807 by omega), if_pos (show (0 : Int) ≤ (i : Int) by omega), if_pos (show (i : Int) < ((s ++ t).size : Int) by omega), hb, w1, w2]
    have val : ∀ n : Nat, n < 256 → (((s ++ t)[i]'hi).toNat : Int) = (n : Int) → (s ++ t)[i]'hi = UInt8.ofNat n := by
      intro n hn h9
      have : ((s ++ t)[i]'hi).toNat = n := by omega
      rw [← this]; simp
    refine Ev_ite (fun c => ?_) (fun c => Ev_ite (fun c2 => ?_) (fun c2 => ?_))
    · have e := val 91 (by omega) c
      rw [e] at ho
      have ho' : ob ((byt (s ++ t)).drop i) = ob ((byt (s ++ t)).drop (i + 1)) + 1 := ho
      exact ih (i + 1) (d + 1) (by omega) (by omega) (by omega) (hc.imp id (fun h' => by omega))
    · have e := val 123 (by omega) c2
      rw [e] at ho
      have ho' : ob ((byt (s ++ t)).drop i) = ob ((byt (s ++ t)).drop (i + 1)) + 1 := ho
      exact ih (i + 1) (d + 1) (by omega) (by omega) (by omega) (hc.imp id (fun h' => by omega))
    · have : (if (((s ++ t)[i]'hi) == 91 || ((s ++ t)[i]'hi) == 123) = true then 1 else 0) = 0 := by
        rw [if_neg]
        intro hh
        simp only [Bool.or_eq_true, beq_iff_eq] at hh
        rcases hh with hh | hh
        · rw [hh] at c; exact c rfl
        · rw [hh] at c2; exact c2 rfl
      rw [this] at ho
      exact ih (i + 1) d (by omega) (by omega) (by omega) (hc.imp id (fun h' => by omega))
theorem made_j1 (s t P Q AH BE : ByteArray) (hst : s.size + t.size ≤ 250) (hP : P.size = 1) (hQ : Q.size = 1) (hA : AH.size ≤ 5) (hB : BE.size ≤ 5) (mk : List UInt8 → List UInt8 → List UInt8 → List UInt8)
    (hmk : ∀ M : ByteArray, byt (((((((P ++ AH) ++ s) ++ ((⟨#[10]⟩ : ByteArray) ++ M)) ++ BE) ++ t) ++ (⟨#[10]⟩ : ByteArray)) ++ Q) = mk (byt s) (byt M) (byt t))
    (hall : (ob (byt s ++ byt t) < 12 → good (mk (byt s) [44] (byt t)) = true) ∧ good (mk (byt s) [44, 44] (byt t)) = false ∧ good (mk (byt s) [] (byt t)) = false) :
    Ev (fun k => minuetlaw12_GoodMade.j1 k s t P Q AH BE) true := by
  have z1 : (⟨#[10, 44]⟩ : ByteArray).size = 2 := rfl
  have z2 : (⟨#[10, 44, 44]⟩ : ByteArray).size = 3 := rfl
  have z3 : (⟨#[10]⟩ : ByteArray).size = 1 := rfl
  have m1 := hmk ⟨#[44]⟩
  have m2 := hmk ⟨#[44, 44]⟩
  have m0 := hmk ⟨#[]⟩
  rw [show (⟨#[10]⟩ : ByteArray) ++ (⟨#[44]⟩ : ByteArray) = ⟨#[10, 44]⟩ from rfl] at m1
  rw [show (⟨#[10]⟩ : ByteArray) ++ (⟨#[44, 44]⟩ : ByteArray) = ⟨#[10, 44, 44]⟩ from rfl] at m2
  rw [show (⟨#[10]⟩ : ByteArray) ++ (⟨#[]⟩ : ByteArray) = ⟨#[10]⟩ from rfl] at m0
  refine Ev.step (fun k => by rw [minuetlaw12_GoodMade.j1]) ?_
  iterate 7 (refine Ev_ite (fun _ => ?_) (fun h_ => (h_ ?_).elim); rotate_left 1; (first | omega | (simp only [ByteArray.size_append, z1, z2, z3]; omega)))
  rw [gf (by simp only [ByteArray.size_append, z1, z2, z3]; omega), m1]
  simp only [opt_some]
  iterate 5 (refine Ev_ite (fun _ => ?_) (fun h_ => (h_ ?_).elim); rotate_left 1; (first | omega | (simp only [ByteArray.size_append, z1, z2, z3]; omega)))
  rw [gf (by simp only [ByteArray.size_append, z1, z2, z3]; omega), m2]
  simp only [opt_some]
  iterate 5 (refine Ev_ite (fun _ => ?_) (fun h_ => (h_ ?_).elim); rotate_left 1; (first | omega | (simp only [ByteArray.size_append, z1, z2, z3]; omega)))
  rw [gf (by simp only [ByteArray.size_append, z1, z2, z3]; omega), m0]
  simp only [opt_some]
  have b1 : byt (⟨#[44]⟩ : ByteArray) = [44] := rfl
  have b2 : byt (⟨#[44, 44]⟩ : ByteArray) = [44, 44] := rfl
  have b0 : byt (⟨#[]⟩ : ByteArray) = [] := rfl
  rw [b1, b2, b0, hall.2.1, hall.2.2]
  refine made_l0 s t (by omega) _ (s.size + t.size) 0 0 (by omega) (by omega) (by omega) ?_
  rw [List.drop_zero, show byt (s ++ t) = byt s ++ byt t by simp [byt]]
  by_cases h : ob (byt s ++ byt t) < 12
  · exact .inl (hall.1 h)
  · exact .inr (by omega)
theorem made_true (s t : ByteArray) (o : Bool) : Ev (fun k => minuetlaw12_GoodMade.j0 k s t o true) true := by
  refine Ev.step (fun k => by rw [minuetlaw12_GoodMade.j0]) ?_
  exact Ev.now _
theorem GoodMade_pure (s t : ByteArray) (o : Bool) (hs : s.size ≤ 140737488351232) (ht : t.size ≤ 140737488351232) : ∃ k, minuetlaw12_GoodMade.f k s t o = some true := by
  refine Ev.rounds (Ev.congr (fun k => by rw [minuetlaw12_GoodMade.f]) ?_)
  rw [awake12]
  simp only [opt_some, if_true]
  by_cases h1 : s.size ≤ 300
  · by_cases h2 : t.size ≤ 300
    · rw [gf h1, gf h2]
      simp only [opt_some, num_eq, if_true]
      refine Ev_ite (fun g1 => Ev_ite (fun g2 => ?_) (fun _ => made_true _ _ _)) (fun _ => made_true _ _ _)
      have w0 : wrap64 ((s.size : Int) + (t.size : Int)) = (s.size : Int) + (t.size : Int) := w64 (by omega) (by omega)
      rw [w0]
      by_cases hl : (s.size : Int) + (t.size : Int) > 250
      · rw [decide_eq_true hl]; exact made_true _ _ _
      · rw [decide_eq_false hl]
        refine Ev.step (fun k => by rw [minuetlaw12_GoodMade.j0]) ?_
        simp only [Bool.false_eq_true, if_false]
        refine Ev_ite (fun _ => ?_) (fun _ => ?_)
        · exact made_j1 s t _ _ _ _ (by omega) rfl rfl (by decide) (by decide) mkO (fun M => by simp [byt, mkO]) (mkO_all g1 g2)
        · exact made_j1 s t _ _ _ _ (by omega) rfl rfl (by decide) (by decide) mkA (fun M => by simp [byt, mkA]) (mkA_all g1 g2)
    · rw [gf h1, gf_big h2]
      simp only [opt_some, Bool.false_eq_true, if_false]
      exact Ev_ite (fun _ => made_true _ _ _) (fun _ => made_true _ _ _)
  · rw [gf_big h1]
    by_cases h2 : t.size ≤ 300
    · rw [gf h2]; simp only [opt_some, Bool.false_eq_true, if_false]; exact made_true _ _ _
    · rw [gf_big h2]; simp only [opt_some, Bool.false_eq_true, if_false]; exact made_true _ _ _
end Go.Proofs.Ytnhkdpcncjkmlaa.Pl
