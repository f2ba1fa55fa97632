/- The plain law GoodShort. -/
import Derived.Test.YtnhkdpcncjkmlaaGs
import Derived.Test.YtnhkdpcncjkmlaaGa
import Derived.Test.YtnhkdpcncjkmlaaGMinuetlaw12PGoodShort
namespace Go.Proofs.Ytnhkdpcncjkmlaa.Pl
open Go.RowKit Go.Proofs.Ytnhkdpcncjkmlaa.G Go.Proofs.Ytnhkdpcncjkmlaa.Lx Go.Proofs.YtnhkdpcncjkmlaaW.PrintWords Go.Proofs.YtnhkdpcncjkmlaaW.PrintLast Go.Proofs.YtnhkdpcncjkmlaaW.PrintMore
open Go.Proofs.Ytnhkdpcncjkmlaa.Gd (solid good)
open Go.Proofs.Ytnhkdpcncjkmlaa.Gk (kd vk op hd klp krs k1 vk_ext vk_lift vk_agree vk_clean vk_head good_iff)
set_option linter.unusedVariables false
set_option linter.unusedSimpArgs false
theorem gf {s : ByteArray} (h : s.size ≤ 300) : good_Good.f s = some (good (byt s), 0) := by unfold good_Good.f; rw [if_neg (by omega)]
theorem gf_big {s : ByteArray} (h : ¬ s.size ≤ 300) : good_Good.f s = some (false, 1200) := by unfold good_Good.f; rw [if_pos (by omega)]
theorem good_vk {l : List UInt8} (h : good l = true) : vk 12 (kds l) = some [] := (good_iff l).1 h
theorem vk_good {l : List UInt8} (h : vk 12 (kds l) = some []) : good l = true := (good_iff l).2 h
theorem not_good {l : List UInt8} (h : vk 12 (kds l) ≠ some []) : good l = false := by
  cases e : good l with
  | false => rfl
  | true => exact absurd (good_vk e) h
/-- What a closed text is like. -/
theorem short_all {l : List UInt8} {c : UInt8} {k : Int} (D : Dl c) (hc : sign c = some k) (hk : k ≠ 10 ∧ k ≠ 9) (hp : plain (l ++ [c])) (hg : good (l ++ [c]) = true) :
    good l = false ∧ good (l ++ [c] ++ [c]) = false ∧ good (l ++ [c] ++ [32]) = true := by
  have e1 : kds [c] = [k] := by rw [kds_sign hc hk, kds_nil]
  have e2 : kds (l ++ [c]) = kds l ++ [k] := by rw [kds_plain D [] l (fun x hx => hp x (by simp [hx])), e1]
  have h := good_vk hg
  have e3 : kds (l ++ [c] ++ [c]) = kds (l ++ [c]) ++ [k] := by rw [kds_plain D [] (l ++ [c]) hp, e1]
  have e4 : kds (l ++ [c] ++ [32]) = kds (l ++ [c]) := by rw [kds_plain D32 [] (l ++ [c]) hp, kds_blank rfl, kds_nil, List.append_nil]
  refine ⟨not_good (fun h' => ?_), not_good (fun h' => ?_), vk_good (by rw [e4]; exact h)⟩
  · have := (vk_ext 12 _ _ h').2 [k]
    rw [← e2, h] at this; simp at this
  · have := (vk_ext 12 _ _ h).2 [k]
    rw [← e3, h'] at this; simp at this
theorem short_true (s : ByteArray) (x3 : Bool) (x4 : Int) (h : x4 = 0 ∨ x3 = false) : Ev (fun k => minuetlaw12_GoodShort.j0 k s x3 x4 true) true := by
  refine Ev.step (fun k => by rw [minuetlaw12_GoodShort.j0]) ?_
  simp only [if_true, num_eq, opt_some]
  refine Ev_ite (fun _ => Ev.now _) (fun h4 => ?_)
  rcases h with h | h
  · exact absurd h h4
  · rw [h]; exact Ev.now _
theorem byt_one (x : Int) : byt (strOfNums [x]) = [UInt8.ofNat x.toNat] := by simp [byt, strOfNums]
theorem short_j2 (s : ByteArray) (h1 : 1 ≤ s.size) (h2 : s.size < 300) (hg : good (byt s) = true) (hp : plain (byt s)) (x : Int) (hx : x = ((s[s.size - 1]'(by omega)).toNat : Int)) (hc : x = 93 ∨ x = 125) :
    Ev (fun k => minuetlaw12_GoodShort.j2 k s x false) true := by
  have w0 : wrap64 ((s.size : Int) - 1) = ((s.size - 1 : Nat) : Int) := by rw [w64 (by omega) (by omega)]; omega
  obtain ⟨c, hcc⟩ : ∃ c, s[s.size - 1]'(by omega) = c := ⟨_, rfl⟩
  rw [hcc] at hx
  have ec : UInt8.ofNat x.toNat = c := by rw [hx]; simp
  have D : Dl c ∧ ∃ k : Int, sign c = some k ∧ k ≠ 10 ∧ k ≠ 9 := by
    rcases hc with h | h
    · rw [h] at ec; subst ec; exact ⟨D93, 3, rfl, by decide, by decide⟩
    · rw [h] at ec; subst ec; exact ⟨D125, 1, rfl, by decide, by decide⟩
  obtain ⟨D, k, hk, hk2⟩ := D
  have eb : byt s = (byt s).take (s.size - 1) ++ [c] := by
    have hd := byt_drop s (s.size - 1) (by omega)
    have hdr : (byt s).drop (s.size - 1 + 1) = [] := List.drop_eq_nil_of_le (by rw [byt_len]; omega)
    rw [hcc, hdr] at hd
    rw [← hd, List.take_append_drop]
  have e1 : byt (s.extract 0 (s.size - 1)) = (byt s).take (s.size - 1) := by
    show (s.extract 0 (s.size - 1)).data.toList = _
    rw [ByteArray.data_extract, Array.toList_extract, List.extract_eq_take_drop]; simp [byt]
  rw [eb] at hg hp
  obtain ⟨r1, r2, r3⟩ := short_all D hk hk2 hp hg
  rw [← eb] at r2 r3
  have z1 : (strOfNums [x]).size = 1 := by rw [← byt_len, byt_one]; rfl
  have s1 : (s.extract 0 (s.size - 1)).size = s.size - 1 := by rw [ByteArray.size_extract]; omega
  have s2 : (s ++ strOfNums [x]).size = s.size + 1 := by rw [ByteArray.size_append, z1]
  have s3 : (s ++ (⟨#[32]⟩ : ByteArray)).size = s.size + 1 := ByteArray.size_append
  have b2 : byt (s ++ strOfNums [x]) = byt s ++ [c] := by
    rw [show byt (s ++ strOfNums [x]) = byt s ++ byt (strOfNums [x]) by simp [byt], byt_one, ec]
  have b3 : byt (s ++ (⟨#[32]⟩ : ByteArray)) = byt s ++ [32] := by simp [byt]
  refine Ev.step (fun k => by rw [minuetlaw12_GoodShort.j2]) ?_
  simp only [Bool.false_eq_true, if_false, w0, if_pos (show (0 : Int) ≤ ((s.size - 1 : Nat) : Int) by omega), if_pos (show ((s.size - 1 : Nat) : Int) ≤ (s.size : Int) by omega), Int.toNat_natCast, opt_some]
  rw [gf (by omega), e1, r1]
  simp only [opt_some, if_pos (show s.size + (strOfNums [x]).size ≤ 9223372036854775807 by omega)]
  rw [gf (by omega), b2, r2]
  simp only [opt_some, if_pos (show s.size + 1 ≤ 9223372036854775807 by omega)]
  rw [gf (by omega), b3, r3]
  simp only [opt_some, num_eq, if_true, Bool.false_eq_true, if_false]
  exact Ev.now _
theorem short_l0 (s : ByteArray) (h1 : 1 ≤ s.size) (h2 : s.size < 300) (hg : good (byt s) = true) (x : Int) (hx : x = ((s[s.size - 1]'(by omega)).toNat : Int)) : ∀ (g i : Nat), i + g = s.size → (∀ j (hj : j < s.size), j < i → s[j] ≠ 34 ∧ s[j] ≠ 47) →
    Ev (fun k => minuetlaw12_GoodShort.l0 k s x (i : Int)) true := by
  intro g
  induction g with
  | zero =>
    intro i h hall
    have hp : plain (byt s) := by
      intro b hb
      obtain ⟨j, hj, e⟩ := List.getElem_of_mem hb
      have hj2 : j < s.size := by rw [byt_len] at hj; exact hj
      have := hall j hj2 (by omega)
      have e2 : (byt s)[j]'hj = s[j]'hj2 := by simp [byt]; rfl
      rw [e2] at e
      rw [← e]; exact this
    refine Ev.step (fun k => by rw [minuetlaw12_GoodShort.l0]) ?_
    simp only [if_neg (show ¬ (i : Int) < (s.size : Int) by omega)]
    refine Ev_ite (fun c => short_j2 s h1 h2 hg hp x hx (.inl c)) (fun c => ?_)
    by_cases d : x = 125
    · rw [show (x != 125) = false by rw [d]; rfl]
      exact short_j2 s h1 h2 hg hp x hx (.inr d)
    · rw [bne_iff_ne.mpr d]
      refine Ev.step (fun k => by rw [minuetlaw12_GoodShort.j2]) ?_
      exact Ev.now _
  | succ g ih =>
    intro i h hall
    have hi : i < s.size := by omega
    have w2 : wrap64 ((i : Int) + 1) = ((i + 1 : Nat) : Int) := by rw [w64 (by omega) (by omega)]; omega
    have hb : bt s (i : Int) = ((s[i]'hi).toNat : Int) := by rw [bt_eq s (i : Int) (by omega) (by omega)]; rfl
    refine Ev.step (fun k => by rw [minuetlaw12_GoodShort.l0]) ?_
    simp only [if_pos (show (i : Int) < (s.size : Int) by omega), if_pos (show (0 : Int) ≤ (i : Int) by omega), hb, w2]
    refine Ev_ite (fun _ => Ev.now _) (fun c1 => Ev_ite (fun _ => Ev.now _) (fun c2 => ih (i + 1) (by omega) ?_))
    intro j hj hlt
    by_cases e : j = i
    · subst e
      exact ⟨fun hh => c2 (by rw [hh]; rfl), fun hh => c1 (by rw [hh]; rfl)⟩
    · exact hall j hj (by omega)
theorem GoodShort_pure (s : ByteArray) (hs : s.size ≤ 140737488351232) : ∃ k, minuetlaw12_GoodShort.f k s = some true := by
  refine Ev.rounds (Ev.congr (fun k => by rw [minuetlaw12_GoodShort.f]) ?_)
  rw [awake12]
  simp only [opt_some, if_true]
  by_cases h : s.size ≤ 300
  · rw [gf h]
    simp only [opt_some, num_eq, if_true]
    refine Ev_ite (fun hg => Ev_ite (fun _ => short_true _ _ _ (.inl rfl)) (fun h3 => ?_)) (fun _ => short_true _ _ _ (.inl rfl))
    by_cases h1 : (s.size : Int) < 1
    · rw [decide_eq_true h1]; exact short_true _ _ _ (.inl rfl)
    · rw [decide_eq_false h1]
      have w0 : wrap64 ((s.size : Int) - 1) = ((s.size - 1 : Nat) : Int) := by rw [w64 (by omega) (by omega)]; omega
      refine Ev.step (fun k => by rw [minuetlaw12_GoodShort.j0]) ?_
      simp only [Bool.false_eq_true, if_false, w0, if_pos (show (0 : Int) ≤ ((s.size - 1 : Nat) : Int) by omega), if_pos (show ((s.size - 1 : Nat) : Int) < (s.size : Int) by omega)]
      have hb : bt s ((s.size - 1 : Nat) : Int) = ((s[s.size - 1]'(by omega)).toNat : Int) := by rw [bt_eq s _ (by omega) (by omega)]; rfl
      rw [hb]
      exact short_l0 s (by omega) (by omega) hg _ rfl s.size 0 (by omega) (by intro j hj hlt; omega)
  · rw [gf_big h]
    simp only [opt_some, num_eq]
    exact short_true _ _ _ (.inr rfl)
end Go.Proofs.Ytnhkdpcncjkmlaa.Pl
