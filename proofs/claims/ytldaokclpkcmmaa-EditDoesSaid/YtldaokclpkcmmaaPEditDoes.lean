/- The plain law EditDoes: no program in sight but the printed function. -/
import Derived.Test.YtldaokclpkcmmaaE3
import Derived.Test.YtldaokclpkcmmaaE5
import Derived.Test.YtldaokclpkcmmaaGMinuetlaw8PEditDoes
namespace Go.Proofs.Ytldaokclpkcmmaa.Pl
open Go.RowKit Go.Proofs.Ytldaokclpkcmmaa.G Go.Proofs.YtldaokclpkcmmaaW.PrintWords Go.Proofs.YtldaokclpkcmmaaW.PrintLast Go.Proofs.YtldaokclpkcmmaaW.PrintMore
set_option linter.unusedVariables false
set_option linter.unusedSimpArgs false
theorem mk4_four (a : Int) (p : ByteArray) (c b : Int) : (mk4 a p c b).length ≤ 4 := by
  have := fold_len (raw4 a p c b) []
  simpa [mk4, norm, raw4] using this
theorem mk4_may {a : Int} {p : ByteArray} {c b : Int} (ha : 0 ≤ a) (hc : 0 ≤ c) (hb : 0 ≤ b) (h1 : a + c + b ≤ 4096) (h2 : a + (p.size : Int) + b ≤ 4096) : mayB (mk4 a p c b) = true :=
  norm_may (raw4 a p c b) (by simp [raw4]) (raw4_good ha hc hb) (by rw [raw4_froms]; exact h1) (by rw [raw4_tos]; exact h2)
theorem mk4_froms {a : Int} {p : ByteArray} {c b : Int} (ha : 0 ≤ a) (hc : 0 ≤ c) (hb : 0 ≤ b) : froms (mk4 a p c b) = a + c + b := by
  unfold mk4; rw [norm_froms (raw4_good ha hc hb), raw4_froms]
theorem mk4_ap {a : Int} {p : ByteArray} {c b : Int} (ha : 0 ≤ a) (hc : 0 ≤ c) (hb : 0 ≤ b) (l : List UInt8) : ap l (mk4 a p c b) = l.take a.toNat ++ (bl p ++ ((l.drop a.toNat).drop c.toNat).take b.toNat) := by
  unfold mk4
  rw [ap_norm (raw4_good ha hc hb)]
  simp [raw4, ap, bl_nil]
theorem ahd_self (s : ByteArray) : ahd s s = s.size := by
  have h := ahd_le s s
  apply Classical.byContradiction
  intro hn
  exact ahd_stop s s (by omega) (by omega) rfl
def nkf (c : Cm) : Nat := if c.f0 = 0 then 0 else 1
def nk : List Cm → Nat
  | [] => 0
  | c :: r => nkf c + nk r
theorem nk_app (a b : List Cm) : nk (a ++ b) = nk a + nk b := by
  induction a with
  | nil => simp [nk]
  | cons c a ih => simp only [List.cons_append, nk, ih]; omega
theorem nk_le (a : List Cm) : nk a ≤ a.length := by
  induction a with
  | nil => simp [nk]
  | cons c a ih => simp only [nk, nkf, List.length_cons]; split <;> omega
theorem ed_l0 (s t : ByteArray) (xs : List Cm) (hl : xs.length ≤ 4) (h2 : nk xs ≤ 2) (h3 : bl s = bl t → nk xs = 0) : ∀ (suf pre : List Cm), xs = pre ++ suf → Ev (fun k => minuetlaw8_EditDoes.l0 k s t xs (nk pre : Int) (pre.length : Int)) true := by
  intro suf
  induction suf with
  | nil =>
    intro pre e
    have e' : xs = pre := by simpa using e
    refine Ev.step (fun k => by rw [minuetlaw8_EditDoes.l0]) ?_
    subst e'
    simp only [if_neg (nlt_of e), if_pos (show (nk xs : Int) ≤ 2 by omega), if_pos (show (xs.length : Int) ≤ 4 by omega), bl_to]
    by_cases q : bl s = bl t
    · simp only [if_pos q, h3 q]; exact Ev.now _
    · simp only [if_neg q]; exact Ev.now _
  | cons c suf ih =>
    intro pre e
    have hlt := lt_len e
    have hp := nk_le pre
    refine Ev.step (fun k => by rw [minuetlaw8_EditDoes.l0]) ?_
    simp only [if_pos (lt_of e), if_pos (nat_nonneg _), rd_of e, len_next pre c (by omega)]
    have := ih (pre ++ [c]) (next_of e)
    rw [nk_app] at this
    simp only [nk, nkf] at this
    by_cases k : c.f0 = 0
    · simp only [if_pos k, Nat.add_zero] at this ⊢; exact this
    · simp only [if_neg k, Nat.add_zero] at this ⊢
      rw [show wrap64 ((nk pre : Int) + 1) = ((nk pre + 1 : Nat) : Int) by rw [w64 (by omega) (by omega)]; omega]
      exact this
theorem nk_mk4 (a : Int) (p : ByteArray) (c b : Int) (ha : 0 ≤ a) (hb : 0 ≤ b) : nk (mk4 a p c b) ≤ 2 ∧ (p.size = 0 ∧ c = 0 → nk (mk4 a p c b) = 0) := by
  have k0 : ∀ x, nk (kp x) = 0 := by intro x; unfold kp; split <;> rfl
  have k1 : nk (pt p) ≤ 1 := by unfold pt; split <;> simp [nk, nkf]
  have k2 : nk (ct c) ≤ 1 := by unfold ct; split <;> simp [nk, nkf]
  by_cases h : p.size = 0 ∧ c = 0
  · rw [mk4_deg a p c b ha hb h, k0]; exact ⟨by omega, fun _ => rfl⟩
  · rw [mk4_gen a p c b h, nk_app, nk_app, nk_app, k0, k0]; exact ⟨by omega, fun hh => absurd hh h⟩
theorem made_text (s t : ByteArray) (I K : Int) (i0 : 0 ≤ I) (i1 : I ≤ (s.size : Int)) (k0 : 0 ≤ K) (k1 : K ≤ (s.size : Int) - I) : ap (bl s) (mk4 I t K ((s.size : Int) - I - K)) = bl ((s.extract 0 I.toNat ++ t) ++ s.extract (I + K).toNat s.size) := by
  rw [mk4_ap i0 k0 (by omega), bl_app, bl_app, bl_ext, bl_ext, List.drop_zero, Nat.sub_zero, List.drop_drop, List.append_assoc, show I.toNat + K.toNat = (I + K).toNat by omega]
  have hl : ((bl s).drop (I + K).toNat).length = s.size - (I + K).toNat := by rw [List.length_drop, bl_len]
  generalize (bl s).drop (I + K).toNat = D at hl ⊢
  rw [List.take_of_length_le (show D.length ≤ ((s.size : Int) - I - K).toNat by omega), List.take_of_length_le (show D.length ≤ s.size - (I + K).toNat by omega)]
theorem between_text (s t : ByteArray) : ap (bl s) (mk4 (ahd s t : Int) (putOf s t) ((s.size : Int) - (ahd s t : Int) - (bhd s t : Int)) (bhd s t : Int)) = bl t := by
  have hb := bhd_le s t
  have hd := drop_same s t
  have hk := take_same s t
  have hput : bl (putOf s t) = ((bl t).drop (ahd s t)).take (t.size - bhd s t - ahd s t) := by unfold putOf; rw [bl_ext]
  rw [mk4_ap (by omega) (by omega) (by omega), List.drop_drop]
  have hl : (bl t).length = t.size := bl_len t
  have e0 : ((ahd s t : Nat) : Int).toNat + ((s.size : Int) - (ahd s t : Int) - (bhd s t : Int)).toNat = s.size - bhd s t := by omega
  rw [e0, Int.toNat_natCast, Int.toNat_natCast, hd, hk]
  rw [hput]
  generalize ahd s t = a at hb ⊢
  generalize bhd s t = b at hb ⊢
  generalize bl t = T at hl ⊢
  rw [List.take_of_length_le (show (T.drop (t.size - b)).length ≤ b by rw [List.length_drop, hl]; omega)]
  have e1 : T.drop (t.size - b) = (T.drop a).drop (t.size - b - a) := by rw [List.drop_drop, show a + (t.size - b - a) = t.size - b by omega]
  rw [e1, List.take_append_drop, List.take_append_drop]
set_option maxHeartbeats 2000000 in
theorem EditDoes_pure (s t : ByteArray) (x y : Int) (_hs : s.size ≤ 140737488351232) (_ht : t.size ≤ 140737488351232) (_hx : (Lit.int .i64 x).wf = true) (_hy : (Lit.int .i64 y).wf = true) : ∃ k, minuetlaw8_EditDoes.f k s t x y = some true := by
  refine Ev.rounds (Ev.congr (fun k => by rw [minuetlaw8_EditDoes.f]) (Ev.bind awake8 ?_))
  simp only [if_true]
  have out : Ev (fun k => minuetlaw8_EditDoes.j0 k s t x y true) true := by
    refine Ev.step (fun k => by rw [minuetlaw8_EditDoes.j0]) ?_
    simp only [if_true]; exact Ev.now _
  by_cases h1 : (s.size : Int) > 200
  · simp only [if_pos h1]; exact out
  · by_cases h2 : (t.size : Int) > 100
    · simp only [if_neg h1, decide_eq_true h2]; exact out
    · simp only [if_neg h1, decide_eq_false h2]
      refine Ev.step (fun k => by rw [minuetlaw8_EditDoes.j0]) ?_
      simp only [Bool.false_eq_true, if_false]
      have n1 := u64_ne (s.size : Int) (by omega) (by omega)
      obtain ⟨i0, i1⟩ := modix x (s.size : Int) (by omega) (by omega)
      generalize hI : wrap64 (Int.tmod (IntKind.u64.wrap x) (IntKind.u64.wrap (wrap64 ((s.size : Int) + 1)))) = I at i0 i1 ⊢
      rw [show wrap64 ((s.size : Int) - I) = (s.size : Int) - I from w64 (by omega) (by omega)]
      have n2 := u64_ne ((s.size : Int) - I) (by omega) (by omega)
      obtain ⟨k0, k1⟩ := modix y ((s.size : Int) - I) (by omega) (by omega)
      generalize hK : wrap64 (Int.tmod (IntKind.u64.wrap y) (IntKind.u64.wrap (wrap64 ((s.size : Int) - I + 1)))) = K at k0 k1 ⊢
      simp only [if_neg n1, if_neg n2]
      rw [show wrap64 (I + K) = I + K from w64 (by omega) (by omega)]
      have hm : mkM s I K t = (mk4 I t K ((s.size : Int) - I - K), 0) := by
        unfold mkM; rw [if_pos ((isThere_iff _ _ _).2 ⟨by omega, i0, i1, k0, k1⟩), if_pos ⟨by omega, by omega⟩]
      refine Ev.bind (Make_ev s I K t _ht) ?_
      refine Ev.bind (Apply_ev _ _) ?_
      refine Ev.bind (Between_ev s t) ?_
      refine Ev.bind (Apply_ev _ _) ?_
      have hb := bhd_le s t; have hp := put_size s t
      rw [hm, btM_ok ⟨by omega, by omega⟩]
      have m1 := mk4_may (p := t) i0 k0 (show 0 ≤ (s.size : Int) - I - K by omega) (by omega) (by omega)
      have f1 := mk4_froms (p := t) i0 k0 (show 0 ≤ (s.size : Int) - I - K by omega)
      have m2 := mk4_may (a := (ahd s t : Int)) (p := putOf s t) (c := (s.size : Int) - (ahd s t : Int) - (bhd s t : Int)) (b := (bhd s t : Int)) (by omega) (by omega) (by omega) (by omega) (by omega)
      have f2 := mk4_froms (a := (ahd s t : Int)) (p := putOf s t) (c := (s.size : Int) - (ahd s t : Int) - (bhd s t : Int)) (b := (bhd s t : Int)) (by omega) (by omega) (by omega)
      rw [apM_ok m1 (by omega), apM_ok m2 (by omega)]
      have z1 : (s.extract 0 I.toNat).size = I.toNat := by rw [ByteArray.size_extract]; omega
      have z2 : (s.extract (I + K).toNat s.size).size = s.size - (I + K).toNat := by rw [ByteArray.size_extract]; omega
      have z3 : (s.extract 0 I.toNat ++ t).size = I.toNat + t.size := by rw [ByteArray.size_append, z1]
      have u1 : bl (bs (ap (bl s) (mk4 I t K ((s.size : Int) - I - K)))) = bl ((s.extract 0 I.toNat ++ t) ++ s.extract (I + K).toNat s.size) := by
        rw [bl_bs]; exact made_text s t I K i0 i1 k0 k1
      have u2 : bl (bs (ap (bl s) (mk4 (ahd s t : Int) (putOf s t) ((s.size : Int) - (ahd s t : Int) - (bhd s t : Int)) (bhd s t : Int)))) = bl t := by
        rw [bl_bs]; exact between_text s t
      simp only [num_eq, Option.bind_some, if_true, if_pos i0, if_pos i1, z1, z2, z3, if_pos (show I.toNat + t.size ≤ 9223372036854775807 by omega), if_pos (show 0 ≤ I + K by omega), if_pos (show I + K ≤ (s.size : Int) by omega), if_pos (show I.toNat + t.size + (s.size - (I + K).toNat) ≤ 9223372036854775807 by omega), bl_to, u1, u2, bne_self_eq_false]
      refine Ev.step (fun k => by rw [minuetlaw8_EditDoes.j1]) ?_
      simp only [Bool.false_eq_true, if_false]
      obtain ⟨q1, q2⟩ := nk_mk4 (ahd s t : Int) (putOf s t) ((s.size : Int) - (ahd s t : Int) - (bhd s t : Int)) (bhd s t : Int) (by omega) (by omega)
      have q3 := mk4_four (ahd s t : Int) (putOf s t) ((s.size : Int) - (ahd s t : Int) - (bhd s t : Int)) (bhd s t : Int)
      generalize mk4 (ahd s t : Int) (putOf s t) ((s.size : Int) - (ahd s t : Int) - (bhd s t : Int)) (bhd s t : Int) = M at q1 q2 q3 ⊢
      refine ed_l0 s t M q3 q1 (fun hh => q2 ?_) M [] (List.nil_append _).symm
      have hst : s = t := bl_inj hh
      have ha := ahd_self s
      rw [← hst] at hb hp ⊢
      exact ⟨by omega, by omega⟩
end Go.Proofs.Ytldaokclpkcmmaa.Pl
