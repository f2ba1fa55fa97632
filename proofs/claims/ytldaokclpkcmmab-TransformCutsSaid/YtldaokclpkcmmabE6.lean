/- What edits made and edits between two texts do: small facts on mk4 and btM. -/
import Derived.Test.YtldaokclpkcmmabE4
import Derived.Test.YtldaokclpkcmmabE5
namespace Go.Proofs.Ytldaokclpkcmmab.Pl
open Go.RowKit Go.Proofs.Ytldaokclpkcmmab.G Go.Proofs.YtldaokclpkcmmabW.PrintWords Go.Proofs.YtldaokclpkcmmabW.PrintLast Go.Proofs.YtldaokclpkcmmabW.PrintMore
set_option linter.unusedVariables false
set_option linter.unusedSimpArgs false
theorem mk4_four (a : Int) (p : ByteArray) (c b : Int) : (mk4 a p c b).length ≤ 4 := by
  have := fold_len (raw4 a p c b) []
  simpa [mk4, norm, raw4] using this
theorem mk4_may {a : Int} {p : ByteArray} {c b : Int} (ha : 0 ≤ a) (hc : 0 ≤ c) (hb : 0 ≤ b) (h1 : a + c + b ≤ 4096) (h2 : a + (p.size : Int) + b ≤ 4096) : mayB (mk4 a p c b) = true :=
  norm_may (raw4 a p c b) (by simp [raw4]) (raw4_good ha hc hb) (by rw [raw4_froms]; exact h1) (by rw [raw4_tos]; exact h2)
theorem mk4_froms {a : Int} {p : ByteArray} {c b : Int} (ha : 0 ≤ a) (hc : 0 ≤ c) (hb : 0 ≤ b) : froms (mk4 a p c b) = a + c + b := by
  unfold mk4; rw [norm_froms (raw4_good ha hc hb), raw4_froms]
theorem mk4_tos {a : Int} {p : ByteArray} {c b : Int} (ha : 0 ≤ a) (hc : 0 ≤ c) (hb : 0 ≤ b) : tos (mk4 a p c b) = a + (p.size : Int) + b := by
  unfold mk4; rw [norm_tos (raw4_good ha hc hb), raw4_tos]
theorem mk4_ap {a : Int} {p : ByteArray} {c b : Int} (ha : 0 ≤ a) (hc : 0 ≤ c) (hb : 0 ≤ b) (l : List UInt8) : ap l (mk4 a p c b) = l.take a.toNat ++ (bl p ++ ((l.drop a.toNat).drop c.toNat).take b.toNat) := by
  unfold mk4
  rw [ap_norm (raw4_good ha hc hb)]
  simp [raw4, ap, bl_nil]
theorem made_text (s t : ByteArray) (I K : Int) (i0 : 0 ≤ I) (i1 : I ≤ (s.size : Int)) (k0 : 0 ≤ K) (k1 : K ≤ (s.size : Int) - I) : ap (bl s) (mk4 I t K ((s.size : Int) - I - K)) = bl ((s.extract 0 I.toNat ++ t) ++ s.extract (I + K).toNat s.size) := by
  rw [mk4_ap i0 k0 (by omega), bl_app, bl_app, bl_ext, bl_ext, List.drop_zero, Nat.sub_zero, List.drop_drop, List.append_assoc, show I.toNat + K.toNat = (I + K).toNat by omega]
  have hl : ((bl s).drop (I + K).toNat).length = s.size - (I + K).toNat := by rw [List.length_drop, bl_len]
  generalize (bl s).drop (I + K).toNat = D at hl ⊢
  rw [List.take_of_length_le (show D.length ≤ ((s.size : Int) - I - K).toNat by omega), List.take_of_length_le (show D.length ≤ s.size - (I + K).toNat by omega)]
theorem between_text (s t : ByteArray) : ap (bl s) (mk4 (ahd s t : Int) (putOf s t) ((s.size : Int) - (ahd s t : Int) - (bhd s t : Int)) (bhd s t : Int)) = bl t := by
  have hb := bhd_le s t
  have hd := drop_same s t
  have hk := take_same s t
  have hput : bl (putOf s t) = ((bl t).drop (ahd s t)).take (t.size - bhd s t - ahd s t) := by unfold putOf; rw [bl_ext]
  rw [mk4_ap (by omega) (by omega) (by omega), List.drop_drop]
  have hl : (bl t).length = t.size := bl_len t
  have e0 : ((ahd s t : Nat) : Int).toNat + ((s.size : Int) - (ahd s t : Int) - (bhd s t : Int)).toNat = s.size - bhd s t := by omega
  rw [e0, Int.toNat_natCast, Int.toNat_natCast, hd, hk]
  rw [hput]
  generalize ahd s t = a at hb ⊢
  generalize bhd s t = b at hb ⊢
  generalize bl t = T at hl ⊢
  rw [List.take_of_length_le (show (T.drop (t.size - b)).length ≤ b by rw [List.length_drop, hl]; omega)]
  have e1 : T.drop (t.size - b) = (T.drop a).drop (t.size - b - a) := by rw [List.drop_drop, show a + (t.size - b - a) = t.size - b by omega]
  rw [e1, List.take_append_drop, List.take_append_drop]
/-- What lies between two short texts is an edit of the first one that leads to the other. -/
theorem bt_all {s t : ByteArray} (h1 : s.size ≤ 4096) (h2 : t.size ≤ 4096) : ∃ c, btM s t = (c, 0) ∧ mayB c = true ∧ froms c = (s.size : Int) ∧ tos c = (t.size : Int) ∧ c.length ≤ 4 ∧ ap (bl s) c = bl t := by
  have hb := bhd_le s t; have hp := put_size s t
  refine ⟨_, btM_ok ⟨h1, h2⟩, mk4_may (by omega) (by omega) (by omega) (by omega) (by omega), ?_, ?_, mk4_four _ _ _ _, between_text s t⟩
  · rw [mk4_froms (by omega) (by omega) (by omega)]; omega
  · rw [mk4_tos (by omega) (by omega) (by omega)]; omega
end Go.Proofs.Ytldaokclpkcmmab.Pl
