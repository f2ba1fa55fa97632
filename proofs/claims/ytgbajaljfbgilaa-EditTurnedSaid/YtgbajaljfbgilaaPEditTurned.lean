/- The plain law EditTurned: no program in sight but the printed function. -/
import Derived.Test.YtgbajaljfbgilaaE3
import Derived.Test.YtgbajaljfbgilaaE4
import Derived.Test.YtgbajaljfbgilaaGMinuetlaw8PEditTurned
import Derived.Test.YtgbajaljfbgilaaGMinuetlaw8qsizes
import Derived.Test.YtgbajaljfbgilaaGMinuetlaw0PSameInts
namespace Go.Proofs.Ytgbajaljfbgilaa.Pl
open Go.RowKit Go.Proofs.Ytgbajaljfbgilaa.G Go.Proofs.YtgbajaljfbgilaaW.PrintWords Go.Proofs.YtgbajaljfbgilaaW.PrintLast Go.Proofs.YtgbajaljfbgilaaW.PrintMore
set_option linter.unusedVariables false
set_option linter.unusedSimpArgs false
theorem ints_l0 (xs : List Int) (hl : xs.length < 4611686018427387904) : ∀ (g i : Nat), i + g = xs.length → Ev (fun k => minuetlaw0_SameInts.l0 k xs xs (i : Int)) true := by
  intro g
  induction g with
  | zero =>
    intro i e
    refine Ev.step (fun k => by rw [minuetlaw0_SameInts.l0]) ?_
    simp only [if_neg (show ¬ (i : Int) < (xs.length : Int) by omega)]; exact Ev.now _
  | succ g ih =>
    intro i e
    refine Ev.step (fun k => by rw [minuetlaw0_SameInts.l0]) ?_
    simp only [if_pos (show (i : Int) < (xs.length : Int) by omega), if_pos (nat_nonneg i), if_true]
    rw [show wrap64 ((i : Int) + 1) = ((i + 1 : Nat) : Int) by rw [w64 (by omega) (by omega)]; omega]
    exact ih (i + 1) (by omega)
theorem ints_refl (xs : List Int) (hl : xs.length < 4611686018427387904) : Ev (fun k => minuetlaw0_SameInts.f k xs xs) true := by
  refine Ev.congr (fun k => by rw [minuetlaw0_SameInts.f, if_pos rfl]) ?_
  exact ints_l0 xs hl xs.length 0 (by omega)
def kpf (c : Cm) : Int := if c.f0 = 0 then c.f1 else 0
def ctf (c : Cm) : Int := if c.f0 = 2 then c.f1 else 0
def ptf (c : Cm) : Int := if c.f0 = 1 then (c.f2.size : Int) else 0
theorem meas_kp : Meas kpf := ⟨fun c hc h => by simp only [sz] at h; have := hc.1; unfold kpf; split <;> omega, fun d c _ _ e => by unfold kpf; simp only; rw [← e]; split <;> omega⟩
theorem meas_ct : Meas ctf := ⟨fun c hc h => by simp only [sz] at h; have := hc.1; unfold ctf; split <;> omega, fun d c _ _ e => by unfold ctf; simp only; rw [← e]; split <;> omega⟩
theorem meas_pt : Meas ptf := ⟨fun c hc h => by simp only [sz] at h; have := hc.1; unfold ptf; split <;> omega, fun d c _ _ e => by unfold ptf; simp only [ByteArray.size_append]; rw [← e]; split <;> omega⟩
theorem fold_sum {f : Cm → Int} (hf : Meas f) {cs : List Cm} (h : ∀ c ∈ cs, good c) : ∀ r : List Cm, (∀ d ∈ r, good d) → sumOf f (cs.foldl add r) = sumOf f r + sumOf f cs := by
  induction cs with
  | nil => intro r _; simp [sumOf]
  | cons c cs ih =>
    intro r hr
    rw [List.foldl_cons, ih (fun d hd => h d (List.mem_cons_of_mem _ hd)) _ (add_good hr (h c List.mem_cons_self)), sumOf_add hf hr (h c List.mem_cons_self)]
    simp only [sumOf]; omega
theorem norm_sum {f : Cm → Int} (hf : Meas f) {cs : List Cm} (h : ∀ c ∈ cs, good c) : sumOf f (norm cs) = sumOf f cs := by
  unfold norm; rw [fold_sum hf h [] no_good]; simp [sumOf]
theorem sizes_l0 (xs : List Cm) (hg : ∀ c ∈ xs, good c) (hl : xs.length ≤ 4096) : ∀ (suf pre : List Cm) (a b c : Int), xs = pre ++ suf → 0 ≤ a → 0 ≤ b → 0 ≤ c → a + b + c + tot suf ≤ 4611686018427387 →
    Ev (fun k => minuetlaw8_sizes.l0 k xs [a, b, c] (pre.length : Int)) [a + sumOf kpf suf, b + sumOf ctf suf, c + sumOf ptf suf] := by
  intro suf
  induction suf with
  | nil =>
    intro pre a b c e h1 h2 h3 h4
    refine Ev.step (fun k => by rw [minuetlaw8_sizes.l0]) ?_
    simp only [if_neg (nlt_of e), sumOf, Int.add_zero]
    exact Ev.now _
  | cons d suf ih =>
    intro pre a b c e h1 h2 h3 h4
    have hlt := lt_len e
    have hd := hg d (mem_of e)
    have h0 := hd.1
    have hsuf : 0 ≤ tot suf := tot_nonneg (fun x hx => hg x (by rw [e]; simp [hx]))
    simp only [tot, sz] at h4
    refine Ev.step (fun k => by rw [minuetlaw8_sizes.l0]) ?_
    simp only [if_pos (lt_of e), if_pos (nat_nonneg _), rd_of e, len_next pre d (by omega)]
    have q0 : (0 : Int) < (([a, b, c] : List Int).length : Int) := by simp
    have q1 : (1 : Int) < (([a, b, c] : List Int).length : Int) := by simp
    have q2 : (2 : Int) < (([a, b, c] : List Int).length : Int) := by simp
    have r0 : rd [a, b, c] 0 = a := rfl
    have r1 : rd [a, b, c] 1 = b := rfl
    have r2 : rd [a, b, c] 2 = c := rfl
    simp only [if_pos q0, if_pos q1, if_pos q2, r0, r1, r2]
    rcases hd.2.1 with k | k | k
    · have k2 : ¬ d.f0 = 2 := by omega
      have k1 : ¬ d.f0 = 1 := by omega
      simp only [if_pos k]
      rw [show wrap64 (a + d.f1) = a + d.f1 from w64 (by omega) (by omega)]
      have := ih (pre ++ [d]) (a + d.f1) b c (next_of e) (by omega) h2 h3 (by omega)
      simp only [sumOf, kpf, ctf, ptf, if_pos k, if_neg k2, if_neg k1, Int.zero_add]
      rw [← Int.add_assoc]; exact this
    · have k2 : ¬ d.f0 = 2 := by omega
      have k0 : ¬ d.f0 = 0 := by omega
      simp only [if_neg k0, if_neg k2]
      rw [show wrap64 (c + (d.f2.size : Int)) = c + (d.f2.size : Int) from w64 (by omega) (by omega)]
      have := ih (pre ++ [d]) a b (c + (d.f2.size : Int)) (next_of e) h1 h2 (by omega) (by omega)
      simp only [sumOf, kpf, ctf, ptf, if_pos k, if_neg k2, if_neg k0, Int.zero_add]
      rw [← Int.add_assoc c]; exact this
    · have k1 : ¬ d.f0 = 1 := by omega
      have k0 : ¬ d.f0 = 0 := by omega
      simp only [if_neg k0, if_pos k]
      rw [show wrap64 (b + d.f1) = b + d.f1 from w64 (by omega) (by omega)]
      have := ih (pre ++ [d]) a (b + d.f1) c (next_of e) h1 (by omega) h3 (by omega)
      simp only [sumOf, kpf, ctf, ptf, if_pos k, if_neg k1, if_neg k0, Int.zero_add]
      rw [← Int.add_assoc b]; exact this
theorem mk4_len' (a : Int) (p : ByteArray) (c b : Int) : (mk4 a p c b).length ≤ 4 := by
  have := fold_len (raw4 a p c b) []
  simpa [mk4, norm, raw4] using this
theorem sizes_ev (a : Int) (p : ByteArray) (c b : Int) (ha : 0 ≤ a) (hc : 0 ≤ c) (hb : 0 ≤ b) (ht : a + (p.size : Int) + c + b ≤ 4611686018427387) : Ev (fun k => minuetlaw8_sizes.f k (mk4 a p c b)) [a + b, c, (p.size : Int)] := by
  have g := raw4_good (p := p) ha hc hb
  have hn : ∀ x ∈ mk4 a p c b, good x := norm_good g
  have e1 : sumOf kpf (mk4 a p c b) = a + b := by unfold mk4; rw [norm_sum meas_kp g]; simp [raw4, sumOf, kpf]
  have e2 : sumOf ctf (mk4 a p c b) = c := by unfold mk4; rw [norm_sum meas_ct g]; simp [raw4, sumOf, ctf]
  have e3 : sumOf ptf (mk4 a p c b) = (p.size : Int) := by unfold mk4; rw [norm_sum meas_pt g]; simp [raw4, sumOf, ptf]
  have e4 : tot (mk4 a p c b) = a + (p.size : Int) + c + b := by
    unfold mk4; rw [tot_sum, norm_sum meas_sz g, ← tot_sum, raw4_tot]
  have := sizes_l0 (mk4 a p c b) hn (by have := mk4_len' a p c b; omega) (mk4 a p c b) [] 0 0 0 rfl (by omega) (by omega) (by omega) (by omega)
  rw [e1, e2, e3] at this
  simp only [Int.zero_add] at this
  exact this
theorem rd3 (a b c : Int) : rd [a, b, c] 0 = a ∧ rd [a, b, c] 2 = c ∧ rd [a, b, c] 1 = b := ⟨rfl, rfl, rfl⟩
theorem EditTurned_pure (s t : ByteArray) (_hs : s.size ≤ 140737488351232) (_ht : t.size ≤ 140737488351232) : ∃ k, minuetlaw8_EditTurned.f k s t = some true := by
  refine Ev.rounds (Ev.congr (fun k => by rw [minuetlaw8_EditTurned.f]) (Ev.bind awake8 ?_))
  simp only [if_true]
  refine Ev.bind (Between_ev s t) ?_
  refine Ev.bind (Between_ev t s) ?_
  simp only [num_eq, Option.bind_some]
  by_cases h : s.size ≤ 4096 ∧ t.size ≤ 4096
  · have hb := bhd_le s t; have hp := put_size s t; have hq := put_size t s
    have c1 := ahd_comm s t; have c2 := bhd_comm s t
    rw [btM_ok h, btM_ok ⟨h.2, h.1⟩]
    simp only [if_true]
    have s1 := sizes_ev (ahd s t : Int) (putOf s t) ((s.size : Int) - (ahd s t : Int) - (bhd s t : Int)) (bhd s t : Int) (by omega) (by omega) (by omega) (by omega)
    have s2 := sizes_ev (ahd t s : Int) (putOf t s) ((t.size : Int) - (ahd t s : Int) - (bhd t s : Int)) (bhd t s : Int) (by omega) (by omega) (by omega) (by omega)
    refine Ev.bind s1 ?_
    refine Ev.bind s2 ?_
    refine Ev.congr (fun k => if_pos (by simp)) ?_
    refine Ev.bind s2 ?_
    refine Ev.congr (fun k => if_pos (by simp)) ?_
    refine Ev.bind s2 ?_
    refine Ev.congr (fun k => if_pos (by simp)) ?_
    obtain ⟨r0, r2, r1⟩ := rd3 ((ahd t s : Int) + (bhd t s : Int)) ((t.size : Int) - (ahd t s : Int) - (bhd t s : Int)) ((putOf t s).size : Int)
    rw [r0, r2, r1]
    have e1 : ((ahd t s : Int) + (bhd t s : Int)) = (ahd s t : Int) + (bhd s t : Int) := by rw [c1, c2]
    have e2 : ((putOf t s).size : Int) = (s.size : Int) - (ahd s t : Int) - (bhd s t : Int) := by rw [hq, ← c1, ← c2]; omega
    have e3 : ((t.size : Int) - (ahd t s : Int) - (bhd t s : Int)) = ((putOf s t).size : Int) := by rw [hp, ← c1, ← c2]; omega
    rw [e1, e2, e3]
    refine Ev.bind (ints_refl _ (by simp)) ?_
    exact Ev.now _
  · rw [btM_err h, btM_err (fun hh => h ⟨hh.2, hh.1⟩)]
    simp only [Int.reduceEq, if_false]
    exact Ev.now _
end Go.Proofs.Ytgbajaljfbgilaa.Pl
