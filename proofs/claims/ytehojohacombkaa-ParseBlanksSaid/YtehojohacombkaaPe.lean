/- The parser at moved tokens: what it makes of tokens that stand elsewhere, below another node, is the same tree, moved. Plain. -/
import Derived.Test.YtehojohacombkaaPg
namespace Go.Proofs.Ytehojohacombkaa.Ps
open Go.RowKit Go.Proofs.Ytehojohacombkaa.G Go.Proofs.YtehojohacombkaaW.PrintWords Go.Proofs.YtehojohacombkaaW.PrintLast
open Go.Proofs.Ytehojohacombkaa.Lx (Tk)
set_option linter.unusedVariables false
set_option linter.unusedSimpArgs false
def mvt (d : Int) (t : Tk) : Tk := ⟨t.f0, t.f1 + d, t.f2 + d⟩
def up (c d : Int) (x : Nd) : Nd := ⟨x.f0 + c, x.f1, x.f2 + d, x.f3 + d, x.f4.map (· + c)⟩
def sg (c p0 i : Int) : Int := if i = 0 then p0 else i + c
theorem rdn_set {ns : List Nd} {i : Int} {x : Nd} {j : Int} (h0 : 0 ≤ i) (h1 : i < (ns.length : Int)) (hj : 0 ≤ j) : rdn (ns.set i.toNat x) j = if j = i then x else rdn ns j := by
  unfold rdn rd_T34
  rw [List.getD_eq_getElem?_getD, List.getD_eq_getElem?_getD, List.getElem?_set]
  by_cases h : j = i
  · subst h; rw [if_pos rfl, if_pos (by omega), if_pos rfl]; rfl
  · rw [if_neg (by omega), if_neg h]
theorem rdn_snoc {ns : List Nd} {x : Nd} {j : Int} (hj : 0 ≤ j) : rdn (ns ++ [x]) j = if j = (ns.length : Int) then x else rdn ns j := by
  unfold rdn rd_T34
  rw [List.getD_eq_getElem?_getD, List.getD_eq_getElem?_getD, List.getElem?_append]
  by_cases h : j = (ns.length : Int)
  · rw [if_pos h, if_neg (by omega), show j.toNat - ns.length = 0 by omega]; rfl
  · rw [if_neg h]
    by_cases h2 : j.toNat < ns.length
    · rw [if_pos h2]
    · rw [if_neg h2, List.getElem?_eq_none (l := [x]) (by simp only [List.length_cons, List.length_nil]; omega), List.getElem?_eq_none (by omega)]
theorem rdn_put {ns : List Nd} {p k f t j : Int} (h0 : 0 ≤ p) (h1 : p < (ns.length : Int)) (hj : 0 ≤ j) :
    rdn (putN ns p k f t) j = if j = p then withKid (rdn ns p) ns.length else if j = (ns.length : Int) then nd ns.length k f t else rdn ns j := by
  unfold putN kidAdd
  rw [if_pos (by omega), rdn_set h0 (by simp only [List.length_append, List.length_cons, List.length_nil]; omega) hj, rdn_snoc hj, rdn_snoc h0, if_neg (by omega : ¬ p = (ns.length : Int))]
theorem rdn_setTo {ns : List Nd} {id tz j : Int} (h0 : 0 ≤ id) (h1 : id < (ns.length : Int)) (hj : 0 ≤ j) :
    rdn (setTo ns id tz) j = if j = id then withTo (rdn ns id) tz else rdn ns j := by
  unfold setTo; exact rdn_set h0 h1 hj
structure Emb (c p0 d : Int) (q g : Nd) (G : Int → Nd) (ns ns' : List Nd) : Prop where
  one : 1 ≤ ns.length
  len : (ns'.length : Int) = ns.length + c
  wf : Wf ns
  pos : ∀ i, 0 ≤ i → i < (ns.length : Int) → ∀ k ∈ (rdn ns i).f4, 1 ≤ k
  at_ : ∀ i, 1 ≤ i → i < (ns.length : Int) → rdn ns' (i + c) = up c d (rdn ns i)
  root : ∃ ks, rdn ns 0 = ⟨q.f0, q.f1, q.f2, q.f3, ks⟩ ∧ rdn ns' p0 = ⟨g.f0, g.f1, g.f2, g.f3, g.f4 ++ ks.map (· + c)⟩
  low : ∀ i, 0 ≤ i → i ≤ c → i ≠ p0 → rdn ns' i = G i
  kd : ∀ i, 1 ≤ i → i < (ns.length : Int) → (rdn ns i).f1 ≠ 0
section
variable {c p0 d : Int} {q g : Nd} {G : Int → Nd} {suf : List Tk} {en en' : Int}
theorem emb_put (hp : 0 ≤ p0 ∧ p0 ≤ c) {ns ns' : List Nd} (h : Emb c p0 d q g G ns ns') {p : Int} (k f t : Int) (hk0 : k ≠ 0) (h0 : 0 ≤ p) (h1 : p < (ns.length : Int)) :
    Emb c p0 d q g G (putN ns p k f t) (putN ns' (sg c p0 p) k (f + d) (t + d)) := by
  have hl := h.len
  have h1' := h.one
  have s0 : 0 ≤ sg c p0 p := by unfold sg; split <;> omega
  have s1 : sg c p0 p < (ns'.length : Int) := by unfold sg; split <;> omega
  have L1 := putN_len ns p k f t
  have L2 := putN_len ns' (sg c p0 p) k (f + d) (t + d)
  refine ⟨by omega, by omega, putN_wf h.wf _ _ _ _ h0, ?_, ?_, ?_, ?_, ?_⟩
  · intro i i0 i1 x hx
    rw [rdn_put h0 h1 i0] at hx
    split at hx
    · rcases List.mem_append.1 hx with hx | hx
      · exact h.pos p h0 h1 x hx
      · rw [List.mem_singleton.1 hx]; omega
    · split at hx
      · cases hx
      · exact h.pos i i0 (by omega) x hx
  · intro i i0 i1
    rw [rdn_put s0 s1 (by omega), rdn_put h0 h1 (by omega)]
    by_cases e : i = p
    · subst e
      have es : sg c p0 i = i + c := by unfold sg; rw [if_neg (by omega)]
      rw [if_pos rfl, if_pos es.symm, es, h.at_ i i0 h1]
      simp only [withKid, up, List.map_append, List.map_cons, List.map_nil, hl]
    · have es : i + c ≠ sg c p0 p := by unfold sg; split <;> omega
      rw [if_neg e, if_neg es]
      by_cases e2 : i = (ns.length : Int)
      · rw [if_pos e2, if_pos (by omega)]
        simp only [nd, up, List.map_nil, hl]
      · rw [if_neg e2, if_neg (by omega)]
        exact h.at_ i i0 (by omega)
  · obtain ⟨ks, r1, r2⟩ := h.root
    by_cases e : p = 0
    · subst e
      have es : sg c p0 0 = p0 := by unfold sg; rw [if_pos rfl]
      refine ⟨ks ++ [(ns.length : Int)], ?_, ?_⟩
      · rw [rdn_put h0 h1 (by omega), if_pos rfl, r1]; rfl
      · rw [rdn_put s0 s1 hp.1, if_pos es.symm, es, r2]
        simp only [withKid, List.map_append, List.map_cons, List.map_nil, hl, List.append_assoc]
    · have es : sg c p0 p = p + c := by unfold sg; rw [if_neg e]
      refine ⟨ks, ?_, ?_⟩
      · rw [rdn_put h0 h1 (by omega), if_neg (by omega), if_neg (by omega), r1]
      · rw [rdn_put s0 s1 hp.1, if_neg (by omega), if_neg (by omega), r2]
  · intro i i0 i1 i2
    have es : i ≠ sg c p0 p := by unfold sg; split <;> omega
    rw [rdn_put s0 s1 i0, if_neg es, if_neg (by omega)]
    exact h.low i i0 i1 i2
  · intro i i0 i1
    rw [rdn_put h0 h1 (by omega)]
    split
    · rename_i e; subst e; exact h.kd i i0 h1
    · split
      · exact hk0
      · exact h.kd i i0 (by omega)
theorem emb_setTo (hp : 0 ≤ p0 ∧ p0 ≤ c) {ns ns' : List Nd} (h : Emb c p0 d q g G ns ns') {id : Int} (tz : Int) (h0 : 1 ≤ id) (h1 : id < (ns.length : Int)) :
    Emb c p0 d q g G (setTo ns id tz) (setTo ns' (id + c) (tz + d)) := by
  have hl := h.len
  have L1 := setTo_len ns id tz
  have L2 := setTo_len ns' (id + c) (tz + d)
  have h1' := h.one
  refine ⟨by omega, by omega, setTo_wf h.wf _ _ (by omega) h1, ?_, ?_, ?_, ?_, ?_⟩
  · intro i i0 i1 x hx
    rw [rdn_setTo (by omega) h1 i0] at hx
    split at hx
    · exact h.pos id (by omega) h1 x hx
    · exact h.pos i i0 (by omega) x hx
  · intro i i0 i1
    rw [rdn_setTo (by omega) (by omega) (by omega), rdn_setTo (by omega) h1 (by omega)]
    by_cases e : i = id
    · subst e; rw [if_pos rfl, if_pos rfl, h.at_ i i0 h1]; rfl
    · rw [if_neg e, if_neg (by omega)]; exact h.at_ i i0 (by omega)
  · obtain ⟨ks, r1, r2⟩ := h.root
    refine ⟨ks, ?_, ?_⟩
    · rw [rdn_setTo (by omega) h1 (by omega), if_neg (by omega), r1]
    · rw [rdn_setTo (by omega) (by omega) hp.1, if_neg (by omega), r2]
  · intro i i0 i1 i2
    rw [rdn_setTo (by omega) (by omega) i0, if_neg (by omega)]
    exact h.low i i0 i1 i2
  · intro i i0 i1
    rw [rdn_setTo (by omega) h1 (by omega)]
    split
    · rename_i e; subst e; exact h.kd i i0 h1
    · exact h.kd i i0 (by omega)
theorem emb_lack (hp : 0 ≤ p0 ∧ p0 ≤ c) {ns ns' : List Nd} (h : Emb c p0 d q g G ns ns') {id : Int} (a : Int) (h0 : 1 ≤ id) (h1 : id < (ns.length : Int)) :
    Emb c p0 d q g G (lackN ns id a) (lackN ns' (id + c) (a + d)) := by
  have := emb_put hp h 7 a a (p := id) (by decide) (by omega) h1
  rw [show sg c p0 id = id + c by unfold sg; rw [if_neg (by omega)]] at this
  exact this
theorem emb_reach (hp : 0 ≤ p0 ∧ p0 ≤ c) {ns ns' : List Nd} (h : Emb c p0 d q g G ns ns') {id : Int} (tz : Int) (h0 : 1 ≤ id) (h1 : id < (ns.length : Int)) :
    Emb c p0 d q g G (reachN ns id tz) (reachN ns' (id + c) (tz + d)) := by
  have H := emb_setTo hp h tz h0 h1
  have L1 := setTo_len ns id tz
  have ea := H.at_ id h0 (by omega)
  unfold reachN
  have ek : (rdn (setTo ns' (id + c) (tz + d)) (id + c)).f4 = (rdn (setTo ns id tz) id).f4.map (· + c) := by rw [ea]; rfl
  rw [ek, List.length_map]
  by_cases hk : 0 < (rdn (setTo ns id tz) id).f4.length
  · rw [if_pos hk, if_pos hk]
    have hm : lastKid (setTo ns id tz) id ∈ (rdn (setTo ns id tz) id).f4 := by
      unfold lastKid rd
      rw [List.getD_eq_getElem?_getD, List.getElem?_eq_getElem (by omega)]
      exact List.getElem_mem _
    have p1 := H.pos id (by omega) (by omega) _ hm
    have w1 := H.wf (rdn (setTo ns id tz) id) (rdn_mem (by omega) (by omega))
    have w2 := w1.2 _ hm
    have el : lastKid (setTo ns' (id + c) (tz + d)) (id + c) = lastKid (setTo ns id tz) id + c := by
      unfold lastKid
      rw [ek, List.length_map]
      unfold rd
      rw [List.getD_eq_getElem?_getD, List.getD_eq_getElem?_getD, List.getElem?_map, List.getElem?_eq_getElem (by omega)]
      rfl
    rw [el, H.at_ _ p1 w2.2]
    rw [show max (tz + d) (up c d (rdn (setTo ns id tz) (lastKid (setTo ns id tz) id))).f3 = max tz (rdn (setTo ns id tz) (lastKid (setTo ns id tz) id)).f3 + d by simp only [up]; omega]
    exact emb_setTo hp H _ h0 (by omega)
  · rw [if_neg hk, if_neg hk]; exact H
def opens (ts : List Tk) : Nat := ts.countP (fun t => t.f0 == 0 || t.f0 == 2)
def Lv (k k' : Nat) (ts : List Tk) : Prop := k = k' ∨ (k = k' + 1 ∧ opens ts ≤ k')
theorem opens_cons (t : Tk) (r : List Tk) : opens (t :: r) = opens r + (if (t.f0 == 0 || t.f0 == 2) = true then 1 else 0) := by
  unfold opens; rw [List.countP_cons]
theorem lv_less {k k' : Nat} {ts us : List Tk} (h : Lv k k' ts) (h1 : opens us ≤ opens ts) : Lv k k' us := by
  rcases h with h | ⟨h, h2⟩
  · exact Or.inl h
  · exact Or.inr ⟨h, by omega⟩
theorem lv_bg {k k' : Nat} {t : Tk} {r : List Tk} (h : Lv k k' (t :: r)) : bgK k' (mvt d t) = bgK k t := by
  rcases h with h | ⟨h, h2⟩
  · rw [h]; rfl
  · rw [opens_cons] at h2
    unfold bgK mvt
    simp only
    cases ho : (t.f0 == 0 || t.f0 == 2) with
    | false => simp only [Bool.false_and]
    | true =>
      rw [ho, if_pos rfl] at h2
      rw [decide_eq_true (show 1 ≤ k' by omega), decide_eq_true (show 1 ≤ k by omega)]
def OneSim (c p0 d : Int) (q g : Nd) (G : Int → Nd) (suf : List Tk) (one one' : One) (k k' : Nat) : Prop :=
  ∀ (p : Int) (ts : List Tk) (ns ns' : List Nd), ts ≠ [] → 0 ≤ p → p < (ns.length : Int) → Emb c p0 d q g G ns ns' → Lv k k' ts → (suf = [] ∨ errs (one p ts ns).2 = errs ns) →
    (one' (sg c p0 p) (ts.map (mvt d) ++ suf) ns').1 = (one p ts ns).1.map (mvt d) ++ suf ∧ Emb c p0 d q g G (one p ts ns).2 (one' (sg c p0 p) (ts.map (mvt d) ++ suf) ns').2 ∧ opens (one p ts ns).1 ≤ opens ts
theorem list_sim {one one' : One} {k k' : Nat} (hp : 0 ≤ p0 ∧ p0 ≤ c) (hen : suf = [] → en' = en + d) (hs : OneSim c p0 d q g G suf one one' k k') (ho : OneOk one 1) (hE : OneLe one) (cl id : Int) (h1 : 1 ≤ id) :
    ∀ (n n' : Nat) (s : Int) (ts : List Tk) (ns ns' : List Nd), id < (ns.length : Int) → ts.length < n → ts.length + suf.length < n' → Emb c p0 d q g G ns ns' → Lv k k' ts → (suf = [] ∨ errs (listN one (bgK k) en cl id n s ts ns).2 = errs ns) →
    (listN one' (bgK k') en' cl (id + c) n' s (ts.map (mvt d) ++ suf) ns').1 = (listN one (bgK k) en cl id n s ts ns).1.map (mvt d) ++ suf ∧ Emb c p0 d q g G (listN one (bgK k) en cl id n s ts ns).2 (listN one' (bgK k') en' cl (id + c) n' s (ts.map (mvt d) ++ suf) ns').2 ∧ opens (listN one (bgK k) en cl id n s ts ns).1 ≤ opens ts := by
  intro n
  induction n with
  | zero => intro n' s ts ns ns' hi hn; omega
  | succ n ih =>
    intro n' s ts ns ns' hi hn hn' he hv herr
    cases n' with
    | zero => omega
    | succ n' =>
      cases ts with
      | nil =>
        have hsuf : suf = [] := by
          rcases herr with h | h
          · exact h
          · exfalso
            have e : errs (reachN (lackN ns id en) id en) = errs ns := h
            rw [errs_reach, errs_lack] at e; omega
        subst hsuf
        rw [hen rfl]
        refine ⟨rfl, ?_, Nat.le_refl _⟩
        show Emb c p0 d q g G (reachN (lackN ns id en) id en) (reachN (lackN ns' (id + c) (en + d)) (id + c) (en + d))
        exact emb_reach hp (emb_lack hp he en h1 hi) en h1 (by have := putN_len ns id 7 en en; unfold lackN; omega)
      | cons t r =>
        have hbg := lv_bg (d := d) hv
        have hlr : opens r ≤ opens (t :: r) := by rw [opens_cons]; omega
        simp only [List.length_cons] at hn hn'
        show (listN one' (bgK k') en' cl (id + c) (n' + 1) s (mvt d t :: (r.map (mvt d) ++ suf)) ns').1 = _ ∧ Emb c p0 d q g G _ (listN one' (bgK k') en' cl (id + c) (n' + 1) s (mvt d t :: (r.map (mvt d) ++ suf)) ns').2 ∧ _
        rw [listN] at herr
        rw [listN, listN, hbg, show (mvt d t).f0 = t.f0 from rfl, show (mvt d t).f1 = t.f1 + d from rfl, show (mvt d t).f2 = t.f2 + d from rfl]
        have hlack := emb_lack hp he t.f1 h1 hi
        have hll : (lackN ns id t.f1).length = ns.length + 1 := putN_len _ _ _ _ _
        by_cases hc : t.f0 = cl
        · rw [if_pos hc, if_pos hc]
          refine ⟨rfl, ?_, hlr⟩
          by_cases h2 : s = 2
          · rw [if_pos h2, if_pos h2]; exact emb_reach hp hlack _ h1 (by omega)
          · rw [if_neg h2, if_neg h2]; exact emb_reach hp he _ h1 hi
        · rw [if_neg hc] at herr
          rw [if_neg hc, if_neg hc]
          by_cases h5 : t.f0 = 5 ∧ s = 1
          · rw [if_pos h5] at herr
            rw [if_pos h5, if_pos h5]
            obtain ⟨a1, a2, a3⟩ := ih n' 2 r ns ns' hi (by omega) (by omega) he (lv_less hv hlr) herr
            exact ⟨a1, a2, by omega⟩
          · rw [if_neg h5] at herr
            rw [if_neg h5, if_neg h5]
            by_cases hb : bgK k t = true
            · rw [if_pos hb] at herr
              rw [if_pos hb, if_pos hb]
              have key : ∀ ms ms' : List Nd, ns.length ≤ ms.length → errs ns ≤ errs ms → Emb c p0 d q g G ms ms' → (suf = [] ∨ errs (listN one (bgK k) en cl id n 1 (one id (t :: r) ms).1 (one id (t :: r) ms).2).2 = errs ns) →
                  (listN one' (bgK k') en' cl (id + c) n' 1 (one' (id + c) (mvt d t :: (r.map (mvt d) ++ suf)) ms').1 (one' (id + c) (mvt d t :: (r.map (mvt d) ++ suf)) ms').2).1 = (listN one (bgK k) en cl id n 1 (one id (t :: r) ms).1 (one id (t :: r) ms).2).1.map (mvt d) ++ suf ∧ Emb c p0 d q g G (listN one (bgK k) en cl id n 1 (one id (t :: r) ms).1 (one id (t :: r) ms).2).2 (listN one' (bgK k') en' cl (id + c) n' 1 (one' (id + c) (mvt d t :: (r.map (mvt d) ++ suf)) ms').1 (one' (id + c) (mvt d t :: (r.map (mvt d) ++ suf)) ms').2).2 ∧ opens (listN one (bgK k) en cl id n 1 (one id (t :: r) ms).1 (one id (t :: r) ms).2).1 ≤ opens (t :: r) := by
                intro ms ms' hlm hle hem her
                obtain ⟨⟨o1, o2, o3⟩, o4⟩ := ho id (t :: r) ms (by simp) (by omega) (by omega) hem.wf
                simp only [List.length_cons] at o4
                have e1 := hE id (t :: r) ms
                have e2 := list_le hE (bgK k) en cl id n 1 (one id (t :: r) ms).1 (one id (t :: r) ms).2
                obtain ⟨b1, b2, b3⟩ := hs id (t :: r) ms ms' (by simp) (by omega) (by omega) hem hv (her.imp_right (fun h => by omega))
                rw [show sg c p0 id = id + c by unfold sg; rw [if_neg (by omega)]] at b1 b2
                rw [show (t :: r).map (mvt d) ++ suf = mvt d t :: (r.map (mvt d) ++ suf) from rfl] at b1 b2
                rw [b1]
                obtain ⟨a1, a2, a3⟩ := ih n' 1 (one id (t :: r) ms).1 (one id (t :: r) ms).2 _ (by omega) (by omega) (by omega) b2 (lv_less hv b3) (her.imp_right (fun h => by omega))
                exact ⟨a1, a2, by omega⟩
              by_cases hs1 : s = 1
              · rw [if_pos hs1] at herr
                rw [if_pos hs1, if_pos hs1]
                exact key _ _ (by omega) (by rw [errs_lack]; omega) hlack herr
              · rw [if_neg hs1] at herr
                rw [if_neg hs1, if_neg hs1]
                exact key _ _ (Nat.le_refl _) (Nat.le_refl _) he herr
            · rw [if_neg hb] at herr
              rw [if_neg hb, if_neg hb]
              have hput := emb_put hp he 7 t.f1 t.f2 (p := id) (by decide) (by omega) hi
              rw [show sg c p0 id = id + c by unfold sg; rw [if_neg (by omega)]] at hput
              have hpl := putN_len ns id 7 t.f1 t.f2
              have e2 := list_le hE (bgK k) en cl id n s r (putN ns id 7 t.f1 t.f2)
              rw [errs_put7] at e2
              obtain ⟨a1, a2, a3⟩ := ih n' s r (putN ns id 7 t.f1 t.f2) _ (by omega) (by omega) (by omega) hput (lv_less hv hlr) (herr.imp_right (fun h => by omega))
              exact ⟨a1, a2, by omega⟩
theorem nx_cons (t : Tk) (r : List Tk) : nextT en' ((t :: r).map (mvt d) ++ suf) = mvt d (nextT en (t :: r)) := rfl
theorem nx_nil (hen : suf = [] → en' = en + d) (h : suf = []) (ts : List Tk) : nextT en' (ts.map (mvt d) ++ suf) = mvt d (nextT en ts) := by
  cases ts with
  | cons t r => rfl
  | nil => subst h; show (⟨-1, en', en'⟩ : Tk) = ⟨-1, en + d, en + d⟩; rw [hen rfl]
theorem wrap_sim {v v' : One} {k k' : Nat} (hp : 0 ≤ p0 ∧ p0 ≤ c) (hen : suf = [] → en' = en + d) (hs : OneSim c p0 d q g G suf v v' k k') (ho : OneOk v 4) (hE : OneLe v) : OneSim c p0 d q g G suf (wrapN v en) (wrapN v' en') k k' := by
  intro p ts ns ns' hn h0 h1 he hv herr
  have hsuf : suf = [] := by
    rcases herr with h | h
    · exact h
    · have := wrap_lt hE en p ts ns; omega
  have en1 := nx_nil hen hsuf ts
  have hput := emb_put hp he 7 (nextT en ts).f1 (nextT en ts).f2 (by decide) h0 h1
  have hpl := putN_len ns p 7 (nextT en ts).f1 (nextT en ts).f2
  have hl := he.len
  have h1' := he.one
  obtain ⟨b1, b2, b3⟩ := hs ns.length ts _ _ hn (by omega) (by omega) hput hv (Or.inl hsuf)
  rw [show sg c p0 (ns.length : Int) = (ns'.length : Int) by unfold sg; rw [if_neg (by omega)]; omega] at b1 b2
  obtain ⟨⟨o1, o2, o3⟩, o4⟩ := ho ns.length ts (putN ns p 7 (nextT en ts).f1 (nextT en ts).f2) hn (by omega) (by omega) hput.wf
  unfold wrapN
  rw [en1, show (mvt d (nextT en ts)).f1 = (nextT en ts).f1 + d from rfl, show (mvt d (nextT en ts)).f2 = (nextT en ts).f2 + d from rfl]
  refine ⟨b1, ?_, b3⟩
  have := emb_reach hp b2 (id := (ns.length : Int)) (nextT en ts).f2 (by omega) (by omega)
  rw [show (ns.length : Int) + c = (ns'.length : Int) by omega] at this
  exact this
theorem scal_sim (hp : 0 ≤ p0 ∧ p0 ≤ c) {ns ns' : List Nd} (h : Emb c p0 d q g G ns ns') {p : Int} (t : Tk) (h0 : 0 ≤ p) (h1 : p < (ns.length : Int)) :
    Emb c p0 d q g G (scal p t ns) (scal (sg c p0 p) (mvt d t) ns') := by
  unfold scal
  rw [show (mvt d t).f0 = t.f0 from rfl, show (mvt d t).f1 = t.f1 + d from rfl, show (mvt d t).f2 = t.f2 + d from rfl]
  split
  · exact emb_put hp h _ _ _ (by decide) h0 h1
  · split
    · exact emb_put hp h _ _ _ (by decide) h0 h1
    · split
      · exact emb_put hp h _ _ _ (by decide) h0 h1
      · exact h
theorem mem_sim {v v' : One} {k k' : Nat} (hp : 0 ≤ p0 ∧ p0 ≤ c) (hen : suf = [] → en' = en + d) (hs : OneSim c p0 d q g G suf v v' k k') (ho : OneOk v 4) (hE : OneLe v) : OneSim c p0 d q g G suf (memN v (bgK k) en) (memN v' (bgK k') en') k k' := by
  intro p ts ns ns' hn h0 h1 he hv herr
  cases ts with
  | nil => exact absurd rfl hn
  | cons t r =>
    have nx : nextT en' ((t :: r).map (mvt d) ++ suf) = mvt d t := rfl
    have nx0 : nextT en (t :: r) = t := rfl
    by_cases h6 : t.f0 = 6
    · unfold memN at herr ⊢
      rw [nx0, if_pos h6] at herr
      rw [nx, nx0, if_pos h6, if_pos (show (mvt d t).f0 = 6 from h6), show (mvt d t).f1 = t.f1 + d from rfl, show (mvt d t).f2 = t.f2 + d from rfl]
      have hput := emb_put hp he 3 t.f1 t.f2 (by decide) h0 h1
      have hpl := putN_len ns p 3 t.f1 t.f2
      have hl := he.len
      have h1' := he.one
      obtain ⟨⟨o1, o2, o3⟩, o4⟩ := ho ns.length (t :: r) (putN ns p 3 t.f1 t.f2) (by simp) (by omega) (by omega) hput.wf
      have ep := errs_put ns p 3 t.f1 t.f2 (by decide)
      have le1 := hE ns.length (t :: r) (putN ns p 3 t.f1 t.f2)
      have le2 := col_le en ns.length t (v ns.length (t :: r) (putN ns p 3 t.f1 t.f2))
      have le3 := pair_le hE (bgK k) en ns.length t (v ns.length (t :: r) (putN ns p 3 t.f1 t.f2))
      obtain ⟨b1, b2, b3⟩ := hs ns.length (t :: r) _ _ (by simp) (by omega) (by omega) hput hv (herr.imp_right (fun h => by omega))
      rw [show sg c p0 (ns.length : Int) = (ns'.length : Int) by unfold sg; rw [if_neg (by omega)]; omega] at b1 b2
      generalize v ns.length (t :: r) (putN ns p 3 t.f1 t.f2) = a at *
      generalize v' ns'.length ((t :: r).map (mvt d) ++ suf) (putN ns' (sg c p0 p) 3 (t.f1 + d) (t.f2 + d)) = a' at *
      obtain ⟨a1, a2⟩ := a
      obtain ⟨a1', a2'⟩ := a'
      simp only at b1 b2 b3 o1 o2 o3 o4 le1 le2
      subst b1
      -- the colon
      have hcol : (colN en' ns'.length (mvt d t) (a1.map (mvt d) ++ suf, a2')).1.1 = (colN en ns.length t (a1, a2)).1.1.map (mvt d) ++ suf ∧ Emb c p0 d q g G (colN en ns.length t (a1, a2)).1.2 (colN en' ns'.length (mvt d t) (a1.map (mvt d) ++ suf, a2')).1.2 ∧ (colN en' ns'.length (mvt d t) (a1.map (mvt d) ++ suf, a2')).2 = (colN en ns.length t (a1, a2)).2 + d ∧ opens (colN en ns.length t (a1, a2)).1.1 ≤ opens a1 ∧ ns.length < (colN en ns.length t (a1, a2)).1.2.length := by
        unfold colN at le2 le3 ⊢
        simp only at le2 le3 ⊢
        cases a1 with
        | nil =>
          have e0 : nextT en ([] : List Tk) = ⟨-1, en, en⟩ := rfl
          rw [e0, if_neg (show ¬ (-1 : Int) = 4 by decide)] at le3
          have e3 : errs (lackN a2 ns.length en) ≤ _ := le3
          rw [errs_lack] at e3
          have hsuf : suf = [] := by
            rcases herr with h | h
            · exact h
            · exfalso
              have e4 : colN en ns.length t ([], a2) = ((([] : List Tk), lackN a2 ns.length en), t.f2) := by
                unfold colN; simp only; rw [e0, if_neg (show ¬ (-1 : Int) = 4 by decide)]
              have e5 := pair_le hE (bgK k) en ns.length t (([] : List Tk), a2)
              rw [e4] at e5
              have e6 : errs (lackN a2 ns.length en) ≤ errs (pairN v (bgK k) en ns.length t (([] : List Tk), a2)).2 := e5
              rw [errs_lack] at e6; omega
          have en1 := nx_nil hen hsuf ([] : List Tk)
          rw [en1, e0, if_neg (show ¬ (-1 : Int) = 4 by decide), if_neg (show ¬ (mvt d (⟨-1, en, en⟩ : Tk)).f0 = 4 from (by show ¬ (-1 : Int) = 4; decide))]
          refine ⟨rfl, ?_, rfl, Nat.le_refl _, ?_⟩
          · have := emb_lack hp b2 (id := (ns.length : Int)) en (by omega) (by omega)
            rw [show (ns.length : Int) + c = (ns'.length : Int) by omega] at this
            exact this
          · show _ < (lackN a2 ns.length en).length
            have := putN_len a2 ns.length 7 en en; unfold lackN; omega
        | cons t2 r2 =>
          have e0 : nextT en (t2 :: r2) = t2 := rfl
          rw [show nextT en' ((t2 :: r2).map (mvt d) ++ suf) = mvt d t2 from rfl, e0, show (mvt d t2).f0 = t2.f0 from rfl]
          by_cases h4 : t2.f0 = 4
          · rw [if_pos h4, if_pos h4]
            exact ⟨rfl, b2, rfl, by rw [opens_cons]; show opens r2 ≤ _; omega, by show _ < a2.length; omega⟩
          · rw [if_neg h4, if_neg h4]
            refine ⟨rfl, ?_, rfl, Nat.le_refl _, ?_⟩
            · have := emb_lack hp b2 (id := (ns.length : Int)) t2.f1 (by omega) (by omega)
              rw [show (ns.length : Int) + c = (ns'.length : Int) by omega] at this
              exact this
            · show _ < (lackN a2 _ _).length
              have := putN_len a2 ns.length 7 t2.f1 t2.f1; unfold lackN; omega
      have hwf : Wf (colN en ns.length t (a1, a2)).1.2 := (col_ok en ns.length t (a1, a2) (by omega) o3).2.2.1
      have herr2 : suf = [] ∨ errs (pvN v (bgK k) en ns.length (colN en ns.length t (a1, a2)).1).2 = errs (colN en ns.length t (a1, a2)).1.2 := by
        refine herr.imp_right (fun h => ?_)
        have h' : errs (reachN (pvN v (bgK k) en ns.length (colN en ns.length t (a1, a2)).1).2 ns.length (colN en ns.length t (a1, a2)).2) = errs ns := h
        rw [errs_reach] at h'
        have := pv_le hE (bgK k) en ns.length (colN en ns.length t (a1, a2)).1
        omega
      unfold pairN
      obtain ⟨c1, c2, c3, c4, c5⟩ := hcol
      generalize colN en ns.length t (a1, a2) = b at *
      generalize colN en' ns'.length (mvt d t) (a1.map (mvt d) ++ suf, a2') = b' at *
      obtain ⟨⟨x1, x2⟩, x3⟩ := b
      obtain ⟨⟨y1, y2⟩, y3⟩ := b'
      simp only at c1 c2 c3 c4 c5 hwf herr2 ⊢
      subst c1 c3
      -- the value
      have hpv : (pvN v' (bgK k') en' ns'.length (x1.map (mvt d) ++ suf, y2)).1 = (pvN v (bgK k) en ns.length (x1, x2)).1.map (mvt d) ++ suf ∧ Emb c p0 d q g G (pvN v (bgK k) en ns.length (x1, x2)).2 (pvN v' (bgK k') en' ns'.length (x1.map (mvt d) ++ suf, y2)).2 ∧ opens (pvN v (bgK k) en ns.length (x1, x2)).1 ≤ opens x1 ∧ ns.length < (pvN v (bgK k) en ns.length (x1, x2)).2.length := by
        unfold pvN at herr2 ⊢
        simp only at herr2 ⊢
        cases x1 with
        | nil =>
          have e0 : nextT en ([] : List Tk) = ⟨-1, en, en⟩ := rfl
          have eb : bgK k (nextT en ([] : List Tk)) = false := by rw [e0]; simp [bgK]
          rw [eb, if_neg (by decide)] at herr2
          have hsuf : suf = [] := by
            rcases herr2 with h | h
            · exact h
            · exfalso; have h' : errs (lackN x2 _ _) = errs x2 := h; rw [errs_lack] at h'; omega
          have en1 := nx_nil hen hsuf ([] : List Tk)
          have eb' : bgK k' (mvt d (nextT en ([] : List Tk))) = false := by rw [e0]; simp [bgK, mvt]
          rw [en1, eb, eb', if_neg Bool.false_ne_true, if_neg Bool.false_ne_true]
          refine ⟨rfl, ?_, Nat.le_refl _, ?_⟩
          · have := emb_lack hp c2 (id := (ns.length : Int)) en (by omega) (by omega)
            rw [show (ns.length : Int) + c = (ns'.length : Int) by omega] at this
            exact this
          · show _ < (lackN x2 ns.length en).length
            have := putN_len x2 ns.length 7 en en; unfold lackN; omega
        | cons t2 r2 =>
          have e0 : nextT en (t2 :: r2) = t2 := rfl
          have hv2 : Lv k k' (t2 :: r2) := lv_less hv (by omega)
          rw [e0] at herr2
          rw [show nextT en' ((t2 :: r2).map (mvt d) ++ suf) = mvt d t2 from rfl, e0, lv_bg hv2]
          by_cases hb : bgK k t2 = true
          · rw [if_pos hb] at herr2
            rw [if_pos hb, if_pos hb]
            obtain ⟨⟨u1, u2, u3⟩, u4⟩ := ho ns.length (t2 :: r2) x2 (by simp) (by omega) (by omega) hwf
            obtain ⟨v1, v2, v3⟩ := hs ns.length (t2 :: r2) x2 y2 (by simp) (by omega) (by omega) c2 hv2 herr2
            rw [show sg c p0 (ns.length : Int) = (ns'.length : Int) by unfold sg; rw [if_neg (by omega)]; omega] at v1 v2
            exact ⟨v1, v2, v3, by omega⟩
          · rw [if_neg hb, if_neg hb]
            refine ⟨rfl, ?_, Nat.le_refl _, ?_⟩
            · have := emb_lack hp c2 (id := (ns.length : Int)) t2.f1 (by omega) (by omega)
              rw [show (ns.length : Int) + c = (ns'.length : Int) by omega] at this
              exact this
            · show _ < (lackN x2 _ _).length
              have := putN_len x2 ns.length 7 t2.f1 t2.f1; unfold lackN; omega
      obtain ⟨d1, d2, d3, d4⟩ := hpv
      refine ⟨d1, ?_, by omega⟩
      have := emb_reach hp d2 (id := (ns.length : Int)) x3 (by omega) (by omega)
      rw [show (ns.length : Int) + c = (ns'.length : Int) by omega] at this
      exact this
    · unfold memN at herr ⊢
      rw [nx0, if_neg h6] at herr
      rw [nx, nx0, if_neg h6, if_neg (show ¬ (mvt d t).f0 = 6 from h6)]
      exact wrap_sim hp hen hs ho hE p (t :: r) ns ns' hn h0 h1 he hv herr
theorem val_sim (hp : 0 ≤ p0 ∧ p0 ≤ c) (hen : suf = [] → en' = en + d) : ∀ k k', OneSim c p0 d q g G suf (valN en k) (valN en' k') k k' := by
  intro k
  induction k with
  | zero =>
    intro k' p ts ns ns' hn h0 h1 he hv herr
    have hk : k' = 0 := by rcases hv with h | h <;> omega
    subst hk
    cases ts with
    | nil => exact absurd rfl hn
    | cons t r => exact ⟨rfl, scal_sim hp he t h0 h1, by rw [opens_cons]; show opens r ≤ _; omega⟩
  | succ k ih =>
    intro k' p ts ns ns' hn h0 h1 he hv herr
    cases ts with
    | nil => exact absurd rfl hn
    | cons t r =>
      have nx0 : nextT en (t :: r) = t := rfl
      have nx : nextT en' ((t :: r).map (mvt d) ++ suf) = mvt d t := rfl
      have hor := opens_cons t r
      cases k' with
      | zero =>
        have ho : ¬ (t.f0 = 0) ∧ ¬ (t.f0 = 2) := by
          rcases hv with h | ⟨h, h2⟩
          · omega
          · rw [hor] at h2
            refine ⟨fun e => ?_, fun e => ?_⟩ <;> (rw [e] at h2; simp at h2)
        unfold valN
        rw [nx0, if_neg ho.1, if_neg ho.2]
        exact ⟨rfl, scal_sim hp he t h0 h1, by show opens r ≤ _; omega⟩
      | succ k' =>
        have hl := he.len
        have h1' := he.one
        have lst : ∀ (one one' : One) (cl K : Int), K ≠ 7 → K ≠ 0 → (t.f0 == 0 || t.f0 == 2) = true → OneSim c p0 d q g G suf one one' k k' → OneOk one 1 → OneLe one → (suf = [] ∨ errs (listN one (bgK k) en cl ns.length ((t :: r).length + 1) 0 r (putN ns p K t.f1 t.f2)).2 = errs ns) →
            (listN one' (bgK k') en' cl ns'.length (((t :: r).map (mvt d) ++ suf).length + 1) 0 (r.map (mvt d) ++ suf) (putN ns' (sg c p0 p) K (t.f1 + d) (t.f2 + d))).1 = (listN one (bgK k) en cl ns.length ((t :: r).length + 1) 0 r (putN ns p K t.f1 t.f2)).1.map (mvt d) ++ suf ∧ Emb c p0 d q g G (listN one (bgK k) en cl ns.length ((t :: r).length + 1) 0 r (putN ns p K t.f1 t.f2)).2 (listN one' (bgK k') en' cl ns'.length (((t :: r).map (mvt d) ++ suf).length + 1) 0 (r.map (mvt d) ++ suf) (putN ns' (sg c p0 p) K (t.f1 + d) (t.f2 + d))).2 ∧ opens (listN one (bgK k) en cl ns.length ((t :: r).length + 1) 0 r (putN ns p K t.f1 t.f2)).1 ≤ opens (t :: r) := by
          intro one one' cl K hK hK0 hop hsim hok hle her
          rw [hop, if_pos rfl] at hor
          have hput := emb_put hp he K t.f1 t.f2 hK0 h0 h1
          have hpl := putN_len ns p K t.f1 t.f2
          have hv2 : Lv k k' r := by
            rcases hv with h | ⟨h, h2⟩
            · exact Or.inl (by omega)
            · exact Or.inr ⟨by omega, by omega⟩
          have := list_sim hp hen hsim hok hle cl ns.length (by omega) ((t :: r).length + 1) (((t :: r).map (mvt d) ++ suf).length + 1) 0 r _ _ (by omega) (by simp only [List.length_cons]; omega) (by simp only [List.length_append, List.length_map, List.length_cons]; omega) hput hv2 (her.imp_right (fun h => by rw [h, errs_put _ _ _ _ _ hK]))
          rw [show (ns.length : Int) + c = (ns'.length : Int) by omega] at this
          exact ⟨this.1, this.2.1, by omega⟩
        unfold valN at herr ⊢
        rw [nx0] at herr
        rw [nx0, nx, show (mvt d t).f0 = t.f0 from rfl, show (mvt d t).f1 = t.f1 + d from rfl, show (mvt d t).f2 = t.f2 + d from rfl]
        by_cases ha : t.f0 = 0
        · rw [if_pos ha] at herr
          rw [if_pos ha, if_pos ha]
          exact lst _ _ 1 1 (by decide) (by decide) (by rw [ha]; rfl) (mem_sim hp hen (ih k') (val_ok en k) (val_le en k)) (mem_ok (val_ok en k) k en) (mem_le (val_le en k) _ en) herr
        · rw [if_neg ha] at herr
          rw [if_neg ha, if_neg ha]
          by_cases hb : t.f0 = 2
          · rw [if_pos hb] at herr
            rw [if_pos hb, if_pos hb]
            exact lst _ _ 3 2 (by decide) (by decide) (by rw [hb]; rfl) (ih k') (one_less (val_ok en k) (by omega)) (val_le en k) herr
          · rw [if_neg hb] at herr
            rw [if_neg hb, if_neg hb]
            exact ⟨rfl, scal_sim hp he t h0 h1, by show opens r ≤ _; omega⟩
end
end Go.Proofs.Ytehojohacombkaa.Ps
