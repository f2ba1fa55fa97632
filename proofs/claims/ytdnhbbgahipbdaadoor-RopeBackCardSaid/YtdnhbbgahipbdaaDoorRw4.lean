/- The rope of a text; Text, Slice by their contracts. -/
import Derived.Test.YtdnhbbgahipbdaaDoorRw3
import Derived.Test.YtdnhbbgahipbdaaDoorSh
namespace Go.Proofs.YtdnhbbgahipbdaaDoor.G
open Go.RowKit Go.Proofs.YtdnhbbgahipbdaaDoorW.PrintWords Go.Proofs.YtdnhbbgahipbdaaDoorW.PrintLast Go.Proofs.YtdnhbbgahipbdaaDoorW.PrintMore
open Go.Proofs.YtdnhbbgahipbdaaDoor.Ro (T cutN cutB layS layN findN aheadN behindN Ck byt)
set_option linter.unusedVariables false
set_option linter.unusedSimpArgs false
/-- The rope at block g of W holds a text. -/
def IsR (W : World) (g : Nat) (s : ByteArray) : Prop := ∃ cs, IsRc W g cs (s.size : Int) ∧ T cs = byt s ∧ Ck cs ∧ s.size ≤ 4096
theorem IsR.lt {W : World} {g : Nat} {s : ByteArray} (h : IsR W g s) : g < W.heap.size := by obtain ⟨_, h, _⟩ := h; exact h.lt
theorem IsR.below {W W2 : World} {g : Nat} {s : ByteArray} (h : IsR W g s) (k : Below W.heap.size W W2) : IsR W2 g s := by
  obtain ⟨cs, h1, h2⟩ := h; exact ⟨cs, h1.below k, h2⟩
theorem Ro.count_le : ∀ {cs : List ByteArray}, (∀ c ∈ cs, 1 ≤ c.size) → cs.length ≤ (T cs).length
  | [], _ => Nat.le_refl _
  | c :: r, h => by
    rw [Ro.T_cons, List.length_append, List.length_cons, Ro.byt_size]
    have := Ro.count_le (fun x hx => h x (List.mem_cons_of_mem _ hx))
    have := h c List.mem_cons_self
    omega
theorem Ro.inter_nil : ∀ (xs : List (List UInt8)), List.intercalate [] xs = xs.flatten
  | [] => rfl
  | [x] => by simp [List.intercalate]
  | x :: y :: r => by
    have ih := Ro.inter_nil (y :: r)
    simp only [List.intercalate, List.intersperse] at ih ⊢
    simp only [List.flatten_cons, List.nil_append] at ih ⊢
    rw [ih]
theorem Ro.join_T {cs : List ByteArray} {s : ByteArray} (h : T cs = byt s) : Lib.join (cs.map (·.data.toList)) (ByteArray.mk #[]).data.toList = s.data.toList := by
  unfold Lib.join
  rw [show (ByteArray.mk #[]).data.toList = [] from rfl, Ro.inter_nil]
  exact h
set_option maxHeartbeats 8000000 in
set_option maxRecDepth 100000 in
theorem Ro.text_any (g : Nat) (s : ByteArray) (w : World) (h : IsR w g s) :
    Calls Tryd.prog 18 #[.pointer (some ⟨g, 0, none⟩)] w fun e w' => e = .returned (.string s) ∧ Below w.heap.size w w' := by
  obtain ⟨cs, ⟨v, hb, hR⟩, hT, hK, hs⟩ := h
  have HB := Aside0.mk (Below.refl w.heap.size w)
  have hlen : cs.length ≤ 4096 := by
    have h1 := Ro.count_le (fun c hc => (hK.1 c hc).1)
    rw [hT, Ro.byt_size] at h1; omega
  have HJ : Aside0 (∀ w2, Below w.heap.size w w2 → Calls Tryd.prog 28 #[v, .string ⟨#[]⟩] w2 fun e w' => e = .returned (.string s) ∧ Below w2.heap.size w2 w') := ⟨fun w2 k => by
    have hR2 := Kd.R_below hR k
    by_cases hp : 0 < cs.length
    · obtain ⟨gr, cap, e9, -, hgl, -, -⟩ := Kd.R_form hR2 hp
      obtain ⟨A9, c9, e8, hle, hC⟩ := Kd.R_reads hR2
      rw [e9] at e8
      injection e8 with e8 e7 e6
      subst e8 e6
      rw [e9]
      refine (Sh.strings_Join gr 0 cap cs ⟨#[]⟩ w2 (fun j x hj => ?_) hgl (by omega) hle (by rw [Ro.join_T hT]; simp; omega)).mono ?_
      · have hlt : j < cs.length := (List.getElem?_eq_some_iff.1 hj).1
        obtain ⟨ad, ea, hx⟩ := Kd.at_string hC (j : Int) (by omega) (by omega)
        cases ea
        rw [Ro.rd, Int.toNat_natCast, List.getD_eq_getElem?_getD, hj] at hx
        rw [show (⟨gr, 0 + j, none⟩ : Addr) = (⟨gr, 0, none⟩ : Addr).add j from by simp [Addr.add]]
        exact hx
      · rintro e w' ⟨rfl, hb'⟩
        refine ⟨?_, hb'⟩
        rw [Ro.join_T hT]
    · obtain rfl : cs = [] := List.eq_nil_of_length_eq_zero (by omega)
      obtain ⟨A9, c9, rfl⟩ := Kd.R_slice hR2
      refine (Sh.strings_Join_none A9 c9 ⟨#[]⟩ w2).mono ?_
      rintro e w' ⟨rfl, rfl⟩
      have : s = ⟨#[]⟩ := Ro.byt_inj (by rw [← hT]; rfl)
      exact ⟨by rw [this], Below.refl _ _⟩⟩
  obtain ⟨A9, c9, rfl⟩ := Kd.R_slice hR
  obtain ⟨m, hm⟩ : ∃ m, m = cs.length := ⟨_, rfl⟩
  rw [← hm] at HJ hb
  obtain ⟨x0, x1, -, -⟩ := Ro.two hb
  clear hb hR hT hK hlen hm
  go_enter Tryd.func18, Tryd.ntmps18
  go_wp2_with (go_at_call 28; refine (HJ.out _ (by repeat (first | (with_reducible first | exact HB.out | apply below_alloc | apply pw_below_drewN | apply below_drew1) | exact HB.out))).mono ?_; rintro e w2 ⟨rfl, hb2⟩; have n0_ := Aside0.mk (below_step HB.out hb2); clear HB hb2; have HB := n0_; clear n0_)
  go_ret
  exact ⟨rfl, by repeat (first | (with_reducible first | exact HB.out | apply below_alloc | apply pw_below_drewN | apply below_drew1) | exact HB.out)⟩
end Go.Proofs.YtdnhbbgahipbdaaDoor.G
