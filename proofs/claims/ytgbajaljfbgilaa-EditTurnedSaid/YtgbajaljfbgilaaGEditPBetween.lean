-- Laid by this session's own program gprint.py (wip/tools), out of the kit's print and of texts of this session. Lean checks it.
import Derived.Test.YtgbajaljfbgilaaGx0
import Derived.Test.YtgbajaljfbgilaaGZ6
import Derived.Laws.Strings
import Derived.OneCell
import Derived.Deep.RegionWith
namespace Go.Proofs.Ytgbajaljfbgilaa.G
open Go.RowKit Go.Proofs.YtgbajaljfbgilaaW.PrintWords Go.Proofs.YtgbajaljfbgilaaW.PrintLast Go.Proofs.YtgbajaljfbgilaaW.PrintMore
set_option linter.unusedVariables false
set_option linter.unusedSimpArgs false

/-! ### edit_Between: function 7 -/
theorem edit_Between.at_byte (s : ByteArray) (i : Nat) (h : i < s.size) : s[i] = s.data.toList.getD i 0 := by
 have h' : i < s.data.toList.length := by simpa using h
 rw [List.getD_eq_getElem?_getD, List.getElem?_eq_getElem h']
 simp
 rfl
theorem edit_Between.eq_byte (a b : UInt8) : ((a.toNat : Int) == (b.toNat : Int)) = decide (a = b) := by
 rw [Bool.eq_iff_iff]; simp only [beq_iff_eq, decide_eq_true_eq, Int.ofNat_inj, UInt8.toNat_inj]
set_option maxHeartbeats 8000000 in
set_option maxRecDepth 100000 in
theorem edit_Between.c1_any (s t : ByteArray) (p q : Addr) (i : Nat) (w : World) (h1 : i < s.size) (h2 : i < t.size) (hp : w.cell? p = some (.string s)) (hq : w.cell? q = some (.string t)) :
 Calls Try.prog 19 #[.int .i64 i, .pointer (some p), .pointer (some q)] w fun e w' => e = .returned (.bool (decide (s.data.toList.getD i 0 = t.data.toList.getD i 0))) ∧ w' = w.drew := by
 go_enter Try.func19, Try.ntmps19
 go_wp2
 go_region
 all_goals (try go_wp2)
 all_goals (try go_ret)
 all_goals refine ⟨?_, rfl⟩
 all_goals rw [← edit_Between.at_byte s i h1, ← edit_Between.at_byte t i h2, ← edit_Between.eq_byte]
 all_goals rfl
set_option maxHeartbeats 8000000 in
set_option maxRecDepth 100000 in
theorem edit_Between.c2_any (s t : ByteArray) (p q : Addr) (i : Nat) (w : World) (h1 : i < s.size) (h2 : i < t.size) (hs : s.size ≤ 4096) (ht : t.size ≤ 4096) (hp : w.cell? p = some (.string s)) (hq : w.cell? q = some (.string t)) :
 Calls Try.prog 20 #[.int .i64 i, .pointer (some p), .pointer (some q)] w fun e w' => e = .returned (.bool (decide (s.data.toList.getD (s.size - 1 - i) 0 = t.data.toList.getD (t.size - 1 - i) 0))) ∧ w' = w.drew := by
 have e1 : wrap64 ((s.size : Int) - 1) = (s.size : Int) - 1 := by unfold wrap64; omega
 have e2 : wrap64 ((t.size : Int) - 1) = (t.size : Int) - 1 := by unfold wrap64; omega
 have e3 : wrap64 ((s.size : Int) - 1 - (i : Int)) = ((s.size - 1 - i : Nat) : Int) := by unfold wrap64; omega
 have e4 : wrap64 ((t.size : Int) - 1 - (i : Int)) = ((t.size - 1 - i : Nat) : Int) := by unfold wrap64; omega
 have e1w : IntKind.i64.wrap ((s.size : Int) - 1) = (s.size : Int) - 1 := (i64_w _).trans e1
 have e2w : IntKind.i64.wrap ((t.size : Int) - 1) = (t.size : Int) - 1 := (i64_w _).trans e2
 have e3w : IntKind.i64.wrap ((s.size : Int) - 1 - (i : Int)) = ((s.size - 1 - i : Nat) : Int) := (i64_w _).trans e3
 have e4w : IntKind.i64.wrap ((t.size : Int) - 1 - (i : Int)) = ((t.size - 1 - i : Nat) : Int) := (i64_w _).trans e4
 have l1 : s.size - 1 - i < s.size := by omega
 have l2 : t.size - 1 - i < t.size := by omega
 go_enter Try.func20, Try.ntmps20
 go_wp2
 go_region
 all_goals (try go_wp2)
 all_goals (try go_ret)
 all_goals refine ⟨?_, rfl⟩
 all_goals rw [← edit_Between.at_byte s _ l1, ← edit_Between.at_byte t _ l2, ← edit_Between.eq_byte]
 all_goals rfl

/-- How often a test holds, from i on, at most m times. -/
def edit_Between.alk (same : Nat → Bool) : Nat → Nat → Nat
 | 0, i => i
 | m + 1, i => if same i = true then edit_Between.alk same m (i + 1) else i
def edit_Between.same1 (s t : ByteArray) (i : Nat) : Bool := decide (s.data.toList.getD i 0 = t.data.toList.getD i 0)
def edit_Between.same2 (s t : ByteArray) (i : Nat) : Bool := decide (s.data.toList.getD (s.size - 1 - i) 0 = t.data.toList.getD (t.size - 1 - i) 0)

set_option maxHeartbeats 8000000 in
set_option maxRecDepth 100000 in
theorem edit_Between.alike1_any (s t : ByteArray) (p q : Addr) (n : Nat) (w : World) (h1 : n ≤ s.size) (h2 : n ≤ t.size) (hs : s.size ≤ 4096) (ht : t.size ≤ 4096) (hp : w.cell? p = some (.string s)) (hq : w.cell? q = some (.string t)) :
 Calls Try.prog 18 #[.int .i64 n, .func (.func 19) #[] #[.pointer (some p), .pointer (some q)]] w fun e w' => e = .returned (.int .i64 (edit_Between.alk (edit_Between.same1 s t) n 0)) ∧ Below w.heap.size w w' := by
 obtain ⟨N, hN⟩ : ∃ N, edit_Between.alk (edit_Between.same1 s t) n 0 = N := ⟨_, rfl⟩
 rw [hN]
 have HN := Aside0.mk hN
 clear hN
 have HP := Aside0.mk hp
 have HQ := Aside0.mk hq
 clear hp hq
 go_enter Try.func18, Try.ntmps18
 go_wp2
 go_loopg [5] n (fun gk v5 w' => ∃ i : Nat, v5 = .int .i64 (i : Int) ∧ Aside0 (i + gk = n) ∧ Aside0 (edit_Between.alk (edit_Between.same1 s t) gk i = N) ∧ Aside0 (Below w.heap.size w w'))
 case atStart => exact ⟨0, rfl, ⟨by omega⟩, HN, ⟨Below.refl _ _⟩⟩
 case round =>
  obtain ⟨i, rfl, HG, HA, HB⟩ := hrel
  cases gk with
  | zero =>
   have e2 : decide ((i : Int) < (n : Int)) = false := decide_eq_false (by have := HG.out; omega)
   have e3 : decide (i < n) = false := decide_eq_false (by have := HG.out; omega)
   have e4 : ¬ i < n := by have := HG.out; omega
   go_wp2
   all_goals go_ret
   all_goals exact ⟨by have h := HA.out; rw [edit_Between.alk] at h; rw [← h]; rfl, HB.out⟩
  | succ gk =>
   have e2 : decide ((i : Int) < (n : Int)) = true := decide_eq_true (by have := HG.out; omega)
   have e3 : decide (i < n) = true := decide_eq_true (by have := HG.out; omega)
   have e4 : i < n := by have := HG.out; omega
   have hp2 := (HB.out.cell (World.block_lt_of_cell? w _ HP.out)).trans HP.out
   have hq2 := (HB.out.cell (World.block_lt_of_cell? w _ HQ.out)).trans HQ.out
   have HP2 := Aside0.mk hp2
   have HQ2 := Aside0.mk hq2
   clear hp2 hq2
   have e5 : wrap64 ((i : Int) + 1) = ((i + 1 : Nat) : Int) := by unfold wrap64; omega
   have e5w : IntKind.i64.wrap ((i : Int) + 1) = ((i + 1 : Nat) : Int) := (i64_w _).trans e5
   have hs1 : edit_Between.same1 s t i = decide (s.data.toList.getD i 0 = t.data.toList.getD i 0) := rfl
   have HS1 := Aside0.mk hs1
   clear hs1
   by_cases c : edit_Between.same1 s t i = true
   · have hA : edit_Between.alk (edit_Between.same1 s t) gk (i + 1) = N := by have h := HA.out; rw [edit_Between.alk, if_pos c] at h; exact h
     have HA2 := Aside0.mk hA
     have hc := HS1.out.symm.trans c
     have HC := Aside0.mk hc
     clear hA HA c hc
     go_wp2_with (first | ((with_reducible refine gate_callee (f := 19) rfl ?_); refine goesL_ (some 12) rfl rfl Try.func19 (by kernel_rfl) rfl #[.int .i64 (i : Int), .pointer (some p), .pointer (some q)] rfl (by (try simp only [List.map_toArray, List.map_cons, List.map_nil]); first | done | rfl) ?_; (refine (edit_Between.c1_any s t p q i _ (by omega) (by omega)  HP2.out HQ2.out).mono ?_); rintro e w6 ⟨rfl, rfl⟩; rw [HC.out]; refine ⟨_, rfl, ?_⟩) | (go_at_call 19; (refine (edit_Between.c1_any s t p q i _ (by omega) (by omega)  HP2.out HQ2.out).mono ?_); rintro e w6 ⟨rfl, rfl⟩; rw [HC.out]))
     go_roundg gk
     case measure => omega
     case rel => exact ⟨i + 1, by first | rfl | (simp; done) | (rw [← e5]; simp), ⟨by have := HG.out; omega⟩, HA2, ⟨by repeat (first | (with_reducible first | exact HB.out | apply below_alloc | apply pw_below_drewN | apply below_drew1) | exact HB.out)⟩⟩
   · have hA : i = N := by have h := HA.out; rw [edit_Between.alk, if_neg c] at h; exact h
     have HA2 := Aside0.mk hA
     have hc := HS1.out.symm.trans (Bool.eq_false_iff.mpr c)
     have HC := Aside0.mk hc
     clear hA HA c hc
     go_wp2_with (first | ((with_reducible refine gate_callee (f := 19) rfl ?_); refine goesL_ (some 12) rfl rfl Try.func19 (by kernel_rfl) rfl #[.int .i64 (i : Int), .pointer (some p), .pointer (some q)] rfl (by (try simp only [List.map_toArray, List.map_cons, List.map_nil]); first | done | rfl) ?_; (refine (edit_Between.c1_any s t p q i _ (by omega) (by omega)  HP2.out HQ2.out).mono ?_); rintro e w6 ⟨rfl, rfl⟩; rw [HC.out]; refine ⟨_, rfl, ?_⟩) | (go_at_call 19; (refine (edit_Between.c1_any s t p q i _ (by omega) (by omega)  HP2.out HQ2.out).mono ?_); rintro e w6 ⟨rfl, rfl⟩; rw [HC.out]))
     all_goals go_ret
     all_goals exact ⟨by rw [← HA2.out]; rfl, by repeat (first | (with_reducible first | exact HB.out | apply below_alloc | apply pw_below_drewN | apply below_drew1) | exact HB.out)⟩

set_option maxHeartbeats 8000000 in
set_option maxRecDepth 100000 in
theorem edit_Between.alike2_any (s t : ByteArray) (p q : Addr) (n : Nat) (w : World) (h1 : n ≤ s.size) (h2 : n ≤ t.size) (hs : s.size ≤ 4096) (ht : t.size ≤ 4096) (hp : w.cell? p = some (.string s)) (hq : w.cell? q = some (.string t)) :
 Calls Try.prog 18 #[.int .i64 n, .func (.func 20) #[] #[.pointer (some p), .pointer (some q)]] w fun e w' => e = .returned (.int .i64 (edit_Between.alk (edit_Between.same2 s t) n 0)) ∧ Below w.heap.size w w' := by
 obtain ⟨N, hN⟩ : ∃ N, edit_Between.alk (edit_Between.same2 s t) n 0 = N := ⟨_, rfl⟩
 rw [hN]
 have HN := Aside0.mk hN
 clear hN
 have HP := Aside0.mk hp
 have HQ := Aside0.mk hq
 clear hp hq
 go_enter Try.func18, Try.ntmps18
 go_wp2
 go_loopg [5] n (fun gk v5 w' => ∃ i : Nat, v5 = .int .i64 (i : Int) ∧ Aside0 (i + gk = n) ∧ Aside0 (edit_Between.alk (edit_Between.same2 s t) gk i = N) ∧ Aside0 (Below w.heap.size w w'))
 case atStart => exact ⟨0, rfl, ⟨by omega⟩, HN, ⟨Below.refl _ _⟩⟩
 case round =>
  obtain ⟨i, rfl, HG, HA, HB⟩ := hrel
  cases gk with
  | zero =>
   have e2 : decide ((i : Int) < (n : Int)) = false := decide_eq_false (by have := HG.out; omega)
   have e3 : decide (i < n) = false := decide_eq_false (by have := HG.out; omega)
   have e4 : ¬ i < n := by have := HG.out; omega
   go_wp2
   all_goals go_ret
   all_goals exact ⟨by have h := HA.out; rw [edit_Between.alk] at h; rw [← h]; rfl, HB.out⟩
  | succ gk =>
   have e2 : decide ((i : Int) < (n : Int)) = true := decide_eq_true (by have := HG.out; omega)
   have e3 : decide (i < n) = true := decide_eq_true (by have := HG.out; omega)
   have e4 : i < n := by have := HG.out; omega
   have hp2 := (HB.out.cell (World.block_lt_of_cell? w _ HP.out)).trans HP.out
   have hq2 := (HB.out.cell (World.block_lt_of_cell? w _ HQ.out)).trans HQ.out
   have HP2 := Aside0.mk hp2
   have HQ2 := Aside0.mk hq2
   clear hp2 hq2
   have e5 : wrap64 ((i : Int) + 1) = ((i + 1 : Nat) : Int) := by unfold wrap64; omega
   have e5w : IntKind.i64.wrap ((i : Int) + 1) = ((i + 1 : Nat) : Int) := (i64_w _).trans e5
   have hs1 : edit_Between.same2 s t i = decide (s.data.toList.getD (s.size - 1 - i) 0 = t.data.toList.getD (t.size - 1 - i) 0) := rfl
   have HS1 := Aside0.mk hs1
   clear hs1
   by_cases c : edit_Between.same2 s t i = true
   · have hA : edit_Between.alk (edit_Between.same2 s t) gk (i + 1) = N := by have h := HA.out; rw [edit_Between.alk, if_pos c] at h; exact h
     have HA2 := Aside0.mk hA
     have hc := HS1.out.symm.trans c
     have HC := Aside0.mk hc
     clear hA HA c hc
     go_wp2_with (first | ((with_reducible refine gate_callee (f := 20) rfl ?_); refine goesL_ (some 12) rfl rfl Try.func20 (by kernel_rfl) rfl #[.int .i64 (i : Int), .pointer (some p), .pointer (some q)] rfl (by (try simp only [List.map_toArray, List.map_cons, List.map_nil]); first | done | rfl) ?_; (refine (edit_Between.c2_any s t p q i _ (by omega) (by omega) hs ht HP2.out HQ2.out).mono ?_); rintro e w6 ⟨rfl, rfl⟩; rw [HC.out]; refine ⟨_, rfl, ?_⟩) | (go_at_call 20; (refine (edit_Between.c2_any s t p q i _ (by omega) (by omega) hs ht HP2.out HQ2.out).mono ?_); rintro e w6 ⟨rfl, rfl⟩; rw [HC.out]))
     go_roundg gk
     case measure => omega
     case rel => exact ⟨i + 1, by first | rfl | (simp; done) | (rw [← e5]; simp), ⟨by have := HG.out; omega⟩, HA2, ⟨by repeat (first | (with_reducible first | exact HB.out | apply below_alloc | apply pw_below_drewN | apply below_drew1) | exact HB.out)⟩⟩
   · have hA : i = N := by have h := HA.out; rw [edit_Between.alk, if_neg c] at h; exact h
     have HA2 := Aside0.mk hA
     have hc := HS1.out.symm.trans (Bool.eq_false_iff.mpr c)
     have HC := Aside0.mk hc
     clear hA HA c hc
     go_wp2_with (first | ((with_reducible refine gate_callee (f := 20) rfl ?_); refine goesL_ (some 12) rfl rfl Try.func20 (by kernel_rfl) rfl #[.int .i64 (i : Int), .pointer (some p), .pointer (some q)] rfl (by (try simp only [List.map_toArray, List.map_cons, List.map_nil]); first | done | rfl) ?_; (refine (edit_Between.c2_any s t p q i _ (by omega) (by omega) hs ht HP2.out HQ2.out).mono ?_); rintro e w6 ⟨rfl, rfl⟩; rw [HC.out]; refine ⟨_, rfl, ?_⟩) | (go_at_call 20; (refine (edit_Between.c2_any s t p q i _ (by omega) (by omega) hs ht HP2.out HQ2.out).mono ?_); rintro e w6 ⟨rfl, rfl⟩; rw [HC.out]))
     all_goals go_ret
     all_goals exact ⟨by rw [← HA2.out]; rfl, by repeat (first | (with_reducible first | exact HB.out | apply below_alloc | apply pw_below_drewN | apply below_drew1) | exact HB.out)⟩
def edit_Between.mini (x y : Int) : Int := if y < x then y else x
theorem edit_Between.mini_nat (a b : Nat) : edit_Between.mini (a : Int) (b : Int) = ((min a b : Nat) : Int) := by unfold edit_Between.mini; split <;> omega
theorem edit_Between.min2_mini (k k' : IntKind) (x y : Int) : Builtin.min2 (.int k x) (.int k' y) = pure (.int k (edit_Between.mini x y)) := by rw [min2_int]; rfl
attribute [local go_sem] edit_Between.min2_mini min_two
set_option linter.unusedVariables false
set_option linter.unusedSimpArgs false
theorem edit_Between.alike1_at (x : Int) (s t : ByteArray) (p q : Addr) (n : Nat) (w : World) (hx : x = (n : Int)) (h1 : n ≤ s.size) (h2 : n ≤ t.size) (hs : s.size ≤ 4096) (ht : t.size ≤ 4096) (hp : w.cell? p = some (.string s)) (hq : w.cell? q = some (.string t)) :
 Calls Try.prog 18 #[.int .i64 x, .func (.func 19) #[] #[.pointer (some p), .pointer (some q)]] w fun e w' => e = .returned (.int .i64 (edit_Between.alk (edit_Between.same1 s t) n 0)) ∧ Below w.heap.size w w' := by
 subst hx; exact edit_Between.alike1_any s t p q n w h1 h2 hs ht hp hq
theorem edit_Between.alike2_at (x : Int) (s t : ByteArray) (p q : Addr) (n : Nat) (w : World) (hx : x = (n : Int)) (h1 : n ≤ s.size) (h2 : n ≤ t.size) (hs : s.size ≤ 4096) (ht : t.size ≤ 4096) (hp : w.cell? p = some (.string s)) (hq : w.cell? q = some (.string t)) :
 Calls Try.prog 18 #[.int .i64 x, .func (.func 20) #[] #[.pointer (some p), .pointer (some q)]] w fun e w' => e = .returned (.int .i64 (edit_Between.alk (edit_Between.same2 s t) n 0)) ∧ Below w.heap.size w w' := by
 subst hx; exact edit_Between.alike2_any s t p q n w h1 h2 hs ht hp hq
theorem edit_Between.two_set {w3 : World} {b : Nat} {s t s1 t1 : Value} (h0 : w3.heap[b]? = some (.cells #[s] 9 (0, 0))) (h1 : w3.heap[b + 1]? = some (.cells #[t] 9 (0, 0))) :
 (((w3.setCell ⟨b, 0, none⟩ s1).setCell ⟨b + 1, 0, none⟩ t1).drew).heap[b]? = some (.cells #[s1] 9 (0, 0)) ∧ (((w3.setCell ⟨b, 0, none⟩ s1).setCell ⟨b + 1, 0, none⟩ t1).drew).heap[b + 1]? = some (.cells #[t1] 9 (0, 0)) := by
 refine ⟨?_, ?_⟩
 · show ((w3.setCell ⟨b, 0, none⟩ s1).setCell ⟨b + 1, 0, none⟩ t1).heap[b]? = _
   rw [Below.heap_setCell _ _ _ b (by simp)]
   exact one_setCell h0
 · show ((w3.setCell ⟨b, 0, none⟩ s1).setCell ⟨b + 1, 0, none⟩ t1).heap[b + 1]? = _
   refine one_setCell (v := t) ?_
   rw [Below.heap_setCell _ _ _ (b + 1) (by simp)]
   exact h1
theorem edit_Between.alk_le (same : Nat → Bool) (m : Nat) : ∀ i, i ≤ edit_Between.alk same m i ∧ edit_Between.alk same m i ≤ i + m := by
 induction m with
 | zero => intro i; simp [edit_Between.alk]
 | succ m ih =>
  intro i; rw [edit_Between.alk]
  split
  · have := ih (i + 1); omega
  · omega
def edit_Between.ahead (s t : ByteArray) : Nat := edit_Between.alk (edit_Between.same1 s t) (min s.size t.size) 0
def edit_Between.behind (s t : ByteArray) : Nat := edit_Between.alk (edit_Between.same2 s t) (min s.size t.size) 0
def edit_Between.fin (k n : Nat) (s1 t1 : ByteArray) : Option (List S36 × Int) := (edit_made.f k n (t1.extract 0 (t1.size - edit_Between.behind s1 t1)) ((s1.size - edit_Between.behind s1 t1 : Nat) : Int) (edit_Between.behind s1 t1)).bind fun o => some (o, 0)
def edit_Between.f (k : Nat) (a0 a1 : ByteArray) : Option (List S36 × Int) :=
 if a0.size > 4096 then some ([], 800) else if a1.size > 4096 then some ([], 800) else
 edit_Between.fin k (edit_Between.ahead a0 a1) (a0.extract (edit_Between.ahead a0 a1) a0.size) (a1.extract (edit_Between.ahead a0 a1) a1.size)
theorem edit_Between.mono : ∀ a0 a1 k, LeO (edit_Between.f k a0 a1) (edit_Between.f (k + 1) a0 a1) := by
 intro a0 a1 k; unfold edit_Between.f edit_Between.fin
 exact LeO.ite (LeO.refl _) (LeO.ite (LeO.refl _) (LeO.bind (edit_made.mono _ _ _ _ _) (fun _ => LeO.refl _)))
set_option maxHeartbeats 8000000 in
set_option maxRecDepth 100000 in
theorem edit_Between.calls (k : Nat) (a0 a1 : ByteArray) (r1 : List S36) (r2 : Int) (w : World) (h : edit_Between.f k a0 a1 = some (r1, r2)) :
 Calls Try.prog 7 #[.string a0, .string a1] w fun e w' => ∃ v0_ : Value, e = .returned (.tuple #[v0_, .int .i64 r2]) ∧ Kd.R k36 36 w' w.heap.size (fun _ => True) v0_ r1 ∧ Below w.heap.size w w' := by
 have hmf : ∀ (fn : Fn) (first cap : Array Value) (w : World), (Instr.makeFunc fn first cap).run Try.prog w = .ok (.func fn first cap) w := fun _ _ _ _ => rfl
 have hB0 : Below w.heap.size w ((w.alloc (.cells #[.string a0] 9)).alloc (.cells #[.string a1] 9)) := ((Below.refl w.heap.size w).alloc (Nat.le_refl _) _).alloc (by simp) _
 have hP : ((w.alloc (.cells #[.string a0] 9)).alloc (.cells #[.string a1] 9)).cell? ⟨w.heap.size, 0, none⟩ = some (.string a0) := by
  rw [World.cell?_alloc_past _ _ _ (by simp), World.cell?_alloc_at _ _ _ _ rfl]; rfl
 have hQ : ((w.alloc (.cells #[.string a0] 9)).alloc (.cells #[.string a1] 9)).cell? ⟨w.heap.size + 1, 0, none⟩ = some (.string a1) := by
  rw [World.cell?_alloc_at _ _ _ _ (by simp)]; rfl
 unfold edit_Between.f edit_Between.fin edit_Between.ahead edit_Between.behind at h
 by_cases c0 : a0.size > 4096
 · rw [if_pos c0] at h
   simp only [Option.some.injEq, Prod.mk.injEq] at h
   obtain ⟨rfl, rfl⟩ := h
   have c1 : decide (4096 < (a0.size : Int)) = true := decide_eq_true (by omega)
   have c2 : decide (4096 < a0.size) = true := decide_eq_true c0
   go_enter Try.func7, Try.ntmps7
   go_wp2
   go_ret2
   exact ⟨_, rfl, Kd.R_nil _ _ _ _ _, hB0⟩
 · rw [if_neg c0] at h
   have c1 : decide (4096 < (a0.size : Int)) = false := decide_eq_false (by omega)
   have c2 : decide (4096 < a0.size) = false := decide_eq_false c0
   by_cases d0 : a1.size > 4096
   · rw [if_pos d0] at h
     simp only [Option.some.injEq, Prod.mk.injEq] at h
     obtain ⟨rfl, rfl⟩ := h
     have d1 : decide (4096 < (a1.size : Int)) = true := decide_eq_true (by omega)
     have d2 : decide (4096 < a1.size) = true := decide_eq_true d0
     go_enter Try.func7, Try.ntmps7
     go_wp2
     go_ret2
     exact ⟨_, rfl, Kd.R_nil _ _ _ _ _, hB0⟩
   · rw [if_neg d0] at h
     have d1 : decide (4096 < (a1.size : Int)) = false := decide_eq_false (by omega)
     have d2 : decide (4096 < a1.size) = false := decide_eq_false d0
     have hB : ∀ b v, ((w.alloc (.cells #[.string a0] 9)).alloc (.cells #[.string a1] 9)).heap[b]? = some v → b < ((w.alloc (.cells #[.string a0] 9)).alloc (.cells #[.string a1] 9)).heap.size := fun b v h => lt_of_block h
     have hb0 : ((w.alloc (.cells #[.string a0] 9)).alloc (.cells #[.string a1] 9)).heap[w.heap.size]? = some (.cells #[.string a0] 9 (0, 0)) := by
      show ((w.heap.push _).push _)[w.heap.size]? = _
      rw [Array.getElem?_push, if_neg (by simp), Array.getElem?_push, if_pos rfl]
     have hb1 : ((w.alloc (.cells #[.string a0] 9)).alloc (.cells #[.string a1] 9)).heap[w.heap.size + 1]? = some (.cells #[.string a1] 9 (0, 0)) := by
      show ((w.heap.push _).push _)[w.heap.size + 1]? = _
      rw [Array.getElem?_push, if_pos (by simp)]
     obtain ⟨n, hn⟩ : ∃ n, edit_Between.alk (edit_Between.same1 a0 a1) (min a0.size a1.size) 0 = n := ⟨_, rfl⟩
     have hnl := edit_Between.alk_le (edit_Between.same1 a0 a1) (min a0.size a1.size) 0
     rw [hn] at h hnl
     obtain ⟨s1, hs1⟩ : ∃ s1, a0.extract n a0.size = s1 := ⟨_, rfl⟩
     obtain ⟨t1, ht1⟩ : ∃ t1, a1.extract n a1.size = t1 := ⟨_, rfl⟩
     have zs1 : s1.size = a0.size - n := by rw [← hs1, ByteArray.size_extract]; omega
     have zt1 : t1.size = a1.size - n := by rw [← ht1, ByteArray.size_extract]; omega
     rw [hs1, ht1] at h
     obtain ⟨m, hm⟩ : ∃ m, edit_Between.alk (edit_Between.same2 s1 t1) (min s1.size t1.size) 0 = m := ⟨_, rfl⟩
     have hml := edit_Between.alk_le (edit_Between.same2 s1 t1) (min s1.size t1.size) 0
     rw [hm] at h hml
     have H := Option.bind_eq_some_iff.mp h
     clear h
     obtain ⟨o, HO, H⟩ := H
     have HM := Aside0.mk HO
     clear HO
     simp only [Option.some.injEq, Prod.mk.injEq] at H
     obtain ⟨rfl, rfl⟩ := H
     have hB0 := Aside0.mk hB0
     have n0 := Nat.min_le_left a0.size a1.size
     have n1 := Nat.min_le_right a0.size a1.size
     have q1 := eq_true (show (0 : Int) ≤ (n : Int) by omega)
     have q2 := eq_true (show (n : Int) ≤ (a0.size : Int) by omega)
     have q3 := eq_true (show (n : Int) ≤ (a1.size : Int) by omega)
     have g1 : wrap64 ((t1.size : Int) - (m : Int)) = ((t1.size - m : Nat) : Int) := by unfold wrap64; omega
     have g2 : wrap64 ((s1.size : Int) - (m : Int)) = ((s1.size - m : Nat) : Int) := by unfold wrap64; omega
     have g1w : IntKind.i64.wrap ((t1.size : Int) - (m : Int)) = ((t1.size - m : Nat) : Int) := (i64_w _).trans g1
     have g2w : IntKind.i64.wrap ((s1.size : Int) - (m : Int)) = ((s1.size - m : Nat) : Int) := (i64_w _).trans g2
     have g3 := eq_true (show (0 : Int) ≤ ((t1.size - m : Nat) : Int) by omega)
     have g4 := eq_true (show ((t1.size - m : Nat) : Int) ≤ (t1.size : Int) by omega)
     have g5 := eq_true (show t1.size - m ≤ t1.size by omega)
     have ZS := Aside0.mk zs1
     have ZT := Aside0.mk zt1
     have ZM := Aside0.mk hml
     clear zs1 zt1
     go_enter Try.func7, Try.ntmps7
     go_wp2_with (first | (go_at_call 18; refine (edit_Between.alike1_at _ a0 a1 ⟨w.heap.size, 0, none⟩ ⟨w.heap.size + 1, 0, none⟩ (min a0.size a1.size) _ (edit_Between.mini_nat _ _) n0 n1 (by omega) (by omega) hP hQ).mono ?_; rintro e w3 ⟨rfl, hb⟩; rw [hn]; have HP3 := (hb.block _ (hB _ _ hb0)).trans hb0; have HQ3 := (hb.block _ (hB _ _ hb1)).trans hb1; have HB3 := Aside0.mk (hB0.out.trans (hb.mono (by simp; omega))); have x0 := cell_of_one HP3; have x1 := cell_of_one HQ3; have x2 := free_of_one HP3; have x3 := free_of_one HQ3; clear hb))
     all_goals go_region
     all_goals (
      obtain ⟨y0, y1⟩ := edit_Between.two_set (s1 := .string s1) (t1 := .string t1) HP3 HQ3
      have HB4 := Aside0.mk ((((HB3.out.setCell (p := ⟨w.heap.size, 0, none⟩) (Nat.le_refl _) (.string s1)).setCell (p := ⟨w.heap.size + 1, 0, none⟩) (Nat.le_succ _) (.string t1))).drew)
      clear x0 x1 x2 x3 HP3 HQ3 HB3
      generalize hw4 : (((w3.setCell ⟨w.heap.size, 0, none⟩ (.string s1)).setCell ⟨w.heap.size + 1, 0, none⟩ (.string t1)).drew) = w4 at y0 y1 HB4 ⊢
      clear hw4 hP hQ
      have x0 := cell_of_one y0
      have x1 := cell_of_one y1
      have z0 := Nat.min_le_left s1.size t1.size
      have z1 := Nat.min_le_right s1.size t1.size
      go_wp2_with (first | (go_at_call 18; refine (edit_Between.alike2_at _ s1 t1 ⟨w.heap.size, 0, none⟩ ⟨w.heap.size + 1, 0, none⟩ (min s1.size t1.size) _ (edit_Between.mini_nat _ _) z0 z1 (by have := ZS.out; omega) (by have := ZT.out; omega) x0 x1).mono ?_; rintro e w5 ⟨rfl, hb⟩; rw [hm]; have HP5 := (hb.block _ (lt_of_block y0)).trans y0; have HQ5 := (hb.block _ (lt_of_block y1)).trans y1; have HB5 := Aside0.mk (below_step HB4.out hb); have x0 := cell_of_one HP5; have x1 := cell_of_one HQ5; clear hb) | ((with_reducible refine gate_callee (f := 21) rfl ?_); refine goesL_ (some 48) rfl rfl Try.func21 (by kernel_rfl) rfl #[.int .i64 (n : Int), .string (t1.extract 0 (t1.size - m)), .int .i64 ((s1.size - m : Nat) : Int), .int .i64 (m : Int)] rfl (by (try simp only [List.map_toArray, List.map_cons, List.map_nil]); first | done | rfl) ?_; (refine (edit_made.calls k _ _ _ _ o _ HM.out).mono ?_); rintro e w12 ⟨v103, rfl, ho0, hb⟩; refine ⟨_, rfl, ?_⟩; have n0_ := Aside0.mk (Kd.R_lower ho0 (below_size (by repeat (first | (with_reducible first | exact HB5.out | apply below_alloc | apply pw_below_drewN | apply below_drew1) | exact HB5.out)))); have n1_ := Aside0.mk (below_step (by repeat (first | (with_reducible first | exact HB5.out | apply below_alloc | apply pw_below_drewN | apply below_drew1) | exact HB5.out)) hb); clear HB5; have HO104 := n0_; have HB := n1_; clear n0_ n1_; (try clear hb); (try clear ho0))))
     all_goals (go_region_with (go_at_call 21; refine (edit_made.calls k _ _ _ _ o _ HM.out).mono ?_; rintro e w12 ⟨v103, rfl, ho0, hb⟩; have n0_ := Aside0.mk (Kd.R_lower ho0 (below_size (by repeat (first | (with_reducible first | exact HB5.out | apply below_alloc | apply pw_below_drewN | apply below_drew1) | exact HB5.out)))); have n1_ := Aside0.mk (below_step (by repeat (first | (with_reducible first | exact HB5.out | apply below_alloc | apply pw_below_drewN | apply below_drew1) | exact HB5.out)) hb); clear HB5; have HO104 := n0_; have HB := n1_; clear n0_ n1_; (try clear hb); (try clear ho0)))
     all_goals (try go_wp2)
     all_goals go_ret2
     all_goals exact ⟨_, rfl, by (with_reducible repeat (first | apply Kd.R_alloc | apply Kd.R_drewN | apply Kd.R_drew)); exact Kd.R_mono HO104.out (fun _ _ => trivial), by repeat (first | (with_reducible first | exact HB.out | apply below_alloc | apply pw_below_drewN | apply below_drew1) | exact HB.out)⟩


end Go.Proofs.Ytgbajaljfbgilaa.G
