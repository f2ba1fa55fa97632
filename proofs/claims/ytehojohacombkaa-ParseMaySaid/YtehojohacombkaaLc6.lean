/- The lexer's remark by its contract. -/
import Derived.Test.YtehojohacombkaaLc5
namespace Go.Proofs.Ytehojohacombkaa.G
open Go.RowKit Go.Maps Go.Proofs.YtehojohacombkaaW.PrintWords Go.Proofs.YtehojohacombkaaW.PrintLast Go.Proofs.YtehojohacombkaaW.PrintMore
open Go.Proofs.Ytehojohacombkaa.Lx (run at_ num txt rmk tk tks toks isB isD isL word sign shut)
set_option linter.unusedVariables false
set_option linter.unusedSimpArgs false
theorem index_nl : ∀ l : List UInt8, Lib.index l [10] = if run (fun b => b != 10) l = l.length then -1 else (run (fun b => b != 10) l : Int) := by
  intro l
  induction l with
  | nil => simp [Lib.index, run]
  | cons b r ih =>
    rw [Lib.index, ih]
    have hle := Go.Proofs.Ytehojohacombkaa.Lx.run_le (fun b => b != 10) r
    by_cases h : b = 10
    · subst h; simp [run]
    · have h1 : ([10] : List UInt8).isPrefixOf (b :: r) = false := by simp [List.isPrefixOf]; exact fun e => h e.symm
      have h2 : (b != 10) = true := by simpa using h
      simp only [h1, run, h2, if_true, List.length_cons]
      by_cases k : run (fun b => b != 10) r = r.length
      · simp [k]
      · rw [if_neg k]
        have : ((run (fun b => b != 10) r : Int) == -1) = false := by rw [beq_eq_false_iff_ne]; omega
        simp only [this, Bool.false_eq_true, if_false]
        rw [if_neg (by omega)]
        push_cast; rfl
theorem index_shut : ∀ l : List UInt8, Lib.index l [42, 47] = match shut l with | some k => (k : Int) - 2 | none => -1 := by
  intro l
  induction l with
  | nil => simp [Lib.index, shut]
  | cons b r ih =>
    rw [Lib.index, ih, shut]
    have hp : ([42, 47] : List UInt8).isPrefixOf (b :: r) = decide (b = 42 ∧ r.head? = some 47) := by
      cases r with
      | nil => simp [List.isPrefixOf]
      | cons c r' =>
        rw [Bool.eq_iff_iff, decide_eq_true_iff]
        simp only [List.isPrefixOf, Bool.and_true, Bool.and_eq_true, beq_iff_eq, List.head?_cons, Option.some.injEq]
        exact ⟨fun h => ⟨h.1.symm, h.2.symm⟩, fun h => ⟨h.1.symm, h.2.symm⟩⟩
    rw [hp]
    by_cases h : b = 42 ∧ r.head? = some 47
    · rw [if_pos (decide_eq_true h), if_pos h]; rfl
    · rw [if_neg (by simpa using h), if_neg h]
      cases hs : shut r with
      | none => simp
      | some k =>
        have := Go.Proofs.Ytehojohacombkaa.Lx.shut_le r k hs
        have h1 : (((k : Int) - 2) == -1) = false := by rw [beq_eq_false_iff_ne]; omega
        simp only [Option.map_some, h1, Bool.false_eq_true, if_false]
        show (k : Int) - 2 + 1 = ((k + 1 : Nat) : Int) - 2
        omega
theorem cut_nl (l : List UInt8) : (Lib.cut l [10]).1.length = run (fun b => b != 10) l := by
  have hle := Go.Proofs.Ytehojohacombkaa.Lx.run_le (fun b => b != 10) l
  unfold Lib.cut
  rw [index_nl]
  by_cases h : run (fun b => b != 10) l = l.length
  · rw [if_pos h, if_neg (by omega)]; exact h.symm
  · rw [if_neg h, if_pos (by omega)]; simp only [Int.toNat_natCast, List.length_take]; omega
theorem cut_shut (l : List UInt8) : (shut l = none ∧ (Lib.cut l [42, 47]).2.2 = false) ∨ ∃ k, shut l = some k ∧ (Lib.cut l [42, 47]).2.2 = true ∧ (Lib.cut l [42, 47]).1.length + 2 = k := by
  unfold Lib.cut
  rw [index_shut]
  cases hs : shut l with
  | none => exact .inl ⟨rfl, by simp⟩
  | some k =>
    have := Go.Proofs.Ytehojohacombkaa.Lx.shut_le l k hs
    refine .inr ⟨k, rfl, ?_, ?_⟩
    · simp only; rw [if_pos (by omega)]
    · simp only; rw [if_pos (by omega)]; simp only [List.length_take]; omega
theorem byt_ext (s : ByteArray) (i : Nat) : (s.extract i s.size).data.toList = (byt s).drop i := by
  rw [ByteArray.data_extract, Array.toList_extract, List.extract_eq_take_drop, List.take_of_length_le (by rw [List.length_drop]; simp)]
theorem ofl_size (l : List UInt8) : (⟨l.toArray⟩ : ByteArray).size = l.length := by
  show l.toArray.size = l.length; simp
theorem Lx.pre_calls (R p : ByteArray) (b : Bool) (w : World) (h : Lib.hasPrefix R.data.toList p.data.toList = b) :
    Calls Try.prog 82 #[.string R, .string p] w fun e w' => e = .returned (.bool b) ∧ w = w' := by
  refine (Sh.strings_HasPrefix R p w).mono ?_
  rintro e w' ⟨rfl, rfl⟩
  exact ⟨by rw [h], rfl⟩
theorem Lx.cut_nl_calls (R : ByteArray) (L : List UInt8) (hR : R.data.toList = L) (m : Int) (w : World) (hs : R.size < 4294967281) (hm : w.cell? ⟨0, 0, none⟩ = some (.int .i64 m)) :
    Calls Try.prog 83 #[.string R, .string ⟨#[10]⟩] w fun e w' => ∃ (B C : ByteArray) (D : Bool), e = .returned (.tuple #[.string B, .string C, .bool D]) ∧ B.size = run (fun b => b != 10) L ∧ ∃ n, w' = w.drewN n := by
  refine (Sh.strings_Cut R ⟨#[10]⟩ m w hs hm).mono ?_
  rintro e w' ⟨rfl, n, rfl⟩
  exact ⟨_, _, _, rfl, by rw [ofl_size, hR]; exact cut_nl L, n, rfl⟩
theorem Lx.cut_shut_calls (R : ByteArray) (L : List UInt8) (hR : R.data.toList = L) (m : Int) (w : World) (hs : R.size < 4294967281) (hm : w.cell? ⟨0, 0, none⟩ = some (.int .i64 m)) :
    Calls Try.prog 83 #[.string R, .string ⟨#[42, 47]⟩] w fun e w' => ∃ (B C : ByteArray) (D : Bool), e = .returned (.tuple #[.string B, .string C, .bool D]) ∧ (∀ k, shut L = some k → D = true ∧ B.size + 2 = k) ∧ (shut L = none → D = false) ∧ ∃ n, w' = w.drewN n := by
  refine (Sh.strings_Cut R ⟨#[42, 47]⟩ m w hs hm).mono ?_
  rintro e w' ⟨rfl, n, rfl⟩
  rw [hR]
  refine ⟨_, _, _, rfl, ?_, ?_, n, rfl⟩
  · intro k hk
    rcases cut_shut L with ⟨h1, _⟩ | ⟨k', h1, h2, h3⟩
    · rw [h1] at hk; cases hk
    · rw [h1] at hk; cases hk; exact ⟨h2, by rw [ofl_size]; exact h3⟩
  · intro hk
    rcases cut_shut L with ⟨_, h2⟩ | ⟨k', h1, _, _⟩
    · exact h2
    · rw [h1] at hk; cases hk
set_option maxRecDepth 100000 in
set_option maxHeartbeats 4000000 in
theorem Lx.remark_any (g : Nat) (s : ByteArray) (a m : Int) (hs : s.size ≤ 300) (h0 : 0 ≤ a) (h1 : a < (s.size : Int)) (hb : ((byt s).drop a.toNat).head? = some 47) (w0 w : World) (h : IsLx w0 w g s) (hm : w.cell? ⟨0, 0, none⟩ = some (.int .i64 m)) :
    Calls Try.prog 76 #[.pointer (some ⟨g, 0, none⟩), .int .i64 a] w fun e w' => e = .returned (.tuple #[.int .i64 (a + ((rmk ((byt s).drop a.toNat)).1 : Int)), .bool (rmk ((byt s).drop a.toNat)).2]) ∧ ∃ n, w' = w.drewN n := by
  have c0 := h.text
  clear h
  have a4 : wrap64 (a + 1) = a + 1 := by unfold wrap64; omega
  have p1 := eq_true h0
  have q1 := eq_true (show a ≤ (s.size : Int) by omega)
  have p2 : decide (0 ≤ a) = true := decide_eq_true h0
  have q2 : decide (a ≤ (s.size : Int)) = true := decide_eq_true (by omega)
  have hR1 := byt_ext s a.toNat
  have hR2 : (s.extract a.toNat s.size).size = s.size - a.toNat := by rw [ByteArray.size_extract]; omega
  obtain ⟨L, hL⟩ : ∃ L, (byt s).drop a.toNat = L := ⟨_, rfl⟩
  have hLl : L.length = s.size - a.toNat := by rw [← hL, List.length_drop, byt_len]
  rw [hL] at hb hR1 ⊢
  clear hL
  obtain ⟨T, hT⟩ : ∃ T, rmk L = T := ⟨_, rfl⟩
  rw [hT]
  have HT := Aside0.mk hT
  clear hT
  go_enter Try.func76, Try.ntmps76
  go_upto_region 2 with (fail)
  generalize s.extract a.toNat s.size = R at *
  have HM := Aside0.mk hm
  clear hm
  obtain ⟨r, rfl⟩ : ∃ r, L = 47 :: r := by
    cases L with
    | nil => cases hb
    | cons b r => simp only [List.head?_cons, Option.some.injEq] at hb; exact ⟨r, by rw [hb]⟩
  have HR1 := Aside0.mk hR1
  have HR2 := Aside0.mk hR2
  have HL := Aside0.mk hLl
  clear hR1 hR2 hLl hb
  have fit : ∀ v : Nat, v ≤ R.size → wrap64 (a + (v : Int)) = a + (v : Int) := fun v hv => by have := HR2.out; unfold wrap64; omega
  by_cases c1 : r.head? = some 47
  · have hp : Lib.hasPrefix R.data.toList (⟨#[47, 47]⟩ : ByteArray).data.toList = true := by
      rw [HR1.out]; cases r with
      | nil => cases c1
      | cons b r' => simp only [List.head?_cons, Option.some.injEq] at c1; subst c1; rfl
    have hr : rmk (47 :: r) = (run (fun b => b != 10) (47 :: r), true) := by
      cases r with
      | nil => cases c1
      | cons b r' => simp only [List.head?_cons, Option.some.injEq] at c1; subst c1; rfl
    have hle := Go.Proofs.Ytehojohacombkaa.Lx.run_le (fun b => b != 10) (47 :: r)
    have hT := HT.out.symm.trans hr
    subst hT
    clear HT
    go_wp2_with (first | (go_at_call 82; refine (Lx.pre_calls R ⟨#[47, 47]⟩ true _ hp).mono ?_; rintro e w' ⟨rfl, rfl⟩) | (go_at_call 83; refine (Lx.cut_nl_calls R _ HR1.out m _ (by have := HR2.out; omega) HM.out).mono ?_; rintro e w' ⟨B, C, D, rfl, hB, n, rfl⟩; have f_ := fit B.size (by have := HR2.out; have := HL.out; omega)))
    go_ret2
    exact ⟨congrArg (fun v => Ending.returned (.tuple #[.int .i64 v, .bool true])) (fit (run (fun b => b != 10) (47 :: r)) (by have := HR2.out; have := HL.out; omega)), n, rfl⟩
  · have hp : Lib.hasPrefix R.data.toList (⟨#[47, 47]⟩ : ByteArray).data.toList = false := by
      rw [HR1.out]; cases r with
      | nil => rfl
      | cons b r' =>
        simp only [List.head?_cons, Option.some.injEq] at c1
        show (true && ((47 : UInt8) == b && true)) = false
        simp; exact fun h => c1 h.symm
    by_cases c2 : r.head? = some 42
    · obtain ⟨r2, rfl⟩ : ∃ r2, r = 42 :: r2 := by
        cases r with
        | nil => cases c2
        | cons b r' => simp only [List.head?_cons, Option.some.injEq] at c2; exact ⟨r', by rw [c2]⟩
      have hq : Lib.hasPrefix R.data.toList (⟨#[47, 42]⟩ : ByteArray).data.toList = true := by rw [HR1.out]; rfl
      have hl2 : 2 ≤ R.size := by have := HR2.out; have := HL.out; simp only [List.length_cons] at this; omega
      have hS1 : (R.extract 2 R.size).data.toList = r2 := by rw [byt_ext]; show (R.data.toList).drop 2 = r2; rw [HR1.out]; rfl
      have hS2 : (R.extract 2 R.size).size = R.size - 2 := by rw [ByteArray.size_extract]; omega
      have s1 := eq_true (show (2 : Int) ≤ (R.size : Int) by omega)
      have s2 : decide ((2 : Int) ≤ (R.size : Int)) = true := decide_eq_true (by omega)
      have s3 := eq_true (show 2 ≤ R.size by omega)
      have fit2 : ∀ v : Nat, v + 4 ≤ R.size → wrap64 (a + (v : Int)) = a + (v : Int) ∧ wrap64 (a + (v : Int) + 4) = a + (v : Int) + 4 := fun v hv => by have := HR2.out; constructor <;> (unfold wrap64; omega)
      have HS1 := Aside0.mk hS1
      have HS2 := Aside0.mk hS2
      clear hS1 hS2
      cases hs2 : shut r2 with
      | none =>
        have hT := HT.out.symm.trans (show rmk (47 :: 42 :: r2) = ((47 :: 42 :: r2).length, false) by simp only [rmk, hs2])
        subst hT
        clear HT
        go_wp2_with (first | (go_at_call 82; refine (Lx.pre_calls R ⟨#[47, 47]⟩ false _ hp).mono ?_; rintro e w' ⟨rfl, rfl⟩) | (go_at_call 82; refine (Lx.pre_calls R ⟨#[47, 42]⟩ true _ hq).mono ?_; rintro e w' ⟨rfl, rfl⟩) | (go_at_call 83; refine (Lx.cut_shut_calls (R.extract 2 R.size) _ HS1.out m _ (by have := HR2.out; have := HS2.out; omega) HM.out).mono ?_; rintro e w' ⟨B, C, D, rfl, hB1, hB2, n, rfl⟩; (obtain rfl := hB2 hs2)))
        go_ret2
        exact ⟨congrArg (fun v => Ending.returned (.tuple #[.int .i64 v, .bool false])) (show (s.size : Int) = a + (((47 :: 42 :: r2).length : Nat) : Int) by have h1_ := HL.out; omega), n, rfl⟩
      | some k =>
        have hT := HT.out.symm.trans (show rmk (47 :: 42 :: r2) = (k + 2, true) by simp only [rmk, hs2])
        subst hT
        clear HT
        have hk := Go.Proofs.Ytehojohacombkaa.Lx.shut_le r2 k hs2
        go_wp2_with (first | (go_at_call 82; refine (Lx.pre_calls R ⟨#[47, 47]⟩ false _ hp).mono ?_; rintro e w' ⟨rfl, rfl⟩) | (go_at_call 82; refine (Lx.pre_calls R ⟨#[47, 42]⟩ true _ hq).mono ?_; rintro e w' ⟨rfl, rfl⟩) | (go_at_call 83; refine (Lx.cut_shut_calls (R.extract 2 R.size) _ HS1.out m _ (by have := HR2.out; have := HS2.out; omega) HM.out).mono ?_; rintro e w' ⟨B, C, D, rfl, hB1, hB2, n, rfl⟩; (obtain ⟨rfl, hBk⟩ := hB1 k hs2; have HBk := Aside0.mk hBk; obtain ⟨f1_, f2_⟩ := fit2 B.size (by have := HR2.out; have := HS2.out; have := HL.out; simp only [List.length_cons] at this; omega))))
        go_ret2
        exact ⟨congrArg (fun v => Ending.returned (.tuple #[.int .i64 v, .bool true])) (show a + (B.size : Int) + 4 = a + ((k + 2 : Nat) : Int) by have := HBk.out; omega), n, rfl⟩
    · have hq : Lib.hasPrefix R.data.toList (⟨#[47, 42]⟩ : ByteArray).data.toList = false := by
        rw [HR1.out]; cases r with
        | nil => rfl
        | cons b r' =>
          simp only [List.head?_cons, Option.some.injEq] at c2
          show (true && ((42 : UInt8) == b && true)) = false
          simp; exact fun h => c2 h.symm
      have hr : rmk (47 :: r) = (1, false) := by
        cases r with
        | nil => rfl
        | cons b r' =>
          simp only [List.head?_cons, Option.some.injEq] at c1 c2
          unfold rmk
          split
          · rename_i h; injection h with _ h; injection h with h _; exact absurd h c1
          · rename_i h; injection h with _ h; injection h with h _; exact absurd h c2
          · rfl
      have hT := HT.out.symm.trans hr
      subst hT
      clear HT
      go_wp2_with (first | (go_at_call 82; refine (Lx.pre_calls R ⟨#[47, 47]⟩ false _ hp).mono ?_; rintro e w' ⟨rfl, rfl⟩) | (go_at_call 82; refine (Lx.pre_calls R ⟨#[47, 42]⟩ false _ hq).mono ?_; rintro e w' ⟨rfl, rfl⟩))
      go_ret2
      exact ⟨rfl, 0, rfl⟩
end Go.Proofs.Ytehojohacombkaa.G
