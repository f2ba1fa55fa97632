/- The law CompsNormal returns true for every input, and each argument reads afterwards as it read before. No condition. -/
import Derived.Test.YtgbajaljfbgilaaRows
import Derived.Test.YtgbajaljfbgilaaOp
import Derived.Test.YtgbajaljfbgilaaGMinuetlaw2PCompsNormal
import Derived.Test.YtgbajaljfbgilaaPCompsNormal
import Derived.WalkKit
import Derived.ProofKit
import Derived.OpenShut
import Derived.ShutString
import Derived.ChangeOld
import Derived.Below
import Derived.SizedLaws
import Derived.JoinedCond
import Derived.Deep.CondSized
namespace Go.Proofs.Ytgbajaljfbgilaa.compsNormal
open Go.ChangeShapes Go.WideShapes Go.ChangeAt Go.RowKit Go.Proofs.Ytgbajaljfbgilaa.G Go.Proofs.YtgbajaljfbgilaaW.PrintWords
open Go.ChangeMaps (open_string shut_string)
set_option linter.unusedVariables false
set_option linter.unusedSimpArgs false
theorem own : ownKnob Try.prog.godebug = none := by kernel_rfl
theorem laidOut : laidOutB Try.prog = true := by kernel_rfl
def ok36 (x : S36) : Prop := (fun n => (Lit.int .i64 n).wf = true) x.f0 ∧ (fun n => (Lit.int .i64 n).wf = true) x.f1 ∧ (fun s => s.size ≤ maxLen) x.f2
def g36 (x : S36) : Nat := ((fun _ => 0) x.f0 + 1) + ((fun _ => 0) x.f1 + 1) + ((fun s => s.size) x.f2 + 1)
set_option maxRecDepth 100000 in
theorem opens36 : Op.Opens Try.prog 36 k36 ok36 g36 := by
  intro H enc w fuel cs x h
  obtain ⟨xs, n, _, rfl, hl, hxl, hf⟩ := DataW.trod_struct Try.underlying36 h
  replace hl : cs.length = 3 := hl.trans (by kernel_rfl)
  replace hxl : xs.length = 3 := hxl
  obtain ⟨c0, c1, c2, rfl⟩ : ∃ c0 c1 c2, cs = [c0, c1, c2] := by match cs, hl with | [c0, c1, c2], _ => exact ⟨c0, c1, c2, rfl⟩
  obtain ⟨y0, y1, y2, rfl⟩ : ∃ y0 y1 y2, xs = [y0, y1, y2] := by match xs, hxl with | [y0, y1, y2], _ => exact ⟨y0, y1, y2, rfl⟩
  have e0 : Try.prog.cellsOf 3 = 1 := by kernel_rfl
  have h0 := hf 0 _ rfl
  simp only [e0, List.drop_succ_cons, List.drop_zero, List.take_succ_cons, List.take_zero, List.getElem?_cons_succ, List.getElem?_cons_zero] at h0
  obtain ⟨a0, hK0, ho0, hg0⟩ := (Op.opens_int Try.underlying3) H enc w n [c0] y0 h0
  have e1 : Try.prog.cellsOf 3 = 1 := by kernel_rfl
  have h1 := hf 1 _ rfl
  simp only [e1, List.drop_succ_cons, List.drop_zero, List.take_succ_cons, List.take_zero, List.getElem?_cons_succ, List.getElem?_cons_zero] at h1
  obtain ⟨a1, hK1, ho1, hg1⟩ := (Op.opens_int Try.underlying3) H enc w n [c1] y1 h1
  have e2 : Try.prog.cellsOf 9 = 1 := by kernel_rfl
  have h2 := hf 2 _ rfl
  simp only [e2, List.drop_succ_cons, List.drop_zero, List.take_succ_cons, List.take_zero, List.getElem?_cons_succ, List.getElem?_cons_zero] at h2
  obtain ⟨a2, hK2, ho2, hg2⟩ := (Op.opens_string Try.underlying9) H enc w n [c2] y2 h2
  refine ⟨⟨a0, a1, a2⟩, ⟨[c0], [c1, c2], rfl, hK0, ⟨[c1], [c2], rfl, hK1, hK2⟩⟩, ⟨ho0, ho1, ho2⟩, ?_⟩
  try dsimp only at hg0
  try dsimp only at hg1
  try dsimp only at hg2
  simp only [g36, List.map_cons, List.map_nil, Rows.uptoBulk, Rows.uptoBulkAll]
  omega
set_option maxRecDepth 100000 in
theorem lifted (os : Os) (started : os.Started) (H : Type) (enc : TypeId × Value → H) :
    ReturnsInHanded {} Try.checked os 4 .any (Rows.compsNormalSpec.pre6 enc Try.prog Try.f4 Rows.compsNormalRow.domain false) (Rows.compsNormalSpec.post enc Try.prog Try.f4 false true false false) := by
  refine returnsInHanded_of_change_sized (C := Try.checked) own started (by kernel_rfl) Try.func4
    (ChangeSpec.witness6 (enc := enc) (C := Try.checked) false ⟨#[], #[.slice none 0 0], []⟩ 8 (by kernel_rfl) (by kernel_rfl) (by kernel_rfl) (by kernel_rfl)) ?_
  intro W base args ds gs before hval0 hW hcnd hsz0 _
  have hsz : (DataW.weightsEach Try.prog (Try.f4.params.toList ++ Rows.compsNormalSpec.plain.varTypes Try.prog) (ds ++ gs)).all (· ≤ reachBytes) = true := hsz0
  have hval : ∀ (j : Nat) t v, Try.f4.params[j]? = some t → args[j]? = some v → Value.okWide Try.prog W .any base t v := hval0
  have hW' := hW
  obtain ⟨p, q, hA0, hV, rfl, hfz, hnd⟩ := hW
  have hA : DataW.TrodAll enc Try.prog W 0 (fun _ => true) true Try.f4.params.toList args.toList ds p := hA0
  rw [Try.params4] at hA hval hsz
  obtain ⟨v0, vs0, d0, ds0, p0, q0, hargs, rfl, rfl, h0, r0⟩ := trodAll_cons hA
  obtain ⟨rfl, rfl, rfl⟩ := trodAll_nil r0
  obtain rfl : args = #[v0] := by cases args; simp_all
  obtain ⟨rfl, rfl⟩ := trodVars_none hV
  have k0_ := h0
  have lt0 : ∀ x ∈ p0, x.block < W.heap.size := by obtain ⟨m, hm⟩ := k0_; exact DataW.trod_lt m _ _ _ hm
  obtain ⟨A0, l0, c0, rfl, hc0, hr0, ok0_, bk0, w0⟩ := Op.open_arg (d := k36) (ok := ok36) (g := g36) Try.underlying23 (by kernel_rfl) opens36 (B := 32) (by kernel_rfl) (hval 0 23 v0 rfl rfl) hsz (j := 0) rfl rfl h0
  clear hA0 hval0 hsz0 hsz
  obtain ⟨k, hk⟩ := Pl.CompsNormal_pure l0 ok0_ w0
  refine (minuetlaw2_CompsNormal.calls k A0 c0 l0 true W hr0 hc0 hk).mono fun e W' ⟨he, bel⟩ => ?_
  subst he
  exact ⟨_, rfl, _, _, _, [], _, [], hW', trodAll_mk1 (shut_bool Try.underlying4 _), (trodAll_cons_mk (Below.trod laidOut (by kernel_rfl) (of_decide_eq_true (by kernel_rfl)) k0_ bel lt0) trodAll_mk0), rfl, bel.frame _, fun h => by cases h⟩
theorem over : Rows.compsNormalRow.holds Try.pinned (OpenSpec.ofChange Rows.compsNormalSpec) :=
  OpenClaim.holds_of_wide 4 Try.f4 rfl rfl rfl rfl rfl rfl rfl ⟨rfl, rfl, rfl, rfl, rfl⟩ rfl rfl rfl rfl rfl (by kernel_rfl) Try.func4 (by kernel_rfl)
    (of_decide_eq_true (by kernel_rfl)) (by unfold Func.isWrapper; first | (rw [if_pos (by decide +kernel)]; kernel_rfl) | (rw [if_neg (by decide +kernel)]; exact ⟨rfl, rfl⟩))
    (fun os started H enc _ => lifted os started H enc)
theorem proved : Rows.CompsNormalSaid := over
end Go.Proofs.Ytgbajaljfbgilaa.compsNormal
namespace Go.Proofs.Ytgbajaljfbgilaa
/-- The row, under a short name, for the claim. -/
theorem compsNormal_holds : Rows.CompsNormalSaid := compsNormal.proved
end Go.Proofs.Ytgbajaljfbgilaa
