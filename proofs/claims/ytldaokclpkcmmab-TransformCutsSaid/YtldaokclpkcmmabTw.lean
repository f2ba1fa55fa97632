/- Two rows of the call's own, apart from each other and from two readers. -/
import Derived.Test.YtldaokclpkcmmabRd
namespace Go.Proofs.Ytldaokclpkcmmab.G
open Go.RowKit Go.Proofs.YtldaokclpkcmmabW.PrintWords Go.Proofs.YtldaokclpkcmmabW.PrintLast Go.Proofs.YtldaokclpkcmmabW.PrintMore
set_option linter.unusedVariables false
set_option linter.unusedSimpArgs false
structure Two (w0 W : World) (gx gy : Nat) (SP SQ : Nat → Prop) (vp vq : Value) (p q : List (S37)) : Prop where
  hb : Below w0.heap.size w0 W
  hp : Kd.R k37 37 W w0.heap.size SP vp p
  hq : Kd.R k37 37 W w0.heap.size SQ vq q
  dp : ∀ k, SP k → ¬ SQ k ∧ k ≠ gx ∧ k ≠ gy ∧ k < W.heap.size
  dq : ∀ k, SQ k → k ≠ gx ∧ k ≠ gy ∧ k < W.heap.size
  lx : gx < W.heap.size
  ly : gy < W.heap.size
section
variable {w0 W W1 : World} {gx gy : Nat} {SP SQ : Nat → Prop} {vp vq v1 : Value} {p q p1 : List (S37)}
theorem Two.start (hb : Below w0.heap.size w0 W) (lx : gx < W.heap.size) (ly : gy < W.heap.size) : Two w0 W gx gy (fun _ => False) (fun _ => False) (.slice none 0 0) (.slice none 0 0) [] [] :=
  ⟨hb, Kd.R_nil _ _ _ _ _, Kd.R_nil _ _ _ _ _, fun _ h => h.elim, fun _ h => h.elim, lx, ly⟩
theorem Two.below (h : Two w0 W gx gy SP SQ vp vq p q) (hb : Below W.heap.size W W1) : Two w0 W1 gx gy SP SQ vp vq p q :=
  ⟨below_step h.hb hb, Kd.R_below h.hp hb, Kd.R_below h.hq hb, fun k hk => ⟨(h.dp k hk).1, (h.dp k hk).2.1, (h.dp k hk).2.2.1, Nat.lt_of_lt_of_le (h.dp k hk).2.2.2 hb.size⟩, fun k hk => ⟨(h.dq k hk).1, (h.dq k hk).2.1, Nat.lt_of_lt_of_le (h.dq k hk).2.2 hb.size⟩, Nat.lt_of_lt_of_le h.lx hb.size, Nat.lt_of_lt_of_le h.ly hb.size⟩
theorem Two.keptX (h : Two w0 W gx gy SP SQ vp vq p q) (hb : Below w0.heap.size w0 W1) (hk : Kept W W1 (fun k_ => k_ = gx)) : Two w0 W1 gx gy SP SQ vp vq p q :=
  ⟨hb, Kd.R_kept h.hp hk (fun k hs e => (h.dp k hs).2.1 e), Kd.R_kept h.hq hk (fun k hs e => (h.dq k hs).1 e), fun k hs => ⟨(h.dp k hs).1, (h.dp k hs).2.1, (h.dp k hs).2.2.1, Nat.lt_of_lt_of_le (h.dp k hs).2.2.2 hk.1⟩, fun k hs => ⟨(h.dq k hs).1, (h.dq k hs).2.1, Nat.lt_of_lt_of_le (h.dq k hs).2.2 hk.1⟩, Nat.lt_of_lt_of_le h.lx hk.1, Nat.lt_of_lt_of_le h.ly hk.1⟩
theorem Two.keptY (h : Two w0 W gx gy SP SQ vp vq p q) (hb : Below w0.heap.size w0 W1) (hk : Kept W W1 (fun k_ => k_ = gy)) : Two w0 W1 gx gy SP SQ vp vq p q :=
  ⟨hb, Kd.R_kept h.hp hk (fun k hs e => (h.dp k hs).2.2.1 e), Kd.R_kept h.hq hk (fun k hs e => (h.dq k hs).2.1 e), fun k hs => ⟨(h.dp k hs).1, (h.dp k hs).2.1, (h.dp k hs).2.2.1, Nat.lt_of_lt_of_le (h.dp k hs).2.2.2 hk.1⟩, fun k hs => ⟨(h.dq k hs).1, (h.dq k hs).2.1, Nat.lt_of_lt_of_le (h.dq k hs).2.2 hk.1⟩, Nat.lt_of_lt_of_le h.lx hk.1, Nat.lt_of_lt_of_le h.ly hk.1⟩
theorem Two.addP (h : Two w0 W gx gy SP SQ vp vq p q) (ho : Kd.R k37 37 W1 w0.heap.size (fun k_ => (SP k_ ∨ W.heap.size ≤ k_)) v1 p1) (hb : Below w0.heap.size w0 W1) (hk : Kept W W1 (fun k_ => SP k_)) :
    Two w0 W1 gx gy (fun k_ => (SP k_ ∨ W.heap.size ≤ k_) ∧ k_ < W1.heap.size) SQ v1 vq p1 q :=
  ⟨hb, Kd.R_mono (Kd.R_bound ho) (fun k hs => ⟨hs.1, hs.2.2.1⟩), Kd.R_kept h.hq hk (fun k hs hp => (h.dp k hp).1 hs),
   fun k hs => hs.1.elim (fun hp => ⟨(h.dp k hp).1, (h.dp k hp).2.1, (h.dp k hp).2.2.1, hs.2⟩) (fun hn => ⟨fun hq => by have := (h.dq k hq).2.2; omega, fun e => by have := h.lx; omega, fun e => by have := h.ly; omega, hs.2⟩),
   fun k hs => ⟨(h.dq k hs).1, (h.dq k hs).2.1, Nat.lt_of_lt_of_le (h.dq k hs).2.2 hk.1⟩, Nat.lt_of_lt_of_le h.lx hk.1, Nat.lt_of_lt_of_le h.ly hk.1⟩
theorem Two.addQ (h : Two w0 W gx gy SP SQ vp vq p q) (ho : Kd.R k37 37 W1 w0.heap.size (fun k_ => (SQ k_ ∨ W.heap.size ≤ k_)) v1 p1) (hb : Below w0.heap.size w0 W1) (hk : Kept W W1 (fun k_ => SQ k_)) :
    Two w0 W1 gx gy SP (fun k_ => (SQ k_ ∨ W.heap.size ≤ k_) ∧ k_ < W1.heap.size) vp v1 p p1 :=
  ⟨hb, Kd.R_kept h.hp hk (fun k hs hq => (h.dp k hs).1 hq), Kd.R_mono (Kd.R_bound ho) (fun k hs => ⟨hs.1, hs.2.2.1⟩),
   fun k hs => ⟨fun hq => hq.1.elim (h.dp k hs).1 (fun hn => by have := (h.dp k hs).2.2.2; omega), (h.dp k hs).2.1, (h.dp k hs).2.2.1, Nat.lt_of_lt_of_le (h.dp k hs).2.2.2 hk.1⟩,
   fun k hs => hs.1.elim (fun hq => ⟨(h.dq k hq).1, (h.dq k hq).2.1, hs.2⟩) (fun hn => ⟨fun e => by have := h.lx; omega, fun e => by have := h.ly; omega, hs.2⟩), Nat.lt_of_lt_of_le h.lx hk.1, Nat.lt_of_lt_of_le h.ly hk.1⟩
theorem Two.nX (h : Two w0 W gx gy SP SQ vp vq p q) : ¬ SP gx ∧ ¬ SP gy ∧ ¬ SQ gx ∧ ¬ SQ gy :=
  ⟨fun hs => (h.dp _ hs).2.1 rfl, fun hs => (h.dp _ hs).2.2.1 rfl, fun hs => (h.dq _ hs).1 rfl, fun hs => (h.dq _ hs).2.1 rfl⟩
theorem Two.outP (h : Two w0 W gx gy SP SQ vp vq p q) : Kd.R k37 37 W w0.heap.size (fun k_ => some k_ ≠ (vq : Value).ownBlock) vp p := Kd.R_mono h.hp (fun k hs e => (h.dp k hs).1 (h.hq.1 k e.symm))
theorem Two.outQ (h : Two w0 W gx gy SP SQ vp vq p q) : Kd.R k37 37 W w0.heap.size (fun k_ => some k_ ≠ (vp : Value).ownBlock) vq q := Kd.R_mono h.hq (fun k hs e => (h.dp k (h.hp.1 k e.symm)).1 hs)
end
end Go.Proofs.Ytldaokclpkcmmab.G
