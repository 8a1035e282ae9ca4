/- Contracts and plain laws: HrefCmd, P71, P14, HCmdLaw. -/
import Derived.Test.YtalpemoodollpaaX1
import Derived.Test.YtalpemoodollpaaX2
import Derived.Test.YtalpemoodollpaaX4
/- The contract of damperref05.Decode. -/
namespace Go.Proofs.Ytalpemoodollpaa.P
open Go.RowKit Go.Proofs.YtalpemoodollpaaW.PrintWords Go.Proofs.YtalpemoodollpaaW.PrintLast Go.Proofs.YtalpemoodollpaaW.PrintMore
set_option linter.unusedVariables false
set_option linter.unusedSimpArgs false
structure ES (w W : World) (b5 g : Nat) (s : List Int × Int) (x0 x1 x2 x3 x4 x5 x6 x7 x8 : Int) : Prop where
  rr : RR w W g s
  bx : Box9 W 95 b5 x0 x1 x2 x3 x4 x5 x6 x7 x8
  zx : Box9 W 95 w.heap.size 0 0 0 0 0 0 0 0 0
  h5 : w.heap.size < b5
  hn : b5 ≠ g
  hz : w.heap.size ≠ g
namespace ES
variable {w W W1 : World} {b5 g : Nat} {s s1 : List Int × Int} {x0 x1 x2 x3 x4 x5 x6 x7 x8 : Int}
theorem step (h : ES w W b5 g s x0 x1 x2 x3 x4 x5 x6 x7 x8) (hk : RR w W1 g s1) (kg : KeepG W W1 g) : ES w W1 b5 g s1 x0 x1 x2 x3 x4 x5 x6 x7 x8 := ⟨hk, kg.box h.bx h.hn, kg.box h.zx h.hz, h.h5, h.hn, h.hz⟩
theorem below (h : ES w W b5 g s x0 x1 x2 x3 x4 x5 x6 x7 x8) (hb : Below W.heap.size W W1) : ES w W1 b5 g s x0 x1 x2 x3 x4 x5 x6 x7 x8 := ⟨h.rr.below hb, (hb.block _ (blk_lt h.bx)).trans h.bx, (hb.block _ (blk_lt h.zx)).trans h.zx, h.h5, h.hn, h.hz⟩
theorem one (h : ES w W b5 g s x0 x1 x2 x3 x4 x5 x6 x7 x8) : Calls Try.prog 122 #[.pointer (some ⟨g, 0, none⟩)] W fun e w' => e = .returned (.int .i64 (rUint s 1).1) ∧ ES w w' b5 g (rUint s 1).2 x0 x1 x2 x3 x4 x5 x6 x7 x8 := h.rr.one.mono fun e w' ⟨he, hk, kg⟩ => ⟨he, h.step hk kg⟩
theorem num (h : ES w W b5 g s x0 x1 x2 x3 x4 x5 x6 x7 x8) : Calls Try.prog 123 #[.pointer (some ⟨g, 0, none⟩)] W fun e w' => e = .returned (.int .u64 (rNum s).1) ∧ ES w w' b5 g (rNum s).2 x0 x1 x2 x3 x4 x5 x6 x7 x8 := h.rr.num.mono fun e w' ⟨he, hk, kg⟩ => ⟨he, h.step hk kg⟩
theorem int (h : ES w W b5 g s x0 x1 x2 x3 x4 x5 x6 x7 x8) : Calls Try.prog 124 #[.pointer (some ⟨g, 0, none⟩)] W fun e w' => e = .returned (.int .i64 (unzig (rUint s 8).1)) ∧ ES w w' b5 g (rUint s 8).2 x0 x1 x2 x3 x4 x5 x6 x7 x8 := h.rr.int.mono fun e w' ⟨he, hk, kg⟩ => ⟨he, h.step hk kg⟩
theorem set0 (h : ES w W b5 g s x0 x1 x2 x3 x4 x5 x6 x7 x8) (v : Int) : ES w (W.setCell ⟨b5, 0, none⟩ (.int .i64 v)) b5 g s v x1 x2 x3 x4 x5 x6 x7 x8 :=
  ⟨h.rr.set (by have := h.h5; omega) h.hn _, (blk_set h.bx 0 (.int .i64 v)).trans (by simp), (Below.heap_setCell W ⟨b5, 0, none⟩ _ w.heap.size (by have := h.h5; show w.heap.size ≠ b5; omega)).trans h.zx, h.h5, h.hn, h.hz⟩
theorem set1 (h : ES w W b5 g s x0 x1 x2 x3 x4 x5 x6 x7 x8) (v : Int) : ES w (W.setCell ⟨b5, 1, none⟩ (.int .i64 v)) b5 g s x0 v x2 x3 x4 x5 x6 x7 x8 :=
  ⟨h.rr.set (by have := h.h5; omega) h.hn _, (blk_set h.bx 1 (.int .i64 v)).trans (by simp), (Below.heap_setCell W ⟨b5, 1, none⟩ _ w.heap.size (by have := h.h5; show w.heap.size ≠ b5; omega)).trans h.zx, h.h5, h.hn, h.hz⟩
theorem set2 (h : ES w W b5 g s x0 x1 x2 x3 x4 x5 x6 x7 x8) (v : Int) : ES w (W.setCell ⟨b5, 2, none⟩ (.int .i64 v)) b5 g s x0 x1 v x3 x4 x5 x6 x7 x8 :=
  ⟨h.rr.set (by have := h.h5; omega) h.hn _, (blk_set h.bx 2 (.int .i64 v)).trans (by simp), (Below.heap_setCell W ⟨b5, 2, none⟩ _ w.heap.size (by have := h.h5; show w.heap.size ≠ b5; omega)).trans h.zx, h.h5, h.hn, h.hz⟩
theorem set3 (h : ES w W b5 g s x0 x1 x2 x3 x4 x5 x6 x7 x8) (v : Int) : ES w (W.setCell ⟨b5, 3, none⟩ (.int .i64 v)) b5 g s x0 x1 x2 v x4 x5 x6 x7 x8 :=
  ⟨h.rr.set (by have := h.h5; omega) h.hn _, (blk_set h.bx 3 (.int .i64 v)).trans (by simp), (Below.heap_setCell W ⟨b5, 3, none⟩ _ w.heap.size (by have := h.h5; show w.heap.size ≠ b5; omega)).trans h.zx, h.h5, h.hn, h.hz⟩
theorem set4 (h : ES w W b5 g s x0 x1 x2 x3 x4 x5 x6 x7 x8) (v : Int) : ES w (W.setCell ⟨b5, 4, none⟩ (.int .i64 v)) b5 g s x0 x1 x2 x3 v x5 x6 x7 x8 :=
  ⟨h.rr.set (by have := h.h5; omega) h.hn _, (blk_set h.bx 4 (.int .i64 v)).trans (by simp), (Below.heap_setCell W ⟨b5, 4, none⟩ _ w.heap.size (by have := h.h5; show w.heap.size ≠ b5; omega)).trans h.zx, h.h5, h.hn, h.hz⟩
theorem set5 (h : ES w W b5 g s x0 x1 x2 x3 x4 x5 x6 x7 x8) (v : Int) : ES w (W.setCell ⟨b5, 5, none⟩ (.int .i64 v)) b5 g s x0 x1 x2 x3 x4 v x6 x7 x8 :=
  ⟨h.rr.set (by have := h.h5; omega) h.hn _, (blk_set h.bx 5 (.int .i64 v)).trans (by simp), (Below.heap_setCell W ⟨b5, 5, none⟩ _ w.heap.size (by have := h.h5; show w.heap.size ≠ b5; omega)).trans h.zx, h.h5, h.hn, h.hz⟩
theorem set6 (h : ES w W b5 g s x0 x1 x2 x3 x4 x5 x6 x7 x8) (v : Int) : ES w (W.setCell ⟨b5, 6, none⟩ (.int .i64 v)) b5 g s x0 x1 x2 x3 x4 x5 v x7 x8 :=
  ⟨h.rr.set (by have := h.h5; omega) h.hn _, (blk_set h.bx 6 (.int .i64 v)).trans (by simp), (Below.heap_setCell W ⟨b5, 6, none⟩ _ w.heap.size (by have := h.h5; show w.heap.size ≠ b5; omega)).trans h.zx, h.h5, h.hn, h.hz⟩
theorem set7 (h : ES w W b5 g s x0 x1 x2 x3 x4 x5 x6 x7 x8) (v : Int) : ES w (W.setCell ⟨b5, 7, none⟩ (.int .i64 v)) b5 g s x0 x1 x2 x3 x4 x5 x6 v x8 :=
  ⟨h.rr.set (by have := h.h5; omega) h.hn _, (blk_set h.bx 7 (.int .i64 v)).trans (by simp), (Below.heap_setCell W ⟨b5, 7, none⟩ _ w.heap.size (by have := h.h5; show w.heap.size ≠ b5; omega)).trans h.zx, h.h5, h.hn, h.hz⟩
theorem set8 (h : ES w W b5 g s x0 x1 x2 x3 x4 x5 x6 x7 x8) (v : Int) : ES w (W.setCell ⟨b5, 8, none⟩ (.int .i64 v)) b5 g s x0 x1 x2 x3 x4 x5 x6 x7 v :=
  ⟨h.rr.set (by have := h.h5; omega) h.hn _, (blk_set h.bx 8 (.int .i64 v)).trans (by simp), (Below.heap_setCell W ⟨b5, 8, none⟩ _ w.heap.size (by have := h.h5; show w.heap.size ≠ b5; omega)).trans h.zx, h.h5, h.hn, h.hz⟩
theorem frozen (h : ES w W b5 g s x0 x1 x2 x3 x4 x5 x6 x7 x8) : W.frozen? ⟨b5, 0, none⟩ = false ∧ W.frozen? ⟨b5, 1, none⟩ = false ∧ W.frozen? ⟨b5, 2, none⟩ = false ∧ W.frozen? ⟨b5, 3, none⟩ = false ∧ W.frozen? ⟨b5, 4, none⟩ = false ∧ W.frozen? ⟨b5, 5, none⟩ = false ∧ W.frozen? ⟨b5, 6, none⟩ = false ∧ W.frozen? ⟨b5, 7, none⟩ = false ∧ W.frozen? ⟨b5, 8, none⟩ = false :=
  ⟨blk_frozen h.bx 0, blk_frozen h.bx 1, blk_frozen h.bx 2, blk_frozen h.bx 3, blk_frozen h.bx 4, blk_frozen h.bx 5, blk_frozen h.bx 6, blk_frozen h.bx 7, blk_frozen h.bx 8⟩
theorem zfrozen (h : ES w W b5 g s x0 x1 x2 x3 x4 x5 x6 x7 x8) : W.frozen? ⟨w.heap.size, 0, none⟩ = false ∧ W.frozen? ⟨w.heap.size, 1, none⟩ = false ∧ W.frozen? ⟨w.heap.size, 2, none⟩ = false ∧ W.frozen? ⟨w.heap.size, 3, none⟩ = false ∧ W.frozen? ⟨w.heap.size, 4, none⟩ = false ∧ W.frozen? ⟨w.heap.size, 5, none⟩ = false ∧ W.frozen? ⟨w.heap.size, 6, none⟩ = false ∧ W.frozen? ⟨w.heap.size, 7, none⟩ = false ∧ W.frozen? ⟨w.heap.size, 8, none⟩ = false :=
  ⟨blk_frozen h.zx 0, blk_frozen h.zx 1, blk_frozen h.zx 2, blk_frozen h.zx 3, blk_frozen h.zx 4, blk_frozen h.zx 5, blk_frozen h.zx 6, blk_frozen h.zx 7, blk_frozen h.zx 8⟩
/-- The result's box is written whole. -/
theorem res (h : ES w W b5 g s x0 x1 x2 x3 x4 x5 x6 x7 x8) (v0 v1 v2 v3 v4 v5 v6 v7 v8 : Int) : Box9 (((((((((W.setCell ⟨w.heap.size, 0, none⟩ (.int .i64 v0)).setCell ⟨w.heap.size, 1, none⟩ (.int .i64 v1)).setCell ⟨w.heap.size, 2, none⟩ (.int .i64 v2)).setCell ⟨w.heap.size, 3, none⟩ (.int .i64 v3)).setCell ⟨w.heap.size, 4, none⟩ (.int .i64 v4)).setCell ⟨w.heap.size, 5, none⟩ (.int .i64 v5)).setCell ⟨w.heap.size, 6, none⟩ (.int .i64 v6)).setCell ⟨w.heap.size, 7, none⟩ (.int .i64 v7)).setCell ⟨w.heap.size, 8, none⟩ (.int .i64 v8)) 95 w.heap.size v0 v1 v2 v3 v4 v5 v6 v7 v8 ∧
    Below w.heap.size w (((((((((W.setCell ⟨w.heap.size, 0, none⟩ (.int .i64 v0)).setCell ⟨w.heap.size, 1, none⟩ (.int .i64 v1)).setCell ⟨w.heap.size, 2, none⟩ (.int .i64 v2)).setCell ⟨w.heap.size, 3, none⟩ (.int .i64 v3)).setCell ⟨w.heap.size, 4, none⟩ (.int .i64 v4)).setCell ⟨w.heap.size, 5, none⟩ (.int .i64 v5)).setCell ⟨w.heap.size, 6, none⟩ (.int .i64 v6)).setCell ⟨w.heap.size, 7, none⟩ (.int .i64 v7)).setCell ⟨w.heap.size, 8, none⟩ (.int .i64 v8)) :=
  ⟨(blk_set (blk_set (blk_set (blk_set (blk_set (blk_set (blk_set (blk_set (blk_set h.zx 0 (.int .i64 v0)) 1 (.int .i64 v1)) 2 (.int .i64 v2)) 3 (.int .i64 v3)) 4 (.int .i64 v4)) 5 (.int .i64 v5)) 6 (.int .i64 v6)) 7 (.int .i64 v7)) 8 (.int .i64 v8)).trans (by simp), (((((((((h.rr.bel.setCell (p := ⟨w.heap.size, 0, none⟩) (Nat.le_refl _) (.int .i64 v0)).setCell (p := ⟨w.heap.size, 1, none⟩) (Nat.le_refl _) (.int .i64 v1)).setCell (p := ⟨w.heap.size, 2, none⟩) (Nat.le_refl _) (.int .i64 v2)).setCell (p := ⟨w.heap.size, 3, none⟩) (Nat.le_refl _) (.int .i64 v3)).setCell (p := ⟨w.heap.size, 4, none⟩) (Nat.le_refl _) (.int .i64 v4)).setCell (p := ⟨w.heap.size, 5, none⟩) (Nat.le_refl _) (.int .i64 v5)).setCell (p := ⟨w.heap.size, 6, none⟩) (Nat.le_refl _) (.int .i64 v6)).setCell (p := ⟨w.heap.size, 7, none⟩) (Nat.le_refl _) (.int .i64 v7)).setCell (p := ⟨w.heap.size, 8, none⟩) (Nat.le_refl _) (.int .i64 v8))⟩
theorem far (hd : ES w W b5 g s x0 x1 x2 x3 x4 x5 x6 x7 x8) {cs : Array Value} {t : TypeId} (h : W.heap[g]? = some (.cells cs t (0, 0))) : (((((((((W.setCell ⟨w.heap.size, 0, none⟩ (.int .i64 0)).setCell ⟨w.heap.size, 1, none⟩ (.int .i64 0)).setCell ⟨w.heap.size, 2, none⟩ (.int .i64 0)).setCell ⟨w.heap.size, 3, none⟩ (.int .i64 0)).setCell ⟨w.heap.size, 4, none⟩ (.int .i64 0)).setCell ⟨w.heap.size, 5, none⟩ (.int .i64 0)).setCell ⟨w.heap.size, 6, none⟩ (.int .i64 0)).setCell ⟨w.heap.size, 7, none⟩ (.int .i64 0)).setCell ⟨w.heap.size, 8, none⟩ (.int .i64 0)).heap[g]? = some (.cells cs t (0, 0)) := (blk_far (blk_far (blk_far (blk_far (blk_far (blk_far (blk_far (blk_far (blk_far h (p := ⟨w.heap.size, 0, none⟩) (fun e => hd.hz e.symm) (.int .i64 0)) (p := ⟨w.heap.size, 1, none⟩) (fun e => hd.hz e.symm) (.int .i64 0)) (p := ⟨w.heap.size, 2, none⟩) (fun e => hd.hz e.symm) (.int .i64 0)) (p := ⟨w.heap.size, 3, none⟩) (fun e => hd.hz e.symm) (.int .i64 0)) (p := ⟨w.heap.size, 4, none⟩) (fun e => hd.hz e.symm) (.int .i64 0)) (p := ⟨w.heap.size, 5, none⟩) (fun e => hd.hz e.symm) (.int .i64 0)) (p := ⟨w.heap.size, 6, none⟩) (fun e => hd.hz e.symm) (.int .i64 0)) (p := ⟨w.heap.size, 7, none⟩) (fun e => hd.hz e.symm) (.int .i64 0)) (p := ⟨w.heap.size, 8, none⟩) (fun e => hd.hz e.symm) (.int .i64 0))
theorem bdrew {t b : Nat} (h : Box9 W t b x0 x1 x2 x3 x4 x5 x6 x7 x8) : Box9 W.drew t b x0 x1 x2 x3 x4 x5 x6 x7 x8 := h
end ES
/-- The end of the document's decoding. -/
def refFin (k sym id owner side typ price qty flags : Int) (s : List Int × Int) : Cmd × Int :=
  if s.2 ≠ 0 then (⟨0, 0, 0, 0, 0, 0, 0, 0, 0⟩, s.2)
  else if 4611686018427387904 < id ∨ 1073741824 < owner ∨ 0 < s.1.length then (⟨0, 0, 0, 0, 0, 0, 0, 0, 0⟩, 4)
  else if cmdRight ⟨k, sym, id, owner, side, typ, price, qty, flags⟩ = false then (⟨0, 0, 0, 0, 0, 0, 0, 0, 0⟩, 4)
  else (⟨k, sym, id, owner, side, typ, price, qty, flags⟩, 0)
def refMid (k sym id owner side typ flags : Int) (s : List Int × Int) : Cmd × Int :=
  if k = 2 then refFin k sym id owner side typ 0 0 flags s
  else refFin k sym id owner side typ (unzig (rUint s 8).1) (unzig (rUint (rUint s 8).2 8).1) flags (rUint (rUint s 8).2 8).2
def refDecM (b : List Int) : Cmd × Int :=
  if (rUint (b, 0) 1).1 = 1 then
    refMid 1 (rUint (rUint (b, 0) 1).2 1).1 (rNum (rUint (rUint (b, 0) 1).2 1).2).1 (rNum (rNum (rUint (rUint (b, 0) 1).2 1).2).2).1
      (rUint (rNum (rNum (rUint (rUint (b, 0) 1).2 1).2).2).2 1).1 (rUint (rUint (rNum (rNum (rUint (rUint (b, 0) 1).2 1).2).2).2 1).2 1).1 (rUint (rUint (rUint (rNum (rNum (rUint (rUint (b, 0) 1).2 1).2).2).2 1).2 1).2 1).1
      (rUint (rUint (rUint (rNum (rNum (rUint (rUint (b, 0) 1).2 1).2).2).2 1).2 1).2 1).2
  else refMid (rUint (b, 0) 1).1 (rUint (rUint (b, 0) 1).2 1).1 (rNum (rUint (rUint (b, 0) 1).2 1).2).1 0 0 0 0 (rNum (rUint (rUint (b, 0) 1).2 1).2).2
def refDec (b : List Int) : Cmd × Int :=
  if b.length = 0 then (⟨0, 0, 0, 0, 0, 0, 0, 0, 0⟩, 3) else if b.getD 0 0 < 1 ∨ 3 < b.getD 0 0 then (⟨0, 0, 0, 0, 0, 0, 0, 0, 0⟩, 4) else refDecM b
theorem refIn05 (a lo hi : Int) : damperref05_in.f a lo hi = some (within_ lo hi a) := by
  unfold damperref05_in.f within_
  by_cases h : lo ≤ a
  · rw [if_pos (by omega)]; simp [h]
  · rw [if_neg (by omega)]; simp [h]
theorem refRight (c : Cmd) : damperref05_Right.f 1 c.f0 c.f1 c.f2 c.f3 c.f4 c.f5 c.f6 c.f7 c.f8 = some (cmdRight c) := by
  unfold damperref05_Right.f cmdRight damperref05_Right.j0
  simp only [refIn05, Option.bind_some]
  cases within_ 0 255 c.f1 <;> cases within_ 0 4611686018427387904 c.f2 <;> simp
  by_cases h1 : c.f0 = 1
  · simp only [h1]
    cases within_ 0 1073741824 c.f3 <;> cases within_ 0 1 c.f4 <;> cases within_ 1 5 c.f5 <;> simp
  · rw [if_neg h1, if_neg h1]
    by_cases h2 : c.f0 = 2
    · simp [h2]
    · rw [if_neg h2]
      by_cases h3 : c.f0 = 3
      · rw [if_pos h3, if_pos h3]
        simp [h3]
      · simp [h2, h3]
theorem refRight_calls (c : Cmd) (w : World) : Calls Try.prog 90 #[.agg #[.int .i64 c.f0, .int .i64 c.f1, .int .i64 c.f2, .int .i64 c.f3, .int .i64 c.f4, .int .i64 c.f5, .int .i64 c.f6, .int .i64 c.f7, .int .i64 c.f8]] w fun e w' => e = .returned (.bool (cmdRight c)) ∧ Below w.heap.size w w' :=
  damperref05_Right.calls 1 _ _ _ _ _ _ _ _ _ _ w (refRight c)
theorem addr_add_zero (a : Addr) : a.add 0 = a := by
  obtain ⟨b, o, i⟩ := a
  cases i <;> simp [Addr.add]
set_option maxRecDepth 100000 in
set_option maxHeartbeats 2000000 in
theorem refDec_calls (A0 : Option Addr) (c0 : Nat) (b : List Int) (w : World) (hr0 : Kd.C (Kd.int .u8) w A0 b.length b) (hc0 : b.length ≤ c0) (hl : b.length ≤ 140737488355328) (hb : Byt b) :
    Calls Try.prog 73 #[.slice A0 b.length c0] w fun e w' => e = .returned (.tuple #[.agg #[.int .i64 (refDec b).1.f0, .int .i64 (refDec b).1.f1, .int .i64 (refDec b).1.f2, .int .i64 (refDec b).1.f3, .int .i64 (refDec b).1.f4, .int .i64 (refDec b).1.f5, .int .i64 (refDec b).1.f6, .int .i64 (refDec b).1.f7, .int .i64 (refDec b).1.f8], .int .i64 (refDec b).2]) ∧ Below w.heap.size w w' := by
  have hu95 := Try.underlying95
  have HR := Aside0.mk hr0
  have BY := Aside0.mk hb
  have HC0 := Aside0.mk hc0
  generalize hG : refDec b = G
  unfold refDec at hG
  have HG := Aside0.mk hG
  clear hG
  have B0 := Aside0.mk (below_alloc (Below.refl w.heap.size w) (.cells #[.int .i64 0, .int .i64 0, .int .i64 0, .int .i64 0, .int .i64 0, .int .i64 0, .int .i64 0, .int .i64 0, .int .i64 0] 95))
  have BX0 := Aside0.mk (show Box9 (w.alloc (.cells #[.int .i64 0, .int .i64 0, .int .i64 0, .int .i64 0, .int .i64 0, .int .i64 0, .int .i64 0, .int .i64 0, .int .i64 0] 95)) 95 w.heap.size 0 0 0 0 0 0 0 0 0 from blk_new w _)
  cases b with
  | nil =>
    rw [if_pos (by rfl)] at HG
    obtain rfl := HG.out
    clear hr0 hb hc0 hl
    go_enter Try.func73, Try.ntmps73
    go_wp2
    exact bodyPost_ret (results_ct (fn := Try.f73) (p := 2) (u := 3) (ty := 95) rfl _ _ w.heap.size 95 #[.int .i64 0, .int .i64 0, .int .i64 0, .int .i64 0, .int .i64 0, .int .i64 0, .int .i64 0, .int .i64 0, .int .i64 0] (0, 0) _ rfl BX0.out Try.underlying95 rfl (by kernel_rfl)) rfl ⟨rfl, B0.out⟩
  | cons x t =>
    have hx := (Byt.cons hb).1
    have hx0 := hx.1
    have hx1 := hx.2
    obtain ⟨_, _, had⟩ := Kd.reads_of_C (d := (0 : Int)) (Kd.C_below hr0 B0.out)
    obtain ⟨ad, rfl, hcell⟩ := had (by simp)
    have h0 := hcell 0 (by simp)
    have h00 : (w.alloc (.cells #[.int .i64 0, .int .i64 0, .int .i64 0, .int .i64 0, .int .i64 0, .int .i64 0, .int .i64 0, .int .i64 0, .int .i64 0] 95)).cell? ad = some (.int .u8 x) := by
      rw [addr_add_zero] at h0
      exact h0
    clear hcell hr0 hb hx had h0
    rw [if_neg (by simp)] at HG
    have HXG : Aside0 ((x :: t).getD 0 0 = x) := ⟨rfl⟩
    rw [HXG.out] at HG
    have hlen : (0 : Int) < ((x :: t).length : Int) := by simp
    have hlen2 : 0 < (x :: t).length := by simp
    have hmax : ((x :: t).length : Int) ≤ 140737488355328 := by omega
    generalize hN : (x :: t).length = N at *
    by_cases hbad : x < 1 ∨ 3 < x
    · rw [if_pos hbad] at HG
      obtain rfl := HG.out
      by_cases hk1 : x < 1
      · clear hbad
        go_enter Try.func73, Try.ntmps73
        go_wp2
        exact bodyPost_ret (results_ct (fn := Try.f73) (p := 2) (u := 3) (ty := 95) rfl _ _ w.heap.size 95 #[.int .i64 0, .int .i64 0, .int .i64 0, .int .i64 0, .int .i64 0, .int .i64 0, .int .i64 0, .int .i64 0, .int .i64 0] (0, 0) _ rfl BX0.out Try.underlying95 rfl (by kernel_rfl)) rfl ⟨rfl, B0.out⟩
      · have hk3 : 3 < x := hbad.resolve_left hk1
        clear hbad
        go_enter Try.func73, Try.ntmps73
        go_wp2
        exact bodyPost_ret (results_ct (fn := Try.f73) (p := 2) (u := 3) (ty := 95) rfl _ _ w.heap.size 95 #[.int .i64 0, .int .i64 0, .int .i64 0, .int .i64 0, .int .i64 0, .int .i64 0, .int .i64 0, .int .i64 0, .int .i64 0] (0, 0) _ rfl BX0.out Try.underlying95 rfl (by kernel_rfl)) rfl ⟨rfl, B0.out⟩
    · rw [if_neg hbad] at HG
      have hx2 : 1 ≤ x := by omega
      have hx3 : x ≤ 3 := by omega
      have HRR : Aside0 (RR w ((w.alloc (.cells #[.int .i64 0, .int .i64 0, .int .i64 0, .int .i64 0, .int .i64 0, .int .i64 0, .int .i64 0, .int .i64 0, .int .i64 0] 95)).alloc (.cells #[.slice (some ad) N c0, .int .i64 0] 152)) (w.heap.size + 1) (x :: t, 0)) := ⟨by
        refine ⟨⟨x :: t, some ad, c0, ?_, by rw [hN]; exact HC0.out, by rw [hN]; exact HR.out, BY.out, by omega, fun _ => rfl⟩, below_alloc B0.out _, by omega⟩
        have := blk_new (w.alloc (.cells #[.int .i64 0, .int .i64 0, .int .i64 0, .int .i64 0, .int .i64 0, .int .i64 0, .int .i64 0, .int .i64 0, .int .i64 0] 95)) (.cells #[.slice (some ad) N c0, .int .i64 0] 152)
        rw [World.size_alloc] at this
        rw [hN]
        exact this⟩
      have BX1 := Aside0.mk (show Box9 ((w.alloc (.cells #[.int .i64 0, .int .i64 0, .int .i64 0, .int .i64 0, .int .i64 0, .int .i64 0, .int .i64 0, .int .i64 0, .int .i64 0] 95)).alloc (.cells #[.slice (some ad) N c0, .int .i64 0] 152)) 95 w.heap.size 0 0 0 0 0 0 0 0 0 from blk_alloc BX0.out _)
      have HS1 : Aside0 (((w.alloc (.cells #[.int .i64 0, .int .i64 0, .int .i64 0, .int .i64 0, .int .i64 0, .int .i64 0, .int .i64 0, .int .i64 0, .int .i64 0] 95)).alloc (.cells #[.slice (some ad) N c0, .int .i64 0] 152)).heap.size = w.heap.size + 2) := ⟨by simp⟩
      clear hbad hN
      unfold refDecM at HG
      go_enter Try.func73, Try.ntmps73
      go_wp2_with fail
      clear hx2 hx3 hx0 hx1 h00 hlen hlen2 hmax HXG HR HC0 BX0 B0 hc0 hl
      generalize (x :: t) = b at *
      generalize ((w.alloc (.cells #[.int .i64 0, .int .i64 0, .int .i64 0, .int .i64 0, .int .i64 0, .int .i64 0, .int .i64 0, .int .i64 0, .int .i64 0] 95)).alloc (.cells #[.slice (some ad) N c0, .int .i64 0] 152)) = w2 at *
      generalize hg : w.heap.size + 1 = g at *
      have HGE := Aside0.mk hg.symm
      clear hg
      have CX := Aside0.mk HRR.out.one
      replace BY := BY.out
      have kr := Aside0.mk (rUint1_range (b, 0) BY)
      replace BY := byt_rUint (b, 0) 1 BY
      replace BY := Aside0.mk BY
      generalize rUint (b, 0) 1 = T at *
      obtain ⟨k, s1⟩ := T
      try dsimp only at *
      refine CX.out.mono ?_
      rintro e w3 ⟨rfl, hd, hk⟩
      have R3 := Aside0.mk hd
      have BX3 := Aside0.mk (hk.box BX1.out (by have := HGE.out; omega))
      have HS3 := Aside0.mk (show g < w3.heap.size by have := HRR.out; obtain ⟨l, A, c, h1, _⟩ := hd.ex; exact blk_lt h1)
      clear hd hk CX
      go_wp2_with fail
      have CX := Aside0.mk R3.out.one
      replace BY := BY.out
      have symr := Aside0.mk (rUint1_range s1 BY)
      replace BY := byt_rUint s1 1 BY
      replace BY := Aside0.mk BY
      generalize rUint s1 1 = T at *
      obtain ⟨sym, s2⟩ := T
      try dsimp only at *
      refine CX.out.mono ?_
      rintro e w4 ⟨rfl, hd, hk⟩
      have R4 := Aside0.mk hd
      have BX4 := Aside0.mk (hk.box BX3.out (by have := HGE.out; omega))
      have HS4 := Aside0.mk (show g < w4.heap.size by obtain ⟨l, A, c, h1, _⟩ := hd.ex; exact blk_lt h1)
      clear hd hk CX HS3 HS1
      have D5 := Aside0.mk (show ES w (w4.alloc (.cells #[.int .i64 k, .int .i64 sym, .int .i64 0, .int .i64 0, .int .i64 0, .int .i64 0, .int .i64 0, .int .i64 0, .int .i64 0] 95)) w4.heap.size g s2 k sym 0 0 0 0 0 0 0 from
        ⟨R4.out.below (below_alloc (Below.refl _ _) _), blk_new w4 _, blk_alloc BX4.out _, by have := HS4.out; have := HGE.out; omega, by have := HS4.out; omega, by have := HGE.out; omega⟩)
      go_wp2_with fail
      generalize (w4.alloc (.cells #[.int .i64 k, .int .i64 sym, .int .i64 0, .int .i64 0, .int .i64 0, .int .i64 0, .int .i64 0, .int .i64 0, .int .i64 0] 95)) = w5 at *
      generalize hb5 : w4.heap.size = b5 at *
      clear hb5
      have CX := Aside0.mk (D5.out.num)
      replace BY := BY.out
      have idr := Aside0.mk (rNum_range s2 BY)
      replace BY := byt_rNum s2 BY
      replace BY := Aside0.mk BY
      generalize rNum s2 = T at *
      obtain ⟨id, s3⟩ := T
      try dsimp only at *
      refine CX.out.mono ?_
      rintro e w6 ⟨rfl, hd⟩
      have Dw6 := Aside0.mk hd
      clear hd CX
      by_cases h1 : k = 1
      · subst h1
        rw [if_pos rfl] at HG
        obtain ⟨c0, c1, c2, c3, c4, c5, c6, c7, c8⟩ := Dw6.out.bx.cells
        obtain ⟨z0, z1, z2, z3, z4, z5, z6, z7, z8⟩ := Dw6.out.frozen
        go_wp2_with fail
        clear c0 c1 c2 c3 c4 c5 c6 c7 c8 z0 z1 z2 z3 z4 z5 z6 z7 z8
        have CX := Aside0.mk (Dw6.out.num)
        replace BY := BY.out
        have owr := Aside0.mk (rNum_range s3 BY)
        replace BY := byt_rNum s3 BY
        replace BY := Aside0.mk BY
        generalize rNum s3 = T at *
        obtain ⟨ow, s4⟩ := T
        try dsimp only at *
        refine CX.out.mono ?_
        rintro e w7 ⟨rfl, hd⟩
        have Dw7 := Aside0.mk hd
        clear hd CX
        obtain ⟨c0, c1, c2, c3, c4, c5, c6, c7, c8⟩ := Dw7.out.bx.cells
        obtain ⟨z0, z1, z2, z3, z4, z5, z6, z7, z8⟩ := Dw7.out.frozen
        go_wp2_with fail
        clear c0 c1 c2 c3 c4 c5 c6 c7 c8 z0 z1 z2 z3 z4 z5 z6 z7 z8
        have CX := Aside0.mk (Dw7.out.one)
        replace BY := BY.out
        have sdr := Aside0.mk (rUint1_range s4 BY)
        replace BY := byt_rUint s4 1 BY
        replace BY := Aside0.mk BY
        generalize rUint s4 1 = T at *
        obtain ⟨sd, s5⟩ := T
        try dsimp only at *
        refine CX.out.mono ?_
        rintro e w8 ⟨rfl, hd⟩
        have Dw8 := Aside0.mk hd
        clear hd CX
        have Ea := Aside0.mk (Dw8.out.set4 sd)
        obtain ⟨c0, c1, c2, c3, c4, c5, c6, c7, c8⟩ := Dw8.out.bx.cells
        obtain ⟨z0, z1, z2, z3, z4, z5, z6, z7, z8⟩ := Dw8.out.frozen
        obtain ⟨e0, e1, e2, e3, e4, e5, e6, e7, e8⟩ := Ea.out.bx.cells
        go_wp2_with fail
        clear c0 c1 c2 c3 c4 c5 c6 c7 c8 z0 z1 z2 z3 z4 z5 z6 z7 z8
        clear e0 e1 e2 e3 e4 e5 e6 e7 e8
        generalize (w8.setCell ⟨b5, 4, none⟩ (.int .i64 sd)) = Ea_ at *
        have CX := Aside0.mk (Ea.out.one)
        replace BY := BY.out
        have tyr := Aside0.mk (rUint1_range s5 BY)
        replace BY := byt_rUint s5 1 BY
        replace BY := Aside0.mk BY
        generalize rUint s5 1 = T at *
        obtain ⟨ty, s6⟩ := T
        try dsimp only at *
        refine CX.out.mono ?_
        rintro e w9 ⟨rfl, hd⟩
        have Dw9 := Aside0.mk hd
        clear hd CX
        have Eb := Aside0.mk (Dw9.out.set5 ty)
        obtain ⟨c0, c1, c2, c3, c4, c5, c6, c7, c8⟩ := Dw9.out.bx.cells
        obtain ⟨z0, z1, z2, z3, z4, z5, z6, z7, z8⟩ := Dw9.out.frozen
        obtain ⟨e0, e1, e2, e3, e4, e5, e6, e7, e8⟩ := Eb.out.bx.cells
        go_wp2_with fail
        clear c0 c1 c2 c3 c4 c5 c6 c7 c8 z0 z1 z2 z3 z4 z5 z6 z7 z8
        clear e0 e1 e2 e3 e4 e5 e6 e7 e8
        generalize (w9.setCell ⟨b5, 5, none⟩ (.int .i64 ty)) = Eb_ at *
        have CX := Aside0.mk (Eb.out.one)
        replace BY := BY.out
        have flr := Aside0.mk (rUint1_range s6 BY)
        replace BY := byt_rUint s6 1 BY
        replace BY := Aside0.mk BY
        generalize rUint s6 1 = T at *
        obtain ⟨fl, s7⟩ := T
        try dsimp only at *
        refine CX.out.mono ?_
        rintro e w10 ⟨rfl, hd⟩
        have Dw10 := Aside0.mk hd
        clear hd CX
        unfold refMid at HG
        rw [if_neg (by decide)] at HG
        have Ec := Aside0.mk (Dw10.out.set8 fl)
        obtain ⟨c0, c1, c2, c3, c4, c5, c6, c7, c8⟩ := Dw10.out.bx.cells
        obtain ⟨z0, z1, z2, z3, z4, z5, z6, z7, z8⟩ := Dw10.out.frozen
        obtain ⟨e0, e1, e2, e3, e4, e5, e6, e7, e8⟩ := Ec.out.bx.cells
        go_wp2_with fail
        clear c0 c1 c2 c3 c4 c5 c6 c7 c8 z0 z1 z2 z3 z4 z5 z6 z7 z8
        clear e0 e1 e2 e3 e4 e5 e6 e7 e8
        generalize (w10.setCell ⟨b5, 8, none⟩ (.int .i64 fl)) = Ec_ at *
        have CX := Aside0.mk (Ec.out.int)
        replace BY := BY.out
        replace BY := byt_rUint s7 8 BY
        replace BY := Aside0.mk BY
        generalize rUint s7 8 = T at *
        obtain ⟨pr, s8⟩ := T
        try dsimp only at *
        refine CX.out.mono ?_
        rintro e w11 ⟨rfl, hd⟩
        have Dw11 := Aside0.mk hd
        clear hd CX
        generalize unzig pr = pz at *
        have Ed := Aside0.mk (Dw11.out.set6 pz)
        obtain ⟨c0, c1, c2, c3, c4, c5, c6, c7, c8⟩ := Dw11.out.bx.cells
        obtain ⟨z0, z1, z2, z3, z4, z5, z6, z7, z8⟩ := Dw11.out.frozen
        obtain ⟨e0, e1, e2, e3, e4, e5, e6, e7, e8⟩ := Ed.out.bx.cells
        go_wp2_with fail
        clear c0 c1 c2 c3 c4 c5 c6 c7 c8 z0 z1 z2 z3 z4 z5 z6 z7 z8
        clear e0 e1 e2 e3 e4 e5 e6 e7 e8
        generalize (w11.setCell ⟨b5, 6, none⟩ (.int .i64 pz)) = Ed_ at *
        have CX := Aside0.mk (Ed.out.int)
        replace BY := BY.out
        replace BY := byt_rUint s8 8 BY
        replace BY := Aside0.mk BY
        generalize rUint s8 8 = T at *
        obtain ⟨qt, s9⟩ := T
        try dsimp only at *
        refine CX.out.mono ?_
        rintro e w12 ⟨rfl, hd⟩
        have Dw12 := Aside0.mk hd
        clear hd CX
        generalize unzig qt = qz at *
        have DB := Aside0.mk (Dw12.out.set7 qz)
        obtain ⟨c0, c1, c2, c3, c4, c5, c6, c7, c8⟩ := Dw12.out.bx.cells
        obtain ⟨z0, z1, z2, z3, z4, z5, z6, z7, z8⟩ := Dw12.out.frozen
        obtain ⟨e0, e1, e2, e3, e4, e5, e6, e7, e8⟩ := DB.out.bx.cells
        obtain ⟨ls, fs⟩ := s9
        obtain ⟨l, A, c, hb, hlc, hC, hby, hll0, hls⟩ := DB.out.rr.ex
        dsimp only at hb hls
        have g0 := (blk_cell hb 0).trans rfl
        have g1 := (blk_cell hb 1).trans rfl
        have HLS := Aside0.mk hls
        have HGB := Aside0.mk hb
        clear hb hlc hC hby hll0 hls
        unfold refFin at HG
        try dsimp only at HG
        obtain ⟨c0, c1, c2, c3, c4, c5, c6, c7, c8⟩ := DB.out.bx.cells
        obtain ⟨z0, z1, z2, z3, z4, z5, z6, z7, z8⟩ := DB.out.frozen
        obtain ⟨r0, r1, r2, r3, r4, r5, r6, r7, r8⟩ := DB.out.zx.cells
        obtain ⟨y0, y1, y2, y3, y4, y5, y6, y7, y8⟩ := DB.out.zfrozen
        by_cases hf : fs = 0
        · subst hf
          rw [if_neg (by decide)] at HG
          obtain rfl := HLS.out rfl
          obtain ⟨lm, hlm⟩ : ∃ m : Int, (l.length : Int) = m := ⟨_, rfl⟩
          have HLM := Aside0.mk hlm
          by_cases hi : 4611686018427387904 < id
          · rw [if_pos (by have := HLM.out; omega)] at HG
            obtain ⟨hres, hbel⟩ := DB.out.res 0 0 0 0 0 0 0 0 0
            have HRES := Aside0.mk hres
            have HBEL := Aside0.mk hbel
            clear hres hbel
            obtain rfl := HG.out
            go_wp2
            exact bodyPost_ret (results_ct (fn := Try.f73) (p := 2) (u := 3) (ty := 95) rfl _ _ w.heap.size 95 #[.int .i64 0, .int .i64 0, .int .i64 0, .int .i64 0, .int .i64 0, .int .i64 0, .int .i64 0, .int .i64 0, .int .i64 0] (0, 0) _ rfl HRES.out Try.underlying95 rfl (by kernel_rfl)) rfl ⟨rfl, HBEL.out⟩
          · by_cases ho : 1073741824 < ow
            · rw [if_pos (by have := HLM.out; omega)] at HG
              obtain ⟨hres, hbel⟩ := DB.out.res 0 0 0 0 0 0 0 0 0
              have HRES := Aside0.mk hres
              have HBEL := Aside0.mk hbel
              clear hres hbel
              obtain rfl := HG.out
              go_wp2
              exact bodyPost_ret (results_ct (fn := Try.f73) (p := 2) (u := 3) (ty := 95) rfl _ _ w.heap.size 95 #[.int .i64 0, .int .i64 0, .int .i64 0, .int .i64 0, .int .i64 0, .int .i64 0, .int .i64 0, .int .i64 0, .int .i64 0] (0, 0) _ rfl HRES.out Try.underlying95 rfl (by kernel_rfl)) rfl ⟨rfl, HBEL.out⟩
            · by_cases hl : 0 < lm
              · rw [if_pos (by have := HLM.out; omega)] at HG
                obtain ⟨hres, hbel⟩ := DB.out.res 0 0 0 0 0 0 0 0 0
                have HRES := Aside0.mk hres
                have HBEL := Aside0.mk hbel
                clear hres hbel
                obtain rfl := HG.out
                go_wp2
                exact bodyPost_ret (results_ct (fn := Try.f73) (p := 2) (u := 3) (ty := 95) rfl _ _ w.heap.size 95 #[.int .i64 0, .int .i64 0, .int .i64 0, .int .i64 0, .int .i64 0, .int .i64 0, .int .i64 0, .int .i64 0, .int .i64 0] (0, 0) _ rfl HRES.out Try.underlying95 rfl (by kernel_rfl)) rfl ⟨rfl, HBEL.out⟩
              · rw [if_neg (by have := HLM.out; omega)] at HG
                have hl0 : lm ≤ 0 := by omega
                have i0 := idr.out.1
                have o0 := owr.out.1
                have DN := Aside0.mk ((DB.out.set2 id).set3 ow)
                obtain ⟨e0, e1, e2, e3, e4, e5, e6, e7, e8⟩ := DN.out.bx.cells
                go_wp2_with fail
                clear c0 c1 c2 c3 c4 c5 c6 c7 c8 z0 z1 z2 z3 z4 z5 z6 z7 z8
                clear e0 e1 e2 e3 e4 e5 e6 e7 e8
                clear r0 r1 r2 r3 r4 r5 r6 r7 r8 y0 y1 y2 y3 y4 y5 y6 y7 y8
                clear g0 g1
                generalize (((w12.setCell ⟨b5, 7, none⟩ (.int .i64 qz)).setCell ⟨b5, 2, none⟩ (.int .i64 id)).setCell ⟨b5, 3, none⟩ (.int .i64 ow)) = wn at *
                refine (refRight_calls ⟨1, sym, id, ow, sd, ty, pz, qz, fl⟩ wn).mono ?_
                rintro e wr ⟨rfl, hbr⟩
                have DR := Aside0.mk (DN.out.below (Below.mono hbr (Nat.le_refl _)))
                clear hbr
                obtain ⟨c0, c1, c2, c3, c4, c5, c6, c7, c8⟩ := DR.out.bx.cells
                obtain ⟨z0, z1, z2, z3, z4, z5, z6, z7, z8⟩ := DR.out.frozen
                obtain ⟨r0, r1, r2, r3, r4, r5, r6, r7, r8⟩ := DR.out.zx.cells
                obtain ⟨y0, y1, y2, y3, y4, y5, y6, y7, y8⟩ := DR.out.zfrozen
                cases hr : cmdRight ⟨1, sym, id, ow, sd, ty, pz, qz, fl⟩ with
                | false =>
                  rw [if_pos hr] at HG
                  obtain ⟨hres, hbel⟩ := DR.out.res 0 0 0 0 0 0 0 0 0
                  have HRES := Aside0.mk hres
                  have HBEL := Aside0.mk hbel
                  clear hres hbel
                  obtain rfl := HG.out
                  go_wp2
                  exact bodyPost_ret (results_ct (fn := Try.f73) (p := 2) (u := 3) (ty := 95) rfl _ _ w.heap.size 95 #[.int .i64 0, .int .i64 0, .int .i64 0, .int .i64 0, .int .i64 0, .int .i64 0, .int .i64 0, .int .i64 0, .int .i64 0] (0, 0) _ rfl HRES.out Try.underlying95 rfl (by kernel_rfl)) rfl ⟨rfl, HBEL.out⟩
                | true =>
                  rw [if_neg (by rw [hr]; decide)] at HG
                  obtain ⟨hres, hbel⟩ := DR.out.res (1) (sym) (id) (ow) (sd) (ty) (pz) (qz) (fl)
                  have HRES := Aside0.mk hres
                  have HBEL := Aside0.mk hbel
                  clear hres hbel
                  obtain rfl := HG.out
                  go_wp2
                  exact bodyPost_ret (results_ct (fn := Try.f73) (p := 2) (u := 3) (ty := 95) rfl _ _ w.heap.size 95 #[.int .i64 1, .int .i64 sym, .int .i64 id, .int .i64 ow, .int .i64 sd, .int .i64 ty, .int .i64 pz, .int .i64 qz, .int .i64 fl] (0, 0) _ rfl HRES.out Try.underlying95 rfl (by kernel_rfl)) rfl ⟨rfl, HBEL.out⟩
        · rw [if_pos (by simpa using hf)] at HG
          have hff : (fs != 0) = true := by simpa using hf
          clear hf
          obtain ⟨hres, hbel⟩ := DB.out.res 0 0 0 0 0 0 0 0 0
          have HRES := Aside0.mk (ES.bdrew hres)
          have HBEL := Aside0.mk hbel
          clear hres hbel
          obtain rfl := HG.out
          have gx := (blk_cell (ES.far DB.out HGB.out) 1).trans rfl
          have hz1 := DB.out.hz
          go_wp2
          go_region
          go_wp2
          exact bodyPost_ret (results_ct (fn := Try.f73) (p := 2) (u := 3) (ty := 95) rfl _ _ w.heap.size 95 #[.int .i64 0, .int .i64 0, .int .i64 0, .int .i64 0, .int .i64 0, .int .i64 0, .int .i64 0, .int .i64 0, .int .i64 0] (0, 0) _ rfl HRES.out Try.underlying95 rfl (by kernel_rfl)) rfl ⟨rfl, HBEL.out.drew⟩
      · rw [if_neg h1] at HG
        have h1b : (k == 1) = false := by simpa using h1
        clear h1
        unfold refMid at HG
        by_cases h2 : k = 2
        · subst h2
          rw [if_pos rfl] at HG
          clear h1b
          obtain ⟨ls, fs⟩ := s3
          obtain ⟨l, A, c, hb, hlc, hC, hby, hll0, hls⟩ := Dw6.out.rr.ex
          dsimp only at hb hls
          have g0 := (blk_cell hb 0).trans rfl
          have g1 := (blk_cell hb 1).trans rfl
          have HLS := Aside0.mk hls
          have HGB := Aside0.mk hb
          clear hb hlc hC hby hll0 hls
          unfold refFin at HG
          try dsimp only at HG
          obtain ⟨c0, c1, c2, c3, c4, c5, c6, c7, c8⟩ := Dw6.out.bx.cells
          obtain ⟨z0, z1, z2, z3, z4, z5, z6, z7, z8⟩ := Dw6.out.frozen
          obtain ⟨r0, r1, r2, r3, r4, r5, r6, r7, r8⟩ := Dw6.out.zx.cells
          obtain ⟨y0, y1, y2, y3, y4, y5, y6, y7, y8⟩ := Dw6.out.zfrozen
          by_cases hf : fs = 0
          · subst hf
            rw [if_neg (by decide)] at HG
            obtain rfl := HLS.out rfl
            obtain ⟨lm, hlm⟩ : ∃ m : Int, (l.length : Int) = m := ⟨_, rfl⟩
            have HLM := Aside0.mk hlm
            by_cases hi : 4611686018427387904 < id
            · rw [if_pos (by have := HLM.out; omega)] at HG
              obtain ⟨hres, hbel⟩ := Dw6.out.res 0 0 0 0 0 0 0 0 0
              have HRES := Aside0.mk hres
              have HBEL := Aside0.mk hbel
              clear hres hbel
              obtain rfl := HG.out
              go_wp2
              exact bodyPost_ret (results_ct (fn := Try.f73) (p := 2) (u := 3) (ty := 95) rfl _ _ w.heap.size 95 #[.int .i64 0, .int .i64 0, .int .i64 0, .int .i64 0, .int .i64 0, .int .i64 0, .int .i64 0, .int .i64 0, .int .i64 0] (0, 0) _ rfl HRES.out Try.underlying95 rfl (by kernel_rfl)) rfl ⟨rfl, HBEL.out⟩
            · by_cases hl : 0 < lm
              · rw [if_pos (by have := HLM.out; omega)] at HG
                obtain ⟨hres, hbel⟩ := Dw6.out.res 0 0 0 0 0 0 0 0 0
                have HRES := Aside0.mk hres
                have HBEL := Aside0.mk hbel
                clear hres hbel
                obtain rfl := HG.out
                go_wp2
                exact bodyPost_ret (results_ct (fn := Try.f73) (p := 2) (u := 3) (ty := 95) rfl _ _ w.heap.size 95 #[.int .i64 0, .int .i64 0, .int .i64 0, .int .i64 0, .int .i64 0, .int .i64 0, .int .i64 0, .int .i64 0, .int .i64 0] (0, 0) _ rfl HRES.out Try.underlying95 rfl (by kernel_rfl)) rfl ⟨rfl, HBEL.out⟩
              · rw [if_neg (by have := HLM.out; omega)] at HG
                have hl0 : lm ≤ 0 := by omega
                have i0 := idr.out.1
                have DN := Aside0.mk ((Dw6.out.set2 id).set3 0)
                obtain ⟨e0, e1, e2, e3, e4, e5, e6, e7, e8⟩ := DN.out.bx.cells
                go_wp2_with fail
                clear c0 c1 c2 c3 c4 c5 c6 c7 c8 z0 z1 z2 z3 z4 z5 z6 z7 z8
                clear e0 e1 e2 e3 e4 e5 e6 e7 e8
                clear r0 r1 r2 r3 r4 r5 r6 r7 r8 y0 y1 y2 y3 y4 y5 y6 y7 y8
                clear g0 g1
                generalize ((w6.setCell ⟨b5, 2, none⟩ (.int .i64 id)).setCell ⟨b5, 3, none⟩ (.int .i64 0)) = wn at *
                refine (refRight_calls ⟨2, sym, id, 0, 0, 0, 0, 0, 0⟩ wn).mono ?_
                rintro e wr ⟨rfl, hbr⟩
                have DR := Aside0.mk (DN.out.below (Below.mono hbr (Nat.le_refl _)))
                clear hbr
                obtain ⟨c0, c1, c2, c3, c4, c5, c6, c7, c8⟩ := DR.out.bx.cells
                obtain ⟨z0, z1, z2, z3, z4, z5, z6, z7, z8⟩ := DR.out.frozen
                obtain ⟨r0, r1, r2, r3, r4, r5, r6, r7, r8⟩ := DR.out.zx.cells
                obtain ⟨y0, y1, y2, y3, y4, y5, y6, y7, y8⟩ := DR.out.zfrozen
                cases hr : cmdRight ⟨2, sym, id, 0, 0, 0, 0, 0, 0⟩ with
                | false =>
                  rw [if_pos hr] at HG
                  obtain ⟨hres, hbel⟩ := DR.out.res 0 0 0 0 0 0 0 0 0
                  have HRES := Aside0.mk hres
                  have HBEL := Aside0.mk hbel
                  clear hres hbel
                  obtain rfl := HG.out
                  go_wp2
                  exact bodyPost_ret (results_ct (fn := Try.f73) (p := 2) (u := 3) (ty := 95) rfl _ _ w.heap.size 95 #[.int .i64 0, .int .i64 0, .int .i64 0, .int .i64 0, .int .i64 0, .int .i64 0, .int .i64 0, .int .i64 0, .int .i64 0] (0, 0) _ rfl HRES.out Try.underlying95 rfl (by kernel_rfl)) rfl ⟨rfl, HBEL.out⟩
                | true =>
                  rw [if_neg (by rw [hr]; decide)] at HG
                  obtain ⟨hres, hbel⟩ := DR.out.res (2) (sym) (id) (0) (0) (0) (0) (0) (0)
                  have HRES := Aside0.mk hres
                  have HBEL := Aside0.mk hbel
                  clear hres hbel
                  obtain rfl := HG.out
                  go_wp2
                  exact bodyPost_ret (results_ct (fn := Try.f73) (p := 2) (u := 3) (ty := 95) rfl _ _ w.heap.size 95 #[.int .i64 2, .int .i64 sym, .int .i64 id, .int .i64 0, .int .i64 0, .int .i64 0, .int .i64 0, .int .i64 0, .int .i64 0] (0, 0) _ rfl HRES.out Try.underlying95 rfl (by kernel_rfl)) rfl ⟨rfl, HBEL.out⟩
          · rw [if_pos (by simpa using hf)] at HG
            have hff : (fs != 0) = true := by simpa using hf
            clear hf
            obtain ⟨hres, hbel⟩ := Dw6.out.res 0 0 0 0 0 0 0 0 0
            have HRES := Aside0.mk (ES.bdrew hres)
            have HBEL := Aside0.mk hbel
            clear hres hbel
            obtain rfl := HG.out
            have gx := (blk_cell (ES.far Dw6.out HGB.out) 1).trans rfl
            have hz1 := Dw6.out.hz
            go_wp2
            go_region
            go_wp2
            exact bodyPost_ret (results_ct (fn := Try.f73) (p := 2) (u := 3) (ty := 95) rfl _ _ w.heap.size 95 #[.int .i64 0, .int .i64 0, .int .i64 0, .int .i64 0, .int .i64 0, .int .i64 0, .int .i64 0, .int .i64 0, .int .i64 0] (0, 0) _ rfl HRES.out Try.underlying95 rfl (by kernel_rfl)) rfl ⟨rfl, HBEL.out.drew⟩
        · rw [if_neg h2] at HG
          have h2b : (k != 2) = true := by simpa using h2
          clear h2
          obtain ⟨c0, c1, c2, c3, c4, c5, c6, c7, c8⟩ := Dw6.out.bx.cells
          obtain ⟨z0, z1, z2, z3, z4, z5, z6, z7, z8⟩ := Dw6.out.frozen
          go_wp2_with fail
          clear c0 c1 c2 c3 c4 c5 c6 c7 c8 z0 z1 z2 z3 z4 z5 z6 z7 z8
          have CX := Aside0.mk (Dw6.out.int)
          replace BY := BY.out
          replace BY := byt_rUint s3 8 BY
          replace BY := Aside0.mk BY
          generalize rUint s3 8 = T at *
          obtain ⟨pr, s8⟩ := T
          try dsimp only at *
          refine CX.out.mono ?_
          rintro e w11 ⟨rfl, hd⟩
          have Dw11 := Aside0.mk hd
          clear hd CX
          generalize unzig pr = pz at *
          have Ed := Aside0.mk (Dw11.out.set6 pz)
          obtain ⟨c0, c1, c2, c3, c4, c5, c6, c7, c8⟩ := Dw11.out.bx.cells
          obtain ⟨z0, z1, z2, z3, z4, z5, z6, z7, z8⟩ := Dw11.out.frozen
          obtain ⟨e0, e1, e2, e3, e4, e5, e6, e7, e8⟩ := Ed.out.bx.cells
          go_wp2_with fail
          clear c0 c1 c2 c3 c4 c5 c6 c7 c8 z0 z1 z2 z3 z4 z5 z6 z7 z8
          clear e0 e1 e2 e3 e4 e5 e6 e7 e8
          generalize (w11.setCell ⟨b5, 6, none⟩ (.int .i64 pz)) = Ed_ at *
          have CX := Aside0.mk (Ed.out.int)
          replace BY := BY.out
          replace BY := byt_rUint s8 8 BY
          replace BY := Aside0.mk BY
          generalize rUint s8 8 = T at *
          obtain ⟨qt, s9⟩ := T
          try dsimp only at *
          refine CX.out.mono ?_
          rintro e w12 ⟨rfl, hd⟩
          have Dw12 := Aside0.mk hd
          clear hd CX
          generalize unzig qt = qz at *
          have DB := Aside0.mk (Dw12.out.set7 qz)
          obtain ⟨c0, c1, c2, c3, c4, c5, c6, c7, c8⟩ := Dw12.out.bx.cells
          obtain ⟨z0, z1, z2, z3, z4, z5, z6, z7, z8⟩ := Dw12.out.frozen
          obtain ⟨e0, e1, e2, e3, e4, e5, e6, e7, e8⟩ := DB.out.bx.cells
          obtain ⟨ls, fs⟩ := s9
          obtain ⟨l, A, c, hb, hlc, hC, hby, hll0, hls⟩ := DB.out.rr.ex
          dsimp only at hb hls
          have g0 := (blk_cell hb 0).trans rfl
          have g1 := (blk_cell hb 1).trans rfl
          have HLS := Aside0.mk hls
          have HGB := Aside0.mk hb
          clear hb hlc hC hby hll0 hls
          unfold refFin at HG
          try dsimp only at HG
          obtain ⟨c0, c1, c2, c3, c4, c5, c6, c7, c8⟩ := DB.out.bx.cells
          obtain ⟨z0, z1, z2, z3, z4, z5, z6, z7, z8⟩ := DB.out.frozen
          obtain ⟨r0, r1, r2, r3, r4, r5, r6, r7, r8⟩ := DB.out.zx.cells
          obtain ⟨y0, y1, y2, y3, y4, y5, y6, y7, y8⟩ := DB.out.zfrozen
          by_cases hf : fs = 0
          · subst hf
            rw [if_neg (by decide)] at HG
            obtain rfl := HLS.out rfl
            obtain ⟨lm, hlm⟩ : ∃ m : Int, (l.length : Int) = m := ⟨_, rfl⟩
            have HLM := Aside0.mk hlm
            by_cases hi : 4611686018427387904 < id
            · rw [if_pos (by have := HLM.out; omega)] at HG
              obtain ⟨hres, hbel⟩ := DB.out.res 0 0 0 0 0 0 0 0 0
              have HRES := Aside0.mk hres
              have HBEL := Aside0.mk hbel
              clear hres hbel
              obtain rfl := HG.out
              go_wp2
              exact bodyPost_ret (results_ct (fn := Try.f73) (p := 2) (u := 3) (ty := 95) rfl _ _ w.heap.size 95 #[.int .i64 0, .int .i64 0, .int .i64 0, .int .i64 0, .int .i64 0, .int .i64 0, .int .i64 0, .int .i64 0, .int .i64 0] (0, 0) _ rfl HRES.out Try.underlying95 rfl (by kernel_rfl)) rfl ⟨rfl, HBEL.out⟩
            · by_cases hl : 0 < lm
              · rw [if_pos (by have := HLM.out; omega)] at HG
                obtain ⟨hres, hbel⟩ := DB.out.res 0 0 0 0 0 0 0 0 0
                have HRES := Aside0.mk hres
                have HBEL := Aside0.mk hbel
                clear hres hbel
                obtain rfl := HG.out
                go_wp2
                exact bodyPost_ret (results_ct (fn := Try.f73) (p := 2) (u := 3) (ty := 95) rfl _ _ w.heap.size 95 #[.int .i64 0, .int .i64 0, .int .i64 0, .int .i64 0, .int .i64 0, .int .i64 0, .int .i64 0, .int .i64 0, .int .i64 0] (0, 0) _ rfl HRES.out Try.underlying95 rfl (by kernel_rfl)) rfl ⟨rfl, HBEL.out⟩
              · rw [if_neg (by have := HLM.out; omega)] at HG
                have hl0 : lm ≤ 0 := by omega
                have i0 := idr.out.1
                have DN := Aside0.mk ((DB.out.set2 id).set3 0)
                obtain ⟨e0, e1, e2, e3, e4, e5, e6, e7, e8⟩ := DN.out.bx.cells
                go_wp2_with fail
                clear c0 c1 c2 c3 c4 c5 c6 c7 c8 z0 z1 z2 z3 z4 z5 z6 z7 z8
                clear e0 e1 e2 e3 e4 e5 e6 e7 e8
                clear r0 r1 r2 r3 r4 r5 r6 r7 r8 y0 y1 y2 y3 y4 y5 y6 y7 y8
                clear g0 g1
                generalize (((w12.setCell ⟨b5, 7, none⟩ (.int .i64 qz)).setCell ⟨b5, 2, none⟩ (.int .i64 id)).setCell ⟨b5, 3, none⟩ (.int .i64 0)) = wn at *
                refine (refRight_calls ⟨k, sym, id, 0, 0, 0, pz, qz, 0⟩ wn).mono ?_
                rintro e wr ⟨rfl, hbr⟩
                have DR := Aside0.mk (DN.out.below (Below.mono hbr (Nat.le_refl _)))
                clear hbr
                obtain ⟨c0, c1, c2, c3, c4, c5, c6, c7, c8⟩ := DR.out.bx.cells
                obtain ⟨z0, z1, z2, z3, z4, z5, z6, z7, z8⟩ := DR.out.frozen
                obtain ⟨r0, r1, r2, r3, r4, r5, r6, r7, r8⟩ := DR.out.zx.cells
                obtain ⟨y0, y1, y2, y3, y4, y5, y6, y7, y8⟩ := DR.out.zfrozen
                cases hr : cmdRight ⟨k, sym, id, 0, 0, 0, pz, qz, 0⟩ with
                | false =>
                  rw [if_pos hr] at HG
                  obtain ⟨hres, hbel⟩ := DR.out.res 0 0 0 0 0 0 0 0 0
                  have HRES := Aside0.mk hres
                  have HBEL := Aside0.mk hbel
                  clear hres hbel
                  obtain rfl := HG.out
                  go_wp2
                  exact bodyPost_ret (results_ct (fn := Try.f73) (p := 2) (u := 3) (ty := 95) rfl _ _ w.heap.size 95 #[.int .i64 0, .int .i64 0, .int .i64 0, .int .i64 0, .int .i64 0, .int .i64 0, .int .i64 0, .int .i64 0, .int .i64 0] (0, 0) _ rfl HRES.out Try.underlying95 rfl (by kernel_rfl)) rfl ⟨rfl, HBEL.out⟩
                | true =>
                  rw [if_neg (by rw [hr]; decide)] at HG
                  obtain ⟨hres, hbel⟩ := DR.out.res (k) (sym) (id) (0) (0) (0) (pz) (qz) (0)
                  have HRES := Aside0.mk hres
                  have HBEL := Aside0.mk hbel
                  clear hres hbel
                  obtain rfl := HG.out
                  go_wp2
                  exact bodyPost_ret (results_ct (fn := Try.f73) (p := 2) (u := 3) (ty := 95) rfl _ _ w.heap.size 95 #[.int .i64 k, .int .i64 sym, .int .i64 id, .int .i64 0, .int .i64 0, .int .i64 0, .int .i64 pz, .int .i64 qz, .int .i64 0] (0, 0) _ rfl HRES.out Try.underlying95 rfl (by kernel_rfl)) rfl ⟨rfl, HBEL.out⟩
          · rw [if_pos (by simpa using hf)] at HG
            have hff : (fs != 0) = true := by simpa using hf
            clear hf
            obtain ⟨hres, hbel⟩ := DB.out.res 0 0 0 0 0 0 0 0 0
            have HRES := Aside0.mk (ES.bdrew hres)
            have HBEL := Aside0.mk hbel
            clear hres hbel
            obtain rfl := HG.out
            have gx := (blk_cell (ES.far DB.out HGB.out) 1).trans rfl
            have hz1 := DB.out.hz
            go_wp2
            go_region
            go_wp2
            exact bodyPost_ret (results_ct (fn := Try.f73) (p := 2) (u := 3) (ty := 95) rfl _ _ w.heap.size 95 #[.int .i64 0, .int .i64 0, .int .i64 0, .int .i64 0, .int .i64 0, .int .i64 0, .int .i64 0, .int .i64 0, .int .i64 0] (0, 0) _ rfl HRES.out Try.underlying95 rfl (by kernel_rfl)) rfl ⟨rfl, HBEL.out.drew⟩
def damperref05_Decode.f (l0 : List Int) : Option (Int × Int × Int × Int × Int × Int × Int × Int × Int × Int) :=
  if bytB l0 = true ∧ l0.length ≤ 140737488355328 then some ((refDec l0).1.f0, (refDec l0).1.f1, (refDec l0).1.f2, (refDec l0).1.f3, (refDec l0).1.f4, (refDec l0).1.f5, (refDec l0).1.f6, (refDec l0).1.f7, (refDec l0).1.f8, (refDec l0).2) else none
theorem damperref05_Decode.calls (A0 : Option Addr) (c0 : Nat) (l0 : List Int) (r1 r2 r3 r4 r5 r6 r7 r8 r9 r10 : Int) (w : World) (hr0 : Kd.C (Kd.int .u8) w A0 l0.length l0) (hc0 : l0.length ≤ c0) (h : damperref05_Decode.f l0 = some (r1, r2, r3, r4, r5, r6, r7, r8, r9, r10)) :
    Calls Try.prog 73 #[.slice A0 l0.length c0] w fun e w' => e = .returned (.tuple #[.agg #[.int .i64 r1, .int .i64 r2, .int .i64 r3, .int .i64 r4, .int .i64 r5, .int .i64 r6, .int .i64 r7, .int .i64 r8, .int .i64 r9], .int .i64 r10]) ∧ Below w.heap.size w w' := by
  unfold damperref05_Decode.f at h
  by_cases hp : bytB l0 = true ∧ l0.length ≤ 140737488355328
  · rw [if_pos hp] at h
    have h := Option.some.inj h
    simp only [Prod.mk.injEq] at h
    obtain ⟨rfl, rfl, rfl, rfl, rfl, rfl, rfl, rfl, rfl, rfl⟩ := h
    exact refDec_calls A0 c0 l0 w hr0 hc0 hp.2 (byt_of hp.1)
  · rw [if_neg hp] at h
    cases h
end Go.Proofs.Ytalpemoodollpaa.P
-- Printed by hookprint.py (the session's own program, over the kit's print.py): checked by Lean like any text.
namespace Go.Proofs.Ytalpemoodollpaa.P
open Go.RowKit Go.Proofs.YtalpemoodollpaaW.PrintWords Go.Proofs.YtalpemoodollpaaW.PrintLast Go.Proofs.YtalpemoodollpaaW.PrintMore
attribute [local go_sem] max2_int min2_int max_two min_two max_three min_three max_four min_four   -- for this text's walks alone
set_option linter.unusedVariables false
set_option linter.unusedSimpArgs false

attribute [local go_sem high] eqA95
/-! ### damperlaw05_alive: function 71 -/
def damperlaw05_alive.f  : Option (Bool) := (command_Decode.f (([2, 3, 5] : List Int))).bind fun bt509 => (if bt509.2.2.2.2.2.2.2.2.2 = 0 then (some (bt509.1 == 2 && (bt509.2.1 == 3 && (bt509.2.2.1 == 5 && (bt509.2.2.2.1 == 0 && (bt509.2.2.2.2.1 == 0 && (bt509.2.2.2.2.2.1 == 0 && (bt509.2.2.2.2.2.2.1 == 0 && (bt509.2.2.2.2.2.2.2.1 == 0 && (bt509.2.2.2.2.2.2.2.2.1 == 0)))))))))) else (some false))
set_option maxHeartbeats 8000000 in
set_option maxRecDepth 100000 in
theorem damperlaw05_alive.calls  (r : Bool) (w : World) (h : damperlaw05_alive.f  = some r) :
    Calls Try.prog 71 #[] w fun e w' => e = .returned (.bool r) ∧ Below w.heap.size w w' := by
  have hu95 := Try.underlying95
  have HB := Aside0.mk (Below.refl w.heap.size w)
  have H : ((command_Decode.f (([2, 3, 5] : List Int))).bind fun bt509 => (if bt509.2.2.2.2.2.2.2.2.2 = 0 then (some (bt509.1 == 2 && (bt509.2.1 == 3 && (bt509.2.2.1 == 5 && (bt509.2.2.2.1 == 0 && (bt509.2.2.2.2.1 == 0 && (bt509.2.2.2.2.2.1 == 0 && (bt509.2.2.2.2.2.2.1 == 0 && (bt509.2.2.2.2.2.2.2.1 == 0 && (bt509.2.2.2.2.2.2.2.2.1 == 0)))))))))) else (some false))) = some r := h
  clear h
  obtain ⟨y506, hy506⟩ : ∃ y_ : List Int, y_ = (([2, 3, 5] : List Int)) := ⟨_, rfl⟩
  replace H : ((command_Decode.f y506).bind fun bt509 => (if bt509.2.2.2.2.2.2.2.2.2 = 0 then (some (bt509.1 == 2 && (bt509.2.1 == 3 && (bt509.2.2.1 == 5 && (bt509.2.2.2.1 == 0 && (bt509.2.2.2.2.1 == 0 && (bt509.2.2.2.2.2.1 == 0 && (bt509.2.2.2.2.2.2.1 == 0 && (bt509.2.2.2.2.2.2.2.1 == 0 && (bt509.2.2.2.2.2.2.2.2.1 == 0)))))))))) else (some false))) = some r := by first | (rw [hy506]; with_reducible exact H) | (have H2_ := (Option.bind_some _ _).symm.trans H; rw [hy506]; with_reducible exact H2_) | (have H2_ := (Option.bind_some _ _).symm.trans H; with_reducible exact H2_) | with_reducible exact H | (rw [hy506]; exact H) | exact H
  have Ny506 := Aside0.mk hy506
  clear hy506
  replace H := Option.bind_eq_some_iff.mp H
  obtain ⟨⟨t509, t510, t511, t512, t513, t514, t515, t516, t517, t518⟩, A10, H⟩ := H
  replace H : (if t518 = 0 then (some (t509 == 2 && (t510 == 3 && (t511 == 5 && (t512 == 0 && (t513 == 0 && (t514 == 0 && (t515 == 0 && (t516 == 0 && (t517 == 0)))))))))) else (some false)) = some r := H
  have A1 := Aside0.mk A10
  clear A10
  by_cases c2 : t518 = 0
  · rw [if_pos c2] at H
    have c2b0 : (t518 == 0) = true := beq_iff_eq.mpr c2
    have c2b1 : (t518 != 0) = false := bne_eq_false_iff_eq.mpr c2
    clear c2
    obtain rfl := Option.some.inj H
    go_enter Try.func71, Try.ntmps71
    go_wp2_with (first | ((with_reducible refine gate_dst (N := 4) rfl ?_); refine Kd.R_lit (Kd.int .u8) _ 5 ?hg (N := 4) ?hd (xs := ([2, 3, 5] : List Int)) (inner := [.int .u8 2, .int .u8 3, .int .u8 5]) (ok := fun _ => True) (okp := fun _ => True) ?hr ?hp (fun _ hk => hk) trivial (Below.refl _ _) (Nat.le_refl _) (by simp) ?_; (case hd => rfl); (case hg => rfl); (case hr => first | (go_simp; done) | (go_simp; rfl)); (case hp => exact (Reps.one (show Kd.M (Kd.int .u8) _ _ _ 2 [.int .u8 2] from rfl) (Reps.one (show Kd.M (Kd.int .u8) _ _ _ 3 [.int .u8 3] from rfl) (Reps.one (show Kd.M (Kd.int .u8) _ _ _ 5 [.int .u8 5] from rfl) (Reps.none _ _))))); intro v507 w3 ho4 hb hg_ hnew_; clear hg_ hnew_; (first | rw [← Ny506.out] at ho4 | (simp only [Int.reduceToNat] at ho4; rw [← Ny506.out] at ho4)); have n0_ := Aside0.mk (Kd.R_lower ho4 (below_size (by repeat (first | (with_reducible first | exact HB.out | apply below_alloc | apply pw_below_drewN | apply below_drew1) | exact HB.out)))); have n1_ := Aside0.mk (below_step (by repeat (first | (with_reducible first | exact HB.out | apply below_alloc | apply pw_below_drewN | apply below_drew1) | exact HB.out)) hb); clear HB; have HO508 := n0_; have HB := n1_; clear n0_ n1_; clear hb ho4; obtain ⟨Ao5, co5, eo5⟩ := Kd.R_slice HO508.out; subst eo5) | ((with_reducible refine gate_callee (f := 72) rfl ?_); refine goesL_ (some 5) rfl rfl Try.func72 (by kernel_rfl) rfl #[.slice Ao5 y506.length co5] rfl (by (try simp only [List.map_toArray, List.map_cons, List.map_nil]); first | done | rfl | (simp only [List.length_drop, List.length_take]; rfl)) ?_; (with_reducible refine (command_Decode.calls _ _ y506 t509 t510 t511 t512 t513 t514 t515 t516 t517 t518 _ ?side1 ?side2 A1.out).mono ?_); (case side1 => repeat (first | exact (Kd.R_reads' HO508.out).2.2 | (with_reducible refine Kd.C_alloc ?_ _) | (with_reducible refine Kd.C_drewN ?_ _) | (with_reducible refine Kd.C_drew ?_))); (case side2 => exact (Kd.R_reads' HO508.out).2.1); rintro e w6 ⟨rfl, hb⟩; refine ⟨_, rfl, ?_⟩; have n0_ := Aside0.mk (Kd.R_below (by (with_reducible repeat (first | apply Kd.R_alloc | apply Kd.R_drewN | apply Kd.R_drew)); exact HO508.out) hb); have n1_ := Aside0.mk (below_step (by repeat (first | (with_reducible first | exact HB.out | apply below_alloc | apply pw_below_drewN | apply below_drew1) | exact HB.out)) hb); clear HO508; clear HB; have HO508 := n0_; have HB := n1_; clear n0_ n1_; (try clear hb); (try clear hb2); (try clear hk); (try clear hi)) | ((with_reducible refine gate_dst (N := 1) rfl ?_); refine box_event ?hg (N := 1) ?hd (cs := #[.int .i64 0, .int .i64 0, .int .i64 0, .int .i64 0, .int .i64 0, .int .i64 0, .int .i64 0, .int .i64 0, .int .i64 0]) (t := 95) ?hr ?_; (case hd => rfl); (case hg => rfl); (case hr => first | (go_simp; done) | (go_simp; rfl)); intro gb519 hg w7 hbox hb; have n0_ := Aside0.mk (Kd.R_below (by (with_reducible repeat (first | apply Kd.R_alloc | apply Kd.R_drewN | apply Kd.R_drew)); exact HO508.out) hb); have n1_ := Aside0.mk (below_step (by repeat (first | (with_reducible first | exact HB.out | apply below_alloc | apply pw_below_drewN | apply below_drew1) | exact HB.out)) hb); have n2_ := Aside0.mk (hbox); have n3_ := Aside0.mk ((by rw [hg]; exact (below_size (by repeat (first | (with_reducible first | exact HB.out | apply below_alloc | apply pw_below_drewN | apply below_drew1) | exact HB.out))) : w.heap.size ≤ gb519)); have n4_ := Aside0.mk ((by rw [hg]; exact (below_size (by repeat (first | (with_reducible first | exact HB.out | apply below_alloc | apply pw_below_drewN | apply below_drew1) | exact HB.out))) : w.heap.size ≤ gb519)); clear HO508; clear HB; have HO508 := n0_; have HB := n1_; have BK519 := n2_; have GW519 := n3_; have GE519 := n4_; clear n0_ n1_ n2_ n3_ n4_; clear hb hbox hg; have hcz8_0 : w7.cell? ⟨gb519, 0, none⟩ = some (.int .i64 0) := (blk_cell BK519.out 0).trans rfl; have hcz8_1 : w7.cell? ⟨gb519, 1, none⟩ = some (.int .i64 0) := (blk_cell BK519.out 1).trans rfl; have hcz8_2 : w7.cell? ⟨gb519, 2, none⟩ = some (.int .i64 0) := (blk_cell BK519.out 2).trans rfl; have hcz8_3 : w7.cell? ⟨gb519, 3, none⟩ = some (.int .i64 0) := (blk_cell BK519.out 3).trans rfl; have hcz8_4 : w7.cell? ⟨gb519, 4, none⟩ = some (.int .i64 0) := (blk_cell BK519.out 4).trans rfl; have hcz8_5 : w7.cell? ⟨gb519, 5, none⟩ = some (.int .i64 0) := (blk_cell BK519.out 5).trans rfl; have hcz8_6 : w7.cell? ⟨gb519, 6, none⟩ = some (.int .i64 0) := (blk_cell BK519.out 6).trans rfl; have hcz8_7 : w7.cell? ⟨gb519, 7, none⟩ = some (.int .i64 0) := (blk_cell BK519.out 7).trans rfl; have hcz8_8 : w7.cell? ⟨gb519, 8, none⟩ = some (.int .i64 0) := (blk_cell BK519.out 8).trans rfl; have hfz8_0 := blk_frozen BK519.out 0; have hfz8_1 := blk_frozen BK519.out 1; have hfz8_2 := blk_frozen BK519.out 2; have hfz8_3 := blk_frozen BK519.out 3; have hfz8_4 := blk_frozen BK519.out 4; have hfz8_5 := blk_frozen BK519.out 5; have hfz8_6 := blk_frozen BK519.out 6; have hfz8_7 := blk_frozen BK519.out 7; have hfz8_8 := blk_frozen BK519.out 8))
    go_ret
    exact ⟨by first | rfl | (simp [errW_none, errW_some] <;> rfl) | (simp [*, errW_none, errW_some] <;> rfl), by repeat (first | (with_reducible first | exact HB.out | apply below_alloc | apply pw_below_drewN | apply below_drew1 | refine below_set ?_ GE519.out) | exact HB.out)⟩
  · rw [if_neg c2] at H
    have c2b0 : (t518 == 0) = false := beq_eq_false_iff_ne.mpr c2
    have c2b1 : (t518 != 0) = true := bne_iff_ne.mpr c2
    obtain rfl := Option.some.inj H
    go_enter Try.func71, Try.ntmps71
    go_wp2_with (first | ((with_reducible refine gate_dst (N := 4) rfl ?_); refine Kd.R_lit (Kd.int .u8) _ 5 ?hg (N := 4) ?hd (xs := ([2, 3, 5] : List Int)) (inner := [.int .u8 2, .int .u8 3, .int .u8 5]) (ok := fun _ => True) (okp := fun _ => True) ?hr ?hp (fun _ hk => hk) trivial (Below.refl _ _) (Nat.le_refl _) (by simp) ?_; (case hd => rfl); (case hg => rfl); (case hr => first | (go_simp; done) | (go_simp; rfl)); (case hp => exact (Reps.one (show Kd.M (Kd.int .u8) _ _ _ 2 [.int .u8 2] from rfl) (Reps.one (show Kd.M (Kd.int .u8) _ _ _ 3 [.int .u8 3] from rfl) (Reps.one (show Kd.M (Kd.int .u8) _ _ _ 5 [.int .u8 5] from rfl) (Reps.none _ _))))); intro v507 w9 ho10 hb hg_ hnew_; clear hg_ hnew_; (first | rw [← Ny506.out] at ho10 | (simp only [Int.reduceToNat] at ho10; rw [← Ny506.out] at ho10)); have n0_ := Aside0.mk (Kd.R_lower ho10 (below_size (by repeat (first | (with_reducible first | exact HB.out | apply below_alloc | apply pw_below_drewN | apply below_drew1) | exact HB.out)))); have n1_ := Aside0.mk (below_step (by repeat (first | (with_reducible first | exact HB.out | apply below_alloc | apply pw_below_drewN | apply below_drew1) | exact HB.out)) hb); clear HB; have HO508 := n0_; have HB := n1_; clear n0_ n1_; clear hb ho10; obtain ⟨Ao11, co11, eo11⟩ := Kd.R_slice HO508.out; subst eo11) | ((with_reducible refine gate_callee (f := 72) rfl ?_); refine goesL_ (some 5) rfl rfl Try.func72 (by kernel_rfl) rfl #[.slice Ao11 y506.length co11] rfl (by (try simp only [List.map_toArray, List.map_cons, List.map_nil]); first | done | rfl | (simp only [List.length_drop, List.length_take]; rfl)) ?_; (with_reducible refine (command_Decode.calls _ _ y506 t509 t510 t511 t512 t513 t514 t515 t516 t517 t518 _ ?side1 ?side2 A1.out).mono ?_); (case side1 => repeat (first | exact (Kd.R_reads' HO508.out).2.2 | (with_reducible refine Kd.C_alloc ?_ _) | (with_reducible refine Kd.C_drewN ?_ _) | (with_reducible refine Kd.C_drew ?_))); (case side2 => exact (Kd.R_reads' HO508.out).2.1); rintro e w12 ⟨rfl, hb⟩; refine ⟨_, rfl, ?_⟩; have n0_ := Aside0.mk (Kd.R_below (by (with_reducible repeat (first | apply Kd.R_alloc | apply Kd.R_drewN | apply Kd.R_drew)); exact HO508.out) hb); have n1_ := Aside0.mk (below_step (by repeat (first | (with_reducible first | exact HB.out | apply below_alloc | apply pw_below_drewN | apply below_drew1) | exact HB.out)) hb); clear HO508; clear HB; have HO508 := n0_; have HB := n1_; clear n0_ n1_; (try clear hb); (try clear hb2); (try clear hk); (try clear hi)) | ((with_reducible refine gate_dst (N := 1) rfl ?_); refine box_event ?hg (N := 1) ?hd (cs := #[.int .i64 0, .int .i64 0, .int .i64 0, .int .i64 0, .int .i64 0, .int .i64 0, .int .i64 0, .int .i64 0, .int .i64 0]) (t := 95) ?hr ?_; (case hd => rfl); (case hg => rfl); (case hr => first | (go_simp; done) | (go_simp; rfl)); intro gb519 hg w13 hbox hb; have n0_ := Aside0.mk (Kd.R_below (by (with_reducible repeat (first | apply Kd.R_alloc | apply Kd.R_drewN | apply Kd.R_drew)); exact HO508.out) hb); have n1_ := Aside0.mk (below_step (by repeat (first | (with_reducible first | exact HB.out | apply below_alloc | apply pw_below_drewN | apply below_drew1) | exact HB.out)) hb); have n2_ := Aside0.mk (hbox); have n3_ := Aside0.mk ((by rw [hg]; exact (below_size (by repeat (first | (with_reducible first | exact HB.out | apply below_alloc | apply pw_below_drewN | apply below_drew1) | exact HB.out))) : w.heap.size ≤ gb519)); have n4_ := Aside0.mk ((by rw [hg]; exact (below_size (by repeat (first | (with_reducible first | exact HB.out | apply below_alloc | apply pw_below_drewN | apply below_drew1) | exact HB.out))) : w.heap.size ≤ gb519)); clear HO508; clear HB; have HO508 := n0_; have HB := n1_; have BK519 := n2_; have GW519 := n3_; have GE519 := n4_; clear n0_ n1_ n2_ n3_ n4_; clear hb hbox hg; have hcz14_0 : w13.cell? ⟨gb519, 0, none⟩ = some (.int .i64 0) := (blk_cell BK519.out 0).trans rfl; have hcz14_1 : w13.cell? ⟨gb519, 1, none⟩ = some (.int .i64 0) := (blk_cell BK519.out 1).trans rfl; have hcz14_2 : w13.cell? ⟨gb519, 2, none⟩ = some (.int .i64 0) := (blk_cell BK519.out 2).trans rfl; have hcz14_3 : w13.cell? ⟨gb519, 3, none⟩ = some (.int .i64 0) := (blk_cell BK519.out 3).trans rfl; have hcz14_4 : w13.cell? ⟨gb519, 4, none⟩ = some (.int .i64 0) := (blk_cell BK519.out 4).trans rfl; have hcz14_5 : w13.cell? ⟨gb519, 5, none⟩ = some (.int .i64 0) := (blk_cell BK519.out 5).trans rfl; have hcz14_6 : w13.cell? ⟨gb519, 6, none⟩ = some (.int .i64 0) := (blk_cell BK519.out 6).trans rfl; have hcz14_7 : w13.cell? ⟨gb519, 7, none⟩ = some (.int .i64 0) := (blk_cell BK519.out 7).trans rfl; have hcz14_8 : w13.cell? ⟨gb519, 8, none⟩ = some (.int .i64 0) := (blk_cell BK519.out 8).trans rfl; have hfz14_0 := blk_frozen BK519.out 0; have hfz14_1 := blk_frozen BK519.out 1; have hfz14_2 := blk_frozen BK519.out 2; have hfz14_3 := blk_frozen BK519.out 3; have hfz14_4 := blk_frozen BK519.out 4; have hfz14_5 := blk_frozen BK519.out 5; have hfz14_6 := blk_frozen BK519.out 6; have hfz14_7 := blk_frozen BK519.out 7; have hfz14_8 := blk_frozen BK519.out 8))
    go_ret
    exact ⟨by first | rfl | (simp [errW_none, errW_some] <;> rfl) | (simp [*, errW_none, errW_some] <;> rfl), by repeat (first | (with_reducible first | exact HB.out | apply below_alloc | apply pw_below_drewN | apply below_drew1 | refine below_set ?_ GE519.out) | exact HB.out)⟩

end Go.Proofs.Ytalpemoodollpaa.P
-- Printed by hookprint.py (the session's own program, over the kit's print.py): checked by Lean like any text.
namespace Go.Proofs.Ytalpemoodollpaa.P
open Go.RowKit Go.Proofs.YtalpemoodollpaaW.PrintWords Go.Proofs.YtalpemoodollpaaW.PrintLast Go.Proofs.YtalpemoodollpaaW.PrintMore
attribute [local go_sem] max2_int min2_int max_two min_two max_three min_three max_four min_four   -- for this text's walks alone
set_option linter.unusedVariables false
set_option linter.unusedSimpArgs false

attribute [local go_sem high] eqA95
/-! ### damperlaw05_CommandDecodes: function 14 -/
def damperlaw05_CommandDecodes.f (l0 : List Int) : Option (Bool) := if (l0.length : Int) > 200 then ((damperlaw05_alive.f).bind fun t550 => (some t550)) else ((command_Decode.f l0).bind fun bt551 => ((damperref05_Decode.f l0).bind fun bt562 => (if (bt551.1 == bt562.1 && (bt551.2.1 == bt562.2.1 && (bt551.2.2.1 == bt562.2.2.1 && (bt551.2.2.2.1 == bt562.2.2.2.1 && (bt551.2.2.2.2.1 == bt562.2.2.2.2.1 && (bt551.2.2.2.2.2.1 == bt562.2.2.2.2.2.1 && (bt551.2.2.2.2.2.2.1 == bt562.2.2.2.2.2.2.1 && (bt551.2.2.2.2.2.2.2.1 == bt562.2.2.2.2.2.2.2.1 && (bt551.2.2.2.2.2.2.2.2.1 == bt562.2.2.2.2.2.2.2.2.1))))))))) = true then (if bt551.2.2.2.2.2.2.2.2.2 = bt562.2.2.2.2.2.2.2.2.2 then ((damperlaw05_alive.f).bind fun t573 => (some t573)) else (some false)) else (some false))))
set_option maxHeartbeats 8000000 in
set_option maxRecDepth 100000 in
theorem damperlaw05_CommandDecodes.calls (A0 : Option Addr) (c0 : Nat) (l0 : List Int) (r : Bool) (w : World) (hr0 : Kd.C (Kd.int .u8) w A0 l0.length l0) (hc0 : l0.length ≤ c0) (h : damperlaw05_CommandDecodes.f l0 = some r) :
    Calls Try.prog 14 #[.slice A0 l0.length c0] w fun e w' => e = .returned (.bool r) ∧ Below w.heap.size w w' := by
  have hu95 := Try.underlying95
  have HR0 := Aside0.mk hr0
  have HC0 := Aside0.mk hc0
  clear hr0 hc0
  have HB := Aside0.mk (Below.refl w.heap.size w)
  have H : (if (l0.length : Int) > 200 then ((damperlaw05_alive.f).bind fun t550 => (some t550)) else ((command_Decode.f l0).bind fun bt551 => ((damperref05_Decode.f l0).bind fun bt562 => (if (bt551.1 == bt562.1 && (bt551.2.1 == bt562.2.1 && (bt551.2.2.1 == bt562.2.2.1 && (bt551.2.2.2.1 == bt562.2.2.2.1 && (bt551.2.2.2.2.1 == bt562.2.2.2.2.1 && (bt551.2.2.2.2.2.1 == bt562.2.2.2.2.2.1 && (bt551.2.2.2.2.2.2.1 == bt562.2.2.2.2.2.2.1 && (bt551.2.2.2.2.2.2.2.1 == bt562.2.2.2.2.2.2.2.1 && (bt551.2.2.2.2.2.2.2.2.1 == bt562.2.2.2.2.2.2.2.2.1))))))))) = true then (if bt551.2.2.2.2.2.2.2.2.2 = bt562.2.2.2.2.2.2.2.2.2 then ((damperlaw05_alive.f).bind fun t573 => (some t573)) else (some false)) else (some false))))) = some r := h
  clear h
  by_cases c2 : (l0.length : Int) > 200
  · rw [if_pos c2] at H
    have c2b0 : decide (200 < (l0.length : Int)) = true := decide_eq_true c2
    have c2b1 : decide (200 < l0.length) = true := decide_eq_true (by omega)
    clear c2
    replace H := Option.bind_eq_some_iff.mp H
    obtain ⟨t550, A30, H⟩ := H
    replace H : (some t550) = some r := H
    have A3 := Aside0.mk A30
    clear A30
    obtain rfl := Option.some.inj H
    go_enter Try.func14, Try.ntmps14
    go_wp2_with (first | ((with_reducible refine gate_callee (f := 71) rfl ?_); refine goesL_ (some 10) rfl rfl Try.func71 (by kernel_rfl) rfl #[] rfl (by (try simp only [List.map_toArray, List.map_cons, List.map_nil]); first | done | rfl | (simp only [List.length_drop, List.length_take]; rfl)) ?_; (with_reducible refine (damperlaw05_alive.calls  t550 _ A3.out).mono ?_); rintro e w4 ⟨rfl, hb⟩; refine ⟨_, rfl, ?_⟩; have n0_ := Aside0.mk (below_step (by repeat (first | (with_reducible first | exact HB.out | apply below_alloc | apply pw_below_drewN | apply below_drew1) | exact HB.out)) hb); clear HB; have HB := n0_; clear n0_; (try clear hb); (try clear hb2); (try clear hk); (try clear hi)))
    go_ret
    exact ⟨by first | rfl | (simp [errW_none, errW_some] <;> rfl) | (simp [*, errW_none, errW_some] <;> rfl), by repeat (first | (with_reducible first | exact HB.out | apply below_alloc | apply pw_below_drewN | apply below_drew1) | exact HB.out)⟩
  · rw [if_neg c2] at H
    have c2b0 : decide (200 < (l0.length : Int)) = false := decide_eq_false c2
    have c2b1 : decide (200 < l0.length) = false := decide_eq_false (by omega)
    clear c2
    replace H := Option.bind_eq_some_iff.mp H
    obtain ⟨⟨t551, t552, t553, t554, t555, t556, t557, t558, t559, t560⟩, A50, H⟩ := H
    replace H : ((damperref05_Decode.f l0).bind fun bt562 => (if (t551 == bt562.1 && (t552 == bt562.2.1 && (t553 == bt562.2.2.1 && (t554 == bt562.2.2.2.1 && (t555 == bt562.2.2.2.2.1 && (t556 == bt562.2.2.2.2.2.1 && (t557 == bt562.2.2.2.2.2.2.1 && (t558 == bt562.2.2.2.2.2.2.2.1 && (t559 == bt562.2.2.2.2.2.2.2.2.1))))))))) = true then (if t560 = bt562.2.2.2.2.2.2.2.2.2 then ((damperlaw05_alive.f).bind fun t573 => (some t573)) else (some false)) else (some false))) = some r := H
    have A5 := Aside0.mk A50
    clear A50
    replace H := Option.bind_eq_some_iff.mp H
    obtain ⟨⟨t562, t563, t564, t565, t566, t567, t568, t569, t570, t571⟩, A60, H⟩ := H
    replace H : (if (t551 == t562 && (t552 == t563 && (t553 == t564 && (t554 == t565 && (t555 == t566 && (t556 == t567 && (t557 == t568 && (t558 == t569 && (t559 == t570))))))))) = true then (if t560 = t571 then ((damperlaw05_alive.f).bind fun t573 => (some t573)) else (some false)) else (some false)) = some r := H
    have A6 := Aside0.mk A60
    clear A60
    by_cases c7 : (t551 == t562 && (t552 == t563 && (t553 == t564 && (t554 == t565 && (t555 == t566 && (t556 == t567 && (t557 == t568 && (t558 == t569 && (t559 == t570))))))))) = true
    · rw [if_pos c7] at H
      have c7b0 : (t551 == t562 && (t552 == t563 && (t553 == t564 && (t554 == t565 && (t555 == t566 && (t556 == t567 && (t557 == t568 && (t558 == t569 && (t559 == t570))))))))) = true := c7
      (try (have c7b1 : decide (t551 = t562 && (t552 == t563 && (t553 == t564 && (t554 == t565 && (t555 == t566 && (t556 == t567 && (t557 == t568 && (t558 == t569 && (t559 == t570))))))))) = true := by simpa using c7))
      (try (have c7b2 : (t551 == t562 && (t552 == t563 && (t553 == t564 && (t554 == t565 && (t555 == t566 && (t556 == t567 && (t557 == t568 && (t558 == t569 && (t559 == t570))))))))) = true := by simpa using c7))
      clear c7
      by_cases c8 : t560 = t571
      · rw [if_pos c8] at H
        have c8b0 : (t560 == t571) = true := beq_iff_eq.mpr c8
        have c8b1 : (t560 != t571) = false := bne_eq_false_iff_eq.mpr c8
        clear c8
        replace H := Option.bind_eq_some_iff.mp H
        obtain ⟨t573, A90, H⟩ := H
        replace H : (some t573) = some r := H
        have A9 := Aside0.mk A90
        clear A90
        obtain rfl := Option.some.inj H
        go_enter Try.func14, Try.ntmps14
        go_wp2_with (first | ((with_reducible refine gate_callee (f := 72) rfl ?_); refine goesL_ (some 13) rfl rfl Try.func72 (by kernel_rfl) rfl #[.slice A0 l0.length c0] rfl (by (try simp only [List.map_toArray, List.map_cons, List.map_nil]); first | done | rfl | (simp only [List.length_drop, List.length_take]; rfl)) ?_; (with_reducible refine (command_Decode.calls _ _ l0 t551 t552 t553 t554 t555 t556 t557 t558 t559 t560 _ ?side1 ?side2 A5.out).mono ?_); (case side1 => repeat (first | exact HR0.out | (with_reducible refine Kd.C_alloc ?_ _) | (with_reducible refine Kd.C_drewN ?_ _) | (with_reducible refine Kd.C_drew ?_))); (case side2 => exact HC0.out); rintro e w10 ⟨rfl, hb⟩; refine ⟨_, rfl, ?_⟩; have n0_ := Aside0.mk (below_step (by repeat (first | (with_reducible first | exact HB.out | apply below_alloc | apply pw_below_drewN | apply below_drew1) | exact HB.out)) hb); clear HB; have HB := n0_; clear n0_; (try clear hb); (try clear hb2); (try clear hk); (try clear hi)) | ((with_reducible refine gate_dst (N := 3) rfl ?_); refine box_event ?hg (N := 3) ?hd (cs := #[.int .i64 0, .int .i64 0, .int .i64 0, .int .i64 0, .int .i64 0, .int .i64 0, .int .i64 0, .int .i64 0, .int .i64 0]) (t := 95) ?hr ?_; (case hd => rfl); (case hg => rfl); (case hr => first | (go_simp; done) | (go_simp; rfl)); intro gb561 hg w11 hbox hb; have n0_ := Aside0.mk (below_step (by repeat (first | (with_reducible first | exact HB.out | apply below_alloc | apply pw_below_drewN | apply below_drew1) | exact HB.out)) hb); have n1_ := Aside0.mk (hbox); have n2_ := Aside0.mk ((by rw [hg]; exact (below_size (by repeat (first | (with_reducible first | exact HB.out | apply below_alloc | apply pw_below_drewN | apply below_drew1) | exact HB.out))) : w.heap.size ≤ gb561)); have n3_ := Aside0.mk ((by rw [hg]; exact (below_size (by repeat (first | (with_reducible first | exact HB.out | apply below_alloc | apply pw_below_drewN | apply below_drew1) | exact HB.out))) : w.heap.size ≤ gb561)); clear HB; have HB := n0_; have BK561 := n1_; have GW561 := n2_; have GE561 := n3_; clear n0_ n1_ n2_ n3_; clear hb hbox hg; have hcz12_0 : w11.cell? ⟨gb561, 0, none⟩ = some (.int .i64 0) := (blk_cell BK561.out 0).trans rfl; have hcz12_1 : w11.cell? ⟨gb561, 1, none⟩ = some (.int .i64 0) := (blk_cell BK561.out 1).trans rfl; have hcz12_2 : w11.cell? ⟨gb561, 2, none⟩ = some (.int .i64 0) := (blk_cell BK561.out 2).trans rfl; have hcz12_3 : w11.cell? ⟨gb561, 3, none⟩ = some (.int .i64 0) := (blk_cell BK561.out 3).trans rfl; have hcz12_4 : w11.cell? ⟨gb561, 4, none⟩ = some (.int .i64 0) := (blk_cell BK561.out 4).trans rfl; have hcz12_5 : w11.cell? ⟨gb561, 5, none⟩ = some (.int .i64 0) := (blk_cell BK561.out 5).trans rfl; have hcz12_6 : w11.cell? ⟨gb561, 6, none⟩ = some (.int .i64 0) := (blk_cell BK561.out 6).trans rfl; have hcz12_7 : w11.cell? ⟨gb561, 7, none⟩ = some (.int .i64 0) := (blk_cell BK561.out 7).trans rfl; have hcz12_8 : w11.cell? ⟨gb561, 8, none⟩ = some (.int .i64 0) := (blk_cell BK561.out 8).trans rfl; have hfz12_0 := blk_frozen BK561.out 0; have hfz12_1 := blk_frozen BK561.out 1; have hfz12_2 := blk_frozen BK561.out 2; have hfz12_3 := blk_frozen BK561.out 3; have hfz12_4 := blk_frozen BK561.out 4; have hfz12_5 := blk_frozen BK561.out 5; have hfz12_6 := blk_frozen BK561.out 6; have hfz12_7 := blk_frozen BK561.out 7; have hfz12_8 := blk_frozen BK561.out 8) | ((with_reducible refine gate_callee (f := 73) rfl ?_); refine goesL_ (some 18) rfl rfl Try.func73 (by kernel_rfl) rfl #[.slice A0 l0.length c0] rfl (by (try simp only [List.map_toArray, List.map_cons, List.map_nil]); first | done | rfl | (simp only [List.length_drop, List.length_take]; rfl)) ?_; (with_reducible refine (damperref05_Decode.calls _ _ l0 t562 t563 t564 t565 t566 t567 t568 t569 t570 t571 _ ?side1 ?side2 A6.out).mono ?_); (case side1 => exact Kd.C_below HR0.out (by repeat (first | (with_reducible first | exact HB.out | apply below_alloc | apply pw_below_drewN | apply below_drew1 | refine below_set ?_ GE561.out) | exact HB.out))); (case side2 => exact HC0.out); rintro e w13 ⟨rfl, hb⟩; refine ⟨_, rfl, ?_⟩; have n0_ := Aside0.mk (blk_below (g := gb561) (o := .cells #[.int .i64 t551, .int .i64 t552, .int .i64 t553, .int .i64 t554, .int .i64 t555, .int .i64 t556, .int .i64 t557, .int .i64 t558, .int .i64 t559] 95 (0, 0)) (by (with_reducible repeat (first | refine blk_drewN ?_ _ | refine blk_drew ?_ | refine blk_alloc ?_ _)); refine blk_put (cs := #[.int .i64 t551, .int .i64 t552, .int .i64 t553, .int .i64 t554, .int .i64 t555, .int .i64 t556, .int .i64 t557, .int .i64 t558, .int .i64 0]) ?_ 8 _ rfl; (with_reducible repeat (first | refine blk_drewN ?_ _ | refine blk_drew ?_ | refine blk_alloc ?_ _)); refine blk_put (cs := #[.int .i64 t551, .int .i64 t552, .int .i64 t553, .int .i64 t554, .int .i64 t555, .int .i64 t556, .int .i64 t557, .int .i64 0, .int .i64 0]) ?_ 7 _ rfl; (with_reducible repeat (first | refine blk_drewN ?_ _ | refine blk_drew ?_ | refine blk_alloc ?_ _)); refine blk_put (cs := #[.int .i64 t551, .int .i64 t552, .int .i64 t553, .int .i64 t554, .int .i64 t555, .int .i64 t556, .int .i64 0, .int .i64 0, .int .i64 0]) ?_ 6 _ rfl; (with_reducible repeat (first | refine blk_drewN ?_ _ | refine blk_drew ?_ | refine blk_alloc ?_ _)); refine blk_put (cs := #[.int .i64 t551, .int .i64 t552, .int .i64 t553, .int .i64 t554, .int .i64 t555, .int .i64 0, .int .i64 0, .int .i64 0, .int .i64 0]) ?_ 5 _ rfl; (with_reducible repeat (first | refine blk_drewN ?_ _ | refine blk_drew ?_ | refine blk_alloc ?_ _)); refine blk_put (cs := #[.int .i64 t551, .int .i64 t552, .int .i64 t553, .int .i64 t554, .int .i64 0, .int .i64 0, .int .i64 0, .int .i64 0, .int .i64 0]) ?_ 4 _ rfl; (with_reducible repeat (first | refine blk_drewN ?_ _ | refine blk_drew ?_ | refine blk_alloc ?_ _)); refine blk_put (cs := #[.int .i64 t551, .int .i64 t552, .int .i64 t553, .int .i64 0, .int .i64 0, .int .i64 0, .int .i64 0, .int .i64 0, .int .i64 0]) ?_ 3 _ rfl; (with_reducible repeat (first | refine blk_drewN ?_ _ | refine blk_drew ?_ | refine blk_alloc ?_ _)); refine blk_put (cs := #[.int .i64 t551, .int .i64 t552, .int .i64 0, .int .i64 0, .int .i64 0, .int .i64 0, .int .i64 0, .int .i64 0, .int .i64 0]) ?_ 2 _ rfl; (with_reducible repeat (first | refine blk_drewN ?_ _ | refine blk_drew ?_ | refine blk_alloc ?_ _)); refine blk_put (cs := #[.int .i64 t551, .int .i64 0, .int .i64 0, .int .i64 0, .int .i64 0, .int .i64 0, .int .i64 0, .int .i64 0, .int .i64 0]) ?_ 1 _ rfl; (with_reducible repeat (first | refine blk_drewN ?_ _ | refine blk_drew ?_ | refine blk_alloc ?_ _)); refine blk_put (cs := #[.int .i64 0, .int .i64 0, .int .i64 0, .int .i64 0, .int .i64 0, .int .i64 0, .int .i64 0, .int .i64 0, .int .i64 0]) ?_ 0 _ rfl; (with_reducible repeat (first | refine blk_drewN ?_ _ | refine blk_drew ?_ | refine blk_alloc ?_ _)); exact BK561.out) hb); have n1_ := Aside0.mk (below_step (by repeat (first | (with_reducible first | exact HB.out | apply below_alloc | apply pw_below_drewN | apply below_drew1 | refine below_set ?_ GE561.out) | exact HB.out)) hb); clear BK561; clear HB; have BK561 := n0_; have HB := n1_; clear n0_ n1_; (try clear hb); (try clear hb2); (try clear hk); (try clear hi)) | ((with_reducible refine gate_dst (N := 5) rfl ?_); refine box_event ?hg (N := 5) ?hd (cs := #[.int .i64 0, .int .i64 0, .int .i64 0, .int .i64 0, .int .i64 0, .int .i64 0, .int .i64 0, .int .i64 0, .int .i64 0]) (t := 95) ?hr ?_; (case hd => rfl); (case hg => rfl); (case hr => first | (go_simp; done) | (go_simp; rfl)); intro gb572 hg w14 hbox hb; have n0_ := Aside0.mk (blk_below (g := gb561) (o := .cells #[.int .i64 t551, .int .i64 t552, .int .i64 t553, .int .i64 t554, .int .i64 t555, .int .i64 t556, .int .i64 t557, .int .i64 t558, .int .i64 t559] 95 (0, 0)) (by (with_reducible repeat (first | refine blk_drewN ?_ _ | refine blk_drew ?_ | refine blk_alloc ?_ _)); exact BK561.out) hb); have n1_ := Aside0.mk (below_step (by repeat (first | (with_reducible first | exact HB.out | apply below_alloc | apply pw_below_drewN | apply below_drew1 | refine below_set ?_ GE561.out) | exact HB.out)) hb); have n2_ := Aside0.mk (hbox); have n3_ := Aside0.mk ((by rw [hg]; exact (below_size (by repeat (first | (with_reducible first | exact HB.out | apply below_alloc | apply pw_below_drewN | apply below_drew1 | refine below_set ?_ GE561.out) | exact HB.out))) : w.heap.size ≤ gb572)); have n4_ := Aside0.mk ((by rw [hg]; exact (below_size (by repeat (first | (with_reducible first | exact HB.out | apply below_alloc | apply pw_below_drewN | apply below_drew1 | refine below_set ?_ GE561.out) | exact HB.out))) : w.heap.size ≤ gb572)); have n5_ := Aside0.mk ((by rw [hg]; exact Nat.ne_of_lt (blk_lt (g := gb561) (o := .cells #[.int .i64 t551, .int .i64 t552, .int .i64 t553, .int .i64 t554, .int .i64 t555, .int .i64 t556, .int .i64 t557, .int .i64 t558, .int .i64 t559] 95 (0, 0)) (by (with_reducible repeat (first | refine blk_drewN ?_ _ | refine blk_drew ?_ | refine blk_alloc ?_ _)); exact BK561.out)) : gb561 ≠ gb572)); have n6_ := Aside0.mk ((by rw [hg]; exact Nat.ne_of_gt (blk_lt (g := gb561) (o := .cells #[.int .i64 t551, .int .i64 t552, .int .i64 t553, .int .i64 t554, .int .i64 t555, .int .i64 t556, .int .i64 t557, .int .i64 t558, .int .i64 t559] 95 (0, 0)) (by (with_reducible repeat (first | refine blk_drewN ?_ _ | refine blk_drew ?_ | refine blk_alloc ?_ _)); exact BK561.out)) : gb572 ≠ gb561)); clear BK561; clear HB; have BK561 := n0_; have HB := n1_; have BK572 := n2_; have GW572 := n3_; have GE572 := n4_; have NB561_572 := n5_; have NB572_561 := n6_; clear n0_ n1_ n2_ n3_ n4_ n5_ n6_; clear hb hbox hg; have hnb15 := NB572_561.out; have hnc15 := NB561_572.out; have hcz16_0 : w14.cell? ⟨gb572, 0, none⟩ = some (.int .i64 0) := (blk_cell BK572.out 0).trans rfl; have hcz16_1 : w14.cell? ⟨gb572, 1, none⟩ = some (.int .i64 0) := (blk_cell BK572.out 1).trans rfl; have hcz16_2 : w14.cell? ⟨gb572, 2, none⟩ = some (.int .i64 0) := (blk_cell BK572.out 2).trans rfl; have hcz16_3 : w14.cell? ⟨gb572, 3, none⟩ = some (.int .i64 0) := (blk_cell BK572.out 3).trans rfl; have hcz16_4 : w14.cell? ⟨gb572, 4, none⟩ = some (.int .i64 0) := (blk_cell BK572.out 4).trans rfl; have hcz16_5 : w14.cell? ⟨gb572, 5, none⟩ = some (.int .i64 0) := (blk_cell BK572.out 5).trans rfl; have hcz16_6 : w14.cell? ⟨gb572, 6, none⟩ = some (.int .i64 0) := (blk_cell BK572.out 6).trans rfl; have hcz16_7 : w14.cell? ⟨gb572, 7, none⟩ = some (.int .i64 0) := (blk_cell BK572.out 7).trans rfl; have hcz16_8 : w14.cell? ⟨gb572, 8, none⟩ = some (.int .i64 0) := (blk_cell BK572.out 8).trans rfl; have hfz16_0 := blk_frozen BK572.out 0; have hfz16_1 := blk_frozen BK572.out 1; have hfz16_2 := blk_frozen BK572.out 2; have hfz16_3 := blk_frozen BK572.out 3; have hfz16_4 := blk_frozen BK572.out 4; have hfz16_5 := blk_frozen BK572.out 5; have hfz16_6 := blk_frozen BK572.out 6; have hfz16_7 := blk_frozen BK572.out 7; have hfz16_8 := blk_frozen BK572.out 8; have hcz17_0 : w14.cell? ⟨gb561, 0, none⟩ = some (.int .i64 t551) := (blk_cell BK561.out 0).trans rfl; have hcz17_1 : w14.cell? ⟨gb561, 1, none⟩ = some (.int .i64 t552) := (blk_cell BK561.out 1).trans rfl; have hcz17_2 : w14.cell? ⟨gb561, 2, none⟩ = some (.int .i64 t553) := (blk_cell BK561.out 2).trans rfl; have hcz17_3 : w14.cell? ⟨gb561, 3, none⟩ = some (.int .i64 t554) := (blk_cell BK561.out 3).trans rfl; have hcz17_4 : w14.cell? ⟨gb561, 4, none⟩ = some (.int .i64 t555) := (blk_cell BK561.out 4).trans rfl; have hcz17_5 : w14.cell? ⟨gb561, 5, none⟩ = some (.int .i64 t556) := (blk_cell BK561.out 5).trans rfl; have hcz17_6 : w14.cell? ⟨gb561, 6, none⟩ = some (.int .i64 t557) := (blk_cell BK561.out 6).trans rfl; have hcz17_7 : w14.cell? ⟨gb561, 7, none⟩ = some (.int .i64 t558) := (blk_cell BK561.out 7).trans rfl; have hcz17_8 : w14.cell? ⟨gb561, 8, none⟩ = some (.int .i64 t559) := (blk_cell BK561.out 8).trans rfl; have hfz17_0 := blk_frozen BK561.out 0; have hfz17_1 := blk_frozen BK561.out 1; have hfz17_2 := blk_frozen BK561.out 2; have hfz17_3 := blk_frozen BK561.out 3; have hfz17_4 := blk_frozen BK561.out 4; have hfz17_5 := blk_frozen BK561.out 5; have hfz17_6 := blk_frozen BK561.out 6; have hfz17_7 := blk_frozen BK561.out 7; have hfz17_8 := blk_frozen BK561.out 8) | (go_at_call 71; (with_reducible refine (damperlaw05_alive.calls  t573 _ A9.out).mono ?_); rintro e w18 ⟨rfl, hb⟩; have n0_ := Aside0.mk (blk_below (g := gb561) (o := .cells #[.int .i64 t551, .int .i64 t552, .int .i64 t553, .int .i64 t554, .int .i64 t555, .int .i64 t556, .int .i64 t557, .int .i64 t558, .int .i64 t559] 95 (0, 0)) (by (with_reducible repeat (first | refine blk_drewN ?_ _ | refine blk_drew ?_ | refine blk_alloc ?_ _)); refine blk_far ?_ NB561_572.out _; (with_reducible repeat (first | refine blk_drewN ?_ _ | refine blk_drew ?_ | refine blk_alloc ?_ _)); refine blk_far ?_ NB561_572.out _; (with_reducible repeat (first | refine blk_drewN ?_ _ | refine blk_drew ?_ | refine blk_alloc ?_ _)); refine blk_far ?_ NB561_572.out _; (with_reducible repeat (first | refine blk_drewN ?_ _ | refine blk_drew ?_ | refine blk_alloc ?_ _)); refine blk_far ?_ NB561_572.out _; (with_reducible repeat (first | refine blk_drewN ?_ _ | refine blk_drew ?_ | refine blk_alloc ?_ _)); refine blk_far ?_ NB561_572.out _; (with_reducible repeat (first | refine blk_drewN ?_ _ | refine blk_drew ?_ | refine blk_alloc ?_ _)); refine blk_far ?_ NB561_572.out _; (with_reducible repeat (first | refine blk_drewN ?_ _ | refine blk_drew ?_ | refine blk_alloc ?_ _)); refine blk_far ?_ NB561_572.out _; (with_reducible repeat (first | refine blk_drewN ?_ _ | refine blk_drew ?_ | refine blk_alloc ?_ _)); refine blk_far ?_ NB561_572.out _; (with_reducible repeat (first | refine blk_drewN ?_ _ | refine blk_drew ?_ | refine blk_alloc ?_ _)); refine blk_far ?_ NB561_572.out _; (with_reducible repeat (first | refine blk_drewN ?_ _ | refine blk_drew ?_ | refine blk_alloc ?_ _)); exact BK561.out) hb); have n1_ := Aside0.mk (blk_below (g := gb572) (o := .cells #[.int .i64 t562, .int .i64 t563, .int .i64 t564, .int .i64 t565, .int .i64 t566, .int .i64 t567, .int .i64 t568, .int .i64 t569, .int .i64 t570] 95 (0, 0)) (by (with_reducible repeat (first | refine blk_drewN ?_ _ | refine blk_drew ?_ | refine blk_alloc ?_ _)); refine blk_put (cs := #[.int .i64 t562, .int .i64 t563, .int .i64 t564, .int .i64 t565, .int .i64 t566, .int .i64 t567, .int .i64 t568, .int .i64 t569, .int .i64 0]) ?_ 8 _ rfl; (with_reducible repeat (first | refine blk_drewN ?_ _ | refine blk_drew ?_ | refine blk_alloc ?_ _)); refine blk_put (cs := #[.int .i64 t562, .int .i64 t563, .int .i64 t564, .int .i64 t565, .int .i64 t566, .int .i64 t567, .int .i64 t568, .int .i64 0, .int .i64 0]) ?_ 7 _ rfl; (with_reducible repeat (first | refine blk_drewN ?_ _ | refine blk_drew ?_ | refine blk_alloc ?_ _)); refine blk_put (cs := #[.int .i64 t562, .int .i64 t563, .int .i64 t564, .int .i64 t565, .int .i64 t566, .int .i64 t567, .int .i64 0, .int .i64 0, .int .i64 0]) ?_ 6 _ rfl; (with_reducible repeat (first | refine blk_drewN ?_ _ | refine blk_drew ?_ | refine blk_alloc ?_ _)); refine blk_put (cs := #[.int .i64 t562, .int .i64 t563, .int .i64 t564, .int .i64 t565, .int .i64 t566, .int .i64 0, .int .i64 0, .int .i64 0, .int .i64 0]) ?_ 5 _ rfl; (with_reducible repeat (first | refine blk_drewN ?_ _ | refine blk_drew ?_ | refine blk_alloc ?_ _)); refine blk_put (cs := #[.int .i64 t562, .int .i64 t563, .int .i64 t564, .int .i64 t565, .int .i64 0, .int .i64 0, .int .i64 0, .int .i64 0, .int .i64 0]) ?_ 4 _ rfl; (with_reducible repeat (first | refine blk_drewN ?_ _ | refine blk_drew ?_ | refine blk_alloc ?_ _)); refine blk_put (cs := #[.int .i64 t562, .int .i64 t563, .int .i64 t564, .int .i64 0, .int .i64 0, .int .i64 0, .int .i64 0, .int .i64 0, .int .i64 0]) ?_ 3 _ rfl; (with_reducible repeat (first | refine blk_drewN ?_ _ | refine blk_drew ?_ | refine blk_alloc ?_ _)); refine blk_put (cs := #[.int .i64 t562, .int .i64 t563, .int .i64 0, .int .i64 0, .int .i64 0, .int .i64 0, .int .i64 0, .int .i64 0, .int .i64 0]) ?_ 2 _ rfl; (with_reducible repeat (first | refine blk_drewN ?_ _ | refine blk_drew ?_ | refine blk_alloc ?_ _)); refine blk_put (cs := #[.int .i64 t562, .int .i64 0, .int .i64 0, .int .i64 0, .int .i64 0, .int .i64 0, .int .i64 0, .int .i64 0, .int .i64 0]) ?_ 1 _ rfl; (with_reducible repeat (first | refine blk_drewN ?_ _ | refine blk_drew ?_ | refine blk_alloc ?_ _)); refine blk_put (cs := #[.int .i64 0, .int .i64 0, .int .i64 0, .int .i64 0, .int .i64 0, .int .i64 0, .int .i64 0, .int .i64 0, .int .i64 0]) ?_ 0 _ rfl; (with_reducible repeat (first | refine blk_drewN ?_ _ | refine blk_drew ?_ | refine blk_alloc ?_ _)); exact BK572.out) hb); have n2_ := Aside0.mk (below_step (by repeat (first | (with_reducible first | exact HB.out | apply below_alloc | apply pw_below_drewN | apply below_drew1 | refine below_set ?_ GE561.out | refine below_set ?_ GE572.out) | exact HB.out)) hb); clear BK561; clear BK572; clear HB; have BK561 := n0_; have BK572 := n1_; have HB := n2_; clear n0_ n1_ n2_; (try clear hb); (try clear hb2); (try clear hk); (try clear hi)))
        go_ret
        exact ⟨by first | rfl | (simp [errW_none, errW_some] <;> rfl) | (simp [*, errW_none, errW_some] <;> rfl), by repeat (first | (with_reducible first | exact HB.out | apply below_alloc | apply pw_below_drewN | apply below_drew1 | refine below_set ?_ GE561.out | refine below_set ?_ GE572.out) | exact HB.out)⟩
      · rw [if_neg c8] at H
        have c8b0 : (t560 == t571) = false := beq_eq_false_iff_ne.mpr c8
        have c8b1 : (t560 != t571) = true := bne_iff_ne.mpr c8
        obtain rfl := Option.some.inj H
        go_enter Try.func14, Try.ntmps14
        go_wp2_with (first | ((with_reducible refine gate_callee (f := 72) rfl ?_); refine goesL_ (some 13) rfl rfl Try.func72 (by kernel_rfl) rfl #[.slice A0 l0.length c0] rfl (by (try simp only [List.map_toArray, List.map_cons, List.map_nil]); first | done | rfl | (simp only [List.length_drop, List.length_take]; rfl)) ?_; (with_reducible refine (command_Decode.calls _ _ l0 t551 t552 t553 t554 t555 t556 t557 t558 t559 t560 _ ?side1 ?side2 A5.out).mono ?_); (case side1 => repeat (first | exact HR0.out | (with_reducible refine Kd.C_alloc ?_ _) | (with_reducible refine Kd.C_drewN ?_ _) | (with_reducible refine Kd.C_drew ?_))); (case side2 => exact HC0.out); rintro e w19 ⟨rfl, hb⟩; refine ⟨_, rfl, ?_⟩; have n0_ := Aside0.mk (below_step (by repeat (first | (with_reducible first | exact HB.out | apply below_alloc | apply pw_below_drewN | apply below_drew1) | exact HB.out)) hb); clear HB; have HB := n0_; clear n0_; (try clear hb); (try clear hb2); (try clear hk); (try clear hi)) | ((with_reducible refine gate_dst (N := 3) rfl ?_); refine box_event ?hg (N := 3) ?hd (cs := #[.int .i64 0, .int .i64 0, .int .i64 0, .int .i64 0, .int .i64 0, .int .i64 0, .int .i64 0, .int .i64 0, .int .i64 0]) (t := 95) ?hr ?_; (case hd => rfl); (case hg => rfl); (case hr => first | (go_simp; done) | (go_simp; rfl)); intro gb561 hg w20 hbox hb; have n0_ := Aside0.mk (below_step (by repeat (first | (with_reducible first | exact HB.out | apply below_alloc | apply pw_below_drewN | apply below_drew1) | exact HB.out)) hb); have n1_ := Aside0.mk (hbox); have n2_ := Aside0.mk ((by rw [hg]; exact (below_size (by repeat (first | (with_reducible first | exact HB.out | apply below_alloc | apply pw_below_drewN | apply below_drew1) | exact HB.out))) : w.heap.size ≤ gb561)); have n3_ := Aside0.mk ((by rw [hg]; exact (below_size (by repeat (first | (with_reducible first | exact HB.out | apply below_alloc | apply pw_below_drewN | apply below_drew1) | exact HB.out))) : w.heap.size ≤ gb561)); clear HB; have HB := n0_; have BK561 := n1_; have GW561 := n2_; have GE561 := n3_; clear n0_ n1_ n2_ n3_; clear hb hbox hg; have hcz21_0 : w20.cell? ⟨gb561, 0, none⟩ = some (.int .i64 0) := (blk_cell BK561.out 0).trans rfl; have hcz21_1 : w20.cell? ⟨gb561, 1, none⟩ = some (.int .i64 0) := (blk_cell BK561.out 1).trans rfl; have hcz21_2 : w20.cell? ⟨gb561, 2, none⟩ = some (.int .i64 0) := (blk_cell BK561.out 2).trans rfl; have hcz21_3 : w20.cell? ⟨gb561, 3, none⟩ = some (.int .i64 0) := (blk_cell BK561.out 3).trans rfl; have hcz21_4 : w20.cell? ⟨gb561, 4, none⟩ = some (.int .i64 0) := (blk_cell BK561.out 4).trans rfl; have hcz21_5 : w20.cell? ⟨gb561, 5, none⟩ = some (.int .i64 0) := (blk_cell BK561.out 5).trans rfl; have hcz21_6 : w20.cell? ⟨gb561, 6, none⟩ = some (.int .i64 0) := (blk_cell BK561.out 6).trans rfl; have hcz21_7 : w20.cell? ⟨gb561, 7, none⟩ = some (.int .i64 0) := (blk_cell BK561.out 7).trans rfl; have hcz21_8 : w20.cell? ⟨gb561, 8, none⟩ = some (.int .i64 0) := (blk_cell BK561.out 8).trans rfl; have hfz21_0 := blk_frozen BK561.out 0; have hfz21_1 := blk_frozen BK561.out 1; have hfz21_2 := blk_frozen BK561.out 2; have hfz21_3 := blk_frozen BK561.out 3; have hfz21_4 := blk_frozen BK561.out 4; have hfz21_5 := blk_frozen BK561.out 5; have hfz21_6 := blk_frozen BK561.out 6; have hfz21_7 := blk_frozen BK561.out 7; have hfz21_8 := blk_frozen BK561.out 8) | ((with_reducible refine gate_callee (f := 73) rfl ?_); refine goesL_ (some 18) rfl rfl Try.func73 (by kernel_rfl) rfl #[.slice A0 l0.length c0] rfl (by (try simp only [List.map_toArray, List.map_cons, List.map_nil]); first | done | rfl | (simp only [List.length_drop, List.length_take]; rfl)) ?_; (with_reducible refine (damperref05_Decode.calls _ _ l0 t562 t563 t564 t565 t566 t567 t568 t569 t570 t571 _ ?side1 ?side2 A6.out).mono ?_); (case side1 => exact Kd.C_below HR0.out (by repeat (first | (with_reducible first | exact HB.out | apply below_alloc | apply pw_below_drewN | apply below_drew1 | refine below_set ?_ GE561.out) | exact HB.out))); (case side2 => exact HC0.out); rintro e w22 ⟨rfl, hb⟩; refine ⟨_, rfl, ?_⟩; have n0_ := Aside0.mk (blk_below (g := gb561) (o := .cells #[.int .i64 t551, .int .i64 t552, .int .i64 t553, .int .i64 t554, .int .i64 t555, .int .i64 t556, .int .i64 t557, .int .i64 t558, .int .i64 t559] 95 (0, 0)) (by (with_reducible repeat (first | refine blk_drewN ?_ _ | refine blk_drew ?_ | refine blk_alloc ?_ _)); refine blk_put (cs := #[.int .i64 t551, .int .i64 t552, .int .i64 t553, .int .i64 t554, .int .i64 t555, .int .i64 t556, .int .i64 t557, .int .i64 t558, .int .i64 0]) ?_ 8 _ rfl; (with_reducible repeat (first | refine blk_drewN ?_ _ | refine blk_drew ?_ | refine blk_alloc ?_ _)); refine blk_put (cs := #[.int .i64 t551, .int .i64 t552, .int .i64 t553, .int .i64 t554, .int .i64 t555, .int .i64 t556, .int .i64 t557, .int .i64 0, .int .i64 0]) ?_ 7 _ rfl; (with_reducible repeat (first | refine blk_drewN ?_ _ | refine blk_drew ?_ | refine blk_alloc ?_ _)); refine blk_put (cs := #[.int .i64 t551, .int .i64 t552, .int .i64 t553, .int .i64 t554, .int .i64 t555, .int .i64 t556, .int .i64 0, .int .i64 0, .int .i64 0]) ?_ 6 _ rfl; (with_reducible repeat (first | refine blk_drewN ?_ _ | refine blk_drew ?_ | refine blk_alloc ?_ _)); refine blk_put (cs := #[.int .i64 t551, .int .i64 t552, .int .i64 t553, .int .i64 t554, .int .i64 t555, .int .i64 0, .int .i64 0, .int .i64 0, .int .i64 0]) ?_ 5 _ rfl; (with_reducible repeat (first | refine blk_drewN ?_ _ | refine blk_drew ?_ | refine blk_alloc ?_ _)); refine blk_put (cs := #[.int .i64 t551, .int .i64 t552, .int .i64 t553, .int .i64 t554, .int .i64 0, .int .i64 0, .int .i64 0, .int .i64 0, .int .i64 0]) ?_ 4 _ rfl; (with_reducible repeat (first | refine blk_drewN ?_ _ | refine blk_drew ?_ | refine blk_alloc ?_ _)); refine blk_put (cs := #[.int .i64 t551, .int .i64 t552, .int .i64 t553, .int .i64 0, .int .i64 0, .int .i64 0, .int .i64 0, .int .i64 0, .int .i64 0]) ?_ 3 _ rfl; (with_reducible repeat (first | refine blk_drewN ?_ _ | refine blk_drew ?_ | refine blk_alloc ?_ _)); refine blk_put (cs := #[.int .i64 t551, .int .i64 t552, .int .i64 0, .int .i64 0, .int .i64 0, .int .i64 0, .int .i64 0, .int .i64 0, .int .i64 0]) ?_ 2 _ rfl; (with_reducible repeat (first | refine blk_drewN ?_ _ | refine blk_drew ?_ | refine blk_alloc ?_ _)); refine blk_put (cs := #[.int .i64 t551, .int .i64 0, .int .i64 0, .int .i64 0, .int .i64 0, .int .i64 0, .int .i64 0, .int .i64 0, .int .i64 0]) ?_ 1 _ rfl; (with_reducible repeat (first | refine blk_drewN ?_ _ | refine blk_drew ?_ | refine blk_alloc ?_ _)); refine blk_put (cs := #[.int .i64 0, .int .i64 0, .int .i64 0, .int .i64 0, .int .i64 0, .int .i64 0, .int .i64 0, .int .i64 0, .int .i64 0]) ?_ 0 _ rfl; (with_reducible repeat (first | refine blk_drewN ?_ _ | refine blk_drew ?_ | refine blk_alloc ?_ _)); exact BK561.out) hb); have n1_ := Aside0.mk (below_step (by repeat (first | (with_reducible first | exact HB.out | apply below_alloc | apply pw_below_drewN | apply below_drew1 | refine below_set ?_ GE561.out) | exact HB.out)) hb); clear BK561; clear HB; have BK561 := n0_; have HB := n1_; clear n0_ n1_; (try clear hb); (try clear hb2); (try clear hk); (try clear hi)) | ((with_reducible refine gate_dst (N := 5) rfl ?_); refine box_event ?hg (N := 5) ?hd (cs := #[.int .i64 0, .int .i64 0, .int .i64 0, .int .i64 0, .int .i64 0, .int .i64 0, .int .i64 0, .int .i64 0, .int .i64 0]) (t := 95) ?hr ?_; (case hd => rfl); (case hg => rfl); (case hr => first | (go_simp; done) | (go_simp; rfl)); intro gb572 hg w23 hbox hb; have n0_ := Aside0.mk (blk_below (g := gb561) (o := .cells #[.int .i64 t551, .int .i64 t552, .int .i64 t553, .int .i64 t554, .int .i64 t555, .int .i64 t556, .int .i64 t557, .int .i64 t558, .int .i64 t559] 95 (0, 0)) (by (with_reducible repeat (first | refine blk_drewN ?_ _ | refine blk_drew ?_ | refine blk_alloc ?_ _)); exact BK561.out) hb); have n1_ := Aside0.mk (below_step (by repeat (first | (with_reducible first | exact HB.out | apply below_alloc | apply pw_below_drewN | apply below_drew1 | refine below_set ?_ GE561.out) | exact HB.out)) hb); have n2_ := Aside0.mk (hbox); have n3_ := Aside0.mk ((by rw [hg]; exact (below_size (by repeat (first | (with_reducible first | exact HB.out | apply below_alloc | apply pw_below_drewN | apply below_drew1 | refine below_set ?_ GE561.out) | exact HB.out))) : w.heap.size ≤ gb572)); have n4_ := Aside0.mk ((by rw [hg]; exact (below_size (by repeat (first | (with_reducible first | exact HB.out | apply below_alloc | apply pw_below_drewN | apply below_drew1 | refine below_set ?_ GE561.out) | exact HB.out))) : w.heap.size ≤ gb572)); have n5_ := Aside0.mk ((by rw [hg]; exact Nat.ne_of_lt (blk_lt (g := gb561) (o := .cells #[.int .i64 t551, .int .i64 t552, .int .i64 t553, .int .i64 t554, .int .i64 t555, .int .i64 t556, .int .i64 t557, .int .i64 t558, .int .i64 t559] 95 (0, 0)) (by (with_reducible repeat (first | refine blk_drewN ?_ _ | refine blk_drew ?_ | refine blk_alloc ?_ _)); exact BK561.out)) : gb561 ≠ gb572)); have n6_ := Aside0.mk ((by rw [hg]; exact Nat.ne_of_gt (blk_lt (g := gb561) (o := .cells #[.int .i64 t551, .int .i64 t552, .int .i64 t553, .int .i64 t554, .int .i64 t555, .int .i64 t556, .int .i64 t557, .int .i64 t558, .int .i64 t559] 95 (0, 0)) (by (with_reducible repeat (first | refine blk_drewN ?_ _ | refine blk_drew ?_ | refine blk_alloc ?_ _)); exact BK561.out)) : gb572 ≠ gb561)); clear BK561; clear HB; have BK561 := n0_; have HB := n1_; have BK572 := n2_; have GW572 := n3_; have GE572 := n4_; have NB561_572 := n5_; have NB572_561 := n6_; clear n0_ n1_ n2_ n3_ n4_ n5_ n6_; clear hb hbox hg; have hnb24 := NB572_561.out; have hnc24 := NB561_572.out; have hcz25_0 : w23.cell? ⟨gb572, 0, none⟩ = some (.int .i64 0) := (blk_cell BK572.out 0).trans rfl; have hcz25_1 : w23.cell? ⟨gb572, 1, none⟩ = some (.int .i64 0) := (blk_cell BK572.out 1).trans rfl; have hcz25_2 : w23.cell? ⟨gb572, 2, none⟩ = some (.int .i64 0) := (blk_cell BK572.out 2).trans rfl; have hcz25_3 : w23.cell? ⟨gb572, 3, none⟩ = some (.int .i64 0) := (blk_cell BK572.out 3).trans rfl; have hcz25_4 : w23.cell? ⟨gb572, 4, none⟩ = some (.int .i64 0) := (blk_cell BK572.out 4).trans rfl; have hcz25_5 : w23.cell? ⟨gb572, 5, none⟩ = some (.int .i64 0) := (blk_cell BK572.out 5).trans rfl; have hcz25_6 : w23.cell? ⟨gb572, 6, none⟩ = some (.int .i64 0) := (blk_cell BK572.out 6).trans rfl; have hcz25_7 : w23.cell? ⟨gb572, 7, none⟩ = some (.int .i64 0) := (blk_cell BK572.out 7).trans rfl; have hcz25_8 : w23.cell? ⟨gb572, 8, none⟩ = some (.int .i64 0) := (blk_cell BK572.out 8).trans rfl; have hfz25_0 := blk_frozen BK572.out 0; have hfz25_1 := blk_frozen BK572.out 1; have hfz25_2 := blk_frozen BK572.out 2; have hfz25_3 := blk_frozen BK572.out 3; have hfz25_4 := blk_frozen BK572.out 4; have hfz25_5 := blk_frozen BK572.out 5; have hfz25_6 := blk_frozen BK572.out 6; have hfz25_7 := blk_frozen BK572.out 7; have hfz25_8 := blk_frozen BK572.out 8; have hcz26_0 : w23.cell? ⟨gb561, 0, none⟩ = some (.int .i64 t551) := (blk_cell BK561.out 0).trans rfl; have hcz26_1 : w23.cell? ⟨gb561, 1, none⟩ = some (.int .i64 t552) := (blk_cell BK561.out 1).trans rfl; have hcz26_2 : w23.cell? ⟨gb561, 2, none⟩ = some (.int .i64 t553) := (blk_cell BK561.out 2).trans rfl; have hcz26_3 : w23.cell? ⟨gb561, 3, none⟩ = some (.int .i64 t554) := (blk_cell BK561.out 3).trans rfl; have hcz26_4 : w23.cell? ⟨gb561, 4, none⟩ = some (.int .i64 t555) := (blk_cell BK561.out 4).trans rfl; have hcz26_5 : w23.cell? ⟨gb561, 5, none⟩ = some (.int .i64 t556) := (blk_cell BK561.out 5).trans rfl; have hcz26_6 : w23.cell? ⟨gb561, 6, none⟩ = some (.int .i64 t557) := (blk_cell BK561.out 6).trans rfl; have hcz26_7 : w23.cell? ⟨gb561, 7, none⟩ = some (.int .i64 t558) := (blk_cell BK561.out 7).trans rfl; have hcz26_8 : w23.cell? ⟨gb561, 8, none⟩ = some (.int .i64 t559) := (blk_cell BK561.out 8).trans rfl; have hfz26_0 := blk_frozen BK561.out 0; have hfz26_1 := blk_frozen BK561.out 1; have hfz26_2 := blk_frozen BK561.out 2; have hfz26_3 := blk_frozen BK561.out 3; have hfz26_4 := blk_frozen BK561.out 4; have hfz26_5 := blk_frozen BK561.out 5; have hfz26_6 := blk_frozen BK561.out 6; have hfz26_7 := blk_frozen BK561.out 7; have hfz26_8 := blk_frozen BK561.out 8))
        go_ret
        exact ⟨by first | rfl | (simp [errW_none, errW_some] <;> rfl) | (simp [*, errW_none, errW_some] <;> rfl), by repeat (first | (with_reducible first | exact HB.out | apply below_alloc | apply pw_below_drewN | apply below_drew1 | refine below_set ?_ GE561.out | refine below_set ?_ GE572.out) | exact HB.out)⟩
    · rw [if_neg c7] at H
      have c7b0 : (t551 == t562 && (t552 == t563 && (t553 == t564 && (t554 == t565 && (t555 == t566 && (t556 == t567 && (t557 == t568 && (t558 == t569 && (t559 == t570))))))))) = false := by simpa using c7
      (try (have c7b1 : decide (t551 = t562 && (t552 == t563 && (t553 == t564 && (t554 == t565 && (t555 == t566 && (t556 == t567 && (t557 == t568 && (t558 == t569 && (t559 == t570))))))))) = false := by simpa using c7))
      (try (have c7b2 : (t551 == t562 && (t552 == t563 && (t553 == t564 && (t554 == t565 && (t555 == t566 && (t556 == t567 && (t557 == t568 && (t558 == t569 && (t559 == t570))))))))) = false := by simpa using c7))
      (try (have c7b3 : ¬ (t551 = t562 && (t552 == t563 && (t553 == t564 && (t554 == t565 && (t555 == t566 && (t556 == t567 && (t557 == t568 && (t558 == t569 && (t559 == t570))))))))) := by simpa using c7))
      clear c7
      obtain rfl := Option.some.inj H
      go_enter Try.func14, Try.ntmps14
      go_wp2_with (first | ((with_reducible refine gate_callee (f := 72) rfl ?_); refine goesL_ (some 13) rfl rfl Try.func72 (by kernel_rfl) rfl #[.slice A0 l0.length c0] rfl (by (try simp only [List.map_toArray, List.map_cons, List.map_nil]); first | done | rfl | (simp only [List.length_drop, List.length_take]; rfl)) ?_; (with_reducible refine (command_Decode.calls _ _ l0 t551 t552 t553 t554 t555 t556 t557 t558 t559 t560 _ ?side1 ?side2 A5.out).mono ?_); (case side1 => repeat (first | exact HR0.out | (with_reducible refine Kd.C_alloc ?_ _) | (with_reducible refine Kd.C_drewN ?_ _) | (with_reducible refine Kd.C_drew ?_))); (case side2 => exact HC0.out); rintro e w27 ⟨rfl, hb⟩; refine ⟨_, rfl, ?_⟩; have n0_ := Aside0.mk (below_step (by repeat (first | (with_reducible first | exact HB.out | apply below_alloc | apply pw_below_drewN | apply below_drew1) | exact HB.out)) hb); clear HB; have HB := n0_; clear n0_; (try clear hb); (try clear hb2); (try clear hk); (try clear hi)) | ((with_reducible refine gate_dst (N := 3) rfl ?_); refine box_event ?hg (N := 3) ?hd (cs := #[.int .i64 0, .int .i64 0, .int .i64 0, .int .i64 0, .int .i64 0, .int .i64 0, .int .i64 0, .int .i64 0, .int .i64 0]) (t := 95) ?hr ?_; (case hd => rfl); (case hg => rfl); (case hr => first | (go_simp; done) | (go_simp; rfl)); intro gb561 hg w28 hbox hb; have n0_ := Aside0.mk (below_step (by repeat (first | (with_reducible first | exact HB.out | apply below_alloc | apply pw_below_drewN | apply below_drew1) | exact HB.out)) hb); have n1_ := Aside0.mk (hbox); have n2_ := Aside0.mk ((by rw [hg]; exact (below_size (by repeat (first | (with_reducible first | exact HB.out | apply below_alloc | apply pw_below_drewN | apply below_drew1) | exact HB.out))) : w.heap.size ≤ gb561)); have n3_ := Aside0.mk ((by rw [hg]; exact (below_size (by repeat (first | (with_reducible first | exact HB.out | apply below_alloc | apply pw_below_drewN | apply below_drew1) | exact HB.out))) : w.heap.size ≤ gb561)); clear HB; have HB := n0_; have BK561 := n1_; have GW561 := n2_; have GE561 := n3_; clear n0_ n1_ n2_ n3_; clear hb hbox hg; have hcz29_0 : w28.cell? ⟨gb561, 0, none⟩ = some (.int .i64 0) := (blk_cell BK561.out 0).trans rfl; have hcz29_1 : w28.cell? ⟨gb561, 1, none⟩ = some (.int .i64 0) := (blk_cell BK561.out 1).trans rfl; have hcz29_2 : w28.cell? ⟨gb561, 2, none⟩ = some (.int .i64 0) := (blk_cell BK561.out 2).trans rfl; have hcz29_3 : w28.cell? ⟨gb561, 3, none⟩ = some (.int .i64 0) := (blk_cell BK561.out 3).trans rfl; have hcz29_4 : w28.cell? ⟨gb561, 4, none⟩ = some (.int .i64 0) := (blk_cell BK561.out 4).trans rfl; have hcz29_5 : w28.cell? ⟨gb561, 5, none⟩ = some (.int .i64 0) := (blk_cell BK561.out 5).trans rfl; have hcz29_6 : w28.cell? ⟨gb561, 6, none⟩ = some (.int .i64 0) := (blk_cell BK561.out 6).trans rfl; have hcz29_7 : w28.cell? ⟨gb561, 7, none⟩ = some (.int .i64 0) := (blk_cell BK561.out 7).trans rfl; have hcz29_8 : w28.cell? ⟨gb561, 8, none⟩ = some (.int .i64 0) := (blk_cell BK561.out 8).trans rfl; have hfz29_0 := blk_frozen BK561.out 0; have hfz29_1 := blk_frozen BK561.out 1; have hfz29_2 := blk_frozen BK561.out 2; have hfz29_3 := blk_frozen BK561.out 3; have hfz29_4 := blk_frozen BK561.out 4; have hfz29_5 := blk_frozen BK561.out 5; have hfz29_6 := blk_frozen BK561.out 6; have hfz29_7 := blk_frozen BK561.out 7; have hfz29_8 := blk_frozen BK561.out 8) | ((with_reducible refine gate_callee (f := 73) rfl ?_); refine goesL_ (some 18) rfl rfl Try.func73 (by kernel_rfl) rfl #[.slice A0 l0.length c0] rfl (by (try simp only [List.map_toArray, List.map_cons, List.map_nil]); first | done | rfl | (simp only [List.length_drop, List.length_take]; rfl)) ?_; (with_reducible refine (damperref05_Decode.calls _ _ l0 t562 t563 t564 t565 t566 t567 t568 t569 t570 t571 _ ?side1 ?side2 A6.out).mono ?_); (case side1 => exact Kd.C_below HR0.out (by repeat (first | (with_reducible first | exact HB.out | apply below_alloc | apply pw_below_drewN | apply below_drew1 | refine below_set ?_ GE561.out) | exact HB.out))); (case side2 => exact HC0.out); rintro e w30 ⟨rfl, hb⟩; refine ⟨_, rfl, ?_⟩; have n0_ := Aside0.mk (blk_below (g := gb561) (o := .cells #[.int .i64 t551, .int .i64 t552, .int .i64 t553, .int .i64 t554, .int .i64 t555, .int .i64 t556, .int .i64 t557, .int .i64 t558, .int .i64 t559] 95 (0, 0)) (by (with_reducible repeat (first | refine blk_drewN ?_ _ | refine blk_drew ?_ | refine blk_alloc ?_ _)); refine blk_put (cs := #[.int .i64 t551, .int .i64 t552, .int .i64 t553, .int .i64 t554, .int .i64 t555, .int .i64 t556, .int .i64 t557, .int .i64 t558, .int .i64 0]) ?_ 8 _ rfl; (with_reducible repeat (first | refine blk_drewN ?_ _ | refine blk_drew ?_ | refine blk_alloc ?_ _)); refine blk_put (cs := #[.int .i64 t551, .int .i64 t552, .int .i64 t553, .int .i64 t554, .int .i64 t555, .int .i64 t556, .int .i64 t557, .int .i64 0, .int .i64 0]) ?_ 7 _ rfl; (with_reducible repeat (first | refine blk_drewN ?_ _ | refine blk_drew ?_ | refine blk_alloc ?_ _)); refine blk_put (cs := #[.int .i64 t551, .int .i64 t552, .int .i64 t553, .int .i64 t554, .int .i64 t555, .int .i64 t556, .int .i64 0, .int .i64 0, .int .i64 0]) ?_ 6 _ rfl; (with_reducible repeat (first | refine blk_drewN ?_ _ | refine blk_drew ?_ | refine blk_alloc ?_ _)); refine blk_put (cs := #[.int .i64 t551, .int .i64 t552, .int .i64 t553, .int .i64 t554, .int .i64 t555, .int .i64 0, .int .i64 0, .int .i64 0, .int .i64 0]) ?_ 5 _ rfl; (with_reducible repeat (first | refine blk_drewN ?_ _ | refine blk_drew ?_ | refine blk_alloc ?_ _)); refine blk_put (cs := #[.int .i64 t551, .int .i64 t552, .int .i64 t553, .int .i64 t554, .int .i64 0, .int .i64 0, .int .i64 0, .int .i64 0, .int .i64 0]) ?_ 4 _ rfl; (with_reducible repeat (first | refine blk_drewN ?_ _ | refine blk_drew ?_ | refine blk_alloc ?_ _)); refine blk_put (cs := #[.int .i64 t551, .int .i64 t552, .int .i64 t553, .int .i64 0, .int .i64 0, .int .i64 0, .int .i64 0, .int .i64 0, .int .i64 0]) ?_ 3 _ rfl; (with_reducible repeat (first | refine blk_drewN ?_ _ | refine blk_drew ?_ | refine blk_alloc ?_ _)); refine blk_put (cs := #[.int .i64 t551, .int .i64 t552, .int .i64 0, .int .i64 0, .int .i64 0, .int .i64 0, .int .i64 0, .int .i64 0, .int .i64 0]) ?_ 2 _ rfl; (with_reducible repeat (first | refine blk_drewN ?_ _ | refine blk_drew ?_ | refine blk_alloc ?_ _)); refine blk_put (cs := #[.int .i64 t551, .int .i64 0, .int .i64 0, .int .i64 0, .int .i64 0, .int .i64 0, .int .i64 0, .int .i64 0, .int .i64 0]) ?_ 1 _ rfl; (with_reducible repeat (first | refine blk_drewN ?_ _ | refine blk_drew ?_ | refine blk_alloc ?_ _)); refine blk_put (cs := #[.int .i64 0, .int .i64 0, .int .i64 0, .int .i64 0, .int .i64 0, .int .i64 0, .int .i64 0, .int .i64 0, .int .i64 0]) ?_ 0 _ rfl; (with_reducible repeat (first | refine blk_drewN ?_ _ | refine blk_drew ?_ | refine blk_alloc ?_ _)); exact BK561.out) hb); have n1_ := Aside0.mk (below_step (by repeat (first | (with_reducible first | exact HB.out | apply below_alloc | apply pw_below_drewN | apply below_drew1 | refine below_set ?_ GE561.out) | exact HB.out)) hb); clear BK561; clear HB; have BK561 := n0_; have HB := n1_; clear n0_ n1_; (try clear hb); (try clear hb2); (try clear hk); (try clear hi)) | ((with_reducible refine gate_dst (N := 5) rfl ?_); refine box_event ?hg (N := 5) ?hd (cs := #[.int .i64 0, .int .i64 0, .int .i64 0, .int .i64 0, .int .i64 0, .int .i64 0, .int .i64 0, .int .i64 0, .int .i64 0]) (t := 95) ?hr ?_; (case hd => rfl); (case hg => rfl); (case hr => first | (go_simp; done) | (go_simp; rfl)); intro gb572 hg w31 hbox hb; have n0_ := Aside0.mk (blk_below (g := gb561) (o := .cells #[.int .i64 t551, .int .i64 t552, .int .i64 t553, .int .i64 t554, .int .i64 t555, .int .i64 t556, .int .i64 t557, .int .i64 t558, .int .i64 t559] 95 (0, 0)) (by (with_reducible repeat (first | refine blk_drewN ?_ _ | refine blk_drew ?_ | refine blk_alloc ?_ _)); exact BK561.out) hb); have n1_ := Aside0.mk (below_step (by repeat (first | (with_reducible first | exact HB.out | apply below_alloc | apply pw_below_drewN | apply below_drew1 | refine below_set ?_ GE561.out) | exact HB.out)) hb); have n2_ := Aside0.mk (hbox); have n3_ := Aside0.mk ((by rw [hg]; exact (below_size (by repeat (first | (with_reducible first | exact HB.out | apply below_alloc | apply pw_below_drewN | apply below_drew1 | refine below_set ?_ GE561.out) | exact HB.out))) : w.heap.size ≤ gb572)); have n4_ := Aside0.mk ((by rw [hg]; exact (below_size (by repeat (first | (with_reducible first | exact HB.out | apply below_alloc | apply pw_below_drewN | apply below_drew1 | refine below_set ?_ GE561.out) | exact HB.out))) : w.heap.size ≤ gb572)); have n5_ := Aside0.mk ((by rw [hg]; exact Nat.ne_of_lt (blk_lt (g := gb561) (o := .cells #[.int .i64 t551, .int .i64 t552, .int .i64 t553, .int .i64 t554, .int .i64 t555, .int .i64 t556, .int .i64 t557, .int .i64 t558, .int .i64 t559] 95 (0, 0)) (by (with_reducible repeat (first | refine blk_drewN ?_ _ | refine blk_drew ?_ | refine blk_alloc ?_ _)); exact BK561.out)) : gb561 ≠ gb572)); have n6_ := Aside0.mk ((by rw [hg]; exact Nat.ne_of_gt (blk_lt (g := gb561) (o := .cells #[.int .i64 t551, .int .i64 t552, .int .i64 t553, .int .i64 t554, .int .i64 t555, .int .i64 t556, .int .i64 t557, .int .i64 t558, .int .i64 t559] 95 (0, 0)) (by (with_reducible repeat (first | refine blk_drewN ?_ _ | refine blk_drew ?_ | refine blk_alloc ?_ _)); exact BK561.out)) : gb572 ≠ gb561)); clear BK561; clear HB; have BK561 := n0_; have HB := n1_; have BK572 := n2_; have GW572 := n3_; have GE572 := n4_; have NB561_572 := n5_; have NB572_561 := n6_; clear n0_ n1_ n2_ n3_ n4_ n5_ n6_; clear hb hbox hg; have hnb32 := NB572_561.out; have hnc32 := NB561_572.out; have hcz33_0 : w31.cell? ⟨gb572, 0, none⟩ = some (.int .i64 0) := (blk_cell BK572.out 0).trans rfl; have hcz33_1 : w31.cell? ⟨gb572, 1, none⟩ = some (.int .i64 0) := (blk_cell BK572.out 1).trans rfl; have hcz33_2 : w31.cell? ⟨gb572, 2, none⟩ = some (.int .i64 0) := (blk_cell BK572.out 2).trans rfl; have hcz33_3 : w31.cell? ⟨gb572, 3, none⟩ = some (.int .i64 0) := (blk_cell BK572.out 3).trans rfl; have hcz33_4 : w31.cell? ⟨gb572, 4, none⟩ = some (.int .i64 0) := (blk_cell BK572.out 4).trans rfl; have hcz33_5 : w31.cell? ⟨gb572, 5, none⟩ = some (.int .i64 0) := (blk_cell BK572.out 5).trans rfl; have hcz33_6 : w31.cell? ⟨gb572, 6, none⟩ = some (.int .i64 0) := (blk_cell BK572.out 6).trans rfl; have hcz33_7 : w31.cell? ⟨gb572, 7, none⟩ = some (.int .i64 0) := (blk_cell BK572.out 7).trans rfl; have hcz33_8 : w31.cell? ⟨gb572, 8, none⟩ = some (.int .i64 0) := (blk_cell BK572.out 8).trans rfl; have hfz33_0 := blk_frozen BK572.out 0; have hfz33_1 := blk_frozen BK572.out 1; have hfz33_2 := blk_frozen BK572.out 2; have hfz33_3 := blk_frozen BK572.out 3; have hfz33_4 := blk_frozen BK572.out 4; have hfz33_5 := blk_frozen BK572.out 5; have hfz33_6 := blk_frozen BK572.out 6; have hfz33_7 := blk_frozen BK572.out 7; have hfz33_8 := blk_frozen BK572.out 8; have hcz34_0 : w31.cell? ⟨gb561, 0, none⟩ = some (.int .i64 t551) := (blk_cell BK561.out 0).trans rfl; have hcz34_1 : w31.cell? ⟨gb561, 1, none⟩ = some (.int .i64 t552) := (blk_cell BK561.out 1).trans rfl; have hcz34_2 : w31.cell? ⟨gb561, 2, none⟩ = some (.int .i64 t553) := (blk_cell BK561.out 2).trans rfl; have hcz34_3 : w31.cell? ⟨gb561, 3, none⟩ = some (.int .i64 t554) := (blk_cell BK561.out 3).trans rfl; have hcz34_4 : w31.cell? ⟨gb561, 4, none⟩ = some (.int .i64 t555) := (blk_cell BK561.out 4).trans rfl; have hcz34_5 : w31.cell? ⟨gb561, 5, none⟩ = some (.int .i64 t556) := (blk_cell BK561.out 5).trans rfl; have hcz34_6 : w31.cell? ⟨gb561, 6, none⟩ = some (.int .i64 t557) := (blk_cell BK561.out 6).trans rfl; have hcz34_7 : w31.cell? ⟨gb561, 7, none⟩ = some (.int .i64 t558) := (blk_cell BK561.out 7).trans rfl; have hcz34_8 : w31.cell? ⟨gb561, 8, none⟩ = some (.int .i64 t559) := (blk_cell BK561.out 8).trans rfl; have hfz34_0 := blk_frozen BK561.out 0; have hfz34_1 := blk_frozen BK561.out 1; have hfz34_2 := blk_frozen BK561.out 2; have hfz34_3 := blk_frozen BK561.out 3; have hfz34_4 := blk_frozen BK561.out 4; have hfz34_5 := blk_frozen BK561.out 5; have hfz34_6 := blk_frozen BK561.out 6; have hfz34_7 := blk_frozen BK561.out 7; have hfz34_8 := blk_frozen BK561.out 8))
      go_ret
      exact ⟨by first | rfl | (simp [errW_none, errW_some] <;> rfl) | (simp [*, errW_none, errW_some] <;> rfl), by repeat (first | (with_reducible first | exact HB.out | apply below_alloc | apply pw_below_drewN | apply below_drew1 | refine below_set ?_ GE561.out | refine below_set ?_ GE572.out) | exact HB.out)⟩

/-- THE ONE PURE STATEMENT of damperlaw05_CommandDecodes: yours. -/
def damperlaw05_CommandDecodes.Pure : Prop := ∀ (l0 : List Int), l0.length ≤ maxLen → l0.length * 1 ≤ 140737488351232 → (∀ x ∈ l0, (Lit.int .u8 x).wf = true) → damperlaw05_CommandDecodes.f l0 = some true
theorem damperlaw05_CommandDecodes.walk (P : damperlaw05_CommandDecodes.Pure) (a0 : Option Addr) (len0 cap0 : Nat) (z0 : List Int) (w : World) (w0 : (a0 = none ∧ len0 = 0 ∧ cap0 = 0 ∧ z0 = []) ∨ ∃ x, a0 = some x ∧ len0 ≤ cap0 ∧ cap0 ≤ maxLen ∧ z0.length = cap0 ∧ (∀ i, i < z0.length → w.cell? (x.add i) = some (.int .u8 (z0.getD i 0))) ∧ ∀ n ∈ z0, (Lit.int .u8 n).wf = true) (y0 : len0 * 1 ≤ 140737488351232) :
    Calls Try.prog 14 #[.slice a0 len0 cap0] w fun e w' => e = .returned (.bool true) ∧ Below w.heap.size w w' := by
  obtain ⟨l0, rfl, hr0, hm0, hw0, hc0⟩ := ReadsInt.ofRowC w0
  have h := P l0 hm0 y0 hw0
  refine (damperlaw05_CommandDecodes.calls _ _ l0 true w (Kd.C_of_reads (d := (0 : Int)) (h1 := fun _ => rfl) hr0) hc0 h).mono ?_
  rintro e w' ⟨rfl, hd⟩
  exact ⟨rfl, hd⟩

end Go.Proofs.Ytalpemoodollpaa.P
/- Commands: the document's decoding is the program's. -/
namespace Go.Proofs.Ytalpemoodollpaa.P
open Go.RowKit Go.Proofs.YtalpemoodollpaaW.PrintWords Go.Proofs.YtalpemoodollpaaW.PrintLast Go.Proofs.YtalpemoodollpaaW.PrintMore
set_option linter.unusedVariables false
set_option linter.unusedSimpArgs false
theorem mn_le {a b : Int} (h : ¬ b < a) : mn a b = a := by unfold mn; rw [if_neg (by omega)]
theorem mn_gt {a b : Int} (h : b < a) : mn a b = b := by unfold mn; rw [if_pos h]
theorem fin_eq (k sym id owner side typ price qty flags : Int) (s : List Int × Int) : cmdFin k sym id owner side typ price qty flags s = refFin k sym id owner side typ price qty flags s := by
  unfold cmdFin refFin
  by_cases hs : s.2 = 0
  · rw [if_neg (show ¬ s.2 ≠ 0 from fun h => h hs), if_neg (show ¬ s.2 ≠ 0 from fun h => h hs)]
    by_cases hi : 4611686018427387904 < id
    · have e : mn id 4611686018427387905 = 4611686018427387905 := by unfold mn; split <;> omega
      rw [if_pos (Or.inl hi), if_pos (Or.inr (by rw [e]; simp [cmdRight, within_]))]
    · have e : mn id 4611686018427387905 = id := mn_le (by omega)
      rw [e]
      by_cases ho : 1073741824 < owner
      · have e2 : mn owner 1073741825 = 1073741825 := by unfold mn; split <;> omega
        rw [if_pos (Or.inr (Or.inl ho)), if_pos (Or.inr (by rw [e2]; simp [cmdRight, within_]))]
      · have e2 : mn owner 1073741825 = owner := mn_le (by omega)
        rw [e2]
        by_cases hl : 0 < s.1.length
        · rw [if_pos (Or.inl hl), if_pos (Or.inr (Or.inr hl))]
        · rw [if_neg (show ¬ (4611686018427387904 < id ∨ 1073741824 < owner ∨ 0 < s.1.length) by omega)]
          by_cases hr : cmdRight ⟨k, sym, id, owner, side, typ, price, qty, flags⟩ = false
          · rw [if_pos (Or.inr hr), if_pos hr]
          · rw [if_neg (by intro h; rcases h with h | h; exact hl h; exact hr h), if_neg hr]
  · rw [if_pos (show s.2 ≠ 0 from hs), if_pos (show s.2 ≠ 0 from hs)]
theorem mid_eq (k sym id owner side typ flags : Int) (s : List Int × Int) : cmdMid k sym id owner side typ flags s = refMid k sym id owner side typ flags s := by
  unfold cmdMid refMid
  simp only [fin_eq]
theorem rUint_one (x : Int) (t : List Int) : rUint (x :: t, 0) 1 = (x, (t, 0)) := by
  unfold rUint
  rw [if_neg (by decide), show (1 : Int).toNat = 1 from rfl, rTake_one]
  simp [beNum]
theorem refDec_eq (b : List Int) : refDec b = cmdDec b := by
  cases b with
  | nil => rfl
  | cons x t =>
    unfold refDec cmdDec refDecM
    rw [if_neg (by simp), rUint_one]
    simp only [List.getD_cons_zero]
    by_cases hx : x < 1 ∨ 3 < x
    · rw [if_pos hx, if_pos (show True ∧ (x < 1 ∨ 3 < x) from ⟨trivial, hx⟩)]
    · rw [if_neg hx, if_neg (show ¬ (True ∧ (x < 1 ∨ 3 < x)) from fun h => hx h.2)]
      simp only [mid_eq]
theorem alive05 : damperlaw05_alive.f = some true := by
  have h : command_Decode.f [2, 3, 5] = some (2, 3, 5, 0, 0, 0, 0, 0, 0, 0) := by
    have hc : cmdDec [2, 3, 5] = (⟨2, 3, 5, 0, 0, 0, 0, 0, 0⟩, 0) := by rfl
    unfold command_Decode.f
    rw [if_pos (by decide), hc]
  unfold damperlaw05_alive.f
  rw [h]
  decide
theorem alive05_calls (w : World) : Calls Try.prog 71 #[] w fun e w' => e = .returned (.bool true) ∧ Below w.heap.size w w' := damperlaw05_alive.calls true w alive05
theorem commandDecodes_f (l : List Int) (hb : Byt l) : damperlaw05_CommandDecodes.f l = some true := by
  unfold damperlaw05_CommandDecodes.f
  rw [alive05]
  by_cases h : (l.length : Int) > 200
  · rw [if_pos h]; rfl
  · rw [if_neg h]
    have hp : bytB l = true ∧ l.length ≤ 140737488355328 := ⟨bytB_of hb, by omega⟩
    unfold command_Decode.f damperref05_Decode.f
    rw [if_pos hp, if_pos hp, refDec_eq]
    simp
theorem commandDecodes_calls (A0 : Option Addr) (c0 : Nat) (l0 : List Int) (w : World) (hr0 : Kd.C (Kd.int .u8) w A0 l0.length l0) (hc0 : l0.length ≤ c0) (hb : Byt l0) :
    Calls Try.prog 14 #[.slice A0 l0.length c0] w fun e w' => e = .returned (.bool true) ∧ Below w.heap.size w w' :=
  damperlaw05_CommandDecodes.calls A0 c0 l0 true w hr0 hc0 (commandDecodes_f l0 hb)
end Go.Proofs.Ytalpemoodollpaa.P
