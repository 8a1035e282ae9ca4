/- Contracts and plain laws: HrefCmd, P14, HAlive05, HCmdLaw, HCmdBackP, HCmdBack, HRefTake, P43, P45, HFrameLaw. -/
import Derived.Test.YtalpemoodollpaaX7
import Derived.Test.YtalpemoodollpaaX8
import Derived.Test.YtalpemoodollpaaX13
/- The contract of damperref05.Decode. -/
namespace Go.Proofs.Ytalpemoodollpaa.P
open Go.RowKit Go.Proofs.YtalpemoodollpaaW.PrintWords Go.Proofs.YtalpemoodollpaaW.PrintLast Go.Proofs.YtalpemoodollpaaW.PrintMore
set_option linter.unusedVariables false
set_option linter.unusedSimpArgs false
structure ES (w W : World) (b5 g : Nat) (s : List Int × Int) (x0 x1 x2 x3 x4 x5 x6 x7 x8 : Int) : Prop where
  rr : RR w W g s
  bx : Box9 W 95 b5 x0 x1 x2 x3 x4 x5 x6 x7 x8
  zx : Box9 W 95 w.heap.size 0 0 0 0 0 0 0 0 0
  h5 : w.heap.size < b5
  hn : b5 ≠ g
  hz : w.heap.size ≠ g
namespace ES
variable {w W W1 : World} {b5 g : Nat} {s s1 : List Int × Int} {x0 x1 x2 x3 x4 x5 x6 x7 x8 : Int}
theorem step (h : ES w W b5 g s x0 x1 x2 x3 x4 x5 x6 x7 x8) (hk : RR w W1 g s1) (kg : KeepG W W1 g) : ES w W1 b5 g s1 x0 x1 x2 x3 x4 x5 x6 x7 x8 := ⟨hk, kg.box h.bx h.hn, kg.box h.zx h.hz, h.h5, h.hn, h.hz⟩
theorem below (h : ES w W b5 g s x0 x1 x2 x3 x4 x5 x6 x7 x8) (hb : Below W.heap.size W W1) : ES w W1 b5 g s x0 x1 x2 x3 x4 x5 x6 x7 x8 := ⟨h.rr.below hb, (hb.block _ (blk_lt h.bx)).trans h.bx, (hb.block _ (blk_lt h.zx)).trans h.zx, h.h5, h.hn, h.hz⟩
theorem one (h : ES w W b5 g s x0 x1 x2 x3 x4 x5 x6 x7 x8) : Calls Try.prog 122 #[.pointer (some ⟨g, 0, none⟩)] W fun e w' => e = .returned (.int .i64 (rUint s 1).1) ∧ ES w w' b5 g (rUint s 1).2 x0 x1 x2 x3 x4 x5 x6 x7 x8 := h.rr.one.mono fun e w' ⟨he, hk, kg⟩ => ⟨he, h.step hk kg⟩
theorem num (h : ES w W b5 g s x0 x1 x2 x3 x4 x5 x6 x7 x8) : Calls Try.prog 123 #[.pointer (some ⟨g, 0, none⟩)] W fun e w' => e = .returned (.int .u64 (rNum s).1) ∧ ES w w' b5 g (rNum s).2 x0 x1 x2 x3 x4 x5 x6 x7 x8 := h.rr.num.mono fun e w' ⟨he, hk, kg⟩ => ⟨he, h.step hk kg⟩
theorem int (h : ES w W b5 g s x0 x1 x2 x3 x4 x5 x6 x7 x8) : Calls Try.prog 124 #[.pointer (some ⟨g, 0, none⟩)] W fun e w' => e = .returned (.int .i64 (unzig (rUint s 8).1)) ∧ ES w w' b5 g (rUint s 8).2 x0 x1 x2 x3 x4 x5 x6 x7 x8 := h.rr.int.mono fun e w' ⟨he, hk, kg⟩ => ⟨he, h.step hk kg⟩
theorem set0 (h : ES w W b5 g s x0 x1 x2 x3 x4 x5 x6 x7 x8) (v : Int) : ES w (W.setCell ⟨b5, 0, none⟩ (.int .i64 v)) b5 g s v x1 x2 x3 x4 x5 x6 x7 x8 :=
  ⟨h.rr.set (by have := h.h5; omega) h.hn _, (blk_set h.bx 0 (.int .i64 v)).trans (by simp), (Below.heap_setCell W ⟨b5, 0, none⟩ _ w.heap.size (by have := h.h5; show w.heap.size ≠ b5; omega)).trans h.zx, h.h5, h.hn, h.hz⟩
theorem set1 (h : ES w W b5 g s x0 x1 x2 x3 x4 x5 x6 x7 x8) (v : Int) : ES w (W.setCell ⟨b5, 1, none⟩ (.int .i64 v)) b5 g s x0 v x2 x3 x4 x5 x6 x7 x8 :=
  ⟨h.rr.set (by have := h.h5; omega) h.hn _, (blk_set h.bx 1 (.int .i64 v)).trans (by simp), (Below.heap_setCell W ⟨b5, 1, none⟩ _ w.heap.size (by have := h.h5; show w.heap.size ≠ b5; omega)).trans h.zx, h.h5, h.hn, h.hz⟩
theorem set2 (h : ES w W b5 g s x0 x1 x2 x3 x4 x5 x6 x7 x8) (v : Int) : ES w (W.setCell ⟨b5, 2, none⟩ (.int .i64 v)) b5 g s x0 x1 v x3 x4 x5 x6 x7 x8 :=
  ⟨h.rr.set (by have := h.h5; omega) h.hn _, (blk_set h.bx 2 (.int .i64 v)).trans (by simp), (Below.heap_setCell W ⟨b5, 2, none⟩ _ w.heap.size (by have := h.h5; show w.heap.size ≠ b5; omega)).trans h.zx, h.h5, h.hn, h.hz⟩
theorem set3 (h : ES w W b5 g s x0 x1 x2 x3 x4 x5 x6 x7 x8) (v : Int) : ES w (W.setCell ⟨b5, 3, none⟩ (.int .i64 v)) b5 g s x0 x1 x2 v x4 x5 x6 x7 x8 :=
  ⟨h.rr.set (by have := h.h5; omega) h.hn _, (blk_set h.bx 3 (.int .i64 v)).trans (by simp), (Below.heap_setCell W ⟨b5, 3, none⟩ _ w.heap.size (by have := h.h5; show w.heap.size ≠ b5; omega)).trans h.zx, h.h5, h.hn, h.hz⟩
theorem set4 (h : ES w W b5 g s x0 x1 x2 x3 x4 x5 x6 x7 x8) (v : Int) : ES w (W.setCell ⟨b5, 4, none⟩ (.int .i64 v)) b5 g s x0 x1 x2 x3 v x5 x6 x7 x8 :=
  ⟨h.rr.set (by have := h.h5; omega) h.hn _, (blk_set h.bx 4 (.int .i64 v)).trans (by simp), (Below.heap_setCell W ⟨b5, 4, none⟩ _ w.heap.size (by have := h.h5; show w.heap.size ≠ b5; omega)).trans h.zx, h.h5, h.hn, h.hz⟩
theorem set5 (h : ES w W b5 g s x0 x1 x2 x3 x4 x5 x6 x7 x8) (v : Int) : ES w (W.setCell ⟨b5, 5, none⟩ (.int .i64 v)) b5 g s x0 x1 x2 x3 x4 v x6 x7 x8 :=
  ⟨h.rr.set (by have := h.h5; omega) h.hn _, (blk_set h.bx 5 (.int .i64 v)).trans (by simp), (Below.heap_setCell W ⟨b5, 5, none⟩ _ w.heap.size (by have := h.h5; show w.heap.size ≠ b5; omega)).trans h.zx, h.h5, h.hn, h.hz⟩
theorem set6 (h : ES w W b5 g s x0 x1 x2 x3 x4 x5 x6 x7 x8) (v : Int) : ES w (W.setCell ⟨b5, 6, none⟩ (.int .i64 v)) b5 g s x0 x1 x2 x3 x4 x5 v x7 x8 :=
  ⟨h.rr.set (by have := h.h5; omega) h.hn _, (blk_set h.bx 6 (.int .i64 v)).trans (by simp), (Below.heap_setCell W ⟨b5, 6, none⟩ _ w.heap.size (by have := h.h5; show w.heap.size ≠ b5; omega)).trans h.zx, h.h5, h.hn, h.hz⟩
theorem set7 (h : ES w W b5 g s x0 x1 x2 x3 x4 x5 x6 x7 x8) (v : Int) : ES w (W.setCell ⟨b5, 7, none⟩ (.int .i64 v)) b5 g s x0 x1 x2 x3 x4 x5 x6 v x8 :=
  ⟨h.rr.set (by have := h.h5; omega) h.hn _, (blk_set h.bx 7 (.int .i64 v)).trans (by simp), (Below.heap_setCell W ⟨b5, 7, none⟩ _ w.heap.size (by have := h.h5; show w.heap.size ≠ b5; omega)).trans h.zx, h.h5, h.hn, h.hz⟩
theorem set8 (h : ES w W b5 g s x0 x1 x2 x3 x4 x5 x6 x7 x8) (v : Int) : ES w (W.setCell ⟨b5, 8, none⟩ (.int .i64 v)) b5 g s x0 x1 x2 x3 x4 x5 x6 x7 v :=
  ⟨h.rr.set (by have := h.h5; omega) h.hn _, (blk_set h.bx 8 (.int .i64 v)).trans (by simp), (Below.heap_setCell W ⟨b5, 8, none⟩ _ w.heap.size (by have := h.h5; show w.heap.size ≠ b5; omega)).trans h.zx, h.h5, h.hn, h.hz⟩
theorem frozen (h : ES w W b5 g s x0 x1 x2 x3 x4 x5 x6 x7 x8) : W.frozen? ⟨b5, 0, none⟩ = false ∧ W.frozen? ⟨b5, 1, none⟩ = false ∧ W.frozen? ⟨b5, 2, none⟩ = false ∧ W.frozen? ⟨b5, 3, none⟩ = false ∧ W.frozen? ⟨b5, 4, none⟩ = false ∧ W.frozen? ⟨b5, 5, none⟩ = false ∧ W.frozen? ⟨b5, 6, none⟩ = false ∧ W.frozen? ⟨b5, 7, none⟩ = false ∧ W.frozen? ⟨b5, 8, none⟩ = false :=
  ⟨blk_frozen h.bx 0, blk_frozen h.bx 1, blk_frozen h.bx 2, blk_frozen h.bx 3, blk_frozen h.bx 4, blk_frozen h.bx 5, blk_frozen h.bx 6, blk_frozen h.bx 7, blk_frozen h.bx 8⟩
theorem zfrozen (h : ES w W b5 g s x0 x1 x2 x3 x4 x5 x6 x7 x8) : W.frozen? ⟨w.heap.size, 0, none⟩ = false ∧ W.frozen? ⟨w.heap.size, 1, none⟩ = false ∧ W.frozen? ⟨w.heap.size, 2, none⟩ = false ∧ W.frozen? ⟨w.heap.size, 3, none⟩ = false ∧ W.frozen? ⟨w.heap.size, 4, none⟩ = false ∧ W.frozen? ⟨w.heap.size, 5, none⟩ = false ∧ W.frozen? ⟨w.heap.size, 6, none⟩ = false ∧ W.frozen? ⟨w.heap.size, 7, none⟩ = false ∧ W.frozen? ⟨w.heap.size, 8, none⟩ = false :=
  ⟨blk_frozen h.zx 0, blk_frozen h.zx 1, blk_frozen h.zx 2, blk_frozen h.zx 3, blk_frozen h.zx 4, blk_frozen h.zx 5, blk_frozen h.zx 6, blk_frozen h.zx 7, blk_frozen h.zx 8⟩
/-- The result's box is written whole. -/
theorem res (h : ES w W b5 g s x0 x1 x2 x3 x4 x5 x6 x7 x8) (v0 v1 v2 v3 v4 v5 v6 v7 v8 : Int) : Box9 (((((((((W.setCell ⟨w.heap.size, 0, none⟩ (.int .i64 v0)).setCell ⟨w.heap.size, 1, none⟩ (.int .i64 v1)).setCell ⟨w.heap.size, 2, none⟩ (.int .i64 v2)).setCell ⟨w.heap.size, 3, none⟩ (.int .i64 v3)).setCell ⟨w.heap.size, 4, none⟩ (.int .i64 v4)).setCell ⟨w.heap.size, 5, none⟩ (.int .i64 v5)).setCell ⟨w.heap.size, 6, none⟩ (.int .i64 v6)).setCell ⟨w.heap.size, 7, none⟩ (.int .i64 v7)).setCell ⟨w.heap.size, 8, none⟩ (.int .i64 v8)) 95 w.heap.size v0 v1 v2 v3 v4 v5 v6 v7 v8 ∧
    Below w.heap.size w (((((((((W.setCell ⟨w.heap.size, 0, none⟩ (.int .i64 v0)).setCell ⟨w.heap.size, 1, none⟩ (.int .i64 v1)).setCell ⟨w.heap.size, 2, none⟩ (.int .i64 v2)).setCell ⟨w.heap.size, 3, none⟩ (.int .i64 v3)).setCell ⟨w.heap.size, 4, none⟩ (.int .i64 v4)).setCell ⟨w.heap.size, 5, none⟩ (.int .i64 v5)).setCell ⟨w.heap.size, 6, none⟩ (.int .i64 v6)).setCell ⟨w.heap.size, 7, none⟩ (.int .i64 v7)).setCell ⟨w.heap.size, 8, none⟩ (.int .i64 v8)) :=
  ⟨(blk_set (blk_set (blk_set (blk_set (blk_set (blk_set (blk_set (blk_set (blk_set h.zx 0 (.int .i64 v0)) 1 (.int .i64 v1)) 2 (.int .i64 v2)) 3 (.int .i64 v3)) 4 (.int .i64 v4)) 5 (.int .i64 v5)) 6 (.int .i64 v6)) 7 (.int .i64 v7)) 8 (.int .i64 v8)).trans (by simp), (((((((((h.rr.bel.setCell (p := ⟨w.heap.size, 0, none⟩) (Nat.le_refl _) (.int .i64 v0)).setCell (p := ⟨w.heap.size, 1, none⟩) (Nat.le_refl _) (.int .i64 v1)).setCell (p := ⟨w.heap.size, 2, none⟩) (Nat.le_refl _) (.int .i64 v2)).setCell (p := ⟨w.heap.size, 3, none⟩) (Nat.le_refl _) (.int .i64 v3)).setCell (p := ⟨w.heap.size, 4, none⟩) (Nat.le_refl _) (.int .i64 v4)).setCell (p := ⟨w.heap.size, 5, none⟩) (Nat.le_refl _) (.int .i64 v5)).setCell (p := ⟨w.heap.size, 6, none⟩) (Nat.le_refl _) (.int .i64 v6)).setCell (p := ⟨w.heap.size, 7, none⟩) (Nat.le_refl _) (.int .i64 v7)).setCell (p := ⟨w.heap.size, 8, none⟩) (Nat.le_refl _) (.int .i64 v8))⟩
theorem far (hd : ES w W b5 g s x0 x1 x2 x3 x4 x5 x6 x7 x8) {cs : Array Value} {t : TypeId} (h : W.heap[g]? = some (.cells cs t (0, 0))) : (((((((((W.setCell ⟨w.heap.size, 0, none⟩ (.int .i64 0)).setCell ⟨w.heap.size, 1, none⟩ (.int .i64 0)).setCell ⟨w.heap.size, 2, none⟩ (.int .i64 0)).setCell ⟨w.heap.size, 3, none⟩ (.int .i64 0)).setCell ⟨w.heap.size, 4, none⟩ (.int .i64 0)).setCell ⟨w.heap.size, 5, none⟩ (.int .i64 0)).setCell ⟨w.heap.size, 6, none⟩ (.int .i64 0)).setCell ⟨w.heap.size, 7, none⟩ (.int .i64 0)).setCell ⟨w.heap.size, 8, none⟩ (.int .i64 0)).heap[g]? = some (.cells cs t (0, 0)) := (blk_far (blk_far (blk_far (blk_far (blk_far (blk_far (blk_far (blk_far (blk_far h (p := ⟨w.heap.size, 0, none⟩) (fun e => hd.hz e.symm) (.int .i64 0)) (p := ⟨w.heap.size, 1, none⟩) (fun e => hd.hz e.symm) (.int .i64 0)) (p := ⟨w.heap.size, 2, none⟩) (fun e => hd.hz e.symm) (.int .i64 0)) (p := ⟨w.heap.size, 3, none⟩) (fun e => hd.hz e.symm) (.int .i64 0)) (p := ⟨w.heap.size, 4, none⟩) (fun e => hd.hz e.symm) (.int .i64 0)) (p := ⟨w.heap.size, 5, none⟩) (fun e => hd.hz e.symm) (.int .i64 0)) (p := ⟨w.heap.size, 6, none⟩) (fun e => hd.hz e.symm) (.int .i64 0)) (p := ⟨w.heap.size, 7, none⟩) (fun e => hd.hz e.symm) (.int .i64 0)) (p := ⟨w.heap.size, 8, none⟩) (fun e => hd.hz e.symm) (.int .i64 0))
theorem bdrew {t b : Nat} (h : Box9 W t b x0 x1 x2 x3 x4 x5 x6 x7 x8) : Box9 W.drew t b x0 x1 x2 x3 x4 x5 x6 x7 x8 := h
end ES
/-- The end of the document's decoding. -/
def refFin (k sym id owner side typ price qty flags : Int) (s : List Int × Int) : Cmd × Int :=
  if s.2 ≠ 0 then (⟨0, 0, 0, 0, 0, 0, 0, 0, 0⟩, s.2)
  else if 4611686018427387904 < id ∨ 1073741824 < owner ∨ 0 < s.1.length then (⟨0, 0, 0, 0, 0, 0, 0, 0, 0⟩, 4)
  else if cmdRight ⟨k, sym, id, owner, side, typ, price, qty, flags⟩ = false then (⟨0, 0, 0, 0, 0, 0, 0, 0, 0⟩, 4)
  else (⟨k, sym, id, owner, side, typ, price, qty, flags⟩, 0)
def refMid (k sym id owner side typ flags : Int) (s : List Int × Int) : Cmd × Int :=
  if k = 2 then refFin k sym id owner side typ 0 0 flags s
  else refFin k sym id owner side typ (unzig (rUint s 8).1) (unzig (rUint (rUint s 8).2 8).1) flags (rUint (rUint s 8).2 8).2
def refDecM (b : List Int) : Cmd × Int :=
  if (rUint (b, 0) 1).1 = 1 then
    refMid 1 (rUint (rUint (b, 0) 1).2 1).1 (rNum (rUint (rUint (b, 0) 1).2 1).2).1 (rNum (rNum (rUint (rUint (b, 0) 1).2 1).2).2).1
      (rUint (rNum (rNum (rUint (rUint (b, 0) 1).2 1).2).2).2 1).1 (rUint (rUint (rNum (rNum (rUint (rUint (b, 0) 1).2 1).2).2).2 1).2 1).1 (rUint (rUint (rUint (rNum (rNum (rUint (rUint (b, 0) 1).2 1).2).2).2 1).2 1).2 1).1
      (rUint (rUint (rUint (rNum (rNum (rUint (rUint (b, 0) 1).2 1).2).2).2 1).2 1).2 1).2
  else refMid (rUint (b, 0) 1).1 (rUint (rUint (b, 0) 1).2 1).1 (rNum (rUint (rUint (b, 0) 1).2 1).2).1 0 0 0 0 (rNum (rUint (rUint (b, 0) 1).2 1).2).2
def refDec (b : List Int) : Cmd × Int :=
  if b.length = 0 then (⟨0, 0, 0, 0, 0, 0, 0, 0, 0⟩, 3) else if b.getD 0 0 < 1 ∨ 3 < b.getD 0 0 then (⟨0, 0, 0, 0, 0, 0, 0, 0, 0⟩, 4) else refDecM b
theorem addr_add_zero (a : Addr) : a.add 0 = a := by
  obtain ⟨b, o, i⟩ := a
  cases i <;> simp [Addr.add]
set_option maxRecDepth 100000 in
set_option maxHeartbeats 2000000 in
theorem refDec_calls (A0 : Option Addr) (c0 : Nat) (b : List Int) (w : World) (hr0 : Kd.C (Kd.int .u8) w A0 b.length b) (hc0 : b.length ≤ c0) (hl : b.length ≤ 140737488355328) (hb : Byt b) :
    Calls Try.prog 73 #[.slice A0 b.length c0] w fun e w' => e = .returned (.tuple #[.agg #[.int .i64 (refDec b).1.f0, .int .i64 (refDec b).1.f1, .int .i64 (refDec b).1.f2, .int .i64 (refDec b).1.f3, .int .i64 (refDec b).1.f4, .int .i64 (refDec b).1.f5, .int .i64 (refDec b).1.f6, .int .i64 (refDec b).1.f7, .int .i64 (refDec b).1.f8], .int .i64 (refDec b).2]) ∧ Below w.heap.size w w' := by
  have hu95 := Try.underlying95
  have HR := Aside0.mk hr0
  have BY := Aside0.mk hb
  have HC0 := Aside0.mk hc0
  generalize hG : refDec b = G
  unfold refDec at hG
  have HG := Aside0.mk hG
  clear hG
  have B0 := Aside0.mk (below_alloc (Below.refl w.heap.size w) (.cells #[.int .i64 0, .int .i64 0, .int .i64 0, .int .i64 0, .int .i64 0, .int .i64 0, .int .i64 0, .int .i64 0, .int .i64 0] 95))
  have BX0 := Aside0.mk (show Box9 (w.alloc (.cells #[.int .i64 0, .int .i64 0, .int .i64 0, .int .i64 0, .int .i64 0, .int .i64 0, .int .i64 0, .int .i64 0, .int .i64 0] 95)) 95 w.heap.size 0 0 0 0 0 0 0 0 0 from blk_new w _)
  cases b with
  | nil =>
    rw [if_pos (by rfl)] at HG
    obtain rfl := HG.out
    clear hr0 hb hc0 hl
    go_enter Try.func73, Try.ntmps73
    go_wp2
    exact bodyPost_ret (results_ct (fn := Try.f73) (p := 2) (u := 3) (ty := 95) rfl _ _ w.heap.size 95 #[.int .i64 0, .int .i64 0, .int .i64 0, .int .i64 0, .int .i64 0, .int .i64 0, .int .i64 0, .int .i64 0, .int .i64 0] (0, 0) _ rfl BX0.out Try.underlying95 rfl (by kernel_rfl)) rfl ⟨rfl, B0.out⟩
  | cons x t =>
    have hx := (Byt.cons hb).1
    have hx0 := hx.1
    have hx1 := hx.2
    obtain ⟨_, _, had⟩ := Kd.reads_of_C (d := (0 : Int)) (Kd.C_below hr0 B0.out)
    obtain ⟨ad, rfl, hcell⟩ := had (by simp)
    have h0 := hcell 0 (by simp)
    have h00 : (w.alloc (.cells #[.int .i64 0, .int .i64 0, .int .i64 0, .int .i64 0, .int .i64 0, .int .i64 0, .int .i64 0, .int .i64 0, .int .i64 0] 95)).cell? ad = some (.int .u8 x) := by
      rw [addr_add_zero] at h0
      exact h0
    clear hcell hr0 hb hx had h0
    rw [if_neg (by simp)] at HG
    have HXG : Aside0 ((x :: t).getD 0 0 = x) := ⟨rfl⟩
    rw [HXG.out] at HG
    have hlen : (0 : Int) < ((x :: t).length : Int) := by simp
    have hlen2 : 0 < (x :: t).length := by simp
    have hmax : ((x :: t).length : Int) ≤ 140737488355328 := by omega
    generalize hN : (x :: t).length = N at *
    by_cases hbad : x < 1 ∨ 3 < x
    · rw [if_pos hbad] at HG
      obtain rfl := HG.out
      by_cases hk1 : x < 1
      · clear hbad
        go_enter Try.func73, Try.ntmps73
        go_wp2
        exact bodyPost_ret (results_ct (fn := Try.f73) (p := 2) (u := 3) (ty := 95) rfl _ _ w.heap.size 95 #[.int .i64 0, .int .i64 0, .int .i64 0, .int .i64 0, .int .i64 0, .int .i64 0, .int .i64 0, .int .i64 0, .int .i64 0] (0, 0) _ rfl BX0.out Try.underlying95 rfl (by kernel_rfl)) rfl ⟨rfl, B0.out⟩
      · have hk3 : 3 < x := hbad.resolve_left hk1
        clear hbad
        go_enter Try.func73, Try.ntmps73
        go_wp2
        exact bodyPost_ret (results_ct (fn := Try.f73) (p := 2) (u := 3) (ty := 95) rfl _ _ w.heap.size 95 #[.int .i64 0, .int .i64 0, .int .i64 0, .int .i64 0, .int .i64 0, .int .i64 0, .int .i64 0, .int .i64 0, .int .i64 0] (0, 0) _ rfl BX0.out Try.underlying95 rfl (by kernel_rfl)) rfl ⟨rfl, B0.out⟩
    · rw [if_neg hbad] at HG
      have hx2 : 1 ≤ x := by omega
      have hx3 : x ≤ 3 := by omega
      have HRR : Aside0 (RR w ((w.alloc (.cells #[.int .i64 0, .int .i64 0, .int .i64 0, .int .i64 0, .int .i64 0, .int .i64 0, .int .i64 0, .int .i64 0, .int .i64 0] 95)).alloc (.cells #[.slice (some ad) N c0, .int .i64 0] 152)) (w.heap.size + 1) (x :: t, 0)) := ⟨by
        refine ⟨⟨x :: t, some ad, c0, ?_, by rw [hN]; exact HC0.out, by rw [hN]; exact HR.out, BY.out, by omega, fun _ => rfl⟩, below_alloc B0.out _, by omega⟩
        have := blk_new (w.alloc (.cells #[.int .i64 0, .int .i64 0, .int .i64 0, .int .i64 0, .int .i64 0, .int .i64 0, .int .i64 0, .int .i64 0, .int .i64 0] 95)) (.cells #[.slice (some ad) N c0, .int .i64 0] 152)
        rw [World.size_alloc] at this
        rw [hN]
        exact this⟩
      have BX1 := Aside0.mk (show Box9 ((w.alloc (.cells #[.int .i64 0, .int .i64 0, .int .i64 0, .int .i64 0, .int .i64 0, .int .i64 0, .int .i64 0, .int .i64 0, .int .i64 0] 95)).alloc (.cells #[.slice (some ad) N c0, .int .i64 0] 152)) 95 w.heap.size 0 0 0 0 0 0 0 0 0 from blk_alloc BX0.out _)
      have HS1 : Aside0 (((w.alloc (.cells #[.int .i64 0, .int .i64 0, .int .i64 0, .int .i64 0, .int .i64 0, .int .i64 0, .int .i64 0, .int .i64 0, .int .i64 0] 95)).alloc (.cells #[.slice (some ad) N c0, .int .i64 0] 152)).heap.size = w.heap.size + 2) := ⟨by simp⟩
      clear hbad hN
      unfold refDecM at HG
      go_enter Try.func73, Try.ntmps73
      go_wp2_with fail
      clear hx2 hx3 hx0 hx1 h00 hlen hlen2 hmax HXG HR HC0 BX0 B0 hc0 hl
      generalize (x :: t) = b at *
      generalize ((w.alloc (.cells #[.int .i64 0, .int .i64 0, .int .i64 0, .int .i64 0, .int .i64 0, .int .i64 0, .int .i64 0, .int .i64 0, .int .i64 0] 95)).alloc (.cells #[.slice (some ad) N c0, .int .i64 0] 152)) = w2 at *
      generalize hg : w.heap.size + 1 = g at *
      have HGE := Aside0.mk hg.symm
      clear hg
      have CX := Aside0.mk HRR.out.one
      replace BY := BY.out
      have kr := Aside0.mk (rUint1_range (b, 0) BY)
      replace BY := byt_rUint (b, 0) 1 BY
      replace BY := Aside0.mk BY
      generalize rUint (b, 0) 1 = T at *
      obtain ⟨k, s1⟩ := T
      try dsimp only at *
      refine CX.out.mono ?_
      rintro e w3 ⟨rfl, hd, hk⟩
      have R3 := Aside0.mk hd
      have BX3 := Aside0.mk (hk.box BX1.out (by have := HGE.out; omega))
      have HS3 := Aside0.mk (show g < w3.heap.size by have := HRR.out; obtain ⟨l, A, c, h1, _⟩ := hd.ex; exact blk_lt h1)
      clear hd hk CX
      go_wp2_with fail
      have CX := Aside0.mk R3.out.one
      replace BY := BY.out
      have symr := Aside0.mk (rUint1_range s1 BY)
      replace BY := byt_rUint s1 1 BY
      replace BY := Aside0.mk BY
      generalize rUint s1 1 = T at *
      obtain ⟨sym, s2⟩ := T
      try dsimp only at *
      refine CX.out.mono ?_
      rintro e w4 ⟨rfl, hd, hk⟩
      have R4 := Aside0.mk hd
      have BX4 := Aside0.mk (hk.box BX3.out (by have := HGE.out; omega))
      have HS4 := Aside0.mk (show g < w4.heap.size by obtain ⟨l, A, c, h1, _⟩ := hd.ex; exact blk_lt h1)
      clear hd hk CX HS3 HS1
      have D5 := Aside0.mk (show ES w (w4.alloc (.cells #[.int .i64 k, .int .i64 sym, .int .i64 0, .int .i64 0, .int .i64 0, .int .i64 0, .int .i64 0, .int .i64 0, .int .i64 0] 95)) w4.heap.size g s2 k sym 0 0 0 0 0 0 0 from
        ⟨R4.out.below (below_alloc (Below.refl _ _) _), blk_new w4 _, blk_alloc BX4.out _, by have := HS4.out; have := HGE.out; omega, by have := HS4.out; omega, by have := HGE.out; omega⟩)
      go_wp2_with fail
      generalize (w4.alloc (.cells #[.int .i64 k, .int .i64 sym, .int .i64 0, .int .i64 0, .int .i64 0, .int .i64 0, .int .i64 0, .int .i64 0, .int .i64 0] 95)) = w5 at *
      generalize hb5 : w4.heap.size = b5 at *
      clear hb5
      have CX := Aside0.mk (D5.out.num)
      replace BY := BY.out
      have idr := Aside0.mk (rNum_range s2 BY)
      replace BY := byt_rNum s2 BY
      replace BY := Aside0.mk BY
      generalize rNum s2 = T at *
      obtain ⟨id, s3⟩ := T
      try dsimp only at *
      refine CX.out.mono ?_
      rintro e w6 ⟨rfl, hd⟩
      have Dw6 := Aside0.mk hd
      clear hd CX
      by_cases h1 : k = 1
      · subst h1
        rw [if_pos rfl] at HG
        obtain ⟨c0, c1, c2, c3, c4, c5, c6, c7, c8⟩ := Dw6.out.bx.cells
        obtain ⟨z0, z1, z2, z3, z4, z5, z6, z7, z8⟩ := Dw6.out.frozen
        go_wp2_with fail
        clear c0 c1 c2 c3 c4 c5 c6 c7 c8 z0 z1 z2 z3 z4 z5 z6 z7 z8
        have CX := Aside0.mk (Dw6.out.num)
        replace BY := BY.out
        have owr := Aside0.mk (rNum_range s3 BY)
        replace BY := byt_rNum s3 BY
        replace BY := Aside0.mk BY
        generalize rNum s3 = T at *
        obtain ⟨ow, s4⟩ := T
        try dsimp only at *
        refine CX.out.mono ?_
        rintro e w7 ⟨rfl, hd⟩
        have Dw7 := Aside0.mk hd
        clear hd CX
        obtain ⟨c0, c1, c2, c3, c4, c5, c6, c7, c8⟩ := Dw7.out.bx.cells
        obtain ⟨z0, z1, z2, z3, z4, z5, z6, z7, z8⟩ := Dw7.out.frozen
        go_wp2_with fail
        clear c0 c1 c2 c3 c4 c5 c6 c7 c8 z0 z1 z2 z3 z4 z5 z6 z7 z8
        have CX := Aside0.mk (Dw7.out.one)
        replace BY := BY.out
        have sdr := Aside0.mk (rUint1_range s4 BY)
        replace BY := byt_rUint s4 1 BY
        replace BY := Aside0.mk BY
        generalize rUint s4 1 = T at *
        obtain ⟨sd, s5⟩ := T
        try dsimp only at *
        refine CX.out.mono ?_
        rintro e w8 ⟨rfl, hd⟩
        have Dw8 := Aside0.mk hd
        clear hd CX
        have Ea := Aside0.mk (Dw8.out.set4 sd)
        obtain ⟨c0, c1, c2, c3, c4, c5, c6, c7, c8⟩ := Dw8.out.bx.cells
        obtain ⟨z0, z1, z2, z3, z4, z5, z6, z7, z8⟩ := Dw8.out.frozen
        obtain ⟨e0, e1, e2, e3, e4, e5, e6, e7, e8⟩ := Ea.out.bx.cells
        go_wp2_with fail
        clear c0 c1 c2 c3 c4 c5 c6 c7 c8 z0 z1 z2 z3 z4 z5 z6 z7 z8
        clear e0 e1 e2 e3 e4 e5 e6 e7 e8
        generalize (w8.setCell ⟨b5, 4, none⟩ (.int .i64 sd)) = Ea_ at *
        have CX := Aside0.mk (Ea.out.one)
        replace BY := BY.out
        have tyr := Aside0.mk (rUint1_range s5 BY)
        replace BY := byt_rUint s5 1 BY
        replace BY := Aside0.mk BY
        generalize rUint s5 1 = T at *
        obtain ⟨ty, s6⟩ := T
        try dsimp only at *
        refine CX.out.mono ?_
        rintro e w9 ⟨rfl, hd⟩
        have Dw9 := Aside0.mk hd
        clear hd CX
        have Eb := Aside0.mk (Dw9.out.set5 ty)
        obtain ⟨c0, c1, c2, c3, c4, c5, c6, c7, c8⟩ := Dw9.out.bx.cells
        obtain ⟨z0, z1, z2, z3, z4, z5, z6, z7, z8⟩ := Dw9.out.frozen
        obtain ⟨e0, e1, e2, e3, e4, e5, e6, e7, e8⟩ := Eb.out.bx.cells
        go_wp2_with fail
        clear c0 c1 c2 c3 c4 c5 c6 c7 c8 z0 z1 z2 z3 z4 z5 z6 z7 z8
        clear e0 e1 e2 e3 e4 e5 e6 e7 e8
        generalize (w9.setCell ⟨b5, 5, none⟩ (.int .i64 ty)) = Eb_ at *
        have CX := Aside0.mk (Eb.out.one)
        replace BY := BY.out
        have flr := Aside0.mk (rUint1_range s6 BY)
        replace BY := byt_rUint s6 1 BY
        replace BY := Aside0.mk BY
        generalize rUint s6 1 = T at *
        obtain ⟨fl, s7⟩ := T
        try dsimp only at *
        refine CX.out.mono ?_
        rintro e w10 ⟨rfl, hd⟩
        have Dw10 := Aside0.mk hd
        clear hd CX
        unfold refMid at HG
        rw [if_neg (by decide)] at HG
        have Ec := Aside0.mk (Dw10.out.set8 fl)
        obtain ⟨c0, c1, c2, c3, c4, c5, c6, c7, c8⟩ := Dw10.out.bx.cells
        obtain ⟨z0, z1, z2, z3, z4, z5, z6, z7, z8⟩ := Dw10.out.frozen
        obtain ⟨e0, e1, e2, e3, e4, e5, e6, e7, e8⟩ := Ec.out.bx.cells
        go_wp2_with fail
        clear c0 c1 c2 c3 c4 c5 c6 c7 c8 z0 z1 z2 z3 z4 z5 z6 z7 z8
        clear e0 e1 e2 e3 e4 e5 e6 e7 e8
        generalize (w10.setCell ⟨b5, 8, none⟩ (.int .i64 fl)) = Ec_ at *
        have CX := Aside0.mk (Ec.out.int)
        replace BY := BY.out
        replace BY := byt_rUint s7 8 BY
        replace BY := Aside0.mk BY
        generalize rUint s7 8 = T at *
        obtain ⟨pr, s8⟩ := T
        try dsimp only at *
        refine CX.out.mono ?_
        rintro e w11 ⟨rfl, hd⟩
        have Dw11 := Aside0.mk hd
        clear hd CX
        generalize unzig pr = pz at *
        have Ed := Aside0.mk (Dw11.out.set6 pz)
        obtain ⟨c0, c1, c2, c3, c4, c5, c6, c7, c8⟩ := Dw11.out.bx.cells
        obtain ⟨z0, z1, z2, z3, z4, z5, z6, z7, z8⟩ := Dw11.out.frozen
        obtain ⟨e0, e1, e2, e3, e4, e5, e6, e7, e8⟩ := Ed.out.bx.cells
        go_wp2_with fail
        clear c0 c1 c2 c3 c4 c5 c6 c7 c8 z0 z1 z2 z3 z4 z5 z6 z7 z8
        clear e0 e1 e2 e3 e4 e5 e6 e7 e8
        generalize (w11.setCell ⟨b5, 6, none⟩ (.int .i64 pz)) = Ed_ at *
        have CX := Aside0.mk (Ed.out.int)
        replace BY := BY.out
        replace BY := byt_rUint s8 8 BY
        replace BY := Aside0.mk BY
        generalize rUint s8 8 = T at *
        obtain ⟨qt, s9⟩ := T
        try dsimp only at *
        refine CX.out.mono ?_
        rintro e w12 ⟨rfl, hd⟩
        have Dw12 := Aside0.mk hd
        clear hd CX
        generalize unzig qt = qz at *
        have DB := Aside0.mk (Dw12.out.set7 qz)
        obtain ⟨c0, c1, c2, c3, c4, c5, c6, c7, c8⟩ := Dw12.out.bx.cells
        obtain ⟨z0, z1, z2, z3, z4, z5, z6, z7, z8⟩ := Dw12.out.frozen
        obtain ⟨e0, e1, e2, e3, e4, e5, e6, e7, e8⟩ := DB.out.bx.cells
        obtain ⟨ls, fs⟩ := s9
        obtain ⟨l, A, c, hb, hlc, hC, hby, hll0, hls⟩ := DB.out.rr.ex
        dsimp only at hb hls
        have g0 := (blk_cell hb 0).trans rfl
        have g1 := (blk_cell hb 1).trans rfl
        have HLS := Aside0.mk hls
        have HGB := Aside0.mk hb
        clear hb hlc hC hby hll0 hls
        unfold refFin at HG
        try dsimp only at HG
        obtain ⟨c0, c1, c2, c3, c4, c5, c6, c7, c8⟩ := DB.out.bx.cells
        obtain ⟨z0, z1, z2, z3, z4, z5, z6, z7, z8⟩ := DB.out.frozen
        obtain ⟨r0, r1, r2, r3, r4, r5, r6, r7, r8⟩ := DB.out.zx.cells
        obtain ⟨y0, y1, y2, y3, y4, y5, y6, y7, y8⟩ := DB.out.zfrozen
        by_cases hf : fs = 0
        · subst hf
          rw [if_neg (by decide)] at HG
          obtain rfl := HLS.out rfl
          obtain ⟨lm, hlm⟩ : ∃ m : Int, (l.length : Int) = m := ⟨_, rfl⟩
          have HLM := Aside0.mk hlm
          by_cases hi : 4611686018427387904 < id
          · rw [if_pos (by have := HLM.out; omega)] at HG
            obtain ⟨hres, hbel⟩ := DB.out.res 0 0 0 0 0 0 0 0 0
            have HRES := Aside0.mk hres
            have HBEL := Aside0.mk hbel
            clear hres hbel
            obtain rfl := HG.out
            go_wp2
            exact bodyPost_ret (results_ct (fn := Try.f73) (p := 2) (u := 3) (ty := 95) rfl _ _ w.heap.size 95 #[.int .i64 0, .int .i64 0, .int .i64 0, .int .i64 0, .int .i64 0, .int .i64 0, .int .i64 0, .int .i64 0, .int .i64 0] (0, 0) _ rfl HRES.out Try.underlying95 rfl (by kernel_rfl)) rfl ⟨rfl, HBEL.out⟩
          · by_cases ho : 1073741824 < ow
            · rw [if_pos (by have := HLM.out; omega)] at HG
              obtain ⟨hres, hbel⟩ := DB.out.res 0 0 0 0 0 0 0 0 0
              have HRES := Aside0.mk hres
              have HBEL := Aside0.mk hbel
              clear hres hbel
              obtain rfl := HG.out
              go_wp2
              exact bodyPost_ret (results_ct (fn := Try.f73) (p := 2) (u := 3) (ty := 95) rfl _ _ w.heap.size 95 #[.int .i64 0, .int .i64 0, .int .i64 0, .int .i64 0, .int .i64 0, .int .i64 0, .int .i64 0, .int .i64 0, .int .i64 0] (0, 0) _ rfl HRES.out Try.underlying95 rfl (by kernel_rfl)) rfl ⟨rfl, HBEL.out⟩
            · by_cases hl : 0 < lm
              · rw [if_pos (by have := HLM.out; omega)] at HG
                obtain ⟨hres, hbel⟩ := DB.out.res 0 0 0 0 0 0 0 0 0
                have HRES := Aside0.mk hres
                have HBEL := Aside0.mk hbel
                clear hres hbel
                obtain rfl := HG.out
                go_wp2
                exact bodyPost_ret (results_ct (fn := Try.f73) (p := 2) (u := 3) (ty := 95) rfl _ _ w.heap.size 95 #[.int .i64 0, .int .i64 0, .int .i64 0, .int .i64 0, .int .i64 0, .int .i64 0, .int .i64 0, .int .i64 0, .int .i64 0] (0, 0) _ rfl HRES.out Try.underlying95 rfl (by kernel_rfl)) rfl ⟨rfl, HBEL.out⟩
              · rw [if_neg (by have := HLM.out; omega)] at HG
                have hl0 : lm ≤ 0 := by omega
                have i0 := idr.out.1
                have o0 := owr.out.1
                have DN := Aside0.mk ((DB.out.set2 id).set3 ow)
                obtain ⟨e0, e1, e2, e3, e4, e5, e6, e7, e8⟩ := DN.out.bx.cells
                go_wp2_with fail
                clear c0 c1 c2 c3 c4 c5 c6 c7 c8 z0 z1 z2 z3 z4 z5 z6 z7 z8
                clear e0 e1 e2 e3 e4 e5 e6 e7 e8
                clear r0 r1 r2 r3 r4 r5 r6 r7 r8 y0 y1 y2 y3 y4 y5 y6 y7 y8
                clear g0 g1
                generalize (((w12.setCell ⟨b5, 7, none⟩ (.int .i64 qz)).setCell ⟨b5, 2, none⟩ (.int .i64 id)).setCell ⟨b5, 3, none⟩ (.int .i64 ow)) = wn at *
                refine (refRight_calls ⟨1, sym, id, ow, sd, ty, pz, qz, fl⟩ wn).mono ?_
                rintro e wr ⟨rfl, hbr⟩
                have DR := Aside0.mk (DN.out.below (Below.mono hbr (Nat.le_refl _)))
                clear hbr
                obtain ⟨c0, c1, c2, c3, c4, c5, c6, c7, c8⟩ := DR.out.bx.cells
                obtain ⟨z0, z1, z2, z3, z4, z5, z6, z7, z8⟩ := DR.out.frozen
                obtain ⟨r0, r1, r2, r3, r4, r5, r6, r7, r8⟩ := DR.out.zx.cells
                obtain ⟨y0, y1, y2, y3, y4, y5, y6, y7, y8⟩ := DR.out.zfrozen
                cases hr : cmdRight ⟨1, sym, id, ow, sd, ty, pz, qz, fl⟩ with
                | false =>
                  rw [if_pos hr] at HG
                  obtain ⟨hres, hbel⟩ := DR.out.res 0 0 0 0 0 0 0 0 0
                  have HRES := Aside0.mk hres
                  have HBEL := Aside0.mk hbel
                  clear hres hbel
                  obtain rfl := HG.out
                  go_wp2
                  exact bodyPost_ret (results_ct (fn := Try.f73) (p := 2) (u := 3) (ty := 95) rfl _ _ w.heap.size 95 #[.int .i64 0, .int .i64 0, .int .i64 0, .int .i64 0, .int .i64 0, .int .i64 0, .int .i64 0, .int .i64 0, .int .i64 0] (0, 0) _ rfl HRES.out Try.underlying95 rfl (by kernel_rfl)) rfl ⟨rfl, HBEL.out⟩
                | true =>
                  rw [if_neg (by rw [hr]; decide)] at HG
                  obtain ⟨hres, hbel⟩ := DR.out.res (1) (sym) (id) (ow) (sd) (ty) (pz) (qz) (fl)
                  have HRES := Aside0.mk hres
                  have HBEL := Aside0.mk hbel
                  clear hres hbel
                  obtain rfl := HG.out
                  go_wp2
                  exact bodyPost_ret (results_ct (fn := Try.f73) (p := 2) (u := 3) (ty := 95) rfl _ _ w.heap.size 95 #[.int .i64 1, .int .i64 sym, .int .i64 id, .int .i64 ow, .int .i64 sd, .int .i64 ty, .int .i64 pz, .int .i64 qz, .int .i64 fl] (0, 0) _ rfl HRES.out Try.underlying95 rfl (by kernel_rfl)) rfl ⟨rfl, HBEL.out⟩
        · rw [if_pos (by simpa using hf)] at HG
          have hff : (fs != 0) = true := by simpa using hf
          clear hf
          obtain ⟨hres, hbel⟩ := DB.out.res 0 0 0 0 0 0 0 0 0
          have HRES := Aside0.mk (ES.bdrew hres)
          have HBEL := Aside0.mk hbel
          clear hres hbel
          obtain rfl := HG.out
          have gx := (blk_cell (ES.far DB.out HGB.out) 1).trans rfl
          have hz1 := DB.out.hz
          go_wp2
          go_region
          go_wp2
          exact bodyPost_ret (results_ct (fn := Try.f73) (p := 2) (u := 3) (ty := 95) rfl _ _ w.heap.size 95 #[.int .i64 0, .int .i64 0, .int .i64 0, .int .i64 0, .int .i64 0, .int .i64 0, .int .i64 0, .int .i64 0, .int .i64 0] (0, 0) _ rfl HRES.out Try.underlying95 rfl (by kernel_rfl)) rfl ⟨rfl, HBEL.out.drew⟩
      · rw [if_neg h1] at HG
        have h1b : (k == 1) = false := by simpa using h1
        clear h1
        unfold refMid at HG
        by_cases h2 : k = 2
        · subst h2
          rw [if_pos rfl] at HG
          clear h1b
          obtain ⟨ls, fs⟩ := s3
          obtain ⟨l, A, c, hb, hlc, hC, hby, hll0, hls⟩ := Dw6.out.rr.ex
          dsimp only at hb hls
          have g0 := (blk_cell hb 0).trans rfl
          have g1 := (blk_cell hb 1).trans rfl
          have HLS := Aside0.mk hls
          have HGB := Aside0.mk hb
          clear hb hlc hC hby hll0 hls
          unfold refFin at HG
          try dsimp only at HG
          obtain ⟨c0, c1, c2, c3, c4, c5, c6, c7, c8⟩ := Dw6.out.bx.cells
          obtain ⟨z0, z1, z2, z3, z4, z5, z6, z7, z8⟩ := Dw6.out.frozen
          obtain ⟨r0, r1, r2, r3, r4, r5, r6, r7, r8⟩ := Dw6.out.zx.cells
          obtain ⟨y0, y1, y2, y3, y4, y5, y6, y7, y8⟩ := Dw6.out.zfrozen
          by_cases hf : fs = 0
          · subst hf
            rw [if_neg (by decide)] at HG
            obtain rfl := HLS.out rfl
            obtain ⟨lm, hlm⟩ : ∃ m : Int, (l.length : Int) = m := ⟨_, rfl⟩
            have HLM := Aside0.mk hlm
            by_cases hi : 4611686018427387904 < id
            · rw [if_pos (by have := HLM.out; omega)] at HG
              obtain ⟨hres, hbel⟩ := Dw6.out.res 0 0 0 0 0 0 0 0 0
              have HRES := Aside0.mk hres
              have HBEL := Aside0.mk hbel
              clear hres hbel
              obtain rfl := HG.out
              go_wp2
              exact bodyPost_ret (results_ct (fn := Try.f73) (p := 2) (u := 3) (ty := 95) rfl _ _ w.heap.size 95 #[.int .i64 0, .int .i64 0, .int .i64 0, .int .i64 0, .int .i64 0, .int .i64 0, .int .i64 0, .int .i64 0, .int .i64 0] (0, 0) _ rfl HRES.out Try.underlying95 rfl (by kernel_rfl)) rfl ⟨rfl, HBEL.out⟩
            · by_cases hl : 0 < lm
              · rw [if_pos (by have := HLM.out; omega)] at HG
                obtain ⟨hres, hbel⟩ := Dw6.out.res 0 0 0 0 0 0 0 0 0
                have HRES := Aside0.mk hres
                have HBEL := Aside0.mk hbel
                clear hres hbel
                obtain rfl := HG.out
                go_wp2
                exact bodyPost_ret (results_ct (fn := Try.f73) (p := 2) (u := 3) (ty := 95) rfl _ _ w.heap.size 95 #[.int .i64 0, .int .i64 0, .int .i64 0, .int .i64 0, .int .i64 0, .int .i64 0, .int .i64 0, .int .i64 0, .int .i64 0] (0, 0) _ rfl HRES.out Try.underlying95 rfl (by kernel_rfl)) rfl ⟨rfl, HBEL.out⟩
              · rw [if_neg (by have := HLM.out; omega)] at HG
                have hl0 : lm ≤ 0 := by omega
                have i0 := idr.out.1
                have DN := Aside0.mk ((Dw6.out.set2 id).set3 0)
                obtain ⟨e0, e1, e2, e3, e4, e5, e6, e7, e8⟩ := DN.out.bx.cells
                go_wp2_with fail
                clear c0 c1 c2 c3 c4 c5 c6 c7 c8 z0 z1 z2 z3 z4 z5 z6 z7 z8
                clear e0 e1 e2 e3 e4 e5 e6 e7 e8
                clear r0 r1 r2 r3 r4 r5 r6 r7 r8 y0 y1 y2 y3 y4 y5 y6 y7 y8
                clear g0 g1
                generalize ((w6.setCell ⟨b5, 2, none⟩ (.int .i64 id)).setCell ⟨b5, 3, none⟩ (.int .i64 0)) = wn at *
                refine (refRight_calls ⟨2, sym, id, 0, 0, 0, 0, 0, 0⟩ wn).mono ?_
                rintro e wr ⟨rfl, hbr⟩
                have DR := Aside0.mk (DN.out.below (Below.mono hbr (Nat.le_refl _)))
                clear hbr
                obtain ⟨c0, c1, c2, c3, c4, c5, c6, c7, c8⟩ := DR.out.bx.cells
                obtain ⟨z0, z1, z2, z3, z4, z5, z6, z7, z8⟩ := DR.out.frozen
                obtain ⟨r0, r1, r2, r3, r4, r5, r6, r7, r8⟩ := DR.out.zx.cells
                obtain ⟨y0, y1, y2, y3, y4, y5, y6, y7, y8⟩ := DR.out.zfrozen
                cases hr : cmdRight ⟨2, sym, id, 0, 0, 0, 0, 0, 0⟩ with
                | false =>
                  rw [if_pos hr] at HG
                  obtain ⟨hres, hbel⟩ := DR.out.res 0 0 0 0 0 0 0 0 0
                  have HRES := Aside0.mk hres
                  have HBEL := Aside0.mk hbel
                  clear hres hbel
                  obtain rfl := HG.out
                  go_wp2
                  exact bodyPost_ret (results_ct (fn := Try.f73) (p := 2) (u := 3) (ty := 95) rfl _ _ w.heap.size 95 #[.int .i64 0, .int .i64 0, .int .i64 0, .int .i64 0, .int .i64 0, .int .i64 0, .int .i64 0, .int .i64 0, .int .i64 0] (0, 0) _ rfl HRES.out Try.underlying95 rfl (by kernel_rfl)) rfl ⟨rfl, HBEL.out⟩
                | true =>
                  rw [if_neg (by rw [hr]; decide)] at HG
                  obtain ⟨hres, hbel⟩ := DR.out.res (2) (sym) (id) (0) (0) (0) (0) (0) (0)
                  have HRES := Aside0.mk hres
                  have HBEL := Aside0.mk hbel
                  clear hres hbel
                  obtain rfl := HG.out
                  go_wp2
                  exact bodyPost_ret (results_ct (fn := Try.f73) (p := 2) (u := 3) (ty := 95) rfl _ _ w.heap.size 95 #[.int .i64 2, .int .i64 sym, .int .i64 id, .int .i64 0, .int .i64 0, .int .i64 0, .int .i64 0, .int .i64 0, .int .i64 0] (0, 0) _ rfl HRES.out Try.underlying95 rfl (by kernel_rfl)) rfl ⟨rfl, HBEL.out⟩
          · rw [if_pos (by simpa using hf)] at HG
            have hff : (fs != 0) = true := by simpa using hf
            clear hf
            obtain ⟨hres, hbel⟩ := Dw6.out.res 0 0 0 0 0 0 0 0 0
            have HRES := Aside0.mk (ES.bdrew hres)
            have HBEL := Aside0.mk hbel
            clear hres hbel
            obtain rfl := HG.out
            have gx := (blk_cell (ES.far Dw6.out HGB.out) 1).trans rfl
            have hz1 := Dw6.out.hz
            go_wp2
            go_region
            go_wp2
            exact bodyPost_ret (results_ct (fn := Try.f73) (p := 2) (u := 3) (ty := 95) rfl _ _ w.heap.size 95 #[.int .i64 0, .int .i64 0, .int .i64 0, .int .i64 0, .int .i64 0, .int .i64 0, .int .i64 0, .int .i64 0, .int .i64 0] (0, 0) _ rfl HRES.out Try.underlying95 rfl (by kernel_rfl)) rfl ⟨rfl, HBEL.out.drew⟩
        · rw [if_neg h2] at HG
          have h2b : (k != 2) = true := by simpa using h2
          clear h2
          obtain ⟨c0, c1, c2, c3, c4, c5, c6, c7, c8⟩ := Dw6.out.bx.cells
          obtain ⟨z0, z1, z2, z3, z4, z5, z6, z7, z8⟩ := Dw6.out.frozen
          go_wp2_with fail
          clear c0 c1 c2 c3 c4 c5 c6 c7 c8 z0 z1 z2 z3 z4 z5 z6 z7 z8
          have CX := Aside0.mk (Dw6.out.int)
          replace BY := BY.out
          replace BY := byt_rUint s3 8 BY
          replace BY := Aside0.mk BY
          generalize rUint s3 8 = T at *
          obtain ⟨pr, s8⟩ := T
          try dsimp only at *
          refine CX.out.mono ?_
          rintro e w11 ⟨rfl, hd⟩
          have Dw11 := Aside0.mk hd
          clear hd CX
          generalize unzig pr = pz at *
          have Ed := Aside0.mk (Dw11.out.set6 pz)
          obtain ⟨c0, c1, c2, c3, c4, c5, c6, c7, c8⟩ := Dw11.out.bx.cells
          obtain ⟨z0, z1, z2, z3, z4, z5, z6, z7, z8⟩ := Dw11.out.frozen
          obtain ⟨e0, e1, e2, e3, e4, e5, e6, e7, e8⟩ := Ed.out.bx.cells
          go_wp2_with fail
          clear c0 c1 c2 c3 c4 c5 c6 c7 c8 z0 z1 z2 z3 z4 z5 z6 z7 z8
          clear e0 e1 e2 e3 e4 e5 e6 e7 e8
          generalize (w11.setCell ⟨b5, 6, none⟩ (.int .i64 pz)) = Ed_ at *
          have CX := Aside0.mk (Ed.out.int)
          replace BY := BY.out
          replace BY := byt_rUint s8 8 BY
          replace BY := Aside0.mk BY
          generalize rUint s8 8 = T at *
          obtain ⟨qt, s9⟩ := T
          try dsimp only at *
          refine CX.out.mono ?_
          rintro e w12 ⟨rfl, hd⟩
          have Dw12 := Aside0.mk hd
          clear hd CX
          generalize unzig qt = qz at *
          have DB := Aside0.mk (Dw12.out.set7 qz)
          obtain ⟨c0, c1, c2, c3, c4, c5, c6, c7, c8⟩ := Dw12.out.bx.cells
          obtain ⟨z0, z1, z2, z3, z4, z5, z6, z7, z8⟩ := Dw12.out.frozen
          obtain ⟨e0, e1, e2, e3, e4, e5, e6, e7, e8⟩ := DB.out.bx.cells
          obtain ⟨ls, fs⟩ := s9
          obtain ⟨l, A, c, hb, hlc, hC, hby, hll0, hls⟩ := DB.out.rr.ex
          dsimp only at hb hls
          have g0 := (blk_cell hb 0).trans rfl
          have g1 := (blk_cell hb 1).trans rfl
          have HLS := Aside0.mk hls
          have HGB := Aside0.mk hb
          clear hb hlc hC hby hll0 hls
          unfold refFin at HG
          try dsimp only at HG
          obtain ⟨c0, c1, c2, c3, c4, c5, c6, c7, c8⟩ := DB.out.bx.cells
          obtain ⟨z0, z1, z2, z3, z4, z5, z6, z7, z8⟩ := DB.out.frozen
          obtain ⟨r0, r1, r2, r3, r4, r5, r6, r7, r8⟩ := DB.out.zx.cells
          obtain ⟨y0, y1, y2, y3, y4, y5, y6, y7, y8⟩ := DB.out.zfrozen
          by_cases hf : fs = 0
          · subst hf
            rw [if_neg (by decide)] at HG
            obtain rfl := HLS.out rfl
            obtain ⟨lm, hlm⟩ : ∃ m : Int, (l.length : Int) = m := ⟨_, rfl⟩
            have HLM := Aside0.mk hlm
            by_cases hi : 4611686018427387904 < id
            · rw [if_pos (by have := HLM.out; omega)] at HG
              obtain ⟨hres, hbel⟩ := DB.out.res 0 0 0 0 0 0 0 0 0
              have HRES := Aside0.mk hres
              have HBEL := Aside0.mk hbel
              clear hres hbel
              obtain rfl := HG.out
              go_wp2
              exact bodyPost_ret (results_ct (fn := Try.f73) (p := 2) (u := 3) (ty := 95) rfl _ _ w.heap.size 95 #[.int .i64 0, .int .i64 0, .int .i64 0, .int .i64 0, .int .i64 0, .int .i64 0, .int .i64 0, .int .i64 0, .int .i64 0] (0, 0) _ rfl HRES.out Try.underlying95 rfl (by kernel_rfl)) rfl ⟨rfl, HBEL.out⟩
            · by_cases hl : 0 < lm
              · rw [if_pos (by have := HLM.out; omega)] at HG
                obtain ⟨hres, hbel⟩ := DB.out.res 0 0 0 0 0 0 0 0 0
                have HRES := Aside0.mk hres
                have HBEL := Aside0.mk hbel
                clear hres hbel
                obtain rfl := HG.out
                go_wp2
                exact bodyPost_ret (results_ct (fn := Try.f73) (p := 2) (u := 3) (ty := 95) rfl _ _ w.heap.size 95 #[.int .i64 0, .int .i64 0, .int .i64 0, .int .i64 0, .int .i64 0, .int .i64 0, .int .i64 0, .int .i64 0, .int .i64 0] (0, 0) _ rfl HRES.out Try.underlying95 rfl (by kernel_rfl)) rfl ⟨rfl, HBEL.out⟩
              · rw [if_neg (by have := HLM.out; omega)] at HG
                have hl0 : lm ≤ 0 := by omega
                have i0 := idr.out.1
                have DN := Aside0.mk ((DB.out.set2 id).set3 0)
                obtain ⟨e0, e1, e2, e3, e4, e5, e6, e7, e8⟩ := DN.out.bx.cells
                go_wp2_with fail
                clear c0 c1 c2 c3 c4 c5 c6 c7 c8 z0 z1 z2 z3 z4 z5 z6 z7 z8
                clear e0 e1 e2 e3 e4 e5 e6 e7 e8
                clear r0 r1 r2 r3 r4 r5 r6 r7 r8 y0 y1 y2 y3 y4 y5 y6 y7 y8
                clear g0 g1
                generalize (((w12.setCell ⟨b5, 7, none⟩ (.int .i64 qz)).setCell ⟨b5, 2, none⟩ (.int .i64 id)).setCell ⟨b5, 3, none⟩ (.int .i64 0)) = wn at *
                refine (refRight_calls ⟨k, sym, id, 0, 0, 0, pz, qz, 0⟩ wn).mono ?_
                rintro e wr ⟨rfl, hbr⟩
                have DR := Aside0.mk (DN.out.below (Below.mono hbr (Nat.le_refl _)))
                clear hbr
                obtain ⟨c0, c1, c2, c3, c4, c5, c6, c7, c8⟩ := DR.out.bx.cells
                obtain ⟨z0, z1, z2, z3, z4, z5, z6, z7, z8⟩ := DR.out.frozen
                obtain ⟨r0, r1, r2, r3, r4, r5, r6, r7, r8⟩ := DR.out.zx.cells
                obtain ⟨y0, y1, y2, y3, y4, y5, y6, y7, y8⟩ := DR.out.zfrozen
                cases hr : cmdRight ⟨k, sym, id, 0, 0, 0, pz, qz, 0⟩ with
                | false =>
                  rw [if_pos hr] at HG
                  obtain ⟨hres, hbel⟩ := DR.out.res 0 0 0 0 0 0 0 0 0
                  have HRES := Aside0.mk hres
                  have HBEL := Aside0.mk hbel
                  clear hres hbel
                  obtain rfl := HG.out
                  go_wp2
                  exact bodyPost_ret (results_ct (fn := Try.f73) (p := 2) (u := 3) (ty := 95) rfl _ _ w.heap.size 95 #[.int .i64 0, .int .i64 0, .int .i64 0, .int .i64 0, .int .i64 0, .int .i64 0, .int .i64 0, .int .i64 0, .int .i64 0] (0, 0) _ rfl HRES.out Try.underlying95 rfl (by kernel_rfl)) rfl ⟨rfl, HBEL.out⟩
                | true =>
                  rw [if_neg (by rw [hr]; decide)] at HG
                  obtain ⟨hres, hbel⟩ := DR.out.res (k) (sym) (id) (0) (0) (0) (pz) (qz) (0)
                  have HRES := Aside0.mk hres
                  have HBEL := Aside0.mk hbel
                  clear hres hbel
                  obtain rfl := HG.out
                  go_wp2
                  exact bodyPost_ret (results_ct (fn := Try.f73) (p := 2) (u := 3) (ty := 95) rfl _ _ w.heap.size 95 #[.int .i64 k, .int .i64 sym, .int .i64 id, .int .i64 0, .int .i64 0, .int .i64 0, .int .i64 pz, .int .i64 qz, .int .i64 0] (0, 0) _ rfl HRES.out Try.underlying95 rfl (by kernel_rfl)) rfl ⟨rfl, HBEL.out⟩
          · rw [if_pos (by simpa using hf)] at HG
            have hff : (fs != 0) = true := by simpa using hf
            clear hf
            obtain ⟨hres, hbel⟩ := DB.out.res 0 0 0 0 0 0 0 0 0
            have HRES := Aside0.mk (ES.bdrew hres)
            have HBEL := Aside0.mk hbel
            clear hres hbel
            obtain rfl := HG.out
            have gx := (blk_cell (ES.far DB.out HGB.out) 1).trans rfl
            have hz1 := DB.out.hz
            go_wp2
            go_region
            go_wp2
            exact bodyPost_ret (results_ct (fn := Try.f73) (p := 2) (u := 3) (ty := 95) rfl _ _ w.heap.size 95 #[.int .i64 0, .int .i64 0, .int .i64 0, .int .i64 0, .int .i64 0, .int .i64 0, .int .i64 0, .int .i64 0, .int .i64 0] (0, 0) _ rfl HRES.out Try.underlying95 rfl (by kernel_rfl)) rfl ⟨rfl, HBEL.out.drew⟩
def damperref05_Decode.f (l0 : List Int) : Option (Int × Int × Int × Int × Int × Int × Int × Int × Int × Int) :=
  if bytB l0 = true ∧ l0.length ≤ 140737488355328 then some ((refDec l0).1.f0, (refDec l0).1.f1, (refDec l0).1.f2, (refDec l0).1.f3, (refDec l0).1.f4, (refDec l0).1.f5, (refDec l0).1.f6, (refDec l0).1.f7, (refDec l0).1.f8, (refDec l0).2) else none
theorem damperref05_Decode.calls (A0 : Option Addr) (c0 : Nat) (l0 : List Int) (r1 r2 r3 r4 r5 r6 r7 r8 r9 r10 : Int) (w : World) (hr0 : Kd.C (Kd.int .u8) w A0 l0.length l0) (hc0 : l0.length ≤ c0) (h : damperref05_Decode.f l0 = some (r1, r2, r3, r4, r5, r6, r7, r8, r9, r10)) :
    Calls Try.prog 73 #[.slice A0 l0.length c0] w fun e w' => e = .returned (.tuple #[.agg #[.int .i64 r1, .int .i64 r2, .int .i64 r3, .int .i64 r4, .int .i64 r5, .int .i64 r6, .int .i64 r7, .int .i64 r8, .int .i64 r9], .int .i64 r10]) ∧ Below w.heap.size w w' := by
  unfold damperref05_Decode.f at h
  by_cases hp : bytB l0 = true ∧ l0.length ≤ 140737488355328
  · rw [if_pos hp] at h
    have h := Option.some.inj h
    simp only [Prod.mk.injEq] at h
    obtain ⟨rfl, rfl, rfl, rfl, rfl, rfl, rfl, rfl, rfl, rfl⟩ := h
    exact refDec_calls A0 c0 l0 w hr0 hc0 hp.2 (byt_of hp.1)
  · rw [if_neg hp] at h
    cases h
end Go.Proofs.Ytalpemoodollpaa.P
-- Printed by hookprint.py (the session's own program, over the kit's print.py): checked by Lean like any text.
namespace Go.Proofs.Ytalpemoodollpaa.P
open Go.RowKit Go.Proofs.YtalpemoodollpaaW.PrintWords Go.Proofs.YtalpemoodollpaaW.PrintLast Go.Proofs.YtalpemoodollpaaW.PrintMore
attribute [local go_sem] max2_int min2_int max_two min_two max_three min_three max_four min_four   -- for this text's walks alone
set_option linter.unusedVariables false
set_option linter.unusedSimpArgs false

attribute [local go_sem high] eqA95
/-! ### damperlaw05_CommandDecodes: function 14 -/
def damperlaw05_CommandDecodes.f (l0 : List Int) : Option (Bool) := if (l0.length : Int) > 200 then ((damperlaw05_alive.f).bind fun t550 => (some t550)) else ((command_Decode.f l0).bind fun bt551 => ((damperref05_Decode.f l0).bind fun bt562 => (if (bt551.1 == bt562.1 && (bt551.2.1 == bt562.2.1 && (bt551.2.2.1 == bt562.2.2.1 && (bt551.2.2.2.1 == bt562.2.2.2.1 && (bt551.2.2.2.2.1 == bt562.2.2.2.2.1 && (bt551.2.2.2.2.2.1 == bt562.2.2.2.2.2.1 && (bt551.2.2.2.2.2.2.1 == bt562.2.2.2.2.2.2.1 && (bt551.2.2.2.2.2.2.2.1 == bt562.2.2.2.2.2.2.2.1 && (bt551.2.2.2.2.2.2.2.2.1 == bt562.2.2.2.2.2.2.2.2.1))))))))) = true then (if bt551.2.2.2.2.2.2.2.2.2 = bt562.2.2.2.2.2.2.2.2.2 then ((damperlaw05_alive.f).bind fun t573 => (some t573)) else (some false)) else (some false))))
set_option maxHeartbeats 8000000 in
set_option maxRecDepth 100000 in
theorem damperlaw05_CommandDecodes.calls (A0 : Option Addr) (c0 : Nat) (l0 : List Int) (r : Bool) (w : World) (hr0 : Kd.C (Kd.int .u8) w A0 l0.length l0) (hc0 : l0.length ≤ c0) (h : damperlaw05_CommandDecodes.f l0 = some r) :
    Calls Try.prog 14 #[.slice A0 l0.length c0] w fun e w' => e = .returned (.bool r) ∧ Below w.heap.size w w' := by
  have hu95 := Try.underlying95
  have HR0 := Aside0.mk hr0
  have HC0 := Aside0.mk hc0
  clear hr0 hc0
  have HB := Aside0.mk (Below.refl w.heap.size w)
  have H : (if (l0.length : Int) > 200 then ((damperlaw05_alive.f).bind fun t550 => (some t550)) else ((command_Decode.f l0).bind fun bt551 => ((damperref05_Decode.f l0).bind fun bt562 => (if (bt551.1 == bt562.1 && (bt551.2.1 == bt562.2.1 && (bt551.2.2.1 == bt562.2.2.1 && (bt551.2.2.2.1 == bt562.2.2.2.1 && (bt551.2.2.2.2.1 == bt562.2.2.2.2.1 && (bt551.2.2.2.2.2.1 == bt562.2.2.2.2.2.1 && (bt551.2.2.2.2.2.2.1 == bt562.2.2.2.2.2.2.1 && (bt551.2.2.2.2.2.2.2.1 == bt562.2.2.2.2.2.2.2.1 && (bt551.2.2.2.2.2.2.2.2.1 == bt562.2.2.2.2.2.2.2.2.1))))))))) = true then (if bt551.2.2.2.2.2.2.2.2.2 = bt562.2.2.2.2.2.2.2.2.2 then ((damperlaw05_alive.f).bind fun t573 => (some t573)) else (some false)) else (some false))))) = some r := h
  clear h
  by_cases c2 : (l0.length : Int) > 200
  · rw [if_pos c2] at H
    have c2b0 : decide (200 < (l0.length : Int)) = true := decide_eq_true c2
    have c2b1 : decide (200 < l0.length) = true := decide_eq_true (by omega)
    clear c2
    replace H := Option.bind_eq_some_iff.mp H
    obtain ⟨t550, A30, H⟩ := H
    replace H : (some t550) = some r := H
    have A3 := Aside0.mk A30
    clear A30
    obtain rfl := Option.some.inj H
    go_enter Try.func14, Try.ntmps14
    go_wp2_with (first | ((with_reducible refine gate_callee (f := 71) rfl ?_); refine goesL_ (some 10) rfl rfl Try.func71 (by kernel_rfl) rfl #[] rfl (by (try simp only [List.map_toArray, List.map_cons, List.map_nil]); first | done | rfl | (simp only [List.length_drop, List.length_take]; rfl)) ?_; (with_reducible refine (damperlaw05_alive.calls  t550 _ A3.out).mono ?_); rintro e w4 ⟨rfl, hb⟩; refine ⟨_, rfl, ?_⟩; have n0_ := Aside0.mk (below_step (by repeat (first | (with_reducible first | exact HB.out | apply below_alloc | apply pw_below_drewN | apply below_drew1) | exact HB.out)) hb); clear HB; have HB := n0_; clear n0_; (try clear hb); (try clear hb2); (try clear hk); (try clear hi)))
    go_ret
    exact ⟨by first | rfl | (simp [errW_none, errW_some] <;> rfl) | (simp [*, errW_none, errW_some] <;> rfl), by repeat (first | (with_reducible first | exact HB.out | apply below_alloc | apply pw_below_drewN | apply below_drew1) | exact HB.out)⟩
  · rw [if_neg c2] at H
    have c2b0 : decide (200 < (l0.length : Int)) = false := decide_eq_false c2
    have c2b1 : decide (200 < l0.length) = false := decide_eq_false (by omega)
    clear c2
    replace H := Option.bind_eq_some_iff.mp H
    obtain ⟨⟨t551, t552, t553, t554, t555, t556, t557, t558, t559, t560⟩, A50, H⟩ := H
    replace H : ((damperref05_Decode.f l0).bind fun bt562 => (if (t551 == bt562.1 && (t552 == bt562.2.1 && (t553 == bt562.2.2.1 && (t554 == bt562.2.2.2.1 && (t555 == bt562.2.2.2.2.1 && (t556 == bt562.2.2.2.2.2.1 && (t557 == bt562.2.2.2.2.2.2.1 && (t558 == bt562.2.2.2.2.2.2.2.1 && (t559 == bt562.2.2.2.2.2.2.2.2.1))))))))) = true then (if t560 = bt562.2.2.2.2.2.2.2.2.2 then ((damperlaw05_alive.f).bind fun t573 => (some t573)) else (some false)) else (some false))) = some r := H
    have A5 := Aside0.mk A50
    clear A50
    replace H := Option.bind_eq_some_iff.mp H
    obtain ⟨⟨t562, t563, t564, t565, t566, t567, t568, t569, t570, t571⟩, A60, H⟩ := H
    replace H : (if (t551 == t562 && (t552 == t563 && (t553 == t564 && (t554 == t565 && (t555 == t566 && (t556 == t567 && (t557 == t568 && (t558 == t569 && (t559 == t570))))))))) = true then (if t560 = t571 then ((damperlaw05_alive.f).bind fun t573 => (some t573)) else (some false)) else (some false)) = some r := H
    have A6 := Aside0.mk A60
    clear A60
    by_cases c7 : (t551 == t562 && (t552 == t563 && (t553 == t564 && (t554 == t565 && (t555 == t566 && (t556 == t567 && (t557 == t568 && (t558 == t569 && (t559 == t570))))))))) = true
    · rw [if_pos c7] at H
      have c7b0 : (t551 == t562 && (t552 == t563 && (t553 == t564 && (t554 == t565 && (t555 == t566 && (t556 == t567 && (t557 == t568 && (t558 == t569 && (t559 == t570))))))))) = true := c7
      (try (have c7b1 : decide (t551 = t562 && (t552 == t563 && (t553 == t564 && (t554 == t565 && (t555 == t566 && (t556 == t567 && (t557 == t568 && (t558 == t569 && (t559 == t570))))))))) = true := by simpa using c7))
      (try (have c7b2 : (t551 == t562 && (t552 == t563 && (t553 == t564 && (t554 == t565 && (t555 == t566 && (t556 == t567 && (t557 == t568 && (t558 == t569 && (t559 == t570))))))))) = true := by simpa using c7))
      clear c7
      by_cases c8 : t560 = t571
      · rw [if_pos c8] at H
        have c8b0 : (t560 == t571) = true := beq_iff_eq.mpr c8
        have c8b1 : (t560 != t571) = false := bne_eq_false_iff_eq.mpr c8
        clear c8
        replace H := Option.bind_eq_some_iff.mp H
        obtain ⟨t573, A90, H⟩ := H
        replace H : (some t573) = some r := H
        have A9 := Aside0.mk A90
        clear A90
        obtain rfl := Option.some.inj H
        go_enter Try.func14, Try.ntmps14
        go_wp2_with (first | ((with_reducible refine gate_callee (f := 72) rfl ?_); refine goesL_ (some 13) rfl rfl Try.func72 (by kernel_rfl) rfl #[.slice A0 l0.length c0] rfl (by (try simp only [List.map_toArray, List.map_cons, List.map_nil]); first | done | rfl | (simp only [List.length_drop, List.length_take]; rfl)) ?_; (with_reducible refine (command_Decode.calls _ _ l0 t551 t552 t553 t554 t555 t556 t557 t558 t559 t560 _ ?side1 ?side2 A5.out).mono ?_); (case side1 => repeat (first | exact HR0.out | (with_reducible refine Kd.C_alloc ?_ _) | (with_reducible refine Kd.C_drewN ?_ _) | (with_reducible refine Kd.C_drew ?_))); (case side2 => exact HC0.out); rintro e w10 ⟨rfl, hb⟩; refine ⟨_, rfl, ?_⟩; have n0_ := Aside0.mk (below_step (by repeat (first | (with_reducible first | exact HB.out | apply below_alloc | apply pw_below_drewN | apply below_drew1) | exact HB.out)) hb); clear HB; have HB := n0_; clear n0_; (try clear hb); (try clear hb2); (try clear hk); (try clear hi)) | ((with_reducible refine gate_dst (N := 3) rfl ?_); refine box_event ?hg (N := 3) ?hd (cs := #[.int .i64 0, .int .i64 0, .int .i64 0, .int .i64 0, .int .i64 0, .int .i64 0, .int .i64 0, .int .i64 0, .int .i64 0]) (t := 95) ?hr ?_; (case hd => rfl); (case hg => rfl); (case hr => first | (go_simp; done) | (go_simp; rfl)); intro gb561 hg w11 hbox hb; have n0_ := Aside0.mk (below_step (by repeat (first | (with_reducible first | exact HB.out | apply below_alloc | apply pw_below_drewN | apply below_drew1) | exact HB.out)) hb); have n1_ := Aside0.mk (hbox); have n2_ := Aside0.mk ((by rw [hg]; exact (below_size (by repeat (first | (with_reducible first | exact HB.out | apply below_alloc | apply pw_below_drewN | apply below_drew1) | exact HB.out))) : w.heap.size ≤ gb561)); have n3_ := Aside0.mk ((by rw [hg]; exact (below_size (by repeat (first | (with_reducible first | exact HB.out | apply below_alloc | apply pw_below_drewN | apply below_drew1) | exact HB.out))) : w.heap.size ≤ gb561)); clear HB; have HB := n0_; have BK561 := n1_; have GW561 := n2_; have GE561 := n3_; clear n0_ n1_ n2_ n3_; clear hb hbox hg; have hcz12_0 : w11.cell? ⟨gb561, 0, none⟩ = some (.int .i64 0) := (blk_cell BK561.out 0).trans rfl; have hcz12_1 : w11.cell? ⟨gb561, 1, none⟩ = some (.int .i64 0) := (blk_cell BK561.out 1).trans rfl; have hcz12_2 : w11.cell? ⟨gb561, 2, none⟩ = some (.int .i64 0) := (blk_cell BK561.out 2).trans rfl; have hcz12_3 : w11.cell? ⟨gb561, 3, none⟩ = some (.int .i64 0) := (blk_cell BK561.out 3).trans rfl; have hcz12_4 : w11.cell? ⟨gb561, 4, none⟩ = some (.int .i64 0) := (blk_cell BK561.out 4).trans rfl; have hcz12_5 : w11.cell? ⟨gb561, 5, none⟩ = some (.int .i64 0) := (blk_cell BK561.out 5).trans rfl; have hcz12_6 : w11.cell? ⟨gb561, 6, none⟩ = some (.int .i64 0) := (blk_cell BK561.out 6).trans rfl; have hcz12_7 : w11.cell? ⟨gb561, 7, none⟩ = some (.int .i64 0) := (blk_cell BK561.out 7).trans rfl; have hcz12_8 : w11.cell? ⟨gb561, 8, none⟩ = some (.int .i64 0) := (blk_cell BK561.out 8).trans rfl; have hfz12_0 := blk_frozen BK561.out 0; have hfz12_1 := blk_frozen BK561.out 1; have hfz12_2 := blk_frozen BK561.out 2; have hfz12_3 := blk_frozen BK561.out 3; have hfz12_4 := blk_frozen BK561.out 4; have hfz12_5 := blk_frozen BK561.out 5; have hfz12_6 := blk_frozen BK561.out 6; have hfz12_7 := blk_frozen BK561.out 7; have hfz12_8 := blk_frozen BK561.out 8) | ((with_reducible refine gate_callee (f := 73) rfl ?_); refine goesL_ (some 18) rfl rfl Try.func73 (by kernel_rfl) rfl #[.slice A0 l0.length c0] rfl (by (try simp only [List.map_toArray, List.map_cons, List.map_nil]); first | done | rfl | (simp only [List.length_drop, List.length_take]; rfl)) ?_; (with_reducible refine (damperref05_Decode.calls _ _ l0 t562 t563 t564 t565 t566 t567 t568 t569 t570 t571 _ ?side1 ?side2 A6.out).mono ?_); (case side1 => exact Kd.C_below HR0.out (by repeat (first | (with_reducible first | exact HB.out | apply below_alloc | apply pw_below_drewN | apply below_drew1 | refine below_set ?_ GE561.out) | exact HB.out))); (case side2 => exact HC0.out); rintro e w13 ⟨rfl, hb⟩; refine ⟨_, rfl, ?_⟩; have n0_ := Aside0.mk (blk_below (g := gb561) (o := .cells #[.int .i64 t551, .int .i64 t552, .int .i64 t553, .int .i64 t554, .int .i64 t555, .int .i64 t556, .int .i64 t557, .int .i64 t558, .int .i64 t559] 95 (0, 0)) (by (with_reducible repeat (first | refine blk_drewN ?_ _ | refine blk_drew ?_ | refine blk_alloc ?_ _)); refine blk_put (cs := #[.int .i64 t551, .int .i64 t552, .int .i64 t553, .int .i64 t554, .int .i64 t555, .int .i64 t556, .int .i64 t557, .int .i64 t558, .int .i64 0]) ?_ 8 _ rfl; (with_reducible repeat (first | refine blk_drewN ?_ _ | refine blk_drew ?_ | refine blk_alloc ?_ _)); refine blk_put (cs := #[.int .i64 t551, .int .i64 t552, .int .i64 t553, .int .i64 t554, .int .i64 t555, .int .i64 t556, .int .i64 t557, .int .i64 0, .int .i64 0]) ?_ 7 _ rfl; (with_reducible repeat (first | refine blk_drewN ?_ _ | refine blk_drew ?_ | refine blk_alloc ?_ _)); refine blk_put (cs := #[.int .i64 t551, .int .i64 t552, .int .i64 t553, .int .i64 t554, .int .i64 t555, .int .i64 t556, .int .i64 0, .int .i64 0, .int .i64 0]) ?_ 6 _ rfl; (with_reducible repeat (first | refine blk_drewN ?_ _ | refine blk_drew ?_ | refine blk_alloc ?_ _)); refine blk_put (cs := #[.int .i64 t551, .int .i64 t552, .int .i64 t553, .int .i64 t554, .int .i64 t555, .int .i64 0, .int .i64 0, .int .i64 0, .int .i64 0]) ?_ 5 _ rfl; (with_reducible repeat (first | refine blk_drewN ?_ _ | refine blk_drew ?_ | refine blk_alloc ?_ _)); refine blk_put (cs := #[.int .i64 t551, .int .i64 t552, .int .i64 t553, .int .i64 t554, .int .i64 0, .int .i64 0, .int .i64 0, .int .i64 0, .int .i64 0]) ?_ 4 _ rfl; (with_reducible repeat (first | refine blk_drewN ?_ _ | refine blk_drew ?_ | refine blk_alloc ?_ _)); refine blk_put (cs := #[.int .i64 t551, .int .i64 t552, .int .i64 t553, .int .i64 0, .int .i64 0, .int .i64 0, .int .i64 0, .int .i64 0, .int .i64 0]) ?_ 3 _ rfl; (with_reducible repeat (first | refine blk_drewN ?_ _ | refine blk_drew ?_ | refine blk_alloc ?_ _)); refine blk_put (cs := #[.int .i64 t551, .int .i64 t552, .int .i64 0, .int .i64 0, .int .i64 0, .int .i64 0, .int .i64 0, .int .i64 0, .int .i64 0]) ?_ 2 _ rfl; (with_reducible repeat (first | refine blk_drewN ?_ _ | refine blk_drew ?_ | refine blk_alloc ?_ _)); refine blk_put (cs := #[.int .i64 t551, .int .i64 0, .int .i64 0, .int .i64 0, .int .i64 0, .int .i64 0, .int .i64 0, .int .i64 0, .int .i64 0]) ?_ 1 _ rfl; (with_reducible repeat (first | refine blk_drewN ?_ _ | refine blk_drew ?_ | refine blk_alloc ?_ _)); refine blk_put (cs := #[.int .i64 0, .int .i64 0, .int .i64 0, .int .i64 0, .int .i64 0, .int .i64 0, .int .i64 0, .int .i64 0, .int .i64 0]) ?_ 0 _ rfl; (with_reducible repeat (first | refine blk_drewN ?_ _ | refine blk_drew ?_ | refine blk_alloc ?_ _)); exact BK561.out) hb); have n1_ := Aside0.mk (below_step (by repeat (first | (with_reducible first | exact HB.out | apply below_alloc | apply pw_below_drewN | apply below_drew1 | refine below_set ?_ GE561.out) | exact HB.out)) hb); clear BK561; clear HB; have BK561 := n0_; have HB := n1_; clear n0_ n1_; (try clear hb); (try clear hb2); (try clear hk); (try clear hi)) | ((with_reducible refine gate_dst (N := 5) rfl ?_); refine box_event ?hg (N := 5) ?hd (cs := #[.int .i64 0, .int .i64 0, .int .i64 0, .int .i64 0, .int .i64 0, .int .i64 0, .int .i64 0, .int .i64 0, .int .i64 0]) (t := 95) ?hr ?_; (case hd => rfl); (case hg => rfl); (case hr => first | (go_simp; done) | (go_simp; rfl)); intro gb572 hg w14 hbox hb; have n0_ := Aside0.mk (blk_below (g := gb561) (o := .cells #[.int .i64 t551, .int .i64 t552, .int .i64 t553, .int .i64 t554, .int .i64 t555, .int .i64 t556, .int .i64 t557, .int .i64 t558, .int .i64 t559] 95 (0, 0)) (by (with_reducible repeat (first | refine blk_drewN ?_ _ | refine blk_drew ?_ | refine blk_alloc ?_ _)); exact BK561.out) hb); have n1_ := Aside0.mk (below_step (by repeat (first | (with_reducible first | exact HB.out | apply below_alloc | apply pw_below_drewN | apply below_drew1 | refine below_set ?_ GE561.out) | exact HB.out)) hb); have n2_ := Aside0.mk (hbox); have n3_ := Aside0.mk ((by rw [hg]; exact (below_size (by repeat (first | (with_reducible first | exact HB.out | apply below_alloc | apply pw_below_drewN | apply below_drew1 | refine below_set ?_ GE561.out) | exact HB.out))) : w.heap.size ≤ gb572)); have n4_ := Aside0.mk ((by rw [hg]; exact (below_size (by repeat (first | (with_reducible first | exact HB.out | apply below_alloc | apply pw_below_drewN | apply below_drew1 | refine below_set ?_ GE561.out) | exact HB.out))) : w.heap.size ≤ gb572)); have n5_ := Aside0.mk ((by rw [hg]; exact Nat.ne_of_lt (blk_lt (g := gb561) (o := .cells #[.int .i64 t551, .int .i64 t552, .int .i64 t553, .int .i64 t554, .int .i64 t555, .int .i64 t556, .int .i64 t557, .int .i64 t558, .int .i64 t559] 95 (0, 0)) (by (with_reducible repeat (first | refine blk_drewN ?_ _ | refine blk_drew ?_ | refine blk_alloc ?_ _)); exact BK561.out)) : gb561 ≠ gb572)); have n6_ := Aside0.mk ((by rw [hg]; exact Nat.ne_of_gt (blk_lt (g := gb561) (o := .cells #[.int .i64 t551, .int .i64 t552, .int .i64 t553, .int .i64 t554, .int .i64 t555, .int .i64 t556, .int .i64 t557, .int .i64 t558, .int .i64 t559] 95 (0, 0)) (by (with_reducible repeat (first | refine blk_drewN ?_ _ | refine blk_drew ?_ | refine blk_alloc ?_ _)); exact BK561.out)) : gb572 ≠ gb561)); clear BK561; clear HB; have BK561 := n0_; have HB := n1_; have BK572 := n2_; have GW572 := n3_; have GE572 := n4_; have NB561_572 := n5_; have NB572_561 := n6_; clear n0_ n1_ n2_ n3_ n4_ n5_ n6_; clear hb hbox hg; have hnb15 := NB572_561.out; have hnc15 := NB561_572.out; have hcz16_0 : w14.cell? ⟨gb572, 0, none⟩ = some (.int .i64 0) := (blk_cell BK572.out 0).trans rfl; have hcz16_1 : w14.cell? ⟨gb572, 1, none⟩ = some (.int .i64 0) := (blk_cell BK572.out 1).trans rfl; have hcz16_2 : w14.cell? ⟨gb572, 2, none⟩ = some (.int .i64 0) := (blk_cell BK572.out 2).trans rfl; have hcz16_3 : w14.cell? ⟨gb572, 3, none⟩ = some (.int .i64 0) := (blk_cell BK572.out 3).trans rfl; have hcz16_4 : w14.cell? ⟨gb572, 4, none⟩ = some (.int .i64 0) := (blk_cell BK572.out 4).trans rfl; have hcz16_5 : w14.cell? ⟨gb572, 5, none⟩ = some (.int .i64 0) := (blk_cell BK572.out 5).trans rfl; have hcz16_6 : w14.cell? ⟨gb572, 6, none⟩ = some (.int .i64 0) := (blk_cell BK572.out 6).trans rfl; have hcz16_7 : w14.cell? ⟨gb572, 7, none⟩ = some (.int .i64 0) := (blk_cell BK572.out 7).trans rfl; have hcz16_8 : w14.cell? ⟨gb572, 8, none⟩ = some (.int .i64 0) := (blk_cell BK572.out 8).trans rfl; have hfz16_0 := blk_frozen BK572.out 0; have hfz16_1 := blk_frozen BK572.out 1; have hfz16_2 := blk_frozen BK572.out 2; have hfz16_3 := blk_frozen BK572.out 3; have hfz16_4 := blk_frozen BK572.out 4; have hfz16_5 := blk_frozen BK572.out 5; have hfz16_6 := blk_frozen BK572.out 6; have hfz16_7 := blk_frozen BK572.out 7; have hfz16_8 := blk_frozen BK572.out 8; have hcz17_0 : w14.cell? ⟨gb561, 0, none⟩ = some (.int .i64 t551) := (blk_cell BK561.out 0).trans rfl; have hcz17_1 : w14.cell? ⟨gb561, 1, none⟩ = some (.int .i64 t552) := (blk_cell BK561.out 1).trans rfl; have hcz17_2 : w14.cell? ⟨gb561, 2, none⟩ = some (.int .i64 t553) := (blk_cell BK561.out 2).trans rfl; have hcz17_3 : w14.cell? ⟨gb561, 3, none⟩ = some (.int .i64 t554) := (blk_cell BK561.out 3).trans rfl; have hcz17_4 : w14.cell? ⟨gb561, 4, none⟩ = some (.int .i64 t555) := (blk_cell BK561.out 4).trans rfl; have hcz17_5 : w14.cell? ⟨gb561, 5, none⟩ = some (.int .i64 t556) := (blk_cell BK561.out 5).trans rfl; have hcz17_6 : w14.cell? ⟨gb561, 6, none⟩ = some (.int .i64 t557) := (blk_cell BK561.out 6).trans rfl; have hcz17_7 : w14.cell? ⟨gb561, 7, none⟩ = some (.int .i64 t558) := (blk_cell BK561.out 7).trans rfl; have hcz17_8 : w14.cell? ⟨gb561, 8, none⟩ = some (.int .i64 t559) := (blk_cell BK561.out 8).trans rfl; have hfz17_0 := blk_frozen BK561.out 0; have hfz17_1 := blk_frozen BK561.out 1; have hfz17_2 := blk_frozen BK561.out 2; have hfz17_3 := blk_frozen BK561.out 3; have hfz17_4 := blk_frozen BK561.out 4; have hfz17_5 := blk_frozen BK561.out 5; have hfz17_6 := blk_frozen BK561.out 6; have hfz17_7 := blk_frozen BK561.out 7; have hfz17_8 := blk_frozen BK561.out 8) | (go_at_call 71; (with_reducible refine (damperlaw05_alive.calls  t573 _ A9.out).mono ?_); rintro e w18 ⟨rfl, hb⟩; have n0_ := Aside0.mk (blk_below (g := gb561) (o := .cells #[.int .i64 t551, .int .i64 t552, .int .i64 t553, .int .i64 t554, .int .i64 t555, .int .i64 t556, .int .i64 t557, .int .i64 t558, .int .i64 t559] 95 (0, 0)) (by (with_reducible repeat (first | refine blk_drewN ?_ _ | refine blk_drew ?_ | refine blk_alloc ?_ _)); refine blk_far ?_ NB561_572.out _; (with_reducible repeat (first | refine blk_drewN ?_ _ | refine blk_drew ?_ | refine blk_alloc ?_ _)); refine blk_far ?_ NB561_572.out _; (with_reducible repeat (first | refine blk_drewN ?_ _ | refine blk_drew ?_ | refine blk_alloc ?_ _)); refine blk_far ?_ NB561_572.out _; (with_reducible repeat (first | refine blk_drewN ?_ _ | refine blk_drew ?_ | refine blk_alloc ?_ _)); refine blk_far ?_ NB561_572.out _; (with_reducible repeat (first | refine blk_drewN ?_ _ | refine blk_drew ?_ | refine blk_alloc ?_ _)); refine blk_far ?_ NB561_572.out _; (with_reducible repeat (first | refine blk_drewN ?_ _ | refine blk_drew ?_ | refine blk_alloc ?_ _)); refine blk_far ?_ NB561_572.out _; (with_reducible repeat (first | refine blk_drewN ?_ _ | refine blk_drew ?_ | refine blk_alloc ?_ _)); refine blk_far ?_ NB561_572.out _; (with_reducible repeat (first | refine blk_drewN ?_ _ | refine blk_drew ?_ | refine blk_alloc ?_ _)); refine blk_far ?_ NB561_572.out _; (with_reducible repeat (first | refine blk_drewN ?_ _ | refine blk_drew ?_ | refine blk_alloc ?_ _)); refine blk_far ?_ NB561_572.out _; (with_reducible repeat (first | refine blk_drewN ?_ _ | refine blk_drew ?_ | refine blk_alloc ?_ _)); exact BK561.out) hb); have n1_ := Aside0.mk (blk_below (g := gb572) (o := .cells #[.int .i64 t562, .int .i64 t563, .int .i64 t564, .int .i64 t565, .int .i64 t566, .int .i64 t567, .int .i64 t568, .int .i64 t569, .int .i64 t570] 95 (0, 0)) (by (with_reducible repeat (first | refine blk_drewN ?_ _ | refine blk_drew ?_ | refine blk_alloc ?_ _)); refine blk_put (cs := #[.int .i64 t562, .int .i64 t563, .int .i64 t564, .int .i64 t565, .int .i64 t566, .int .i64 t567, .int .i64 t568, .int .i64 t569, .int .i64 0]) ?_ 8 _ rfl; (with_reducible repeat (first | refine blk_drewN ?_ _ | refine blk_drew ?_ | refine blk_alloc ?_ _)); refine blk_put (cs := #[.int .i64 t562, .int .i64 t563, .int .i64 t564, .int .i64 t565, .int .i64 t566, .int .i64 t567, .int .i64 t568, .int .i64 0, .int .i64 0]) ?_ 7 _ rfl; (with_reducible repeat (first | refine blk_drewN ?_ _ | refine blk_drew ?_ | refine blk_alloc ?_ _)); refine blk_put (cs := #[.int .i64 t562, .int .i64 t563, .int .i64 t564, .int .i64 t565, .int .i64 t566, .int .i64 t567, .int .i64 0, .int .i64 0, .int .i64 0]) ?_ 6 _ rfl; (with_reducible repeat (first | refine blk_drewN ?_ _ | refine blk_drew ?_ | refine blk_alloc ?_ _)); refine blk_put (cs := #[.int .i64 t562, .int .i64 t563, .int .i64 t564, .int .i64 t565, .int .i64 t566, .int .i64 0, .int .i64 0, .int .i64 0, .int .i64 0]) ?_ 5 _ rfl; (with_reducible repeat (first | refine blk_drewN ?_ _ | refine blk_drew ?_ | refine blk_alloc ?_ _)); refine blk_put (cs := #[.int .i64 t562, .int .i64 t563, .int .i64 t564, .int .i64 t565, .int .i64 0, .int .i64 0, .int .i64 0, .int .i64 0, .int .i64 0]) ?_ 4 _ rfl; (with_reducible repeat (first | refine blk_drewN ?_ _ | refine blk_drew ?_ | refine blk_alloc ?_ _)); refine blk_put (cs := #[.int .i64 t562, .int .i64 t563, .int .i64 t564, .int .i64 0, .int .i64 0, .int .i64 0, .int .i64 0, .int .i64 0, .int .i64 0]) ?_ 3 _ rfl; (with_reducible repeat (first | refine blk_drewN ?_ _ | refine blk_drew ?_ | refine blk_alloc ?_ _)); refine blk_put (cs := #[.int .i64 t562, .int .i64 t563, .int .i64 0, .int .i64 0, .int .i64 0, .int .i64 0, .int .i64 0, .int .i64 0, .int .i64 0]) ?_ 2 _ rfl; (with_reducible repeat (first | refine blk_drewN ?_ _ | refine blk_drew ?_ | refine blk_alloc ?_ _)); refine blk_put (cs := #[.int .i64 t562, .int .i64 0, .int .i64 0, .int .i64 0, .int .i64 0, .int .i64 0, .int .i64 0, .int .i64 0, .int .i64 0]) ?_ 1 _ rfl; (with_reducible repeat (first | refine blk_drewN ?_ _ | refine blk_drew ?_ | refine blk_alloc ?_ _)); refine blk_put (cs := #[.int .i64 0, .int .i64 0, .int .i64 0, .int .i64 0, .int .i64 0, .int .i64 0, .int .i64 0, .int .i64 0, .int .i64 0]) ?_ 0 _ rfl; (with_reducible repeat (first | refine blk_drewN ?_ _ | refine blk_drew ?_ | refine blk_alloc ?_ _)); exact BK572.out) hb); have n2_ := Aside0.mk (below_step (by repeat (first | (with_reducible first | exact HB.out | apply below_alloc | apply pw_below_drewN | apply below_drew1 | refine below_set ?_ GE561.out | refine below_set ?_ GE572.out) | exact HB.out)) hb); clear BK561; clear BK572; clear HB; have BK561 := n0_; have BK572 := n1_; have HB := n2_; clear n0_ n1_ n2_; (try clear hb); (try clear hb2); (try clear hk); (try clear hi)))
        go_ret
        exact ⟨by first | rfl | (simp [errW_none, errW_some] <;> rfl) | (simp [*, errW_none, errW_some] <;> rfl), by repeat (first | (with_reducible first | exact HB.out | apply below_alloc | apply pw_below_drewN | apply below_drew1 | refine below_set ?_ GE561.out | refine below_set ?_ GE572.out) | exact HB.out)⟩
      · rw [if_neg c8] at H
        have c8b0 : (t560 == t571) = false := beq_eq_false_iff_ne.mpr c8
        have c8b1 : (t560 != t571) = true := bne_iff_ne.mpr c8
        obtain rfl := Option.some.inj H
        go_enter Try.func14, Try.ntmps14
        go_wp2_with (first | ((with_reducible refine gate_callee (f := 72) rfl ?_); refine goesL_ (some 13) rfl rfl Try.func72 (by kernel_rfl) rfl #[.slice A0 l0.length c0] rfl (by (try simp only [List.map_toArray, List.map_cons, List.map_nil]); first | done | rfl | (simp only [List.length_drop, List.length_take]; rfl)) ?_; (with_reducible refine (command_Decode.calls _ _ l0 t551 t552 t553 t554 t555 t556 t557 t558 t559 t560 _ ?side1 ?side2 A5.out).mono ?_); (case side1 => repeat (first | exact HR0.out | (with_reducible refine Kd.C_alloc ?_ _) | (with_reducible refine Kd.C_drewN ?_ _) | (with_reducible refine Kd.C_drew ?_))); (case side2 => exact HC0.out); rintro e w19 ⟨rfl, hb⟩; refine ⟨_, rfl, ?_⟩; have n0_ := Aside0.mk (below_step (by repeat (first | (with_reducible first | exact HB.out | apply below_alloc | apply pw_below_drewN | apply below_drew1) | exact HB.out)) hb); clear HB; have HB := n0_; clear n0_; (try clear hb); (try clear hb2); (try clear hk); (try clear hi)) | ((with_reducible refine gate_dst (N := 3) rfl ?_); refine box_event ?hg (N := 3) ?hd (cs := #[.int .i64 0, .int .i64 0, .int .i64 0, .int .i64 0, .int .i64 0, .int .i64 0, .int .i64 0, .int .i64 0, .int .i64 0]) (t := 95) ?hr ?_; (case hd => rfl); (case hg => rfl); (case hr => first | (go_simp; done) | (go_simp; rfl)); intro gb561 hg w20 hbox hb; have n0_ := Aside0.mk (below_step (by repeat (first | (with_reducible first | exact HB.out | apply below_alloc | apply pw_below_drewN | apply below_drew1) | exact HB.out)) hb); have n1_ := Aside0.mk (hbox); have n2_ := Aside0.mk ((by rw [hg]; exact (below_size (by repeat (first | (with_reducible first | exact HB.out | apply below_alloc | apply pw_below_drewN | apply below_drew1) | exact HB.out))) : w.heap.size ≤ gb561)); have n3_ := Aside0.mk ((by rw [hg]; exact (below_size (by repeat (first | (with_reducible first | exact HB.out | apply below_alloc | apply pw_below_drewN | apply below_drew1) | exact HB.out))) : w.heap.size ≤ gb561)); clear HB; have HB := n0_; have BK561 := n1_; have GW561 := n2_; have GE561 := n3_; clear n0_ n1_ n2_ n3_; clear hb hbox hg; have hcz21_0 : w20.cell? ⟨gb561, 0, none⟩ = some (.int .i64 0) := (blk_cell BK561.out 0).trans rfl; have hcz21_1 : w20.cell? ⟨gb561, 1, none⟩ = some (.int .i64 0) := (blk_cell BK561.out 1).trans rfl; have hcz21_2 : w20.cell? ⟨gb561, 2, none⟩ = some (.int .i64 0) := (blk_cell BK561.out 2).trans rfl; have hcz21_3 : w20.cell? ⟨gb561, 3, none⟩ = some (.int .i64 0) := (blk_cell BK561.out 3).trans rfl; have hcz21_4 : w20.cell? ⟨gb561, 4, none⟩ = some (.int .i64 0) := (blk_cell BK561.out 4).trans rfl; have hcz21_5 : w20.cell? ⟨gb561, 5, none⟩ = some (.int .i64 0) := (blk_cell BK561.out 5).trans rfl; have hcz21_6 : w20.cell? ⟨gb561, 6, none⟩ = some (.int .i64 0) := (blk_cell BK561.out 6).trans rfl; have hcz21_7 : w20.cell? ⟨gb561, 7, none⟩ = some (.int .i64 0) := (blk_cell BK561.out 7).trans rfl; have hcz21_8 : w20.cell? ⟨gb561, 8, none⟩ = some (.int .i64 0) := (blk_cell BK561.out 8).trans rfl; have hfz21_0 := blk_frozen BK561.out 0; have hfz21_1 := blk_frozen BK561.out 1; have hfz21_2 := blk_frozen BK561.out 2; have hfz21_3 := blk_frozen BK561.out 3; have hfz21_4 := blk_frozen BK561.out 4; have hfz21_5 := blk_frozen BK561.out 5; have hfz21_6 := blk_frozen BK561.out 6; have hfz21_7 := blk_frozen BK561.out 7; have hfz21_8 := blk_frozen BK561.out 8) | ((with_reducible refine gate_callee (f := 73) rfl ?_); refine goesL_ (some 18) rfl rfl Try.func73 (by kernel_rfl) rfl #[.slice A0 l0.length c0] rfl (by (try simp only [List.map_toArray, List.map_cons, List.map_nil]); first | done | rfl | (simp only [List.length_drop, List.length_take]; rfl)) ?_; (with_reducible refine (damperref05_Decode.calls _ _ l0 t562 t563 t564 t565 t566 t567 t568 t569 t570 t571 _ ?side1 ?side2 A6.out).mono ?_); (case side1 => exact Kd.C_below HR0.out (by repeat (first | (with_reducible first | exact HB.out | apply below_alloc | apply pw_below_drewN | apply below_drew1 | refine below_set ?_ GE561.out) | exact HB.out))); (case side2 => exact HC0.out); rintro e w22 ⟨rfl, hb⟩; refine ⟨_, rfl, ?_⟩; have n0_ := Aside0.mk (blk_below (g := gb561) (o := .cells #[.int .i64 t551, .int .i64 t552, .int .i64 t553, .int .i64 t554, .int .i64 t555, .int .i64 t556, .int .i64 t557, .int .i64 t558, .int .i64 t559] 95 (0, 0)) (by (with_reducible repeat (first | refine blk_drewN ?_ _ | refine blk_drew ?_ | refine blk_alloc ?_ _)); refine blk_put (cs := #[.int .i64 t551, .int .i64 t552, .int .i64 t553, .int .i64 t554, .int .i64 t555, .int .i64 t556, .int .i64 t557, .int .i64 t558, .int .i64 0]) ?_ 8 _ rfl; (with_reducible repeat (first | refine blk_drewN ?_ _ | refine blk_drew ?_ | refine blk_alloc ?_ _)); refine blk_put (cs := #[.int .i64 t551, .int .i64 t552, .int .i64 t553, .int .i64 t554, .int .i64 t555, .int .i64 t556, .int .i64 t557, .int .i64 0, .int .i64 0]) ?_ 7 _ rfl; (with_reducible repeat (first | refine blk_drewN ?_ _ | refine blk_drew ?_ | refine blk_alloc ?_ _)); refine blk_put (cs := #[.int .i64 t551, .int .i64 t552, .int .i64 t553, .int .i64 t554, .int .i64 t555, .int .i64 t556, .int .i64 0, .int .i64 0, .int .i64 0]) ?_ 6 _ rfl; (with_reducible repeat (first | refine blk_drewN ?_ _ | refine blk_drew ?_ | refine blk_alloc ?_ _)); refine blk_put (cs := #[.int .i64 t551, .int .i64 t552, .int .i64 t553, .int .i64 t554, .int .i64 t555, .int .i64 0, .int .i64 0, .int .i64 0, .int .i64 0]) ?_ 5 _ rfl; (with_reducible repeat (first | refine blk_drewN ?_ _ | refine blk_drew ?_ | refine blk_alloc ?_ _)); refine blk_put (cs := #[.int .i64 t551, .int .i64 t552, .int .i64 t553, .int .i64 t554, .int .i64 0, .int .i64 0, .int .i64 0, .int .i64 0, .int .i64 0]) ?_ 4 _ rfl; (with_reducible repeat (first | refine blk_drewN ?_ _ | refine blk_drew ?_ | refine blk_alloc ?_ _)); refine blk_put (cs := #[.int .i64 t551, .int .i64 t552, .int .i64 t553, .int .i64 0, .int .i64 0, .int .i64 0, .int .i64 0, .int .i64 0, .int .i64 0]) ?_ 3 _ rfl; (with_reducible repeat (first | refine blk_drewN ?_ _ | refine blk_drew ?_ | refine blk_alloc ?_ _)); refine blk_put (cs := #[.int .i64 t551, .int .i64 t552, .int .i64 0, .int .i64 0, .int .i64 0, .int .i64 0, .int .i64 0, .int .i64 0, .int .i64 0]) ?_ 2 _ rfl; (with_reducible repeat (first | refine blk_drewN ?_ _ | refine blk_drew ?_ | refine blk_alloc ?_ _)); refine blk_put (cs := #[.int .i64 t551, .int .i64 0, .int .i64 0, .int .i64 0, .int .i64 0, .int .i64 0, .int .i64 0, .int .i64 0, .int .i64 0]) ?_ 1 _ rfl; (with_reducible repeat (first | refine blk_drewN ?_ _ | refine blk_drew ?_ | refine blk_alloc ?_ _)); refine blk_put (cs := #[.int .i64 0, .int .i64 0, .int .i64 0, .int .i64 0, .int .i64 0, .int .i64 0, .int .i64 0, .int .i64 0, .int .i64 0]) ?_ 0 _ rfl; (with_reducible repeat (first | refine blk_drewN ?_ _ | refine blk_drew ?_ | refine blk_alloc ?_ _)); exact BK561.out) hb); have n1_ := Aside0.mk (below_step (by repeat (first | (with_reducible first | exact HB.out | apply below_alloc | apply pw_below_drewN | apply below_drew1 | refine below_set ?_ GE561.out) | exact HB.out)) hb); clear BK561; clear HB; have BK561 := n0_; have HB := n1_; clear n0_ n1_; (try clear hb); (try clear hb2); (try clear hk); (try clear hi)) | ((with_reducible refine gate_dst (N := 5) rfl ?_); refine box_event ?hg (N := 5) ?hd (cs := #[.int .i64 0, .int .i64 0, .int .i64 0, .int .i64 0, .int .i64 0, .int .i64 0, .int .i64 0, .int .i64 0, .int .i64 0]) (t := 95) ?hr ?_; (case hd => rfl); (case hg => rfl); (case hr => first | (go_simp; done) | (go_simp; rfl)); intro gb572 hg w23 hbox hb; have n0_ := Aside0.mk (blk_below (g := gb561) (o := .cells #[.int .i64 t551, .int .i64 t552, .int .i64 t553, .int .i64 t554, .int .i64 t555, .int .i64 t556, .int .i64 t557, .int .i64 t558, .int .i64 t559] 95 (0, 0)) (by (with_reducible repeat (first | refine blk_drewN ?_ _ | refine blk_drew ?_ | refine blk_alloc ?_ _)); exact BK561.out) hb); have n1_ := Aside0.mk (below_step (by repeat (first | (with_reducible first | exact HB.out | apply below_alloc | apply pw_below_drewN | apply below_drew1 | refine below_set ?_ GE561.out) | exact HB.out)) hb); have n2_ := Aside0.mk (hbox); have n3_ := Aside0.mk ((by rw [hg]; exact (below_size (by repeat (first | (with_reducible first | exact HB.out | apply below_alloc | apply pw_below_drewN | apply below_drew1 | refine below_set ?_ GE561.out) | exact HB.out))) : w.heap.size ≤ gb572)); have n4_ := Aside0.mk ((by rw [hg]; exact (below_size (by repeat (first | (with_reducible first | exact HB.out | apply below_alloc | apply pw_below_drewN | apply below_drew1 | refine below_set ?_ GE561.out) | exact HB.out))) : w.heap.size ≤ gb572)); have n5_ := Aside0.mk ((by rw [hg]; exact Nat.ne_of_lt (blk_lt (g := gb561) (o := .cells #[.int .i64 t551, .int .i64 t552, .int .i64 t553, .int .i64 t554, .int .i64 t555, .int .i64 t556, .int .i64 t557, .int .i64 t558, .int .i64 t559] 95 (0, 0)) (by (with_reducible repeat (first | refine blk_drewN ?_ _ | refine blk_drew ?_ | refine blk_alloc ?_ _)); exact BK561.out)) : gb561 ≠ gb572)); have n6_ := Aside0.mk ((by rw [hg]; exact Nat.ne_of_gt (blk_lt (g := gb561) (o := .cells #[.int .i64 t551, .int .i64 t552, .int .i64 t553, .int .i64 t554, .int .i64 t555, .int .i64 t556, .int .i64 t557, .int .i64 t558, .int .i64 t559] 95 (0, 0)) (by (with_reducible repeat (first | refine blk_drewN ?_ _ | refine blk_drew ?_ | refine blk_alloc ?_ _)); exact BK561.out)) : gb572 ≠ gb561)); clear BK561; clear HB; have BK561 := n0_; have HB := n1_; have BK572 := n2_; have GW572 := n3_; have GE572 := n4_; have NB561_572 := n5_; have NB572_561 := n6_; clear n0_ n1_ n2_ n3_ n4_ n5_ n6_; clear hb hbox hg; have hnb24 := NB572_561.out; have hnc24 := NB561_572.out; have hcz25_0 : w23.cell? ⟨gb572, 0, none⟩ = some (.int .i64 0) := (blk_cell BK572.out 0).trans rfl; have hcz25_1 : w23.cell? ⟨gb572, 1, none⟩ = some (.int .i64 0) := (blk_cell BK572.out 1).trans rfl; have hcz25_2 : w23.cell? ⟨gb572, 2, none⟩ = some (.int .i64 0) := (blk_cell BK572.out 2).trans rfl; have hcz25_3 : w23.cell? ⟨gb572, 3, none⟩ = some (.int .i64 0) := (blk_cell BK572.out 3).trans rfl; have hcz25_4 : w23.cell? ⟨gb572, 4, none⟩ = some (.int .i64 0) := (blk_cell BK572.out 4).trans rfl; have hcz25_5 : w23.cell? ⟨gb572, 5, none⟩ = some (.int .i64 0) := (blk_cell BK572.out 5).trans rfl; have hcz25_6 : w23.cell? ⟨gb572, 6, none⟩ = some (.int .i64 0) := (blk_cell BK572.out 6).trans rfl; have hcz25_7 : w23.cell? ⟨gb572, 7, none⟩ = some (.int .i64 0) := (blk_cell BK572.out 7).trans rfl; have hcz25_8 : w23.cell? ⟨gb572, 8, none⟩ = some (.int .i64 0) := (blk_cell BK572.out 8).trans rfl; have hfz25_0 := blk_frozen BK572.out 0; have hfz25_1 := blk_frozen BK572.out 1; have hfz25_2 := blk_frozen BK572.out 2; have hfz25_3 := blk_frozen BK572.out 3; have hfz25_4 := blk_frozen BK572.out 4; have hfz25_5 := blk_frozen BK572.out 5; have hfz25_6 := blk_frozen BK572.out 6; have hfz25_7 := blk_frozen BK572.out 7; have hfz25_8 := blk_frozen BK572.out 8; have hcz26_0 : w23.cell? ⟨gb561, 0, none⟩ = some (.int .i64 t551) := (blk_cell BK561.out 0).trans rfl; have hcz26_1 : w23.cell? ⟨gb561, 1, none⟩ = some (.int .i64 t552) := (blk_cell BK561.out 1).trans rfl; have hcz26_2 : w23.cell? ⟨gb561, 2, none⟩ = some (.int .i64 t553) := (blk_cell BK561.out 2).trans rfl; have hcz26_3 : w23.cell? ⟨gb561, 3, none⟩ = some (.int .i64 t554) := (blk_cell BK561.out 3).trans rfl; have hcz26_4 : w23.cell? ⟨gb561, 4, none⟩ = some (.int .i64 t555) := (blk_cell BK561.out 4).trans rfl; have hcz26_5 : w23.cell? ⟨gb561, 5, none⟩ = some (.int .i64 t556) := (blk_cell BK561.out 5).trans rfl; have hcz26_6 : w23.cell? ⟨gb561, 6, none⟩ = some (.int .i64 t557) := (blk_cell BK561.out 6).trans rfl; have hcz26_7 : w23.cell? ⟨gb561, 7, none⟩ = some (.int .i64 t558) := (blk_cell BK561.out 7).trans rfl; have hcz26_8 : w23.cell? ⟨gb561, 8, none⟩ = some (.int .i64 t559) := (blk_cell BK561.out 8).trans rfl; have hfz26_0 := blk_frozen BK561.out 0; have hfz26_1 := blk_frozen BK561.out 1; have hfz26_2 := blk_frozen BK561.out 2; have hfz26_3 := blk_frozen BK561.out 3; have hfz26_4 := blk_frozen BK561.out 4; have hfz26_5 := blk_frozen BK561.out 5; have hfz26_6 := blk_frozen BK561.out 6; have hfz26_7 := blk_frozen BK561.out 7; have hfz26_8 := blk_frozen BK561.out 8))
        go_ret
        exact ⟨by first | rfl | (simp [errW_none, errW_some] <;> rfl) | (simp [*, errW_none, errW_some] <;> rfl), by repeat (first | (with_reducible first | exact HB.out | apply below_alloc | apply pw_below_drewN | apply below_drew1 | refine below_set ?_ GE561.out | refine below_set ?_ GE572.out) | exact HB.out)⟩
    · rw [if_neg c7] at H
      have c7b0 : (t551 == t562 && (t552 == t563 && (t553 == t564 && (t554 == t565 && (t555 == t566 && (t556 == t567 && (t557 == t568 && (t558 == t569 && (t559 == t570))))))))) = false := by simpa using c7
      (try (have c7b1 : decide (t551 = t562 && (t552 == t563 && (t553 == t564 && (t554 == t565 && (t555 == t566 && (t556 == t567 && (t557 == t568 && (t558 == t569 && (t559 == t570))))))))) = false := by simpa using c7))
      (try (have c7b2 : (t551 == t562 && (t552 == t563 && (t553 == t564 && (t554 == t565 && (t555 == t566 && (t556 == t567 && (t557 == t568 && (t558 == t569 && (t559 == t570))))))))) = false := by simpa using c7))
      (try (have c7b3 : ¬ (t551 = t562 && (t552 == t563 && (t553 == t564 && (t554 == t565 && (t555 == t566 && (t556 == t567 && (t557 == t568 && (t558 == t569 && (t559 == t570))))))))) := by simpa using c7))
      clear c7
      obtain rfl := Option.some.inj H
      go_enter Try.func14, Try.ntmps14
      go_wp2_with (first | ((with_reducible refine gate_callee (f := 72) rfl ?_); refine goesL_ (some 13) rfl rfl Try.func72 (by kernel_rfl) rfl #[.slice A0 l0.length c0] rfl (by (try simp only [List.map_toArray, List.map_cons, List.map_nil]); first | done | rfl | (simp only [List.length_drop, List.length_take]; rfl)) ?_; (with_reducible refine (command_Decode.calls _ _ l0 t551 t552 t553 t554 t555 t556 t557 t558 t559 t560 _ ?side1 ?side2 A5.out).mono ?_); (case side1 => repeat (first | exact HR0.out | (with_reducible refine Kd.C_alloc ?_ _) | (with_reducible refine Kd.C_drewN ?_ _) | (with_reducible refine Kd.C_drew ?_))); (case side2 => exact HC0.out); rintro e w27 ⟨rfl, hb⟩; refine ⟨_, rfl, ?_⟩; have n0_ := Aside0.mk (below_step (by repeat (first | (with_reducible first | exact HB.out | apply below_alloc | apply pw_below_drewN | apply below_drew1) | exact HB.out)) hb); clear HB; have HB := n0_; clear n0_; (try clear hb); (try clear hb2); (try clear hk); (try clear hi)) | ((with_reducible refine gate_dst (N := 3) rfl ?_); refine box_event ?hg (N := 3) ?hd (cs := #[.int .i64 0, .int .i64 0, .int .i64 0, .int .i64 0, .int .i64 0, .int .i64 0, .int .i64 0, .int .i64 0, .int .i64 0]) (t := 95) ?hr ?_; (case hd => rfl); (case hg => rfl); (case hr => first | (go_simp; done) | (go_simp; rfl)); intro gb561 hg w28 hbox hb; have n0_ := Aside0.mk (below_step (by repeat (first | (with_reducible first | exact HB.out | apply below_alloc | apply pw_below_drewN | apply below_drew1) | exact HB.out)) hb); have n1_ := Aside0.mk (hbox); have n2_ := Aside0.mk ((by rw [hg]; exact (below_size (by repeat (first | (with_reducible first | exact HB.out | apply below_alloc | apply pw_below_drewN | apply below_drew1) | exact HB.out))) : w.heap.size ≤ gb561)); have n3_ := Aside0.mk ((by rw [hg]; exact (below_size (by repeat (first | (with_reducible first | exact HB.out | apply below_alloc | apply pw_below_drewN | apply below_drew1) | exact HB.out))) : w.heap.size ≤ gb561)); clear HB; have HB := n0_; have BK561 := n1_; have GW561 := n2_; have GE561 := n3_; clear n0_ n1_ n2_ n3_; clear hb hbox hg; have hcz29_0 : w28.cell? ⟨gb561, 0, none⟩ = some (.int .i64 0) := (blk_cell BK561.out 0).trans rfl; have hcz29_1 : w28.cell? ⟨gb561, 1, none⟩ = some (.int .i64 0) := (blk_cell BK561.out 1).trans rfl; have hcz29_2 : w28.cell? ⟨gb561, 2, none⟩ = some (.int .i64 0) := (blk_cell BK561.out 2).trans rfl; have hcz29_3 : w28.cell? ⟨gb561, 3, none⟩ = some (.int .i64 0) := (blk_cell BK561.out 3).trans rfl; have hcz29_4 : w28.cell? ⟨gb561, 4, none⟩ = some (.int .i64 0) := (blk_cell BK561.out 4).trans rfl; have hcz29_5 : w28.cell? ⟨gb561, 5, none⟩ = some (.int .i64 0) := (blk_cell BK561.out 5).trans rfl; have hcz29_6 : w28.cell? ⟨gb561, 6, none⟩ = some (.int .i64 0) := (blk_cell BK561.out 6).trans rfl; have hcz29_7 : w28.cell? ⟨gb561, 7, none⟩ = some (.int .i64 0) := (blk_cell BK561.out 7).trans rfl; have hcz29_8 : w28.cell? ⟨gb561, 8, none⟩ = some (.int .i64 0) := (blk_cell BK561.out 8).trans rfl; have hfz29_0 := blk_frozen BK561.out 0; have hfz29_1 := blk_frozen BK561.out 1; have hfz29_2 := blk_frozen BK561.out 2; have hfz29_3 := blk_frozen BK561.out 3; have hfz29_4 := blk_frozen BK561.out 4; have hfz29_5 := blk_frozen BK561.out 5; have hfz29_6 := blk_frozen BK561.out 6; have hfz29_7 := blk_frozen BK561.out 7; have hfz29_8 := blk_frozen BK561.out 8) | ((with_reducible refine gate_callee (f := 73) rfl ?_); refine goesL_ (some 18) rfl rfl Try.func73 (by kernel_rfl) rfl #[.slice A0 l0.length c0] rfl (by (try simp only [List.map_toArray, List.map_cons, List.map_nil]); first | done | rfl | (simp only [List.length_drop, List.length_take]; rfl)) ?_; (with_reducible refine (damperref05_Decode.calls _ _ l0 t562 t563 t564 t565 t566 t567 t568 t569 t570 t571 _ ?side1 ?side2 A6.out).mono ?_); (case side1 => exact Kd.C_below HR0.out (by repeat (first | (with_reducible first | exact HB.out | apply below_alloc | apply pw_below_drewN | apply below_drew1 | refine below_set ?_ GE561.out) | exact HB.out))); (case side2 => exact HC0.out); rintro e w30 ⟨rfl, hb⟩; refine ⟨_, rfl, ?_⟩; have n0_ := Aside0.mk (blk_below (g := gb561) (o := .cells #[.int .i64 t551, .int .i64 t552, .int .i64 t553, .int .i64 t554, .int .i64 t555, .int .i64 t556, .int .i64 t557, .int .i64 t558, .int .i64 t559] 95 (0, 0)) (by (with_reducible repeat (first | refine blk_drewN ?_ _ | refine blk_drew ?_ | refine blk_alloc ?_ _)); refine blk_put (cs := #[.int .i64 t551, .int .i64 t552, .int .i64 t553, .int .i64 t554, .int .i64 t555, .int .i64 t556, .int .i64 t557, .int .i64 t558, .int .i64 0]) ?_ 8 _ rfl; (with_reducible repeat (first | refine blk_drewN ?_ _ | refine blk_drew ?_ | refine blk_alloc ?_ _)); refine blk_put (cs := #[.int .i64 t551, .int .i64 t552, .int .i64 t553, .int .i64 t554, .int .i64 t555, .int .i64 t556, .int .i64 t557, .int .i64 0, .int .i64 0]) ?_ 7 _ rfl; (with_reducible repeat (first | refine blk_drewN ?_ _ | refine blk_drew ?_ | refine blk_alloc ?_ _)); refine blk_put (cs := #[.int .i64 t551, .int .i64 t552, .int .i64 t553, .int .i64 t554, .int .i64 t555, .int .i64 t556, .int .i64 0, .int .i64 0, .int .i64 0]) ?_ 6 _ rfl; (with_reducible repeat (first | refine blk_drewN ?_ _ | refine blk_drew ?_ | refine blk_alloc ?_ _)); refine blk_put (cs := #[.int .i64 t551, .int .i64 t552, .int .i64 t553, .int .i64 t554, .int .i64 t555, .int .i64 0, .int .i64 0, .int .i64 0, .int .i64 0]) ?_ 5 _ rfl; (with_reducible repeat (first | refine blk_drewN ?_ _ | refine blk_drew ?_ | refine blk_alloc ?_ _)); refine blk_put (cs := #[.int .i64 t551, .int .i64 t552, .int .i64 t553, .int .i64 t554, .int .i64 0, .int .i64 0, .int .i64 0, .int .i64 0, .int .i64 0]) ?_ 4 _ rfl; (with_reducible repeat (first | refine blk_drewN ?_ _ | refine blk_drew ?_ | refine blk_alloc ?_ _)); refine blk_put (cs := #[.int .i64 t551, .int .i64 t552, .int .i64 t553, .int .i64 0, .int .i64 0, .int .i64 0, .int .i64 0, .int .i64 0, .int .i64 0]) ?_ 3 _ rfl; (with_reducible repeat (first | refine blk_drewN ?_ _ | refine blk_drew ?_ | refine blk_alloc ?_ _)); refine blk_put (cs := #[.int .i64 t551, .int .i64 t552, .int .i64 0, .int .i64 0, .int .i64 0, .int .i64 0, .int .i64 0, .int .i64 0, .int .i64 0]) ?_ 2 _ rfl; (with_reducible repeat (first | refine blk_drewN ?_ _ | refine blk_drew ?_ | refine blk_alloc ?_ _)); refine blk_put (cs := #[.int .i64 t551, .int .i64 0, .int .i64 0, .int .i64 0, .int .i64 0, .int .i64 0, .int .i64 0, .int .i64 0, .int .i64 0]) ?_ 1 _ rfl; (with_reducible repeat (first | refine blk_drewN ?_ _ | refine blk_drew ?_ | refine blk_alloc ?_ _)); refine blk_put (cs := #[.int .i64 0, .int .i64 0, .int .i64 0, .int .i64 0, .int .i64 0, .int .i64 0, .int .i64 0, .int .i64 0, .int .i64 0]) ?_ 0 _ rfl; (with_reducible repeat (first | refine blk_drewN ?_ _ | refine blk_drew ?_ | refine blk_alloc ?_ _)); exact BK561.out) hb); have n1_ := Aside0.mk (below_step (by repeat (first | (with_reducible first | exact HB.out | apply below_alloc | apply pw_below_drewN | apply below_drew1 | refine below_set ?_ GE561.out) | exact HB.out)) hb); clear BK561; clear HB; have BK561 := n0_; have HB := n1_; clear n0_ n1_; (try clear hb); (try clear hb2); (try clear hk); (try clear hi)) | ((with_reducible refine gate_dst (N := 5) rfl ?_); refine box_event ?hg (N := 5) ?hd (cs := #[.int .i64 0, .int .i64 0, .int .i64 0, .int .i64 0, .int .i64 0, .int .i64 0, .int .i64 0, .int .i64 0, .int .i64 0]) (t := 95) ?hr ?_; (case hd => rfl); (case hg => rfl); (case hr => first | (go_simp; done) | (go_simp; rfl)); intro gb572 hg w31 hbox hb; have n0_ := Aside0.mk (blk_below (g := gb561) (o := .cells #[.int .i64 t551, .int .i64 t552, .int .i64 t553, .int .i64 t554, .int .i64 t555, .int .i64 t556, .int .i64 t557, .int .i64 t558, .int .i64 t559] 95 (0, 0)) (by (with_reducible repeat (first | refine blk_drewN ?_ _ | refine blk_drew ?_ | refine blk_alloc ?_ _)); exact BK561.out) hb); have n1_ := Aside0.mk (below_step (by repeat (first | (with_reducible first | exact HB.out | apply below_alloc | apply pw_below_drewN | apply below_drew1 | refine below_set ?_ GE561.out) | exact HB.out)) hb); have n2_ := Aside0.mk (hbox); have n3_ := Aside0.mk ((by rw [hg]; exact (below_size (by repeat (first | (with_reducible first | exact HB.out | apply below_alloc | apply pw_below_drewN | apply below_drew1 | refine below_set ?_ GE561.out) | exact HB.out))) : w.heap.size ≤ gb572)); have n4_ := Aside0.mk ((by rw [hg]; exact (below_size (by repeat (first | (with_reducible first | exact HB.out | apply below_alloc | apply pw_below_drewN | apply below_drew1 | refine below_set ?_ GE561.out) | exact HB.out))) : w.heap.size ≤ gb572)); have n5_ := Aside0.mk ((by rw [hg]; exact Nat.ne_of_lt (blk_lt (g := gb561) (o := .cells #[.int .i64 t551, .int .i64 t552, .int .i64 t553, .int .i64 t554, .int .i64 t555, .int .i64 t556, .int .i64 t557, .int .i64 t558, .int .i64 t559] 95 (0, 0)) (by (with_reducible repeat (first | refine blk_drewN ?_ _ | refine blk_drew ?_ | refine blk_alloc ?_ _)); exact BK561.out)) : gb561 ≠ gb572)); have n6_ := Aside0.mk ((by rw [hg]; exact Nat.ne_of_gt (blk_lt (g := gb561) (o := .cells #[.int .i64 t551, .int .i64 t552, .int .i64 t553, .int .i64 t554, .int .i64 t555, .int .i64 t556, .int .i64 t557, .int .i64 t558, .int .i64 t559] 95 (0, 0)) (by (with_reducible repeat (first | refine blk_drewN ?_ _ | refine blk_drew ?_ | refine blk_alloc ?_ _)); exact BK561.out)) : gb572 ≠ gb561)); clear BK561; clear HB; have BK561 := n0_; have HB := n1_; have BK572 := n2_; have GW572 := n3_; have GE572 := n4_; have NB561_572 := n5_; have NB572_561 := n6_; clear n0_ n1_ n2_ n3_ n4_ n5_ n6_; clear hb hbox hg; have hnb32 := NB572_561.out; have hnc32 := NB561_572.out; have hcz33_0 : w31.cell? ⟨gb572, 0, none⟩ = some (.int .i64 0) := (blk_cell BK572.out 0).trans rfl; have hcz33_1 : w31.cell? ⟨gb572, 1, none⟩ = some (.int .i64 0) := (blk_cell BK572.out 1).trans rfl; have hcz33_2 : w31.cell? ⟨gb572, 2, none⟩ = some (.int .i64 0) := (blk_cell BK572.out 2).trans rfl; have hcz33_3 : w31.cell? ⟨gb572, 3, none⟩ = some (.int .i64 0) := (blk_cell BK572.out 3).trans rfl; have hcz33_4 : w31.cell? ⟨gb572, 4, none⟩ = some (.int .i64 0) := (blk_cell BK572.out 4).trans rfl; have hcz33_5 : w31.cell? ⟨gb572, 5, none⟩ = some (.int .i64 0) := (blk_cell BK572.out 5).trans rfl; have hcz33_6 : w31.cell? ⟨gb572, 6, none⟩ = some (.int .i64 0) := (blk_cell BK572.out 6).trans rfl; have hcz33_7 : w31.cell? ⟨gb572, 7, none⟩ = some (.int .i64 0) := (blk_cell BK572.out 7).trans rfl; have hcz33_8 : w31.cell? ⟨gb572, 8, none⟩ = some (.int .i64 0) := (blk_cell BK572.out 8).trans rfl; have hfz33_0 := blk_frozen BK572.out 0; have hfz33_1 := blk_frozen BK572.out 1; have hfz33_2 := blk_frozen BK572.out 2; have hfz33_3 := blk_frozen BK572.out 3; have hfz33_4 := blk_frozen BK572.out 4; have hfz33_5 := blk_frozen BK572.out 5; have hfz33_6 := blk_frozen BK572.out 6; have hfz33_7 := blk_frozen BK572.out 7; have hfz33_8 := blk_frozen BK572.out 8; have hcz34_0 : w31.cell? ⟨gb561, 0, none⟩ = some (.int .i64 t551) := (blk_cell BK561.out 0).trans rfl; have hcz34_1 : w31.cell? ⟨gb561, 1, none⟩ = some (.int .i64 t552) := (blk_cell BK561.out 1).trans rfl; have hcz34_2 : w31.cell? ⟨gb561, 2, none⟩ = some (.int .i64 t553) := (blk_cell BK561.out 2).trans rfl; have hcz34_3 : w31.cell? ⟨gb561, 3, none⟩ = some (.int .i64 t554) := (blk_cell BK561.out 3).trans rfl; have hcz34_4 : w31.cell? ⟨gb561, 4, none⟩ = some (.int .i64 t555) := (blk_cell BK561.out 4).trans rfl; have hcz34_5 : w31.cell? ⟨gb561, 5, none⟩ = some (.int .i64 t556) := (blk_cell BK561.out 5).trans rfl; have hcz34_6 : w31.cell? ⟨gb561, 6, none⟩ = some (.int .i64 t557) := (blk_cell BK561.out 6).trans rfl; have hcz34_7 : w31.cell? ⟨gb561, 7, none⟩ = some (.int .i64 t558) := (blk_cell BK561.out 7).trans rfl; have hcz34_8 : w31.cell? ⟨gb561, 8, none⟩ = some (.int .i64 t559) := (blk_cell BK561.out 8).trans rfl; have hfz34_0 := blk_frozen BK561.out 0; have hfz34_1 := blk_frozen BK561.out 1; have hfz34_2 := blk_frozen BK561.out 2; have hfz34_3 := blk_frozen BK561.out 3; have hfz34_4 := blk_frozen BK561.out 4; have hfz34_5 := blk_frozen BK561.out 5; have hfz34_6 := blk_frozen BK561.out 6; have hfz34_7 := blk_frozen BK561.out 7; have hfz34_8 := blk_frozen BK561.out 8))
      go_ret
      exact ⟨by first | rfl | (simp [errW_none, errW_some] <;> rfl) | (simp [*, errW_none, errW_some] <;> rfl), by repeat (first | (with_reducible first | exact HB.out | apply below_alloc | apply pw_below_drewN | apply below_drew1 | refine below_set ?_ GE561.out | refine below_set ?_ GE572.out) | exact HB.out)⟩

/-- THE ONE PURE STATEMENT of damperlaw05_CommandDecodes: yours. -/
def damperlaw05_CommandDecodes.Pure : Prop := ∀ (l0 : List Int), l0.length ≤ maxLen → l0.length * 1 ≤ 140737488351232 → (∀ x ∈ l0, (Lit.int .u8 x).wf = true) → damperlaw05_CommandDecodes.f l0 = some true
theorem damperlaw05_CommandDecodes.walk (P : damperlaw05_CommandDecodes.Pure) (a0 : Option Addr) (len0 cap0 : Nat) (z0 : List Int) (w : World) (w0 : (a0 = none ∧ len0 = 0 ∧ cap0 = 0 ∧ z0 = []) ∨ ∃ x, a0 = some x ∧ len0 ≤ cap0 ∧ cap0 ≤ maxLen ∧ z0.length = cap0 ∧ (∀ i, i < z0.length → w.cell? (x.add i) = some (.int .u8 (z0.getD i 0))) ∧ ∀ n ∈ z0, (Lit.int .u8 n).wf = true) (y0 : len0 * 1 ≤ 140737488351232) :
    Calls Try.prog 14 #[.slice a0 len0 cap0] w fun e w' => e = .returned (.bool true) ∧ Below w.heap.size w w' := by
  obtain ⟨l0, rfl, hr0, hm0, hw0, hc0⟩ := ReadsInt.ofRowC w0
  have h := P l0 hm0 y0 hw0
  refine (damperlaw05_CommandDecodes.calls _ _ l0 true w (Kd.C_of_reads (d := (0 : Int)) (h1 := fun _ => rfl) hr0) hc0 h).mono ?_
  rintro e w' ⟨rfl, hd⟩
  exact ⟨rfl, hd⟩

end Go.Proofs.Ytalpemoodollpaa.P
/- The chapter's example: commands. -/
namespace Go.Proofs.Ytalpemoodollpaa.P
open Go.RowKit Go.Proofs.YtalpemoodollpaaW.PrintWords Go.Proofs.YtalpemoodollpaaW.PrintLast Go.Proofs.YtalpemoodollpaaW.PrintMore
set_option linter.unusedVariables false
set_option linter.unusedSimpArgs false
theorem mn_le {a b : Int} (h : ¬ b < a) : mn a b = a := by unfold mn; rw [if_neg (by omega)]
theorem mn_gt {a b : Int} (h : b < a) : mn a b = b := by unfold mn; rw [if_pos h]
theorem alive05 : damperlaw05_alive.f = some true := by
  have h : command_Decode.f [2, 3, 5] = some (2, 3, 5, 0, 0, 0, 0, 0, 0, 0) := by
    have hc : cmdDec [2, 3, 5] = (⟨2, 3, 5, 0, 0, 0, 0, 0, 0⟩, 0) := by rfl
    unfold command_Decode.f
    rw [if_pos (by decide), hc]
  unfold damperlaw05_alive.f
  rw [h]
  decide
theorem alive05_calls (w : World) : Calls Try.prog 71 #[] w fun e w' => e = .returned (.bool true) ∧ Below w.heap.size w w' := damperlaw05_alive.calls true w alive05
end Go.Proofs.Ytalpemoodollpaa.P
/- Commands: the document's decoding is the program's. -/
namespace Go.Proofs.Ytalpemoodollpaa.P
open Go.RowKit Go.Proofs.YtalpemoodollpaaW.PrintWords Go.Proofs.YtalpemoodollpaaW.PrintLast Go.Proofs.YtalpemoodollpaaW.PrintMore
set_option linter.unusedVariables false
set_option linter.unusedSimpArgs false
theorem fin_eq (k sym id owner side typ price qty flags : Int) (s : List Int × Int) : cmdFin k sym id owner side typ price qty flags s = refFin k sym id owner side typ price qty flags s := by
  unfold cmdFin refFin
  by_cases hs : s.2 = 0
  · rw [if_neg (show ¬ s.2 ≠ 0 from fun h => h hs), if_neg (show ¬ s.2 ≠ 0 from fun h => h hs)]
    by_cases hi : 4611686018427387904 < id
    · have e : mn id 4611686018427387905 = 4611686018427387905 := by unfold mn; split <;> omega
      rw [if_pos (Or.inl hi), if_pos (Or.inr (by rw [e]; simp [cmdRight, within_]))]
    · have e : mn id 4611686018427387905 = id := mn_le (by omega)
      rw [e]
      by_cases ho : 1073741824 < owner
      · have e2 : mn owner 1073741825 = 1073741825 := by unfold mn; split <;> omega
        rw [if_pos (Or.inr (Or.inl ho)), if_pos (Or.inr (by rw [e2]; simp [cmdRight, within_]))]
      · have e2 : mn owner 1073741825 = owner := mn_le (by omega)
        rw [e2]
        by_cases hl : 0 < s.1.length
        · rw [if_pos (Or.inl hl), if_pos (Or.inr (Or.inr hl))]
        · rw [if_neg (show ¬ (4611686018427387904 < id ∨ 1073741824 < owner ∨ 0 < s.1.length) by omega)]
          by_cases hr : cmdRight ⟨k, sym, id, owner, side, typ, price, qty, flags⟩ = false
          · rw [if_pos (Or.inr hr), if_pos hr]
          · rw [if_neg (by intro h; rcases h with h | h; exact hl h; exact hr h), if_neg hr]
  · rw [if_pos (show s.2 ≠ 0 from hs), if_pos (show s.2 ≠ 0 from hs)]
theorem mid_eq (k sym id owner side typ flags : Int) (s : List Int × Int) : cmdMid k sym id owner side typ flags s = refMid k sym id owner side typ flags s := by
  unfold cmdMid refMid
  simp only [fin_eq]
theorem rUint_one (x : Int) (t : List Int) : rUint (x :: t, 0) 1 = (x, (t, 0)) := by
  unfold rUint
  rw [if_neg (by decide), show (1 : Int).toNat = 1 from rfl, rTake_one]
  simp [beNum]
theorem refDec_eq (b : List Int) : refDec b = cmdDec b := by
  cases b with
  | nil => rfl
  | cons x t =>
    unfold refDec cmdDec refDecM
    rw [if_neg (by simp), rUint_one]
    simp only [List.getD_cons_zero]
    by_cases hx : x < 1 ∨ 3 < x
    · rw [if_pos hx, if_pos (show True ∧ (x < 1 ∨ 3 < x) from ⟨trivial, hx⟩)]
    · rw [if_neg hx, if_neg (show ¬ (True ∧ (x < 1 ∨ 3 < x)) from fun h => hx h.2)]
      simp only [mid_eq]
theorem commandDecodes_f (l : List Int) (hb : Byt l) : damperlaw05_CommandDecodes.f l = some true := by
  unfold damperlaw05_CommandDecodes.f
  rw [alive05]
  by_cases h : (l.length : Int) > 200
  · rw [if_pos h]; rfl
  · rw [if_neg h]
    have hp : bytB l = true ∧ l.length ≤ 140737488355328 := ⟨bytB_of hb, by omega⟩
    unfold command_Decode.f damperref05_Decode.f
    rw [if_pos hp, if_pos hp, refDec_eq]
    simp
theorem commandDecodes_calls (A0 : Option Addr) (c0 : Nat) (l0 : List Int) (w : World) (hr0 : Kd.C (Kd.int .u8) w A0 l0.length l0) (hc0 : l0.length ≤ c0) (hb : Byt l0) :
    Calls Try.prog 14 #[.slice A0 l0.length c0] w fun e w' => e = .returned (.bool true) ∧ Below w.heap.size w w' :=
  damperlaw05_CommandDecodes.calls A0 c0 l0 true w hr0 hc0 (commandDecodes_f l0 hb)
end Go.Proofs.Ytalpemoodollpaa.P
/- Commands back and forth. -/
namespace Go.Proofs.Ytalpemoodollpaa.P
open Go.RowKit Go.Proofs.YtalpemoodollpaaW.PrintWords Go.Proofs.YtalpemoodollpaaW.PrintLast Go.Proofs.YtalpemoodollpaaW.PrintMore
set_option linter.unusedVariables false
set_option linter.unusedSimpArgs false
def cmdToks (c : Cmd) : List Tok :=
  .one c.f0 :: .one c.f1 :: .num c.f2 :: (if c.f0 = 1 then [.num c.f3, .one c.f4, .one c.f5, .one c.f8] else []) ++ (if c.f0 = 2 then [] else [.int c.f6, .int c.f7])
theorem cmdToks_flat (c : Cmd) : flat (cmdToks c) = cmdForm c := by
  unfold cmdToks cmdForm flat
  by_cases h1 : c.f0 = 1
  · simp [h1, Tok.form]
  · by_cases h2 : c.f0 = 2
    · simp [h2, Tok.form]
    · simp [h1, h2, Tok.form]
theorem cmdRight_kind {c : Cmd} (h : cmdRight c = true) : c.f0 = 1 ∨ c.f0 = 2 ∨ c.f0 = 3 := by
  unfold cmdRight at h
  simp only [Bool.and_eq_true] at h
  have h3 := h.2
  by_cases h1 : c.f0 = 1
  · exact .inl h1
  · rw [if_neg h1] at h3
    by_cases k3 : c.f0 = 3
    · exact .inr (.inr k3)
    · rw [if_neg k3] at h3
      by_cases k2 : c.f0 = 2
      · exact .inr (.inl k2)
      · rw [if_neg k2] at h3; cases h3
theorem rI (n : Int) (h0 : -9223372036854775808 ≤ n) (h1 : n ≤ 9223372036854775807) (rest : List Int) : unzig (rUint (intForm n ++ rest, 0) 8).1 = n ∧ (rUint (intForm n ++ rest, 0) 8).2 = (rest, 0) := intForm_read n h0 h1 rest
theorem rN (n : Int) (h0 : 0 ≤ n) (h1 : n < 18446744073709551616) (rest : List Int) : rNum (numForm n.toNat ++ rest, 0) = (n, (rest, 0)) := by
  rw [rNum_form n.toNat (by omega), Int.toNat_of_nonneg h0]
/-- What is put is decoded; what lies behind is left. -/
theorem cmdDec_form (c : Cmd) (h : cmdRight c = true) (h6 : i64B c.f6 = true) (h7 : i64B c.f7 = true) (rest : List Int) :
    cmdDec (cmdForm c ++ rest) = if 0 < rest.length then (⟨0, 0, 0, 0, 0, 0, 0, 0, 0⟩, 4) else (c, 0) := by
  have hr := h
  obtain ⟨f0, f1, f2, f3, f4, f5, f6, f7, f8⟩ := c
  simp only [cmdRight, Bool.and_eq_true, within_iff] at hr
  simp only [i64B, within_iff] at h6 h7
  obtain ⟨⟨hs, hi⟩, h3⟩ := hr
  have hk := cmdRight_kind h
  dsimp only at hk hs hi h3 h6 h7
  have e2 : mn f2 4611686018427387905 = f2 := mn_le (by omega)
  unfold cmdForm cmdDec
  dsimp only
  have n2 := fun r => rN f2 (by omega) (by omega) r
  have i6 := fun r => rI f6 h6.1 h6.2 r
  have i7 := fun r => rI f7 h7.1 h7.2 r
  rcases hk with rfl | rfl | rfl
  · rw [if_pos rfl] at h3
    simp only [Bool.and_eq_true, within_iff] at h3
    have n3 := fun r => rN f3 (by omega) (by omega) r
    have e3 : mn f3 1073741825 = f3 := mn_le (by omega)
    rw [if_pos (rfl : (1 : Int) = 1), if_neg (show ¬ (1 : Int) = 2 by decide)]
    simp only [List.append_assoc, List.cons_append, List.nil_append, rUint_byte, n2, n3]
    rw [if_neg (by rintro ⟨_, h | h⟩ <;> omega), if_pos (by trivial)]
    unfold cmdMid cmdFin
    rw [if_neg (by decide)]
    rw [(i6 _).1, (i6 _).2, (i7 _).1, (i7 _).2, e2, e3]
    simp only [h]
    rw [if_neg (by simp)]
    by_cases hl : 0 < rest.length
    · rw [if_pos (Or.inl hl), if_pos hl]
    · rw [if_neg (by simpa using hl), if_neg hl]
  · rw [if_neg (by decide), if_neg (by decide), if_pos rfl] at h3
    simp only [Bool.and_eq_true, beq_iff_eq] at h3
    obtain ⟨rfl, rfl, rfl, rfl, rfl, rfl⟩ := h3
    rw [if_neg (show ¬ (2 : Int) = 1 by decide), if_pos (rfl : (2 : Int) = 2)]
    simp only [List.append_assoc, List.cons_append, List.nil_append, rUint_byte, n2]
    rw [if_neg (by rintro ⟨_, h | h⟩ <;> omega), if_neg (show ¬ (2 : Int) = 1 by decide)]
    unfold cmdMid cmdFin
    rw [if_pos rfl, e2, show mn 0 1073741825 = 0 by decide]
    simp only [h]
    rw [if_neg (by simp)]
    by_cases hl : 0 < rest.length
    · rw [if_pos (Or.inl hl), if_pos hl]
    · rw [if_neg (by simpa using hl), if_neg hl]
  · rw [if_neg (by decide), if_pos rfl] at h3
    simp only [Bool.and_eq_true, beq_iff_eq] at h3
    obtain ⟨rfl, rfl, rfl, rfl⟩ := h3
    rw [if_neg (show ¬ (3 : Int) = 1 by decide), if_neg (show ¬ (3 : Int) = 2 by decide)]
    simp only [List.append_assoc, List.cons_append, List.nil_append, rUint_byte, n2]
    rw [if_neg (by rintro ⟨_, h | h⟩ <;> omega), if_neg (show ¬ (3 : Int) = 1 by decide)]
    unfold cmdMid cmdFin
    rw [if_neg (by decide)]
    rw [(i6 _).1, (i6 _).2, (i7 _).1, (i7 _).2, e2, show mn 0 1073741825 = 0 by decide]
    simp only [h]
    rw [if_neg (by simp)]
    by_cases hl : 0 < rest.length
    · rw [if_pos (Or.inl hl), if_pos hl]
    · rw [if_neg (by simpa using hl), if_neg hl]
theorem cmdFin_short (k sym id owner side typ price qty flags : Int) (s : List Int × Int) (h : s.2 = 3) : (cmdFin k sym id owner side typ price qty flags s).2 = 3 := by
  unfold cmdFin
  rw [if_pos (by omega)]
  exact h
/-- Of fewer bytes: too few. -/
theorem cmdDec_short (c : Cmd) (h : cmdRight c = true) (h6 : i64B c.f6 = true) (h7 : i64B c.f7 = true) (m : Nat) (hm : m < (cmdForm c).length) : (cmdDec ((cmdForm c).take m)).2 = 3 := by
  have hr := h
  rw [← cmdToks_flat] at hm ⊢
  have hk := cmdRight_kind h
  obtain ⟨f0, f1, f2, f3, f4, f5, f6, f7, f8⟩ := c
  simp only [cmdRight, Bool.and_eq_true, within_iff] at hr
  simp only [i64B, within_iff] at h6 h7
  obtain ⟨⟨hs, hi⟩, h3⟩ := hr
  dsimp only at hk hs hi h3 h6 h7
  have hS := Sh.start _ m hm
  cases m with
  | zero => rfl
  | succ m =>
    have hS1 := Sh.step hS trivial
    have hb : (rUint ((flat (cmdToks ⟨f0, f1, f2, f3, f4, f5, f6, f7, f8⟩)).take (m + 1), 0) 1).1 = f0 ∧ (rUint ((flat (cmdToks ⟨f0, f1, f2, f3, f4, f5, f6, f7, f8⟩)).take (m + 1), 0) 1).2.2 = 0 := by
      unfold cmdToks
      rw [List.cons_append, flat_cons]
      show (rUint (f0 :: _, 0) 1).1 = f0 ∧ (rUint (f0 :: _, 0) 1).2.2 = 0
      rw [rUint_byte]
      exact ⟨rfl, rfl⟩
    have hS2 := Sh.step hS1 trivial
    have hS3 := Sh.step hS2 (show (Tok.num f2).ok from ⟨by omega, by omega⟩)
    unfold cmdDec
    rw [if_neg (by rw [hb.1]; omega), hb.1]
    dsimp only [Tok.next] at hS3
    generalize (rUint ((flat (cmdToks ⟨f0, f1, f2, f3, f4, f5, f6, f7, f8⟩)).take (m + 1), 0) 1) = P at *
    unfold cmdMid
    rcases hk with rfl | rfl | rfl
    · rw [if_pos rfl] at h3
      simp only [Bool.and_eq_true, within_iff] at h3
      have hS4 := Sh.step hS3 (show (Tok.num f3).ok from ⟨by omega, by omega⟩)
      have hS5 := Sh.step hS4 trivial
      have hS6 := Sh.step hS5 trivial
      have hS7 := Sh.step hS6 trivial
      have hS8 := Sh.step hS7 (show (Tok.int f6).ok from ⟨h6.1, h6.2⟩)
      have hS9 := Sh.step hS8 (show (Tok.int f7).ok from ⟨h7.1, h7.2⟩)
      rw [if_pos rfl, if_neg (by decide)]
      exact cmdFin_short _ _ _ _ _ _ _ _ _ _ hS9.nil
    · rw [if_neg (by decide), if_pos rfl]
      exact cmdFin_short _ _ _ _ _ _ _ _ _ _ (Sh.nil hS3)
    · have hS8 := Sh.step hS3 (show (Tok.int f6).ok from ⟨h6.1, h6.2⟩)
      have hS9 := Sh.step hS8 (show (Tok.int f7).ok from ⟨h7.1, h7.2⟩)
      rw [if_neg (by decide), if_neg (by decide)]
      exact cmdFin_short _ _ _ _ _ _ _ _ _ _ hS9.nil
theorem cmdFin_ok {k sym id owner side typ price qty flags : Int} {s : List Int × Int} (h : (cmdFin k sym id owner side typ price qty flags s).2 = 0) :
    s = ([], 0) ∧ (cmdFin k sym id owner side typ price qty flags s).1 = ⟨k, sym, id, owner, side, typ, price, qty, flags⟩ ∧ cmdRight ⟨k, sym, id, owner, side, typ, price, qty, flags⟩ = true := by
  rw [fin_eq] at h ⊢
  unfold refFin at h ⊢
  by_cases hs : s.2 = 0
  · rw [if_neg (show ¬ s.2 ≠ 0 from fun x => x hs)] at h ⊢
    by_cases h1 : 4611686018427387904 < id ∨ 1073741824 < owner ∨ 0 < s.1.length
    · rw [if_pos h1] at h; exact absurd h (by decide)
    · rw [if_neg h1] at h ⊢
      by_cases hr : cmdRight ⟨k, sym, id, owner, side, typ, price, qty, flags⟩ = false
      · rw [if_pos hr] at h; exact absurd h (by decide)
      · rw [if_neg hr]
        refine ⟨?_, rfl, by simpa using hr⟩
        have : s.1 = [] := List.eq_nil_of_length_eq_zero (by omega)
        exact Prod.ext this hs
  · rw [if_pos (show s.2 ≠ 0 from hs)] at h
    exact absurd h hs
theorem cmdFin_zero {k sym id owner side typ price qty flags : Int} {s : List Int × Int} (h : (cmdFin k sym id owner side typ price qty flags s).2 ≠ 0) : (cmdFin k sym id owner side typ price qty flags s).1 = ⟨0, 0, 0, 0, 0, 0, 0, 0, 0⟩ := by
  unfold cmdFin at h ⊢
  split
  · rfl
  · split
    · rfl
    · rename_i h1 h2
      rw [if_neg h1, if_neg h2] at h
      exact absurd rfl h
theorem cmdDec_zero (b : List Int) (h : (cmdDec b).2 ≠ 0) : (cmdDec b).1 = ⟨0, 0, 0, 0, 0, 0, 0, 0, 0⟩ := by
  unfold cmdDec cmdMid at h ⊢
  split
  · rfl
  · rename_i h1
    rw [if_neg h1] at h
    split
    · rename_i h2
      rw [if_pos h2] at h
      split
      · rename_i h3
        rw [if_pos h3] at h
        exact cmdFin_zero h
      · rename_i h3
        rw [if_neg h3] at h
        exact cmdFin_zero h
    · rename_i h2
      rw [if_neg h2] at h
      split
      · rename_i h3
        rw [if_pos h3] at h
        exact cmdFin_zero h
      · rename_i h3
        rw [if_neg h3] at h
        exact cmdFin_zero h
theorem i64_unzig (s : List Int × Int) (h : Byt s.1) : i64B (unzig (rUint s 8).1) = true := by
  have h1 := rUint_range s 8 h
  have := unzig_range _ h1.1 h1.2
  simp [i64B, within_]
  omega
/-- What is decoded is right, and has just those bytes. -/
theorem cmdDec_back (b : List Int) (hb : Byt b) (h : (cmdDec b).2 = 0) : cmdRight (cmdDec b).1 = true ∧ cmdForm (cmdDec b).1 = b ∧ i64B (cmdDec b).1.f6 = true ∧ i64B (cmdDec b).1.f7 = true := by
  have b0 : Byt ((b, (0 : Int)) : List Int × Int).1 := hb
  generalize hs0 : ((b, (0 : Int)) : List Int × Int) = s0 at b0
  have e0 : b = s0.1 := by rw [← hs0]
  unfold cmdDec cmdMid at h ⊢
  rw [hs0] at h ⊢
  have b1 := byt_rUint s0 1 b0
  have b2 := byt_rUint (rUint s0 1).2 1 b1
  have b3 := byt_rNum (rUint (rUint s0 1).2 1).2 b2
  have g0 := @byte_back s0 b0
  have g1 := @byte_back (rUint s0 1).2 b1
  have g2 := @num_back (rUint (rUint s0 1).2 1).2 b2
  by_cases h1 : (rUint s0 1).2.2 = 0 ∧ ((rUint s0 1).1 < 1 ∨ 3 < (rUint s0 1).1)
  · rw [if_pos h1] at h; exact absurd h (by decide)
  · rw [if_neg h1] at h ⊢
    have z64 : i64B 0 = true := by decide
    by_cases k1 : (rUint s0 1).1 = 1
    · rw [if_pos k1, if_neg (show ¬ (1 : Int) = 2 by decide)] at h ⊢
      obtain ⟨hs, he, hr⟩ := cmdFin_ok h
      rw [he]
      have b4 := byt_rNum _ b3
      have b5 := byt_rUint _ 1 b4
      have b6 := byt_rUint _ 1 b5
      have b7 := byt_rUint _ 1 b6
      have b8 := byt_rUint _ 8 b7
      have z9 := congrArg Prod.snd hs
      have z8 := keep_uint z9
      have z7 := keep_uint z8
      have z6 := keep_uint z7
      have z5 := keep_uint z6
      have z4 := keep_uint z5
      have z3 := keep_num z4
      have z2 := keep_num z3
      have z1 := keep_uint z2
      have x0 := g0 z1
      have x1 := g1 z2
      have x2 := g2 z3
      have x3 := num_back b3 z4
      have x4 := byte_back b4 z5
      have x5 := byte_back b5 z6
      have x6 := byte_back b6 z7
      have x7 := int_back b7 z8
      have x8 := int_back b8 z9
      have x9 := congrArg Prod.fst hs
      refine ⟨hr, ?_, i64_unzig _ b7, i64_unzig _ b8⟩
      unfold cmdForm
      dsimp only at x9 ⊢
      rw [if_pos rfl, if_neg (by decide)]
      conv => rhs; rw [e0, x0, x1, x2, x3, x4, x5, x6, x7, x8, x9, k1]
      simp [List.append_assoc]
    · rw [if_neg k1] at h ⊢
      by_cases k2 : (rUint s0 1).1 = 2
      · rw [if_pos k2] at h ⊢
        obtain ⟨hs, he, hr⟩ := cmdFin_ok h
        rw [he]
        have z3 := congrArg Prod.snd hs
        have z2 := keep_num z3
        have z1 := keep_uint z2
        have x0 := g0 z1
        have x1 := g1 z2
        have x2 := g2 z3
        have x9 := congrArg Prod.fst hs
        refine ⟨hr, ?_, z64, z64⟩
        unfold cmdForm
        dsimp only at x9 ⊢
        rw [if_neg k1, if_pos k2]
        conv => rhs; rw [e0, x0, x1, x2, x9]
        simp
      · rw [if_neg k2] at h ⊢
        obtain ⟨hs, he, hr⟩ := cmdFin_ok h
        rw [he]
        have b8 := byt_rUint _ 8 b3
        have z9 := congrArg Prod.snd hs
        have z8 := keep_uint z9
        have z3 := keep_uint z8
        have z2 := keep_num z3
        have z1 := keep_uint z2
        have x0 := g0 z1
        have x1 := g1 z2
        have x2 := g2 z3
        have x7 := int_back b3 z8
        have x8 := int_back b8 z9
        have x9 := congrArg Prod.fst hs
        refine ⟨hr, ?_, i64_unzig _ b3, i64_unzig _ b8⟩
        unfold cmdForm
        dsimp only at x9 ⊢
        rw [if_neg k1, if_neg k2]
        conv => rhs; rw [e0, x0, x1, x2, x7, x8, x9]
        simp [List.append_assoc]
end Go.Proofs.Ytalpemoodollpaa.P
/- The walk of CommandBack. -/
namespace Go.Proofs.Ytalpemoodollpaa.P
open Go.RowKit Go.Proofs.YtalpemoodollpaaW.PrintWords Go.Proofs.YtalpemoodollpaaW.PrintLast Go.Proofs.YtalpemoodollpaaW.PrintMore
set_option linter.unusedVariables false
set_option linter.unusedSimpArgs false
attribute [local go_sem high] eqA95
theorem cmdForm_byt (c : Cmd) (h : cmdRight c = true) : Byt (cmdForm c) := by
  have hr := h
  have hk := cmdRight_kind h
  simp only [cmdRight, Bool.and_eq_true, within_iff] at hr
  obtain ⟨⟨hs, hi⟩, h3⟩ := hr
  unfold cmdForm
  refine Byt.append (Byt.append (Byt.append (Byt.mk ⟨by omega, by omega⟩ (Byt.mk hs Byt.nil)) (numForm_byt _)) ?_) ?_
  · by_cases h1 : c.f0 = 1
    · rw [if_pos h1] at h3 ⊢
      simp only [Bool.and_eq_true, within_iff] at h3
      exact Byt.append (numForm_byt _) (Byt.mk ⟨by omega, by omega⟩ (Byt.mk ⟨by omega, by omega⟩ (Byt.mk ⟨by omega, by omega⟩ Byt.nil)))
    · rw [if_neg h1]; exact Byt.nil
  · split
    · exact Byt.nil
    · exact Byt.append (intForm_byt _) (intForm_byt _)
theorem cmdForm_len (c : Cmd) (h : cmdRight c = true) : (cmdForm c).length ≤ 100 := by
  have hr := h
  simp only [cmdRight, Bool.and_eq_true, within_iff] at hr
  obtain ⟨⟨hs, hi⟩, h3⟩ := hr
  have l2 := numForm_ten c.f2 (by omega)
  unfold cmdForm
  have a : (if c.f0 = 1 then numForm c.f3.toNat ++ [c.f4, c.f5, c.f8] else []).length ≤ 13 := by
    by_cases h1 : c.f0 = 1
    · rw [if_pos h1] at h3 ⊢
      simp only [Bool.and_eq_true, within_iff] at h3
      have l3 := numForm_ten c.f3 (by omega)
      simp; omega
    · rw [if_neg h1]; simp
  have b : (if c.f0 = 2 then [] else intForm c.f6 ++ intForm c.f7).length ≤ 16 := by
    split
    · simp
    · simp [intForm_length]
  simp only [List.length_append, List.length_cons, List.length_nil]
  omega
set_option maxRecDepth 100000 in
set_option maxHeartbeats 2000000 in
theorem commandBack_calls (a0 a1 a2 a3 a4 a5 a6 a7 a8 : Int) (A1 : Option Addr) (c1 : Nat) (b : List Int) (less : Int) (w : World) (h6 : i64B a6 = true) (h7 : i64B a7 = true)
    (hr1 : Kd.C (Kd.int .u8) w A1 b.length b) (hc1 : b.length ≤ c1) (hb : Byt b) (hless : -9223372036854775808 ≤ less ∧ less ≤ 9223372036854775807) :
    Calls Try.prog 20 #[.agg #[.int .i64 a0, .int .i64 a1, .int .i64 a2, .int .i64 a3, .int .i64 a4, .int .i64 a5, .int .i64 a6, .int .i64 a7, .int .i64 a8], .slice A1 b.length c1, .int .i64 less] w fun e w' => e = .returned (.bool true) ∧ Below w.heap.size w w' := by
  have hu95 := Try.underlying95
  have HR := Aside0.mk hr1
  have HC1 := Aside0.mk hc1
  have HY := Aside0.mk hb
  have H6 := Aside0.mk h6
  have H7 := Aside0.mk h7
  have hmax := hr1.2.1
  have hl1 := hless.1
  have hl2 := hless.2
  have BX0 := Aside0.mk (show Box9 (w.alloc (.cells #[.int .i64 a0, .int .i64 a1, .int .i64 a2, .int .i64 a3, .int .i64 a4, .int .i64 a5, .int .i64 a6, .int .i64 a7, .int .i64 a8] 95)) 95 w.heap.size a0 a1 a2 a3 a4 a5 a6 a7 a8 from blk_new w _)
  have B0 := Aside0.mk (below_alloc (Below.refl w.heap.size w) (.cells #[.int .i64 a0, .int .i64 a1, .int .i64 a2, .int .i64 a3, .int .i64 a4, .int .i64 a5, .int .i64 a6, .int .i64 a7, .int .i64 a8] 95))
  clear hr1 hc1 hb h6 h7 hless
  by_cases hbig : 200 < b.length
  · go_enter Try.func20, Try.ntmps20
    go_wp2_with fail
    refine (alive05_calls _).mono ?_
    rintro e w1 ⟨rfl, hd⟩
    have B1 := Aside0.mk (Below.trans B0.out (Below.mono hd B0.out.size))
    clear hd
    go_wp2
    go_ret
    exact ⟨rfl, B1.out⟩
  · have hs : b.length ≤ 200 := by omega
    have HS := Aside0.mk hs
    clear hbig
    have HE : Aside0 (command_Encode.f a0 a1 a2 a3 a4 a5 a6 a7 a8 = some (if cmdRight ⟨a0, a1, a2, a3, a4, a5, a6, a7, a8⟩ = true then (cmdForm ⟨a0, a1, a2, a3, a4, a5, a6, a7, a8⟩, 0) else ([], 1))) := ⟨by unfold command_Encode.f; rw [if_pos ⟨H6.out, H7.out⟩]⟩
    go_enter Try.func20, Try.ntmps20
    go_wp2_with fail
    cases hcr : cmdRight ⟨a0, a1, a2, a3, a4, a5, a6, a7, a8⟩ with
    | false =>
      rw [hcr] at HE
      have HE' := Aside0.mk (show command_Encode.f a0 a1 a2 a3 a4 a5 a6 a7 a8 = some ([], 1) from HE.out)
      clear HE
      have HCR := Aside0.mk hcr
      clear hcr
      refine (command_Encode.calls a0 a1 a2 a3 a4 a5 a6 a7 a8 _ _ _ HE'.out).mono ?_
      rintro e w1 ⟨v, rfl, hRr, hd⟩
      obtain ⟨X, m, rfl, hq, hC⟩ := Kd.R_reads hRr
      have B1 := Aside0.mk (Below.trans B0.out (Below.mono hd B0.out.size))
      have BX1 := Aside0.mk (show Box9 w1 95 w.heap.size a0 a1 a2 a3 a4 a5 a6 a7 a8 from (hd.block _ (by simp)).trans BX0.out)
      clear hRr hd hq hC
      obtain ⟨c0, c1_, c2, c3, c4, c5, c6, c7, c8⟩ := BX1.out.cells
      go_wp2_with fail
      refine (cmdRight_calls a0 a1 a2 a3 a4 a5 a6 a7 a8 w1).mono ?_
      rintro e w2 ⟨rfl, hd⟩
      rw [HCR.out]
      have B2 := Aside0.mk (Below.trans B1.out (Below.mono hd B1.out.size))
      clear hd c0 c1_ c2 c3 c4 c5 c6 c7 c8
      go_wp2_with fail
      refine (cmdDec_calls A1 c1 b _ (Kd.C_below HR.out B2.out) (by have := HS.out; omega) HY.out).mono ?_
      rintro e v1 ⟨rfl, hd⟩
      have T1 := Aside0.mk (Below.trans B2.out (Below.mono hd B2.out.size))
      clear hd
      have ZZ := cmdDec_zero b
      have BK := cmdDec_back b HY.out
      generalize cmdDec b = D at *
      obtain ⟨⟨d0, d1, d2, d3, d4, d5, d6, d7, d8⟩, g⟩ := D
      dsimp only at *
      by_cases hg : g = 0
      · subst hg
        obtain ⟨hR, hF, k6, k7⟩ := BK rfl
        have HE2 : Aside0 (command_Encode.f d0 d1 d2 d3 d4 d5 d6 d7 d8 = some (cmdForm ⟨d0, d1, d2, d3, d4, d5, d6, d7, d8⟩, 0)) := ⟨by unfold command_Encode.f; rw [if_pos ⟨k6, k7⟩, if_pos hR]⟩
        have HF := Aside0.mk hF
        clear ZZ BK hR hF k6 k7
        have T2 := Aside0.mk (below_alloc T1.out (.cells #[.int .i64 d0, .int .i64 d1, .int .i64 d2, .int .i64 d3, .int .i64 d4, .int .i64 d5, .int .i64 d6, .int .i64 d7, .int .i64 d8] 95))
        go_wp2_with fail
        refine (command_Encode.calls d0 d1 d2 d3 d4 d5 d6 d7 d8 _ _ _ HE2.out).mono ?_
        rintro e v2 ⟨v, rfl, hRr, hd⟩
        obtain ⟨X, m, rfl, hq, hC⟩ := Kd.R_reads hRr
        have T3 := Aside0.mk (Below.trans T2.out (Below.mono hd T2.out.size))
        have HQ := Aside0.mk hq
        have HCX := Aside0.mk hC
        clear hRr hd hq hC
        go_wp2_with fail
        refine (damperref03_Same.calls X m (cmdForm ⟨d0, d1, d2, d3, d4, d5, d6, d7, d8⟩) A1 c1 b true _ HCX.out HQ.out (Kd.C_below HR.out T3.out) HC1.out (by rw [HF.out]; exact same_of_eq b)).mono ?_
        rintro e v3 ⟨rfl, hd⟩
        have T4 := Aside0.mk (Below.trans T3.out (Below.mono hd.below T3.out.size))
        clear hd
        go_wp2_with fail
        refine (alive05_calls _).mono ?_
        rintro e v4 ⟨rfl, hd⟩
        have BZ := Aside0.mk (Below.trans T4.out (Below.mono hd T4.out.size))
        clear hd
        go_wp2
        go_ret
        exact ⟨rfl, BZ.out⟩
      · have hz := ZZ hg
        injection hz with e0 e1 e2 e3 e4 e5 e6 e7 e8
        subst e0 e1 e2 e3 e4 e5 e6 e7 e8
        have hgb : (g != 0) = true := by simpa using hg
        clear ZZ BK hg
        have T2 := Aside0.mk (below_alloc T1.out (.cells #[.int .i64 0, .int .i64 0, .int .i64 0, .int .i64 0, .int .i64 0, .int .i64 0, .int .i64 0, .int .i64 0, .int .i64 0] 95))
        go_wp2_with fail
        refine (alive05_calls _).mono ?_
        rintro e v2 ⟨rfl, hd⟩
        have BZ := Aside0.mk (Below.trans T2.out (Below.mono hd T2.out.size))
        clear hd
        go_wp2
        go_ret
        exact ⟨rfl, BZ.out⟩
    | true =>
      have HCR := Aside0.mk hcr
      have HE' : Aside0 (command_Encode.f a0 a1 a2 a3 a4 a5 a6 a7 a8 = some (cmdForm ⟨a0, a1, a2, a3, a4, a5, a6, a7, a8⟩, 0)) := ⟨by rw [HE.out, if_pos hcr]⟩
      clear HE hcr
      have YB := Aside0.mk (cmdForm_byt ⟨a0, a1, a2, a3, a4, a5, a6, a7, a8⟩ HCR.out)
      have YL := Aside0.mk (cmdForm_len ⟨a0, a1, a2, a3, a4, a5, a6, a7, a8⟩ HCR.out)
      have D0 := Aside0.mk (cmdDec_form ⟨a0, a1, a2, a3, a4, a5, a6, a7, a8⟩ HCR.out H6.out H7.out [])
      have D1 := Aside0.mk (cmdDec_form ⟨a0, a1, a2, a3, a4, a5, a6, a7, a8⟩ HCR.out H6.out H7.out [0])
      have D2 := Aside0.mk (cmdDec_short ⟨a0, a1, a2, a3, a4, a5, a6, a7, a8⟩ HCR.out H6.out H7.out)
      rw [List.append_nil, if_neg (by simp)] at D0
      rw [if_pos (by simp)] at D1
      refine (command_Encode.calls a0 a1 a2 a3 a4 a5 a6 a7 a8 _ _ _ HE'.out).mono ?_
      generalize cmdForm ⟨a0, a1, a2, a3, a4, a5, a6, a7, a8⟩ = x at *
      rintro e w1 ⟨v, rfl, hRr, hd⟩
      obtain ⟨X, m, rfl, hq, hC⟩ := Kd.R_reads hRr
      have B1 := Aside0.mk (Below.trans B0.out (Below.mono hd B0.out.size))
      have BX1 := Aside0.mk (show Box9 w1 95 w.heap.size a0 a1 a2 a3 a4 a5 a6 a7 a8 from (hd.block _ (by simp)).trans BX0.out)
      have HQ := Aside0.mk hq
      have CX1 := Aside0.mk hC
      clear hRr hd hq hC HE'
      obtain ⟨c0, c1_, c2, c3, c4, c5, c6, c7, c8⟩ := BX1.out.cells
      have HZ1 := Aside0.mk (blk_lt BX1.out)
      go_wp2_with fail
      refine (cmdRight_calls a0 a1 a2 a3 a4 a5 a6 a7 a8 w1).mono ?_
      rintro e w2 ⟨rfl, hd⟩
      rw [HCR.out]
      have B2 := Aside0.mk (Below.trans B1.out (Below.mono hd B1.out.size))
      have BX2 := Aside0.mk (show Box9 w2 95 w.heap.size a0 a1 a2 a3 a4 a5 a6 a7 a8 from (hd.block _ HZ1.out).trans BX1.out)
      have CX2 := Aside0.mk (Kd.C_below CX1.out hd)
      clear hd c0 c1_ c2 c3 c4 c5 c6 c7 c8 BX1 CX1 HZ1
      have xl : (x.length : Int) ≤ 100 := by have := YL.out; omega
      go_wp2_with fail
      refine (cmdDec_calls X m x _ CX2.out (by have := YL.out; omega) YB.out).mono ?_
      rw [D0.out]
      rintro e w3 ⟨rfl, hd⟩
      have B3 := Aside0.mk (Below.trans B2.out (Below.mono hd B2.out.size))
      have BX3 := Aside0.mk (show Box9 w3 95 w.heap.size a0 a1 a2 a3 a4 a5 a6 a7 a8 from (hd.block _ (blk_lt BX2.out)).trans BX2.out)
      have CX3 := Aside0.mk (Kd.C_below CX2.out hd)
      clear hd BX2 CX2 D0
      have BX4 := Aside0.mk (show Box9 (w3.alloc (.cells #[.int .i64 a0, .int .i64 a1, .int .i64 a2, .int .i64 a3, .int .i64 a4, .int .i64 a5, .int .i64 a6, .int .i64 a7, .int .i64 a8] 95)) 95 w.heap.size a0 a1 a2 a3 a4 a5 a6 a7 a8 from blk_alloc BX3.out _)
      have BY4 := Aside0.mk (show Box9 (w3.alloc (.cells #[.int .i64 a0, .int .i64 a1, .int .i64 a2, .int .i64 a3, .int .i64 a4, .int .i64 a5, .int .i64 a6, .int .i64 a7, .int .i64 a8] 95)) 95 w3.heap.size a0 a1 a2 a3 a4 a5 a6 a7 a8 from blk_new w3 _)
      have B4 := Aside0.mk (below_alloc B3.out (.cells #[.int .i64 a0, .int .i64 a1, .int .i64 a2, .int .i64 a3, .int .i64 a4, .int .i64 a5, .int .i64 a6, .int .i64 a7, .int .i64 a8] 95))
      have HLT3 := Aside0.mk (blk_lt BX3.out)
      clear BX3
      have O5 : Aside0 (((w3.alloc (.cells #[.int .i64 a0, .int .i64 a1, .int .i64 a2, .int .i64 a3, .int .i64 a4, .int .i64 a5, .int .i64 a6, .int .i64 a7, .int .i64 a8] 95)).alloc (.cells #[] 5)).ownsRow (w3.heap.size + 1) 5 1 (.slice (some ⟨w3.heap.size + 1, 0, none⟩) 0 0) ([] : List Int).length (nums .u8 [])) := ⟨by have := own_lit (w3.alloc (.cells #[.int .i64 a0, .int .i64 a1, .int .i64 a2, .int .i64 a3, .int .i64 a4, .int .i64 a5, .int .i64 a6, .int .i64 a7, .int .i64 a8] 95)) (w3.heap.size + 1) 5 .u8 [] (by simp) (by simp); rw [World.size_alloc] at this; exact this⟩
      have B5 : Aside0 (Below (w3.heap.size + 1) (w3.alloc (.cells #[.int .i64 a0, .int .i64 a1, .int .i64 a2, .int .i64 a3, .int .i64 a4, .int .i64 a5, .int .i64 a6, .int .i64 a7, .int .i64 a8] 95)) ((w3.alloc (.cells #[.int .i64 a0, .int .i64 a1, .int .i64 a2, .int .i64 a3, .int .i64 a4, .int .i64 a5, .int .i64 a6, .int .i64 a7, .int .i64 a8] 95)).alloc (.cells #[] 5))) := ⟨by have := below_alloc (Below.refl (w3.alloc (.cells #[.int .i64 a0, .int .i64 a1, .int .i64 a2, .int .i64 a3, .int .i64 a4, .int .i64 a5, .int .i64 a6, .int .i64 a7, .int .i64 a8] 95)).heap.size (w3.alloc (.cells #[.int .i64 a0, .int .i64 a1, .int .i64 a2, .int .i64 a3, .int .i64 a4, .int .i64 a5, .int .i64 a6, .int .i64 a7, .int .i64 a8] 95))) (.cells #[] 5); rw [World.size_alloc] at this; exact this⟩
      have CX5 := Aside0.mk (Kd.C_below CX3.out (below_alloc (below_alloc (Below.refl w3.heap.size w3) (.cells #[.int .i64 a0, .int .i64 a1, .int .i64 a2, .int .i64 a3, .int .i64 a4, .int .i64 a5, .int .i64 a6, .int .i64 a7, .int .i64 a8] 95)) (.cells #[] 5)))
      have R5 := Aside0.mk (Kd.reads_of_C (d := (0 : Int)) CX5.out)
      obtain ⟨x1, hx1⟩ : ∃ x1, x1 = x ++ [0] := ⟨_, rfl⟩
      rw [← hx1] at D1
      have YB1 : Aside0 (Byt x1) := ⟨by rw [hx1]; exact Byt.append YB.out (Byt.mk ⟨by omega, by omega⟩ Byt.nil)⟩
      have YL1 : Aside0 (x1.length ≤ 101) := ⟨by have := YL.out; rw [hx1]; simp; omega⟩
      have HX1 := Aside0.mk hx1
      clear hx1
      go_wp2_with (first | (at_builtin; have _t := O5; refine print_append_row (w0 := (w3.alloc (.cells #[.int .i64 a0, .int .i64 a1, .int .i64 a2, .int .i64 a3, .int .i64 a4, .int .i64 a5, .int .i64 a6, .int .i64 a7, .int .i64 a8] 95))) (w3.heap.size + 1) rfl (.tmp 41) (.tmp 42) 30 5 .u8 1 rfl Try.underlying30 info5 (by decide) (.slice (some ⟨w3.heap.size + 1, 0, none⟩) 0 0) [] x X x.length m rfl rfl O5.out R5.out B5.out (by simp) (by have := YL.out; simp; omega) ?_; intro v6 w6 hown hbel hgr hat; have O6 : Aside0 (w6.ownsRow (w3.heap.size + 1) 5 1 v6 x.length (nums .u8 x)) := ⟨hown⟩; have B6 := Aside0.mk hbel; have LZ := Aside0.mk (Kd.reads_of_C (d := (0 : Int)) (lit_C w6 [0] (by simp))); have S6 := Aside0.mk (Nat.le_trans (by simp : w3.heap.size + 1 ≤ (w3.alloc (.cells #[.int .i64 a0, .int .i64 a1, .int .i64 a2, .int .i64 a3, .int .i64 a4, .int .i64 a5, .int .i64 a6, .int .i64 a7, .int .i64 a8] 95)).heap.size) hbel.size); clear hown hbel hgr hat O5 _t) | (at_builtin; refine print_append_row (w0 := (w3.alloc (.cells #[.int .i64 a0, .int .i64 a1, .int .i64 a2, .int .i64 a3, .int .i64 a4, .int .i64 a5, .int .i64 a6, .int .i64 a7, .int .i64 a8] 95))) (w3.heap.size + 1) rfl (.tmp 43) (.tmp 44) 30 5 .u8 1 rfl Try.underlying30 info5 (by decide) v6 x [0] (some ⟨w6.heap.size, 0, none⟩) 1 1 rfl rfl (O6.out.alloc _) LZ.out (B6.out.alloc S6.out _) (by have := S6.out; simp; omega) (by have := YL.out; omega) ?_; intro v7 w7 hown hbel hgr hat; rw [← HX1.out] at hown; obtain ⟨A7, m7, rfl, hq7, hR7⟩ := own_reads_of_le (enc := Value.int .u8) (d := (0 : Int)) hown; have R7 := Aside0.mk (Kd.C_of_reads (d := (0 : Int)) (h1 := fun _ => rfl) hR7 : Kd.C (Kd.int .u8) w7 A7 x1.length x1); have B7 := Aside0.mk hbel; clear hown hbel hgr hat hq7 hR7))
      refine (cmdDec_calls A7 m7 x1 _ R7.out (by have := YL1.out; omega) YB1.out).mono ?_
      rw [D1.out]
      rintro e w8 ⟨rfl, hd⟩
      have B8 := Aside0.mk (B7.out.trans (Below.mono hd (Nat.le_trans (by simp) B7.out.size)))
      have BX8 := Aside0.mk (show Box9 w8 95 w.heap.size a0 a1 a2 a3 a4 a5 a6 a7 a8 from (B8.out.block _ (by have := HLT3.out; omega)).trans BX4.out)
      have BY8 := Aside0.mk (show Box9 w8 95 w3.heap.size a0 a1 a2 a3 a4 a5 a6 a7 a8 from (B8.out.block _ (by omega)).trans BY4.out)
      have BW8 := Aside0.mk (B4.out.trans (Below.mono B8.out (by have := B3.out.size; omega)))
      have CX8 := Aside0.mk (Kd.C_below (Kd.C_below CX3.out (below_alloc (Below.refl w3.heap.size w3) (.cells #[.int .i64 a0, .int .i64 a1, .int .i64 a2, .int .i64 a3, .int .i64 a4, .int .i64 a5, .int .i64 a6, .int .i64 a7, .int .i64 a8] 95))) (show Below (w3.alloc (.cells #[.int .i64 a0, .int .i64 a1, .int .i64 a2, .int .i64 a3, .int .i64 a4, .int .i64 a5, .int .i64 a6, .int .i64 a7, .int .i64 a8] 95)).heap.size (w3.alloc (.cells #[.int .i64 a0, .int .i64 a1, .int .i64 a2, .int .i64 a3, .int .i64 a4, .int .i64 a5, .int .i64 a6, .int .i64 a7, .int .i64 a8] 95)) w8 by rw [World.size_alloc]; exact B8.out))
      clear hd R7 B7 D1 B5 CX5 R5 O6 B6 LZ S6 B8 BX4 BY4 B4 CX3
      dsimp only
      have BX9 := Aside0.mk (show Box9 (w8.alloc (.cells #[.int .i64 0, .int .i64 0, .int .i64 0, .int .i64 0, .int .i64 0, .int .i64 0, .int .i64 0, .int .i64 0, .int .i64 0] 95)) 95 w.heap.size a0 a1 a2 a3 a4 a5 a6 a7 a8 from blk_alloc BX8.out _)
      have BY9 := Aside0.mk (show Box9 (w8.alloc (.cells #[.int .i64 0, .int .i64 0, .int .i64 0, .int .i64 0, .int .i64 0, .int .i64 0, .int .i64 0, .int .i64 0, .int .i64 0] 95)) 95 w3.heap.size a0 a1 a2 a3 a4 a5 a6 a7 a8 from blk_alloc BY8.out _)
      have B9 := Aside0.mk (below_alloc BW8.out (.cells #[.int .i64 0, .int .i64 0, .int .i64 0, .int .i64 0, .int .i64 0, .int .i64 0, .int .i64 0, .int .i64 0, .int .i64 0] 95))
      have CX9 := Aside0.mk (Kd.C_below CX8.out (below_alloc (Below.refl _ _) (.cells #[.int .i64 0, .int .i64 0, .int .i64 0, .int .i64 0, .int .i64 0, .int .i64 0, .int .i64 0, .int .i64 0, .int .i64 0] 95)))
      obtain ⟨c0, c1_, c2, c3, c4, c5, c6, c7, c8⟩ := BX9.out.cells
      obtain ⟨e0, e1, e2, e3, e4, e5, e6, e7, e8⟩ := BY9.out.cells
      by_cases hp : 0 < less
      · by_cases hq : less ≤ (x.length : Int)
        · have D3 := Aside0.mk (D2.out ((x.length : Int) - less).toNat (by omega))
          obtain ⟨i5, hi5⟩ : ∃ i, Try.prog.info? 5 = some i := Option.isSome_iff_exists.1 (by kernel_rfl)
          obtain ⟨hcut, hrd, hle⟩ := print_take_int (k := .u8) 30 5 Try.underlying30 hi5 (by have h := info5; rw [hi5] at h; simp at h; exact h.2.1) X m x ((x.length : Int) - less) (by omega) (by omega) HQ.out
          have CT := Aside0.mk (Kd.C_of_reads (d := (0 : Int)) (h1 := fun _ => rfl) (hrd _ (Kd.reads_of_C (d := (0 : Int)) CX9.out)) : Kd.C (Kd.int .u8) _ X (x.take ((x.length : Int) - less).toNat).length (x.take ((x.length : Int) - less).toNat))
          have YT := Aside0.mk (YB.out.take ((x.length : Int) - less).toNat)
          have LT := Aside0.mk (show (x.take ((x.length : Int) - less).toNat).length ≤ 100 by have := YL.out; rw [List.length_take]; omega)
          clear hrd hle hi5 D2
          generalize x.take ((x.length : Int) - less).toNat = xt at *
          go_wp2_with fail
          clear c0 c1_ c2 c3 c4 c5 c6 c7 c8 e0 e1 e2 e3 e4 e5 e6 e7 e8
          refine (cmdDec_calls X m xt _ CT.out (by have := LT.out; omega) YT.out).mono ?_
          generalize cmdDec xt = P at *
          obtain ⟨⟨p0, p1, p2, p3, p4, p5, p6, p7, p8⟩, pf⟩ := P
          dsimp only at *
          obtain rfl := D3.out
          rintro e w10 ⟨rfl, hd⟩
          have B10 := Aside0.mk (Below.trans B9.out (Below.mono hd B9.out.size))
          have B11 := Aside0.mk (below_alloc B10.out (.cells #[.int .i64 p0, .int .i64 p1, .int .i64 p2, .int .i64 p3, .int .i64 p4, .int .i64 p5, .int .i64 p6, .int .i64 p7, .int .i64 p8] 95))
          clear hd
          go_wp2_with fail
          refine (cmdDec_calls A1 c1 b _ (Kd.C_below HR.out B11.out) (by have := HS.out; omega) HY.out).mono ?_
          rintro e v1 ⟨rfl, hd⟩
          have T1 := Aside0.mk (Below.trans B11.out (Below.mono hd B11.out.size))
          clear hd
          have ZZ := cmdDec_zero b
          have BK := cmdDec_back b HY.out
          generalize cmdDec b = D at *
          obtain ⟨⟨d0, d1, d2, d3, d4, d5, d6, d7, d8⟩, g⟩ := D
          dsimp only at *
          by_cases hg : g = 0
          · subst hg
            obtain ⟨hR, hF, k6, k7⟩ := BK rfl
            have HE2 : Aside0 (command_Encode.f d0 d1 d2 d3 d4 d5 d6 d7 d8 = some (cmdForm ⟨d0, d1, d2, d3, d4, d5, d6, d7, d8⟩, 0)) := ⟨by unfold command_Encode.f; rw [if_pos ⟨k6, k7⟩, if_pos hR]⟩
            have HF := Aside0.mk hF
            clear ZZ BK hR hF k6 k7
            have T2 := Aside0.mk (below_alloc T1.out (.cells #[.int .i64 d0, .int .i64 d1, .int .i64 d2, .int .i64 d3, .int .i64 d4, .int .i64 d5, .int .i64 d6, .int .i64 d7, .int .i64 d8] 95))
            go_wp2_with fail
            refine (command_Encode.calls d0 d1 d2 d3 d4 d5 d6 d7 d8 _ _ _ HE2.out).mono ?_
            rintro e v2 ⟨v, rfl, hRr, hd⟩
            obtain ⟨X, m, rfl, hq, hC⟩ := Kd.R_reads hRr
            have T3 := Aside0.mk (Below.trans T2.out (Below.mono hd T2.out.size))
            have HQ := Aside0.mk hq
            have HCX := Aside0.mk hC
            clear hRr hd hq hC
            go_wp2_with fail
            refine (damperref03_Same.calls X m (cmdForm ⟨d0, d1, d2, d3, d4, d5, d6, d7, d8⟩) A1 c1 b true _ HCX.out HQ.out (Kd.C_below HR.out T3.out) HC1.out (by rw [HF.out]; exact same_of_eq b)).mono ?_
            rintro e v3 ⟨rfl, hd⟩
            have T4 := Aside0.mk (Below.trans T3.out (Below.mono hd.below T3.out.size))
            clear hd
            go_wp2_with fail
            refine (alive05_calls _).mono ?_
            rintro e v4 ⟨rfl, hd⟩
            have BZ := Aside0.mk (Below.trans T4.out (Below.mono hd T4.out.size))
            clear hd
            go_wp2
            go_ret
            exact ⟨rfl, BZ.out⟩
          · have hz := ZZ hg
            injection hz with e0 e1 e2 e3 e4 e5 e6 e7 e8
            subst e0 e1 e2 e3 e4 e5 e6 e7 e8
            have hgb : (g != 0) = true := by simpa using hg
            clear ZZ BK hg
            have T2 := Aside0.mk (below_alloc T1.out (.cells #[.int .i64 0, .int .i64 0, .int .i64 0, .int .i64 0, .int .i64 0, .int .i64 0, .int .i64 0, .int .i64 0, .int .i64 0] 95))
            go_wp2_with fail
            refine (alive05_calls _).mono ?_
            rintro e v2 ⟨rfl, hd⟩
            have BZ := Aside0.mk (Below.trans T2.out (Below.mono hd T2.out.size))
            clear hd
            go_wp2
            go_ret
            exact ⟨rfl, BZ.out⟩
        · have hqq : (x.length : Int) < less := by omega
          clear hq
          go_wp2_with fail
          clear c0 c1_ c2 c3 c4 c5 c6 c7 c8 e0 e1 e2 e3 e4 e5 e6 e7 e8
          refine (cmdDec_calls A1 c1 b _ (Kd.C_below HR.out B9.out) (by have := HS.out; omega) HY.out).mono ?_
          rintro e v1 ⟨rfl, hd⟩
          have T1 := Aside0.mk (Below.trans B9.out (Below.mono hd B9.out.size))
          clear hd
          have ZZ := cmdDec_zero b
          have BK := cmdDec_back b HY.out
          generalize cmdDec b = D at *
          obtain ⟨⟨d0, d1, d2, d3, d4, d5, d6, d7, d8⟩, g⟩ := D
          dsimp only at *
          by_cases hg : g = 0
          · subst hg
            obtain ⟨hR, hF, k6, k7⟩ := BK rfl
            have HE2 : Aside0 (command_Encode.f d0 d1 d2 d3 d4 d5 d6 d7 d8 = some (cmdForm ⟨d0, d1, d2, d3, d4, d5, d6, d7, d8⟩, 0)) := ⟨by unfold command_Encode.f; rw [if_pos ⟨k6, k7⟩, if_pos hR]⟩
            have HF := Aside0.mk hF
            clear ZZ BK hR hF k6 k7
            have T2 := Aside0.mk (below_alloc T1.out (.cells #[.int .i64 d0, .int .i64 d1, .int .i64 d2, .int .i64 d3, .int .i64 d4, .int .i64 d5, .int .i64 d6, .int .i64 d7, .int .i64 d8] 95))
            go_wp2_with fail
            refine (command_Encode.calls d0 d1 d2 d3 d4 d5 d6 d7 d8 _ _ _ HE2.out).mono ?_
            rintro e v2 ⟨v, rfl, hRr, hd⟩
            obtain ⟨X, m, rfl, hq, hC⟩ := Kd.R_reads hRr
            have T3 := Aside0.mk (Below.trans T2.out (Below.mono hd T2.out.size))
            have HQ := Aside0.mk hq
            have HCX := Aside0.mk hC
            clear hRr hd hq hC
            go_wp2_with fail
            refine (damperref03_Same.calls X m (cmdForm ⟨d0, d1, d2, d3, d4, d5, d6, d7, d8⟩) A1 c1 b true _ HCX.out HQ.out (Kd.C_below HR.out T3.out) HC1.out (by rw [HF.out]; exact same_of_eq b)).mono ?_
            rintro e v3 ⟨rfl, hd⟩
            have T4 := Aside0.mk (Below.trans T3.out (Below.mono hd.below T3.out.size))
            clear hd
            go_wp2_with fail
            refine (alive05_calls _).mono ?_
            rintro e v4 ⟨rfl, hd⟩
            have BZ := Aside0.mk (Below.trans T4.out (Below.mono hd T4.out.size))
            clear hd
            go_wp2
            go_ret
            exact ⟨rfl, BZ.out⟩
          · have hz := ZZ hg
            injection hz with e0 e1 e2 e3 e4 e5 e6 e7 e8
            subst e0 e1 e2 e3 e4 e5 e6 e7 e8
            have hgb : (g != 0) = true := by simpa using hg
            clear ZZ BK hg
            have T2 := Aside0.mk (below_alloc T1.out (.cells #[.int .i64 0, .int .i64 0, .int .i64 0, .int .i64 0, .int .i64 0, .int .i64 0, .int .i64 0, .int .i64 0, .int .i64 0] 95))
            go_wp2_with fail
            refine (alive05_calls _).mono ?_
            rintro e v2 ⟨rfl, hd⟩
            have BZ := Aside0.mk (Below.trans T2.out (Below.mono hd T2.out.size))
            clear hd
            go_wp2
            go_ret
            exact ⟨rfl, BZ.out⟩
      · have hpp : less ≤ 0 := by omega
        clear hp
        go_wp2_with fail
        clear c0 c1_ c2 c3 c4 c5 c6 c7 c8 e0 e1 e2 e3 e4 e5 e6 e7 e8
        refine (cmdDec_calls A1 c1 b _ (Kd.C_below HR.out B9.out) (by have := HS.out; omega) HY.out).mono ?_
        rintro e v1 ⟨rfl, hd⟩
        have T1 := Aside0.mk (Below.trans B9.out (Below.mono hd B9.out.size))
        clear hd
        have ZZ := cmdDec_zero b
        have BK := cmdDec_back b HY.out
        generalize cmdDec b = D at *
        obtain ⟨⟨d0, d1, d2, d3, d4, d5, d6, d7, d8⟩, g⟩ := D
        dsimp only at *
        by_cases hg : g = 0
        · subst hg
          obtain ⟨hR, hF, k6, k7⟩ := BK rfl
          have HE2 : Aside0 (command_Encode.f d0 d1 d2 d3 d4 d5 d6 d7 d8 = some (cmdForm ⟨d0, d1, d2, d3, d4, d5, d6, d7, d8⟩, 0)) := ⟨by unfold command_Encode.f; rw [if_pos ⟨k6, k7⟩, if_pos hR]⟩
          have HF := Aside0.mk hF
          clear ZZ BK hR hF k6 k7
          have T2 := Aside0.mk (below_alloc T1.out (.cells #[.int .i64 d0, .int .i64 d1, .int .i64 d2, .int .i64 d3, .int .i64 d4, .int .i64 d5, .int .i64 d6, .int .i64 d7, .int .i64 d8] 95))
          go_wp2_with fail
          refine (command_Encode.calls d0 d1 d2 d3 d4 d5 d6 d7 d8 _ _ _ HE2.out).mono ?_
          rintro e v2 ⟨v, rfl, hRr, hd⟩
          obtain ⟨X, m, rfl, hq, hC⟩ := Kd.R_reads hRr
          have T3 := Aside0.mk (Below.trans T2.out (Below.mono hd T2.out.size))
          have HQ := Aside0.mk hq
          have HCX := Aside0.mk hC
          clear hRr hd hq hC
          go_wp2_with fail
          refine (damperref03_Same.calls X m (cmdForm ⟨d0, d1, d2, d3, d4, d5, d6, d7, d8⟩) A1 c1 b true _ HCX.out HQ.out (Kd.C_below HR.out T3.out) HC1.out (by rw [HF.out]; exact same_of_eq b)).mono ?_
          rintro e v3 ⟨rfl, hd⟩
          have T4 := Aside0.mk (Below.trans T3.out (Below.mono hd.below T3.out.size))
          clear hd
          go_wp2_with fail
          refine (alive05_calls _).mono ?_
          rintro e v4 ⟨rfl, hd⟩
          have BZ := Aside0.mk (Below.trans T4.out (Below.mono hd T4.out.size))
          clear hd
          go_wp2
          go_ret
          exact ⟨rfl, BZ.out⟩
        · have hz := ZZ hg
          injection hz with e0 e1 e2 e3 e4 e5 e6 e7 e8
          subst e0 e1 e2 e3 e4 e5 e6 e7 e8
          have hgb : (g != 0) = true := by simpa using hg
          clear ZZ BK hg
          have T2 := Aside0.mk (below_alloc T1.out (.cells #[.int .i64 0, .int .i64 0, .int .i64 0, .int .i64 0, .int .i64 0, .int .i64 0, .int .i64 0, .int .i64 0, .int .i64 0] 95))
          go_wp2_with fail
          refine (alive05_calls _).mono ?_
          rintro e v2 ⟨rfl, hd⟩
          have BZ := Aside0.mk (Below.trans T2.out (Below.mono hd T2.out.size))
          clear hd
          go_wp2
          go_ret
          exact ⟨rfl, BZ.out⟩
end Go.Proofs.Ytalpemoodollpaa.P
/- damperref04.Take: what it tells is what frame.Take tells. -/
namespace Go.Proofs.Ytalpemoodollpaa.P
open Go.RowKit Go.Proofs.YtalpemoodollpaaW.PrintWords Go.Proofs.YtalpemoodollpaaW.PrintLast Go.Proofs.YtalpemoodollpaaW.PrintMore
set_option linter.unusedVariables false
set_option linter.unusedSimpArgs false
set_option maxRecDepth 100000 in
set_option maxHeartbeats 2000000 in
theorem refTake_calls (A0 : Option Addr) (c0 : Nat) (l0 : List Int) (w : World) (hr0 : Kd.C (Kd.int .u8) w A0 l0.length l0) (hc0 : l0.length ≤ c0) (hb : Byt l0) (hl : l0.length ≤ 140737488355328) :
    Calls Try.prog 47 #[.slice A0 l0.length c0] w fun e w' => ∃ A c, e = .returned (.tuple #[.slice A (takeF l0).1.length c, .int .i64 (takeF l0).2.1, .int .i64 (takeF l0).2.2]) ∧
      Kd.C (Kd.int .u8) w' A (takeF l0).1.length (takeF l0).1 ∧ (takeF l0).1.length ≤ c ∧ Below w.heap.size w w' := by
  have HR := Aside0.mk hr0
  have HL := Aside0.mk hl
  have HC0 := Aside0.mk hc0
  have HU := Aside0.mk (refReadUint l0 2 hb 12 (by omega))
  clear hr0 hl hc0
  generalize hF : takeF l0 = F
  have HF := Aside0.mk hF
  clear hF
  go_enter Try.func47, Try.ntmps47
  go_wp2_with fail
  have hT : rdUint l0 2 = if l0.length < 2 then (0, 0, [], 0, 3) else (beNum (l0.take 2), 0, [], 2, 0) := by
    unfold rdUint
    rw [if_neg (by decide)]
    by_cases h : l0.length < 2
    · rw [if_pos (by omega), if_pos h]
    · rw [if_neg (by omega), if_neg h]; rfl
  rw [hT] at HU
  by_cases h2 : l0.length < 2
  · rw [if_pos h2] at HU
    refine (damperref03_ReadUint.calls 12 A0 c0 l0 2 _ _ _ _ _ w HR.out HC0.out HU.out).mono ?_
    rintro e w1 ⟨v2, rfl, hR, hbl⟩
    obtain ⟨A2, c2, rfl⟩ := Kd.R_slice hR
    have HB := Aside0.mk hbl
    clear hR hbl HU hT
    have H2 := Aside0.mk h2
    clear h2
    go_wp2
    go_ret3
    have hb0 := below_alloc HB.out (.cells #[.int .u64 0, .int .i64 0, .slice A2 0 c2, .int .i64 0, .int .i64 3] 81)
    have e : takeF l0 = ([], 0, 3) := by unfold takeF; rw [if_pos H2.out]
    obtain rfl : F = ([], 0, 3) := HF.out.symm.trans e
    exact ⟨none, 0, rfl, Kd.C_nil _ _, Nat.le_refl _, hb0⟩
  · rw [if_neg h2] at HU
    refine (damperref03_ReadUint.calls 12 A0 c0 l0 2 _ _ _ _ _ w HR.out HC0.out HU.out).mono ?_
    rintro e w1 ⟨v2, rfl, hR, hbl⟩
    obtain ⟨A2, c2, rfl⟩ := Kd.R_slice hR
    have hrg := beNum_range (l0.take 2) (hb.take 2)
    have hrl : (l0.take 2).length = 2 := by rw [List.length_take]; omega
    rw [hrl] at hrg
    have hn0 := hrg.1
    have hn1 : beNum (l0.take 2) < 65536 := hrg.2
    have e : takeF l0 = if 64 < beNum (l0.take 2) then ([], 0, 4) else if (l0.length : Int) < 2 + beNum (l0.take 2) then ([], 0, 3) else ((l0.drop 2).take (beNum (l0.take 2)).toNat, 2 + beNum (l0.take 2), 0) := by
      rw [takeF, if_neg h2]
    have HE : Aside0 ((if 64 < beNum (l0.take 2) then (([] : List Int), (0 : Int), (4 : Int)) else if (l0.length : Int) < 2 + beNum (l0.take 2) then ([], 0, 3) else ((l0.drop 2).take (beNum (l0.take 2)).toNat, 2 + beNum (l0.take 2), 0)) = F) := ⟨e.symm.trans HF.out⟩
    have HRN := Aside0.mk (HR.out)
    have HB := Aside0.mk (Kd.C_below HR.out hbl)
    have HBL := Aside0.mk hbl
    clear hR hbl HU hT e hrg hrl hb HR HF
    obtain ⟨m, hm⟩ := Int.eq_ofNat_of_zero_le hn0
    rw [hm] at hn1 HE ⊢
    clear hn0 hm
    have H2 := Aside0.mk h2
    have HM := Aside0.mk hn1
    clear h2
    by_cases h64 : 64 < m
    · clear hn1
      go_wp2
      go_ret3
      obtain rfl : F = ([], 0, 4) := by have h := HE.out; rw [if_pos (by omega)] at h; exact h.symm
      exact ⟨none, 0, rfl, Kd.C_nil _ _, Nat.le_refl _, below_alloc HBL.out _⟩
    · have hm64 : m ≤ 64 := by omega
      have H64 := Aside0.mk h64
      clear hn1 h64
      by_cases hls : (l0.length : Int) < 2 + (m : Int)
      · go_wp2
        go_ret3
        obtain rfl : F = ([], 0, 3) := by have h := HE.out; rw [if_neg (by have := H64.out; omega), if_pos hls] at h; exact h.symm
        exact ⟨none, 0, rfl, Kd.C_nil _ _, Nat.le_refl _, below_alloc HBL.out _⟩
      · have hc0 := HC0.out
        have hfe : F = ((l0.drop 2).take m, 2 + (m : Int), 0) := by have h := HE.out; rw [if_neg (by have := H64.out; omega), if_neg hls] at h; exact h.symm
        have hlen : ((l0.drop 2).take m).length = m := by rw [List.length_take, List.length_drop]; omega
        have HLEN := Aside0.mk hlen
        have hC := Kd.C_mid (lo := 2) (hi := 2 + m) (c := c0) (Kd.C_alloc HB.out (.cells #[.int .u64 (m : Int), .int .i64 0, .slice A2 0 c2, .int .i64 2, .int .i64 0] 81)) (by omega) (by omega) (by omega)
        rw [show (l0.take (2 + m)).drop 2 = (l0.drop 2).take m by rw [List.drop_take]; congr 1; omega] at hC
        have hbb := below_alloc HBL.out (.cells #[.int .u64 (m : Int), .int .i64 0, .slice A2 0 c2, .int .i64 2, .int .i64 0] 81)
        have HFE := Aside0.mk hfe
        clear HE HBL HB HRN hfe
        have HCC := Aside0.mk hC
        have HBB := Aside0.mk hbb
        clear hC hbb hlen
        by_cases hc2 : c0 = 2
        · have HC2 := Aside0.mk hc2
          obtain rfl : m = 0 := by omega
          subst hc2
          go_wp2
          go_ret3
          have h := HCC.out
          first | rw [if_pos rfl] at h | rw [if_pos trivial] at h
          obtain rfl := HFE.out
          exact ⟨A0, 0, rfl, h, by simp, HBB.out⟩
        · go_wp2
          go_ret3
          have h := HCC.out
          rw [if_neg hc2] at h
          obtain rfl := HFE.out
          refine ⟨_, c0 - 2, ?_, h, by rw [HLEN.out]; omega, HBB.out⟩
          rw [HLEN.out, show 2 + m - 2 = m by omega]
          rfl
end Go.Proofs.Ytalpemoodollpaa.P
-- Printed by hookprint.py (the session's own program, over the kit's print.py): checked by Lean like any text.
namespace Go.Proofs.Ytalpemoodollpaa.P
open Go.RowKit Go.Proofs.YtalpemoodollpaaW.PrintWords Go.Proofs.YtalpemoodollpaaW.PrintLast Go.Proofs.YtalpemoodollpaaW.PrintMore
attribute [local go_sem] max2_int min2_int max_two min_two max_three min_three max_four min_four   -- for this text's walks alone
set_option linter.unusedVariables false
set_option linter.unusedSimpArgs false

/-! ### damperlaw04_alive: function 43 -/
def damperlaw04_alive.f  : Option (Bool) := (frame_Put.f (([7] : List Int))).bind fun bt252 => ((frame_Take.f bt252.1).bind fun bt256 => (if bt252.2 = 0 then (if bt256.2.2 = 0 then (if (bt252.1.length : Int) = 3 then (if 1 < (bt252.1.length : Int) then (if (rd bt252.1 1) = 1 then (if bt256.2.1 = 3 then (if (bt256.1.length : Int) = 1 then (if 0 < (bt256.1.length : Int) then (some ((rd bt256.1 0) == 7)) else (none)) else (some false)) else (some false)) else (some false)) else (none)) else (some false)) else (some false)) else (some false)))
set_option maxHeartbeats 8000000 in
set_option maxRecDepth 100000 in
theorem damperlaw04_alive.calls  (r : Bool) (w : World) (h : damperlaw04_alive.f  = some r) :
    Calls Try.prog 43 #[] w fun e w' => e = .returned (.bool r) ∧ Below w.heap.size w w' := by
  have HB := Aside0.mk (Below.refl w.heap.size w)
  have H : ((frame_Put.f (([7] : List Int))).bind fun bt252 => ((frame_Take.f bt252.1).bind fun bt256 => (if bt252.2 = 0 then (if bt256.2.2 = 0 then (if (bt252.1.length : Int) = 3 then (if 1 < (bt252.1.length : Int) then (if (rd bt252.1 1) = 1 then (if bt256.2.1 = 3 then (if (bt256.1.length : Int) = 1 then (if 0 < (bt256.1.length : Int) then (some ((rd bt256.1 0) == 7)) else (none)) else (some false)) else (some false)) else (some false)) else (none)) else (some false)) else (some false)) else (some false)))) = some r := h
  clear h
  obtain ⟨y249, hy249⟩ : ∃ y_ : List Int, y_ = (([7] : List Int)) := ⟨_, rfl⟩
  replace H : ((frame_Put.f y249).bind fun bt252 => ((frame_Take.f bt252.1).bind fun bt256 => (if bt252.2 = 0 then (if bt256.2.2 = 0 then (if (bt252.1.length : Int) = 3 then (if 1 < (bt252.1.length : Int) then (if (rd bt252.1 1) = 1 then (if bt256.2.1 = 3 then (if (bt256.1.length : Int) = 1 then (if 0 < (bt256.1.length : Int) then (some ((rd bt256.1 0) == 7)) else (none)) else (some false)) else (some false)) else (some false)) else (none)) else (some false)) else (some false)) else (some false)))) = some r := by first | (rw [hy249]; with_reducible exact H) | (have H2_ := (Option.bind_some _ _).symm.trans H; rw [hy249]; with_reducible exact H2_) | (have H2_ := (Option.bind_some _ _).symm.trans H; with_reducible exact H2_) | with_reducible exact H | (rw [hy249]; exact H) | exact H
  have Ny249 := Aside0.mk hy249
  clear hy249
  replace H := Option.bind_eq_some_iff.mp H
  obtain ⟨⟨t252, t253⟩, A10, H⟩ := H
  replace H : ((frame_Take.f t252).bind fun bt256 => (if t253 = 0 then (if bt256.2.2 = 0 then (if (t252.length : Int) = 3 then (if 1 < (t252.length : Int) then (if (rd t252 1) = 1 then (if bt256.2.1 = 3 then (if (bt256.1.length : Int) = 1 then (if 0 < (bt256.1.length : Int) then (some ((rd bt256.1 0) == 7)) else (none)) else (some false)) else (some false)) else (some false)) else (none)) else (some false)) else (some false)) else (some false))) = some r := H
  have A1 := Aside0.mk A10
  clear A10
  replace H := Option.bind_eq_some_iff.mp H
  obtain ⟨⟨t256, t257, t258⟩, A20, H⟩ := H
  replace H : (if t253 = 0 then (if t258 = 0 then (if (t252.length : Int) = 3 then (if 1 < (t252.length : Int) then (if (rd t252 1) = 1 then (if t257 = 3 then (if (t256.length : Int) = 1 then (if 0 < (t256.length : Int) then (some ((rd t256 0) == 7)) else (none)) else (some false)) else (some false)) else (some false)) else (none)) else (some false)) else (some false)) else (some false)) = some r := H
  have A2 := Aside0.mk A20
  clear A20
  by_cases c3 : t253 = 0
  · rw [if_pos c3] at H
    have c3b0 : (t253 == 0) = true := beq_iff_eq.mpr c3
    have c3b1 : (t253 != 0) = false := bne_eq_false_iff_eq.mpr c3
    clear c3
    by_cases c4 : t258 = 0
    · rw [if_pos c4] at H
      have c4b0 : (t258 == 0) = true := beq_iff_eq.mpr c4
      have c4b1 : (t258 != 0) = false := bne_eq_false_iff_eq.mpr c4
      clear c4
      by_cases c5 : (t252.length : Int) = 3
      · rw [if_pos c5] at H
        have c5b0 : ((t252.length : Int) == 3) = true := beq_iff_eq.mpr c5
        have c5b1 : ((t252.length : Int) != 3) = false := bne_eq_false_iff_eq.mpr c5
        clear c5
        by_cases c6 : 1 < (t252.length : Int)
        · rw [if_pos c6] at H
          have c6b0 : decide (1 < (t252.length : Int)) = true := decide_eq_true c6
          have c6b1 : decide (1 < t252.length) = true := decide_eq_true (by omega)
          clear c6
          by_cases c7 : (rd t252 1) = 1
          · rw [if_pos c7] at H
            have c7b0 : ((rd t252 1) == 1) = true := beq_iff_eq.mpr c7
            have c7b1 : ((rd t252 1) != 1) = false := bne_eq_false_iff_eq.mpr c7
            clear c7
            by_cases c8 : t257 = 3
            · rw [if_pos c8] at H
              have c8b0 : (t257 == 3) = true := beq_iff_eq.mpr c8
              have c8b1 : (t257 != 3) = false := bne_eq_false_iff_eq.mpr c8
              clear c8
              by_cases c9 : (t256.length : Int) = 1
              · rw [if_pos c9] at H
                have c9b0 : ((t256.length : Int) == 1) = true := beq_iff_eq.mpr c9
                have c9b1 : ((t256.length : Int) != 1) = false := bne_eq_false_iff_eq.mpr c9
                clear c9
                by_cases c10 : 0 < (t256.length : Int)
                · rw [if_pos c10] at H
                  have c10b0 : decide (0 < (t256.length : Int)) = true := decide_eq_true c10
                  have c10b1 : decide (0 < t256.length) = true := decide_eq_true (by omega)
                  clear c10
                  obtain rfl := Option.some.inj H
                  go_enter Try.func43, Try.ntmps43
                  go_wp2_with (first | ((with_reducible refine gate_dst (N := 7) rfl ?_); (try (refine gate_guard (by rfl) ?_; dsimp only)); refine Kd.R_lit (Kd.int .u8) _ 5 ?hg (N := 7) ?hd (xs := ([7] : List Int)) (inner := [.int .u8 7]) (ok := fun _ => True) (okp := fun _ => True) ?hr ?hp (fun _ hk => hk) trivial (Below.refl _ _) (Nat.le_refl _) (by simp) ?_; (case hd => rfl); (case hg => rfl); (case hr => first | (go_simp; done) | (go_simp; rfl)); (case hp => exact (Reps.one (show Kd.M (Kd.int .u8) _ _ _ 7 [.int .u8 7] from rfl) (Reps.none _ _))); intro v250 w11 ho12 hb hg_ hnew_; clear hg_ hnew_; (first | rw [← Ny249.out] at ho12 | (simp only [Int.reduceToNat] at ho12; rw [← Ny249.out] at ho12)); have n0_ := Aside0.mk (Kd.R_lower ho12 (below_size (by repeat (first | (with_reducible first | exact HB.out | apply below_alloc | apply pw_below_drewN | apply below_drew1) | exact HB.out)))); have n1_ := Aside0.mk (below_step (by repeat (first | (with_reducible first | exact HB.out | apply below_alloc | apply pw_below_drewN | apply below_drew1) | exact HB.out)) hb); clear HB; have HO251 := n0_; have HB := n1_; clear n0_ n1_; clear hb ho12; obtain ⟨Ao13, co13, eo13⟩ := Kd.R_slice HO251.out; subst eo13) | ((with_reducible refine gate_callee (f := 44) rfl ?_); refine goesL_ (some 8) rfl rfl Try.func44 (by kernel_rfl) rfl #[.slice Ao13 y249.length co13] rfl (by (try simp only [List.map_toArray, List.map_cons, List.map_nil]); first | done | rfl | (simp only [List.length_drop, List.length_take]; rfl)) ?_; (with_reducible refine (frame_Put.calls _ _ y249 t252 t253 _ ?side1 ?side2 A1.out).mono ?_); (case side1 => repeat (first | exact (Kd.R_reads' HO251.out).2.2 | (with_reducible refine Kd.C_alloc ?_ _) | (with_reducible refine Kd.C_drewN ?_ _) | (with_reducible refine Kd.C_drew ?_))); (case side2 => exact (Kd.R_reads' HO251.out).2.1); rintro e w14 ⟨v254, rfl, ho0, hb⟩; refine ⟨_, rfl, ?_⟩; have n0_ := Aside0.mk (Kd.R_elder' (by (with_reducible repeat (first | apply Kd.R_alloc | apply Kd.R_drewN | apply Kd.R_drew)); exact HO251.out) (Kd.R_base ho0) hb); have n1_ := Aside0.mk (Kd.R_lower (Kd.R_new' ho0 (Kd.R_lt (by (with_reducible repeat (first | apply Kd.R_alloc | apply Kd.R_drewN | apply Kd.R_drew)); exact HO251.out))) (below_size (by repeat (first | (with_reducible first | exact HB.out | apply below_alloc | apply pw_below_drewN | apply below_drew1) | exact HB.out)))); have n2_ := Aside0.mk (below_step (by repeat (first | (with_reducible first | exact HB.out | apply below_alloc | apply pw_below_drewN | apply below_drew1) | exact HB.out)) hb); clear HO251; clear HB; have HO251 := n0_; have HO255 := n1_; have HB := n2_; clear n0_ n1_ n2_; (try clear hb); (try clear hb2); (try clear hk); (try clear hi); (try clear ho0); obtain ⟨Ao15, co15, eo15⟩ := Kd.R_slice HO255.out; subst eo15) | ((with_reducible refine gate_callee (f := 46) rfl ?_); refine goesL_ (some 13) rfl rfl Try.func46 (by kernel_rfl) rfl #[.slice Ao15 t252.length co15] rfl (by (try simp only [List.map_toArray, List.map_cons, List.map_nil]); first | done | rfl | (simp only [List.length_drop, List.length_take]; rfl)) ?_; (with_reducible refine (frame_Take.calls _ _ t252 t256 t257 t258 _ ?side1 ?side2 A2.out).mono ?_); (case side1 => repeat (first | exact (Kd.R_reads' HO255.out).2.2 | (with_reducible refine Kd.C_alloc ?_ _) | (with_reducible refine Kd.C_drewN ?_ _) | (with_reducible refine Kd.C_drew ?_))); (case side2 => exact (Kd.R_reads' HO255.out).2.1); rintro e w16 ⟨v259, rfl, ho0, hb⟩; refine ⟨_, rfl, ?_⟩; have n0_ := Aside0.mk (Kd.R_elder' (by (with_reducible repeat (first | apply Kd.R_alloc | apply Kd.R_drewN | apply Kd.R_drew)); exact HO251.out) (Kd.R_base ho0) hb); have n1_ := Aside0.mk (Kd.R_elder' (by (with_reducible repeat (first | apply Kd.R_alloc | apply Kd.R_drewN | apply Kd.R_drew)); exact HO255.out) (Kd.R_base ho0) hb); have n2_ := Aside0.mk (Kd.R_lower (Kd.R_new' (Kd.R_new' ho0 (Kd.R_lt (by (with_reducible repeat (first | apply Kd.R_alloc | apply Kd.R_drewN | apply Kd.R_drew)); exact HO251.out))) (Kd.R_lt (by (with_reducible repeat (first | apply Kd.R_alloc | apply Kd.R_drewN | apply Kd.R_drew)); exact HO255.out))) (below_size (by repeat (first | (with_reducible first | exact HB.out | apply below_alloc | apply pw_below_drewN | apply below_drew1) | exact HB.out)))); have n3_ := Aside0.mk (below_step (by repeat (first | (with_reducible first | exact HB.out | apply below_alloc | apply pw_below_drewN | apply below_drew1) | exact HB.out)) hb); clear HO251; clear HO255; clear HB; have HO251 := n0_; have HO255 := n1_; have HO260 := n2_; have HB := n3_; clear n0_ n1_ n2_ n3_; (try clear hb); (try clear hb2); (try clear hk); (try clear hi); (try clear ho0); have p261 : 0 ≤ (1 : Int) := (by omega); have q261 : 1 < (t252.length : Int) := of_decide_eq_true (by first | (with_reducible assumption) | assumption); obtain ⟨ad261, e261, hx261_0⟩ := Kd.at_int (Kd.R_reads' HO255.out).2.2 1 p261 q261; cases e261; (try simp only [show (1 : Int).toNat = 1 from rfl, Nat.reduceMul, Nat.reduceEqDiff, Go.Addr.add, ↓reduceIte] at hx261_0); have qi261 : (1 < t252.length) = True := eq_true (by omega); (try rw [show ((1 : Int)).toNat = 1 from rfl] at hx261_0); replace p261 := eq_true p261; replace q261 := eq_true q261; obtain ⟨Ao17, co17, eo17⟩ := Kd.R_slice HO260.out; subst eo17; have p262 : 0 ≤ (0 : Int) := (by omega); have q262 : 0 < (t256.length : Int) := of_decide_eq_true (by first | (with_reducible assumption) | assumption); obtain ⟨ad262, e262, hx262_0⟩ := Kd.at_int (Kd.R_reads' HO260.out).2.2 0 p262 q262; cases e262; have qi262 : (0 < t256.length) = True := eq_true (by omega); (try rw [show ((0 : Int)).toNat = 0 from rfl] at hx262_0); (try rw [Addr.add_zero'] at hx262_0); replace p262 := eq_true p262; replace q262 := eq_true q262))
                  go_ret
                  exact ⟨by first | rfl | (simp [errW_none, errW_some] <;> rfl) | (simp [*, errW_none, errW_some] <;> rfl), by repeat (first | (with_reducible first | exact HB.out | apply below_alloc | apply pw_below_drewN | apply below_drew1) | exact HB.out)⟩
                · rw [if_neg c10] at H
                  exact absurd H (by simp)
              · rw [if_neg c9] at H
                have c9b0 : ((t256.length : Int) == 1) = false := beq_eq_false_iff_ne.mpr c9
                have c9b1 : ((t256.length : Int) != 1) = true := bne_iff_ne.mpr c9
                obtain rfl := Option.some.inj H
                go_enter Try.func43, Try.ntmps43
                go_wp2_with (first | ((with_reducible refine gate_dst (N := 7) rfl ?_); (try (refine gate_guard (by rfl) ?_; dsimp only)); refine Kd.R_lit (Kd.int .u8) _ 5 ?hg (N := 7) ?hd (xs := ([7] : List Int)) (inner := [.int .u8 7]) (ok := fun _ => True) (okp := fun _ => True) ?hr ?hp (fun _ hk => hk) trivial (Below.refl _ _) (Nat.le_refl _) (by simp) ?_; (case hd => rfl); (case hg => rfl); (case hr => first | (go_simp; done) | (go_simp; rfl)); (case hp => exact (Reps.one (show Kd.M (Kd.int .u8) _ _ _ 7 [.int .u8 7] from rfl) (Reps.none _ _))); intro v250 w18 ho19 hb hg_ hnew_; clear hg_ hnew_; (first | rw [← Ny249.out] at ho19 | (simp only [Int.reduceToNat] at ho19; rw [← Ny249.out] at ho19)); have n0_ := Aside0.mk (Kd.R_lower ho19 (below_size (by repeat (first | (with_reducible first | exact HB.out | apply below_alloc | apply pw_below_drewN | apply below_drew1) | exact HB.out)))); have n1_ := Aside0.mk (below_step (by repeat (first | (with_reducible first | exact HB.out | apply below_alloc | apply pw_below_drewN | apply below_drew1) | exact HB.out)) hb); clear HB; have HO251 := n0_; have HB := n1_; clear n0_ n1_; clear hb ho19; obtain ⟨Ao20, co20, eo20⟩ := Kd.R_slice HO251.out; subst eo20) | ((with_reducible refine gate_callee (f := 44) rfl ?_); refine goesL_ (some 8) rfl rfl Try.func44 (by kernel_rfl) rfl #[.slice Ao20 y249.length co20] rfl (by (try simp only [List.map_toArray, List.map_cons, List.map_nil]); first | done | rfl | (simp only [List.length_drop, List.length_take]; rfl)) ?_; (with_reducible refine (frame_Put.calls _ _ y249 t252 t253 _ ?side1 ?side2 A1.out).mono ?_); (case side1 => repeat (first | exact (Kd.R_reads' HO251.out).2.2 | (with_reducible refine Kd.C_alloc ?_ _) | (with_reducible refine Kd.C_drewN ?_ _) | (with_reducible refine Kd.C_drew ?_))); (case side2 => exact (Kd.R_reads' HO251.out).2.1); rintro e w21 ⟨v254, rfl, ho0, hb⟩; refine ⟨_, rfl, ?_⟩; have n0_ := Aside0.mk (Kd.R_elder' (by (with_reducible repeat (first | apply Kd.R_alloc | apply Kd.R_drewN | apply Kd.R_drew)); exact HO251.out) (Kd.R_base ho0) hb); have n1_ := Aside0.mk (Kd.R_lower (Kd.R_new' ho0 (Kd.R_lt (by (with_reducible repeat (first | apply Kd.R_alloc | apply Kd.R_drewN | apply Kd.R_drew)); exact HO251.out))) (below_size (by repeat (first | (with_reducible first | exact HB.out | apply below_alloc | apply pw_below_drewN | apply below_drew1) | exact HB.out)))); have n2_ := Aside0.mk (below_step (by repeat (first | (with_reducible first | exact HB.out | apply below_alloc | apply pw_below_drewN | apply below_drew1) | exact HB.out)) hb); clear HO251; clear HB; have HO251 := n0_; have HO255 := n1_; have HB := n2_; clear n0_ n1_ n2_; (try clear hb); (try clear hb2); (try clear hk); (try clear hi); (try clear ho0); obtain ⟨Ao22, co22, eo22⟩ := Kd.R_slice HO255.out; subst eo22) | ((with_reducible refine gate_callee (f := 46) rfl ?_); refine goesL_ (some 13) rfl rfl Try.func46 (by kernel_rfl) rfl #[.slice Ao22 t252.length co22] rfl (by (try simp only [List.map_toArray, List.map_cons, List.map_nil]); first | done | rfl | (simp only [List.length_drop, List.length_take]; rfl)) ?_; (with_reducible refine (frame_Take.calls _ _ t252 t256 t257 t258 _ ?side1 ?side2 A2.out).mono ?_); (case side1 => repeat (first | exact (Kd.R_reads' HO255.out).2.2 | (with_reducible refine Kd.C_alloc ?_ _) | (with_reducible refine Kd.C_drewN ?_ _) | (with_reducible refine Kd.C_drew ?_))); (case side2 => exact (Kd.R_reads' HO255.out).2.1); rintro e w23 ⟨v259, rfl, ho0, hb⟩; refine ⟨_, rfl, ?_⟩; have n0_ := Aside0.mk (Kd.R_elder' (by (with_reducible repeat (first | apply Kd.R_alloc | apply Kd.R_drewN | apply Kd.R_drew)); exact HO251.out) (Kd.R_base ho0) hb); have n1_ := Aside0.mk (Kd.R_elder' (by (with_reducible repeat (first | apply Kd.R_alloc | apply Kd.R_drewN | apply Kd.R_drew)); exact HO255.out) (Kd.R_base ho0) hb); have n2_ := Aside0.mk (Kd.R_lower (Kd.R_new' (Kd.R_new' ho0 (Kd.R_lt (by (with_reducible repeat (first | apply Kd.R_alloc | apply Kd.R_drewN | apply Kd.R_drew)); exact HO251.out))) (Kd.R_lt (by (with_reducible repeat (first | apply Kd.R_alloc | apply Kd.R_drewN | apply Kd.R_drew)); exact HO255.out))) (below_size (by repeat (first | (with_reducible first | exact HB.out | apply below_alloc | apply pw_below_drewN | apply below_drew1) | exact HB.out)))); have n3_ := Aside0.mk (below_step (by repeat (first | (with_reducible first | exact HB.out | apply below_alloc | apply pw_below_drewN | apply below_drew1) | exact HB.out)) hb); clear HO251; clear HO255; clear HB; have HO251 := n0_; have HO255 := n1_; have HO260 := n2_; have HB := n3_; clear n0_ n1_ n2_ n3_; (try clear hb); (try clear hb2); (try clear hk); (try clear hi); (try clear ho0); have p261 : 0 ≤ (1 : Int) := (by omega); have q261 : 1 < (t252.length : Int) := of_decide_eq_true (by first | (with_reducible assumption) | assumption); obtain ⟨ad261, e261, hx261_0⟩ := Kd.at_int (Kd.R_reads' HO255.out).2.2 1 p261 q261; cases e261; (try simp only [show (1 : Int).toNat = 1 from rfl, Nat.reduceMul, Nat.reduceEqDiff, Go.Addr.add, ↓reduceIte] at hx261_0); have qi261 : (1 < t252.length) = True := eq_true (by omega); (try rw [show ((1 : Int)).toNat = 1 from rfl] at hx261_0); replace p261 := eq_true p261; replace q261 := eq_true q261; obtain ⟨Ao24, co24, eo24⟩ := Kd.R_slice HO260.out; subst eo24))
                go_ret
                exact ⟨by first | rfl | (simp [errW_none, errW_some] <;> rfl) | (simp [*, errW_none, errW_some] <;> rfl), by repeat (first | (with_reducible first | exact HB.out | apply below_alloc | apply pw_below_drewN | apply below_drew1) | exact HB.out)⟩
            · rw [if_neg c8] at H
              have c8b0 : (t257 == 3) = false := beq_eq_false_iff_ne.mpr c8
              have c8b1 : (t257 != 3) = true := bne_iff_ne.mpr c8
              obtain rfl := Option.some.inj H
              go_enter Try.func43, Try.ntmps43
              go_wp2_with (first | ((with_reducible refine gate_dst (N := 7) rfl ?_); (try (refine gate_guard (by rfl) ?_; dsimp only)); refine Kd.R_lit (Kd.int .u8) _ 5 ?hg (N := 7) ?hd (xs := ([7] : List Int)) (inner := [.int .u8 7]) (ok := fun _ => True) (okp := fun _ => True) ?hr ?hp (fun _ hk => hk) trivial (Below.refl _ _) (Nat.le_refl _) (by simp) ?_; (case hd => rfl); (case hg => rfl); (case hr => first | (go_simp; done) | (go_simp; rfl)); (case hp => exact (Reps.one (show Kd.M (Kd.int .u8) _ _ _ 7 [.int .u8 7] from rfl) (Reps.none _ _))); intro v250 w25 ho26 hb hg_ hnew_; clear hg_ hnew_; (first | rw [← Ny249.out] at ho26 | (simp only [Int.reduceToNat] at ho26; rw [← Ny249.out] at ho26)); have n0_ := Aside0.mk (Kd.R_lower ho26 (below_size (by repeat (first | (with_reducible first | exact HB.out | apply below_alloc | apply pw_below_drewN | apply below_drew1) | exact HB.out)))); have n1_ := Aside0.mk (below_step (by repeat (first | (with_reducible first | exact HB.out | apply below_alloc | apply pw_below_drewN | apply below_drew1) | exact HB.out)) hb); clear HB; have HO251 := n0_; have HB := n1_; clear n0_ n1_; clear hb ho26; obtain ⟨Ao27, co27, eo27⟩ := Kd.R_slice HO251.out; subst eo27) | ((with_reducible refine gate_callee (f := 44) rfl ?_); refine goesL_ (some 8) rfl rfl Try.func44 (by kernel_rfl) rfl #[.slice Ao27 y249.length co27] rfl (by (try simp only [List.map_toArray, List.map_cons, List.map_nil]); first | done | rfl | (simp only [List.length_drop, List.length_take]; rfl)) ?_; (with_reducible refine (frame_Put.calls _ _ y249 t252 t253 _ ?side1 ?side2 A1.out).mono ?_); (case side1 => repeat (first | exact (Kd.R_reads' HO251.out).2.2 | (with_reducible refine Kd.C_alloc ?_ _) | (with_reducible refine Kd.C_drewN ?_ _) | (with_reducible refine Kd.C_drew ?_))); (case side2 => exact (Kd.R_reads' HO251.out).2.1); rintro e w28 ⟨v254, rfl, ho0, hb⟩; refine ⟨_, rfl, ?_⟩; have n0_ := Aside0.mk (Kd.R_elder' (by (with_reducible repeat (first | apply Kd.R_alloc | apply Kd.R_drewN | apply Kd.R_drew)); exact HO251.out) (Kd.R_base ho0) hb); have n1_ := Aside0.mk (Kd.R_lower (Kd.R_new' ho0 (Kd.R_lt (by (with_reducible repeat (first | apply Kd.R_alloc | apply Kd.R_drewN | apply Kd.R_drew)); exact HO251.out))) (below_size (by repeat (first | (with_reducible first | exact HB.out | apply below_alloc | apply pw_below_drewN | apply below_drew1) | exact HB.out)))); have n2_ := Aside0.mk (below_step (by repeat (first | (with_reducible first | exact HB.out | apply below_alloc | apply pw_below_drewN | apply below_drew1) | exact HB.out)) hb); clear HO251; clear HB; have HO251 := n0_; have HO255 := n1_; have HB := n2_; clear n0_ n1_ n2_; (try clear hb); (try clear hb2); (try clear hk); (try clear hi); (try clear ho0); obtain ⟨Ao29, co29, eo29⟩ := Kd.R_slice HO255.out; subst eo29) | ((with_reducible refine gate_callee (f := 46) rfl ?_); refine goesL_ (some 13) rfl rfl Try.func46 (by kernel_rfl) rfl #[.slice Ao29 t252.length co29] rfl (by (try simp only [List.map_toArray, List.map_cons, List.map_nil]); first | done | rfl | (simp only [List.length_drop, List.length_take]; rfl)) ?_; (with_reducible refine (frame_Take.calls _ _ t252 t256 t257 t258 _ ?side1 ?side2 A2.out).mono ?_); (case side1 => repeat (first | exact (Kd.R_reads' HO255.out).2.2 | (with_reducible refine Kd.C_alloc ?_ _) | (with_reducible refine Kd.C_drewN ?_ _) | (with_reducible refine Kd.C_drew ?_))); (case side2 => exact (Kd.R_reads' HO255.out).2.1); rintro e w30 ⟨v259, rfl, ho0, hb⟩; refine ⟨_, rfl, ?_⟩; have n0_ := Aside0.mk (Kd.R_elder' (by (with_reducible repeat (first | apply Kd.R_alloc | apply Kd.R_drewN | apply Kd.R_drew)); exact HO251.out) (Kd.R_base ho0) hb); have n1_ := Aside0.mk (Kd.R_elder' (by (with_reducible repeat (first | apply Kd.R_alloc | apply Kd.R_drewN | apply Kd.R_drew)); exact HO255.out) (Kd.R_base ho0) hb); have n2_ := Aside0.mk (Kd.R_lower (Kd.R_new' (Kd.R_new' ho0 (Kd.R_lt (by (with_reducible repeat (first | apply Kd.R_alloc | apply Kd.R_drewN | apply Kd.R_drew)); exact HO251.out))) (Kd.R_lt (by (with_reducible repeat (first | apply Kd.R_alloc | apply Kd.R_drewN | apply Kd.R_drew)); exact HO255.out))) (below_size (by repeat (first | (with_reducible first | exact HB.out | apply below_alloc | apply pw_below_drewN | apply below_drew1) | exact HB.out)))); have n3_ := Aside0.mk (below_step (by repeat (first | (with_reducible first | exact HB.out | apply below_alloc | apply pw_below_drewN | apply below_drew1) | exact HB.out)) hb); clear HO251; clear HO255; clear HB; have HO251 := n0_; have HO255 := n1_; have HO260 := n2_; have HB := n3_; clear n0_ n1_ n2_ n3_; (try clear hb); (try clear hb2); (try clear hk); (try clear hi); (try clear ho0); have p261 : 0 ≤ (1 : Int) := (by omega); have q261 : 1 < (t252.length : Int) := of_decide_eq_true (by first | (with_reducible assumption) | assumption); obtain ⟨ad261, e261, hx261_0⟩ := Kd.at_int (Kd.R_reads' HO255.out).2.2 1 p261 q261; cases e261; (try simp only [show (1 : Int).toNat = 1 from rfl, Nat.reduceMul, Nat.reduceEqDiff, Go.Addr.add, ↓reduceIte] at hx261_0); have qi261 : (1 < t252.length) = True := eq_true (by omega); (try rw [show ((1 : Int)).toNat = 1 from rfl] at hx261_0); replace p261 := eq_true p261; replace q261 := eq_true q261))
              go_ret
              exact ⟨by first | rfl | (simp [errW_none, errW_some] <;> rfl) | (simp [*, errW_none, errW_some] <;> rfl), by repeat (first | (with_reducible first | exact HB.out | apply below_alloc | apply pw_below_drewN | apply below_drew1) | exact HB.out)⟩
          · rw [if_neg c7] at H
            have c7b0 : ((rd t252 1) == 1) = false := beq_eq_false_iff_ne.mpr c7
            have c7b1 : ((rd t252 1) != 1) = true := bne_iff_ne.mpr c7
            obtain rfl := Option.some.inj H
            go_enter Try.func43, Try.ntmps43
            go_wp2_with (first | ((with_reducible refine gate_dst (N := 7) rfl ?_); (try (refine gate_guard (by rfl) ?_; dsimp only)); refine Kd.R_lit (Kd.int .u8) _ 5 ?hg (N := 7) ?hd (xs := ([7] : List Int)) (inner := [.int .u8 7]) (ok := fun _ => True) (okp := fun _ => True) ?hr ?hp (fun _ hk => hk) trivial (Below.refl _ _) (Nat.le_refl _) (by simp) ?_; (case hd => rfl); (case hg => rfl); (case hr => first | (go_simp; done) | (go_simp; rfl)); (case hp => exact (Reps.one (show Kd.M (Kd.int .u8) _ _ _ 7 [.int .u8 7] from rfl) (Reps.none _ _))); intro v250 w31 ho32 hb hg_ hnew_; clear hg_ hnew_; (first | rw [← Ny249.out] at ho32 | (simp only [Int.reduceToNat] at ho32; rw [← Ny249.out] at ho32)); have n0_ := Aside0.mk (Kd.R_lower ho32 (below_size (by repeat (first | (with_reducible first | exact HB.out | apply below_alloc | apply pw_below_drewN | apply below_drew1) | exact HB.out)))); have n1_ := Aside0.mk (below_step (by repeat (first | (with_reducible first | exact HB.out | apply below_alloc | apply pw_below_drewN | apply below_drew1) | exact HB.out)) hb); clear HB; have HO251 := n0_; have HB := n1_; clear n0_ n1_; clear hb ho32; obtain ⟨Ao33, co33, eo33⟩ := Kd.R_slice HO251.out; subst eo33) | ((with_reducible refine gate_callee (f := 44) rfl ?_); refine goesL_ (some 8) rfl rfl Try.func44 (by kernel_rfl) rfl #[.slice Ao33 y249.length co33] rfl (by (try simp only [List.map_toArray, List.map_cons, List.map_nil]); first | done | rfl | (simp only [List.length_drop, List.length_take]; rfl)) ?_; (with_reducible refine (frame_Put.calls _ _ y249 t252 t253 _ ?side1 ?side2 A1.out).mono ?_); (case side1 => repeat (first | exact (Kd.R_reads' HO251.out).2.2 | (with_reducible refine Kd.C_alloc ?_ _) | (with_reducible refine Kd.C_drewN ?_ _) | (with_reducible refine Kd.C_drew ?_))); (case side2 => exact (Kd.R_reads' HO251.out).2.1); rintro e w34 ⟨v254, rfl, ho0, hb⟩; refine ⟨_, rfl, ?_⟩; have n0_ := Aside0.mk (Kd.R_elder' (by (with_reducible repeat (first | apply Kd.R_alloc | apply Kd.R_drewN | apply Kd.R_drew)); exact HO251.out) (Kd.R_base ho0) hb); have n1_ := Aside0.mk (Kd.R_lower (Kd.R_new' ho0 (Kd.R_lt (by (with_reducible repeat (first | apply Kd.R_alloc | apply Kd.R_drewN | apply Kd.R_drew)); exact HO251.out))) (below_size (by repeat (first | (with_reducible first | exact HB.out | apply below_alloc | apply pw_below_drewN | apply below_drew1) | exact HB.out)))); have n2_ := Aside0.mk (below_step (by repeat (first | (with_reducible first | exact HB.out | apply below_alloc | apply pw_below_drewN | apply below_drew1) | exact HB.out)) hb); clear HO251; clear HB; have HO251 := n0_; have HO255 := n1_; have HB := n2_; clear n0_ n1_ n2_; (try clear hb); (try clear hb2); (try clear hk); (try clear hi); (try clear ho0); obtain ⟨Ao35, co35, eo35⟩ := Kd.R_slice HO255.out; subst eo35) | ((with_reducible refine gate_callee (f := 46) rfl ?_); refine goesL_ (some 13) rfl rfl Try.func46 (by kernel_rfl) rfl #[.slice Ao35 t252.length co35] rfl (by (try simp only [List.map_toArray, List.map_cons, List.map_nil]); first | done | rfl | (simp only [List.length_drop, List.length_take]; rfl)) ?_; (with_reducible refine (frame_Take.calls _ _ t252 t256 t257 t258 _ ?side1 ?side2 A2.out).mono ?_); (case side1 => repeat (first | exact (Kd.R_reads' HO255.out).2.2 | (with_reducible refine Kd.C_alloc ?_ _) | (with_reducible refine Kd.C_drewN ?_ _) | (with_reducible refine Kd.C_drew ?_))); (case side2 => exact (Kd.R_reads' HO255.out).2.1); rintro e w36 ⟨v259, rfl, ho0, hb⟩; refine ⟨_, rfl, ?_⟩; have n0_ := Aside0.mk (Kd.R_elder' (by (with_reducible repeat (first | apply Kd.R_alloc | apply Kd.R_drewN | apply Kd.R_drew)); exact HO251.out) (Kd.R_base ho0) hb); have n1_ := Aside0.mk (Kd.R_elder' (by (with_reducible repeat (first | apply Kd.R_alloc | apply Kd.R_drewN | apply Kd.R_drew)); exact HO255.out) (Kd.R_base ho0) hb); have n2_ := Aside0.mk (Kd.R_lower (Kd.R_new' (Kd.R_new' ho0 (Kd.R_lt (by (with_reducible repeat (first | apply Kd.R_alloc | apply Kd.R_drewN | apply Kd.R_drew)); exact HO251.out))) (Kd.R_lt (by (with_reducible repeat (first | apply Kd.R_alloc | apply Kd.R_drewN | apply Kd.R_drew)); exact HO255.out))) (below_size (by repeat (first | (with_reducible first | exact HB.out | apply below_alloc | apply pw_below_drewN | apply below_drew1) | exact HB.out)))); have n3_ := Aside0.mk (below_step (by repeat (first | (with_reducible first | exact HB.out | apply below_alloc | apply pw_below_drewN | apply below_drew1) | exact HB.out)) hb); clear HO251; clear HO255; clear HB; have HO251 := n0_; have HO255 := n1_; have HO260 := n2_; have HB := n3_; clear n0_ n1_ n2_ n3_; (try clear hb); (try clear hb2); (try clear hk); (try clear hi); (try clear ho0); have p261 : 0 ≤ (1 : Int) := (by omega); have q261 : 1 < (t252.length : Int) := of_decide_eq_true (by first | (with_reducible assumption) | assumption); obtain ⟨ad261, e261, hx261_0⟩ := Kd.at_int (Kd.R_reads' HO255.out).2.2 1 p261 q261; cases e261; (try simp only [show (1 : Int).toNat = 1 from rfl, Nat.reduceMul, Nat.reduceEqDiff, Go.Addr.add, ↓reduceIte] at hx261_0); have qi261 : (1 < t252.length) = True := eq_true (by omega); (try rw [show ((1 : Int)).toNat = 1 from rfl] at hx261_0); replace p261 := eq_true p261; replace q261 := eq_true q261))
            go_ret
            exact ⟨by first | rfl | (simp [errW_none, errW_some] <;> rfl) | (simp [*, errW_none, errW_some] <;> rfl), by repeat (first | (with_reducible first | exact HB.out | apply below_alloc | apply pw_below_drewN | apply below_drew1) | exact HB.out)⟩
        · rw [if_neg c6] at H
          exact absurd H (by simp)
      · rw [if_neg c5] at H
        have c5b0 : ((t252.length : Int) == 3) = false := beq_eq_false_iff_ne.mpr c5
        have c5b1 : ((t252.length : Int) != 3) = true := bne_iff_ne.mpr c5
        obtain rfl := Option.some.inj H
        go_enter Try.func43, Try.ntmps43
        go_wp2_with (first | ((with_reducible refine gate_dst (N := 7) rfl ?_); (try (refine gate_guard (by rfl) ?_; dsimp only)); refine Kd.R_lit (Kd.int .u8) _ 5 ?hg (N := 7) ?hd (xs := ([7] : List Int)) (inner := [.int .u8 7]) (ok := fun _ => True) (okp := fun _ => True) ?hr ?hp (fun _ hk => hk) trivial (Below.refl _ _) (Nat.le_refl _) (by simp) ?_; (case hd => rfl); (case hg => rfl); (case hr => first | (go_simp; done) | (go_simp; rfl)); (case hp => exact (Reps.one (show Kd.M (Kd.int .u8) _ _ _ 7 [.int .u8 7] from rfl) (Reps.none _ _))); intro v250 w37 ho38 hb hg_ hnew_; clear hg_ hnew_; (first | rw [← Ny249.out] at ho38 | (simp only [Int.reduceToNat] at ho38; rw [← Ny249.out] at ho38)); have n0_ := Aside0.mk (Kd.R_lower ho38 (below_size (by repeat (first | (with_reducible first | exact HB.out | apply below_alloc | apply pw_below_drewN | apply below_drew1) | exact HB.out)))); have n1_ := Aside0.mk (below_step (by repeat (first | (with_reducible first | exact HB.out | apply below_alloc | apply pw_below_drewN | apply below_drew1) | exact HB.out)) hb); clear HB; have HO251 := n0_; have HB := n1_; clear n0_ n1_; clear hb ho38; obtain ⟨Ao39, co39, eo39⟩ := Kd.R_slice HO251.out; subst eo39) | ((with_reducible refine gate_callee (f := 44) rfl ?_); refine goesL_ (some 8) rfl rfl Try.func44 (by kernel_rfl) rfl #[.slice Ao39 y249.length co39] rfl (by (try simp only [List.map_toArray, List.map_cons, List.map_nil]); first | done | rfl | (simp only [List.length_drop, List.length_take]; rfl)) ?_; (with_reducible refine (frame_Put.calls _ _ y249 t252 t253 _ ?side1 ?side2 A1.out).mono ?_); (case side1 => repeat (first | exact (Kd.R_reads' HO251.out).2.2 | (with_reducible refine Kd.C_alloc ?_ _) | (with_reducible refine Kd.C_drewN ?_ _) | (with_reducible refine Kd.C_drew ?_))); (case side2 => exact (Kd.R_reads' HO251.out).2.1); rintro e w40 ⟨v254, rfl, ho0, hb⟩; refine ⟨_, rfl, ?_⟩; have n0_ := Aside0.mk (Kd.R_elder' (by (with_reducible repeat (first | apply Kd.R_alloc | apply Kd.R_drewN | apply Kd.R_drew)); exact HO251.out) (Kd.R_base ho0) hb); have n1_ := Aside0.mk (Kd.R_lower (Kd.R_new' ho0 (Kd.R_lt (by (with_reducible repeat (first | apply Kd.R_alloc | apply Kd.R_drewN | apply Kd.R_drew)); exact HO251.out))) (below_size (by repeat (first | (with_reducible first | exact HB.out | apply below_alloc | apply pw_below_drewN | apply below_drew1) | exact HB.out)))); have n2_ := Aside0.mk (below_step (by repeat (first | (with_reducible first | exact HB.out | apply below_alloc | apply pw_below_drewN | apply below_drew1) | exact HB.out)) hb); clear HO251; clear HB; have HO251 := n0_; have HO255 := n1_; have HB := n2_; clear n0_ n1_ n2_; (try clear hb); (try clear hb2); (try clear hk); (try clear hi); (try clear ho0); obtain ⟨Ao41, co41, eo41⟩ := Kd.R_slice HO255.out; subst eo41) | ((with_reducible refine gate_callee (f := 46) rfl ?_); refine goesL_ (some 13) rfl rfl Try.func46 (by kernel_rfl) rfl #[.slice Ao41 t252.length co41] rfl (by (try simp only [List.map_toArray, List.map_cons, List.map_nil]); first | done | rfl | (simp only [List.length_drop, List.length_take]; rfl)) ?_; (with_reducible refine (frame_Take.calls _ _ t252 t256 t257 t258 _ ?side1 ?side2 A2.out).mono ?_); (case side1 => repeat (first | exact (Kd.R_reads' HO255.out).2.2 | (with_reducible refine Kd.C_alloc ?_ _) | (with_reducible refine Kd.C_drewN ?_ _) | (with_reducible refine Kd.C_drew ?_))); (case side2 => exact (Kd.R_reads' HO255.out).2.1); rintro e w42 ⟨v259, rfl, ho0, hb⟩; refine ⟨_, rfl, ?_⟩; have n0_ := Aside0.mk (Kd.R_elder' (by (with_reducible repeat (first | apply Kd.R_alloc | apply Kd.R_drewN | apply Kd.R_drew)); exact HO251.out) (Kd.R_base ho0) hb); have n1_ := Aside0.mk (Kd.R_elder' (by (with_reducible repeat (first | apply Kd.R_alloc | apply Kd.R_drewN | apply Kd.R_drew)); exact HO255.out) (Kd.R_base ho0) hb); have n2_ := Aside0.mk (Kd.R_lower (Kd.R_new' (Kd.R_new' ho0 (Kd.R_lt (by (with_reducible repeat (first | apply Kd.R_alloc | apply Kd.R_drewN | apply Kd.R_drew)); exact HO251.out))) (Kd.R_lt (by (with_reducible repeat (first | apply Kd.R_alloc | apply Kd.R_drewN | apply Kd.R_drew)); exact HO255.out))) (below_size (by repeat (first | (with_reducible first | exact HB.out | apply below_alloc | apply pw_below_drewN | apply below_drew1) | exact HB.out)))); have n3_ := Aside0.mk (below_step (by repeat (first | (with_reducible first | exact HB.out | apply below_alloc | apply pw_below_drewN | apply below_drew1) | exact HB.out)) hb); clear HO251; clear HO255; clear HB; have HO251 := n0_; have HO255 := n1_; have HO260 := n2_; have HB := n3_; clear n0_ n1_ n2_ n3_; (try clear hb); (try clear hb2); (try clear hk); (try clear hi); (try clear ho0)))
        go_ret
        exact ⟨by first | rfl | (simp [errW_none, errW_some] <;> rfl) | (simp [*, errW_none, errW_some] <;> rfl), by repeat (first | (with_reducible first | exact HB.out | apply below_alloc | apply pw_below_drewN | apply below_drew1) | exact HB.out)⟩
    · rw [if_neg c4] at H
      have c4b0 : (t258 == 0) = false := beq_eq_false_iff_ne.mpr c4
      have c4b1 : (t258 != 0) = true := bne_iff_ne.mpr c4
      obtain rfl := Option.some.inj H
      go_enter Try.func43, Try.ntmps43
      go_wp2_with (first | ((with_reducible refine gate_dst (N := 7) rfl ?_); (try (refine gate_guard (by rfl) ?_; dsimp only)); refine Kd.R_lit (Kd.int .u8) _ 5 ?hg (N := 7) ?hd (xs := ([7] : List Int)) (inner := [.int .u8 7]) (ok := fun _ => True) (okp := fun _ => True) ?hr ?hp (fun _ hk => hk) trivial (Below.refl _ _) (Nat.le_refl _) (by simp) ?_; (case hd => rfl); (case hg => rfl); (case hr => first | (go_simp; done) | (go_simp; rfl)); (case hp => exact (Reps.one (show Kd.M (Kd.int .u8) _ _ _ 7 [.int .u8 7] from rfl) (Reps.none _ _))); intro v250 w43 ho44 hb hg_ hnew_; clear hg_ hnew_; (first | rw [← Ny249.out] at ho44 | (simp only [Int.reduceToNat] at ho44; rw [← Ny249.out] at ho44)); have n0_ := Aside0.mk (Kd.R_lower ho44 (below_size (by repeat (first | (with_reducible first | exact HB.out | apply below_alloc | apply pw_below_drewN | apply below_drew1) | exact HB.out)))); have n1_ := Aside0.mk (below_step (by repeat (first | (with_reducible first | exact HB.out | apply below_alloc | apply pw_below_drewN | apply below_drew1) | exact HB.out)) hb); clear HB; have HO251 := n0_; have HB := n1_; clear n0_ n1_; clear hb ho44; obtain ⟨Ao45, co45, eo45⟩ := Kd.R_slice HO251.out; subst eo45) | ((with_reducible refine gate_callee (f := 44) rfl ?_); refine goesL_ (some 8) rfl rfl Try.func44 (by kernel_rfl) rfl #[.slice Ao45 y249.length co45] rfl (by (try simp only [List.map_toArray, List.map_cons, List.map_nil]); first | done | rfl | (simp only [List.length_drop, List.length_take]; rfl)) ?_; (with_reducible refine (frame_Put.calls _ _ y249 t252 t253 _ ?side1 ?side2 A1.out).mono ?_); (case side1 => repeat (first | exact (Kd.R_reads' HO251.out).2.2 | (with_reducible refine Kd.C_alloc ?_ _) | (with_reducible refine Kd.C_drewN ?_ _) | (with_reducible refine Kd.C_drew ?_))); (case side2 => exact (Kd.R_reads' HO251.out).2.1); rintro e w46 ⟨v254, rfl, ho0, hb⟩; refine ⟨_, rfl, ?_⟩; have n0_ := Aside0.mk (Kd.R_elder' (by (with_reducible repeat (first | apply Kd.R_alloc | apply Kd.R_drewN | apply Kd.R_drew)); exact HO251.out) (Kd.R_base ho0) hb); have n1_ := Aside0.mk (Kd.R_lower (Kd.R_new' ho0 (Kd.R_lt (by (with_reducible repeat (first | apply Kd.R_alloc | apply Kd.R_drewN | apply Kd.R_drew)); exact HO251.out))) (below_size (by repeat (first | (with_reducible first | exact HB.out | apply below_alloc | apply pw_below_drewN | apply below_drew1) | exact HB.out)))); have n2_ := Aside0.mk (below_step (by repeat (first | (with_reducible first | exact HB.out | apply below_alloc | apply pw_below_drewN | apply below_drew1) | exact HB.out)) hb); clear HO251; clear HB; have HO251 := n0_; have HO255 := n1_; have HB := n2_; clear n0_ n1_ n2_; (try clear hb); (try clear hb2); (try clear hk); (try clear hi); (try clear ho0); obtain ⟨Ao47, co47, eo47⟩ := Kd.R_slice HO255.out; subst eo47) | ((with_reducible refine gate_callee (f := 46) rfl ?_); refine goesL_ (some 13) rfl rfl Try.func46 (by kernel_rfl) rfl #[.slice Ao47 t252.length co47] rfl (by (try simp only [List.map_toArray, List.map_cons, List.map_nil]); first | done | rfl | (simp only [List.length_drop, List.length_take]; rfl)) ?_; (with_reducible refine (frame_Take.calls _ _ t252 t256 t257 t258 _ ?side1 ?side2 A2.out).mono ?_); (case side1 => repeat (first | exact (Kd.R_reads' HO255.out).2.2 | (with_reducible refine Kd.C_alloc ?_ _) | (with_reducible refine Kd.C_drewN ?_ _) | (with_reducible refine Kd.C_drew ?_))); (case side2 => exact (Kd.R_reads' HO255.out).2.1); rintro e w48 ⟨v259, rfl, ho0, hb⟩; refine ⟨_, rfl, ?_⟩; have n0_ := Aside0.mk (Kd.R_elder' (by (with_reducible repeat (first | apply Kd.R_alloc | apply Kd.R_drewN | apply Kd.R_drew)); exact HO251.out) (Kd.R_base ho0) hb); have n1_ := Aside0.mk (Kd.R_elder' (by (with_reducible repeat (first | apply Kd.R_alloc | apply Kd.R_drewN | apply Kd.R_drew)); exact HO255.out) (Kd.R_base ho0) hb); have n2_ := Aside0.mk (Kd.R_lower (Kd.R_new' (Kd.R_new' ho0 (Kd.R_lt (by (with_reducible repeat (first | apply Kd.R_alloc | apply Kd.R_drewN | apply Kd.R_drew)); exact HO251.out))) (Kd.R_lt (by (with_reducible repeat (first | apply Kd.R_alloc | apply Kd.R_drewN | apply Kd.R_drew)); exact HO255.out))) (below_size (by repeat (first | (with_reducible first | exact HB.out | apply below_alloc | apply pw_below_drewN | apply below_drew1) | exact HB.out)))); have n3_ := Aside0.mk (below_step (by repeat (first | (with_reducible first | exact HB.out | apply below_alloc | apply pw_below_drewN | apply below_drew1) | exact HB.out)) hb); clear HO251; clear HO255; clear HB; have HO251 := n0_; have HO255 := n1_; have HO260 := n2_; have HB := n3_; clear n0_ n1_ n2_ n3_; (try clear hb); (try clear hb2); (try clear hk); (try clear hi); (try clear ho0)))
      go_ret
      exact ⟨by first | rfl | (simp [errW_none, errW_some] <;> rfl) | (simp [*, errW_none, errW_some] <;> rfl), by repeat (first | (with_reducible first | exact HB.out | apply below_alloc | apply pw_below_drewN | apply below_drew1) | exact HB.out)⟩
  · rw [if_neg c3] at H
    have c3b0 : (t253 == 0) = false := beq_eq_false_iff_ne.mpr c3
    have c3b1 : (t253 != 0) = true := bne_iff_ne.mpr c3
    obtain rfl := Option.some.inj H
    go_enter Try.func43, Try.ntmps43
    go_wp2_with (first | ((with_reducible refine gate_dst (N := 7) rfl ?_); (try (refine gate_guard (by rfl) ?_; dsimp only)); refine Kd.R_lit (Kd.int .u8) _ 5 ?hg (N := 7) ?hd (xs := ([7] : List Int)) (inner := [.int .u8 7]) (ok := fun _ => True) (okp := fun _ => True) ?hr ?hp (fun _ hk => hk) trivial (Below.refl _ _) (Nat.le_refl _) (by simp) ?_; (case hd => rfl); (case hg => rfl); (case hr => first | (go_simp; done) | (go_simp; rfl)); (case hp => exact (Reps.one (show Kd.M (Kd.int .u8) _ _ _ 7 [.int .u8 7] from rfl) (Reps.none _ _))); intro v250 w49 ho50 hb hg_ hnew_; clear hg_ hnew_; (first | rw [← Ny249.out] at ho50 | (simp only [Int.reduceToNat] at ho50; rw [← Ny249.out] at ho50)); have n0_ := Aside0.mk (Kd.R_lower ho50 (below_size (by repeat (first | (with_reducible first | exact HB.out | apply below_alloc | apply pw_below_drewN | apply below_drew1) | exact HB.out)))); have n1_ := Aside0.mk (below_step (by repeat (first | (with_reducible first | exact HB.out | apply below_alloc | apply pw_below_drewN | apply below_drew1) | exact HB.out)) hb); clear HB; have HO251 := n0_; have HB := n1_; clear n0_ n1_; clear hb ho50; obtain ⟨Ao51, co51, eo51⟩ := Kd.R_slice HO251.out; subst eo51) | ((with_reducible refine gate_callee (f := 44) rfl ?_); refine goesL_ (some 8) rfl rfl Try.func44 (by kernel_rfl) rfl #[.slice Ao51 y249.length co51] rfl (by (try simp only [List.map_toArray, List.map_cons, List.map_nil]); first | done | rfl | (simp only [List.length_drop, List.length_take]; rfl)) ?_; (with_reducible refine (frame_Put.calls _ _ y249 t252 t253 _ ?side1 ?side2 A1.out).mono ?_); (case side1 => repeat (first | exact (Kd.R_reads' HO251.out).2.2 | (with_reducible refine Kd.C_alloc ?_ _) | (with_reducible refine Kd.C_drewN ?_ _) | (with_reducible refine Kd.C_drew ?_))); (case side2 => exact (Kd.R_reads' HO251.out).2.1); rintro e w52 ⟨v254, rfl, ho0, hb⟩; refine ⟨_, rfl, ?_⟩; have n0_ := Aside0.mk (Kd.R_elder' (by (with_reducible repeat (first | apply Kd.R_alloc | apply Kd.R_drewN | apply Kd.R_drew)); exact HO251.out) (Kd.R_base ho0) hb); have n1_ := Aside0.mk (Kd.R_lower (Kd.R_new' ho0 (Kd.R_lt (by (with_reducible repeat (first | apply Kd.R_alloc | apply Kd.R_drewN | apply Kd.R_drew)); exact HO251.out))) (below_size (by repeat (first | (with_reducible first | exact HB.out | apply below_alloc | apply pw_below_drewN | apply below_drew1) | exact HB.out)))); have n2_ := Aside0.mk (below_step (by repeat (first | (with_reducible first | exact HB.out | apply below_alloc | apply pw_below_drewN | apply below_drew1) | exact HB.out)) hb); clear HO251; clear HB; have HO251 := n0_; have HO255 := n1_; have HB := n2_; clear n0_ n1_ n2_; (try clear hb); (try clear hb2); (try clear hk); (try clear hi); (try clear ho0); obtain ⟨Ao53, co53, eo53⟩ := Kd.R_slice HO255.out; subst eo53) | ((with_reducible refine gate_callee (f := 46) rfl ?_); refine goesL_ (some 13) rfl rfl Try.func46 (by kernel_rfl) rfl #[.slice Ao53 t252.length co53] rfl (by (try simp only [List.map_toArray, List.map_cons, List.map_nil]); first | done | rfl | (simp only [List.length_drop, List.length_take]; rfl)) ?_; (with_reducible refine (frame_Take.calls _ _ t252 t256 t257 t258 _ ?side1 ?side2 A2.out).mono ?_); (case side1 => repeat (first | exact (Kd.R_reads' HO255.out).2.2 | (with_reducible refine Kd.C_alloc ?_ _) | (with_reducible refine Kd.C_drewN ?_ _) | (with_reducible refine Kd.C_drew ?_))); (case side2 => exact (Kd.R_reads' HO255.out).2.1); rintro e w54 ⟨v259, rfl, ho0, hb⟩; refine ⟨_, rfl, ?_⟩; have n0_ := Aside0.mk (Kd.R_elder' (by (with_reducible repeat (first | apply Kd.R_alloc | apply Kd.R_drewN | apply Kd.R_drew)); exact HO251.out) (Kd.R_base ho0) hb); have n1_ := Aside0.mk (Kd.R_elder' (by (with_reducible repeat (first | apply Kd.R_alloc | apply Kd.R_drewN | apply Kd.R_drew)); exact HO255.out) (Kd.R_base ho0) hb); have n2_ := Aside0.mk (Kd.R_lower (Kd.R_new' (Kd.R_new' ho0 (Kd.R_lt (by (with_reducible repeat (first | apply Kd.R_alloc | apply Kd.R_drewN | apply Kd.R_drew)); exact HO251.out))) (Kd.R_lt (by (with_reducible repeat (first | apply Kd.R_alloc | apply Kd.R_drewN | apply Kd.R_drew)); exact HO255.out))) (below_size (by repeat (first | (with_reducible first | exact HB.out | apply below_alloc | apply pw_below_drewN | apply below_drew1) | exact HB.out)))); have n3_ := Aside0.mk (below_step (by repeat (first | (with_reducible first | exact HB.out | apply below_alloc | apply pw_below_drewN | apply below_drew1) | exact HB.out)) hb); clear HO251; clear HO255; clear HB; have HO251 := n0_; have HO255 := n1_; have HO260 := n2_; have HB := n3_; clear n0_ n1_ n2_ n3_; (try clear hb); (try clear hb2); (try clear hk); (try clear hi); (try clear ho0)))
    go_ret
    exact ⟨by first | rfl | (simp [errW_none, errW_some] <;> rfl) | (simp [*, errW_none, errW_some] <;> rfl), by repeat (first | (with_reducible first | exact HB.out | apply below_alloc | apply pw_below_drewN | apply below_drew1) | exact HB.out)⟩

end Go.Proofs.Ytalpemoodollpaa.P
-- Printed by hookprint.py (the session's own program, over the kit's print.py): checked by Lean like any text.
namespace Go.Proofs.Ytalpemoodollpaa.P
open Go.RowKit Go.Proofs.YtalpemoodollpaaW.PrintWords Go.Proofs.YtalpemoodollpaaW.PrintLast Go.Proofs.YtalpemoodollpaaW.PrintMore
attribute [local go_sem] max2_int min2_int max_two min_two max_three min_three max_four min_four   -- for this text's walks alone
set_option linter.unusedVariables false
set_option linter.unusedSimpArgs false

/-! ### damperref04_Put: function 45 -/
def damperref04_Put.f (k : Nat) (l0 : List Int) : Option (List Int × Int) := if (l0.length : Int) > 64 then (some (([] : List Int), 9)) else ((damperref03_Uint.f k (IntKind.u64.wrap ((l0.length : Int))) 2).bind fun t263 => (if t263.length + l0.length < 140737488355328 then (some ((t263 ++ l0), 0)) else (none)))
theorem damperref04_Put.mono : ∀ a0 k, LeO (damperref04_Put.f k a0) (damperref04_Put.f (k + 1) a0) := by
  intro a0 k
  unfold damperref04_Put.f
  repeat' first
      | (with_reducible exact damperref03_Uint.mono _ _ _)
      | (with_reducible exact LeO.refl _)
      | (with_reducible exact LeO.none _)
      | (with_reducible refine LeO.ite ?_ ?_)
      | (with_reducible refine LeO.bind ?_ (fun _ => ?_))
      | exact damperref03_Uint.mono _ _ _
      | exact LeO.none _
      | refine LeO.ite ?_ ?_
      | refine LeO.bind ?_ (fun _ => ?_)
set_option maxHeartbeats 8000000 in
set_option maxRecDepth 100000 in
theorem damperref04_Put.calls (k : Nat) (A0 : Option Addr) (c0 : Nat) (l0 : List Int) (r1 : List Int) (r2 : Int) (w : World) (hr0 : Kd.C (Kd.int .u8) w A0 l0.length l0) (hc0 : l0.length ≤ c0) (h : damperref04_Put.f k l0 = some (r1, r2)) :
    Calls Try.prog 45 #[.slice A0 l0.length c0] w fun e w' => ∃ v0_ : Value, e = .returned (.tuple #[v0_, .int .i64 r2]) ∧ Kd.R (Kd.int .u8) 5 w' w.heap.size (fun _ => True) v0_ r1 ∧ Below w.heap.size w w' := by
  have HR0 := Aside0.mk hr0
  have HC0 := Aside0.mk hc0
  clear hr0 hc0
  have HB := Aside0.mk (Below.refl w.heap.size w)
  have H : (if (l0.length : Int) > 64 then (some (([] : List Int), 9)) else ((damperref03_Uint.f k (IntKind.u64.wrap ((l0.length : Int))) 2).bind fun t263 => (if t263.length + l0.length < 140737488355328 then (some ((t263 ++ l0), 0)) else (none)))) = some (r1, r2) := h
  clear h
  by_cases c2 : (l0.length : Int) > 64
  · rw [if_pos c2] at H
    have c2b0 : decide (64 < (l0.length : Int)) = true := decide_eq_true c2
    have c2b1 : decide (64 < l0.length) = true := decide_eq_true (by omega)
    clear c2
    simp only [Option.some.injEq, Prod.mk.injEq] at H
    obtain ⟨rfl, rfl⟩ := H
    go_enter Try.func45, Try.ntmps45
    go_wp2
    go_ret2
    exact ⟨_, by first | rfl | (simp [errW_none, errW_some] <;> rfl) | (simp [*, errW_none, errW_some] <;> rfl), by first | exact Kd.R_nil _ _ _ _ _ | exact Kd.N_nil _ _ _ _ _ | exact Kd.V_nil _ _ _ _ _ | exact Kd.Q_nil _ _ _ _ _ | exact Kd.S_nil _ _ _ _ _, by repeat (first | (with_reducible first | exact HB.out | apply below_alloc | apply pw_below_drewN | apply below_drew1) | exact HB.out)⟩
  · rw [if_neg c2] at H
    have c2b0 : decide (64 < (l0.length : Int)) = false := decide_eq_false c2
    have c2b1 : decide (64 < l0.length) = false := decide_eq_false (by omega)
    clear c2
    replace H := Option.bind_eq_some_iff.mp H
    obtain ⟨t263, A30, H⟩ := H
    replace H : (if t263.length + l0.length < 140737488355328 then (some ((t263 ++ l0), 0)) else (none)) = some (r1, r2) := H
    have A3 := Aside0.mk A30
    clear A30
    by_cases c4 : t263.length + l0.length < 140737488355328
    · rw [if_pos c4] at H
      have LMc4 := Aside0.mk c4
      clear c4
      obtain ⟨y266, hy266⟩ : ∃ y_ : List Int, y_ = (t263 ++ l0) := ⟨_, rfl⟩
      replace H : (some (y266, 0)) = some (r1, r2) := by first | (rw [hy266]; with_reducible exact H) | (have H2_ := (Option.bind_some _ _).symm.trans H; rw [hy266]; with_reducible exact H2_) | (have H2_ := (Option.bind_some _ _).symm.trans H; with_reducible exact H2_) | with_reducible exact H | (rw [hy266]; exact H) | exact H
      have Ny266 := Aside0.mk hy266
      clear hy266
      simp only [Option.some.injEq, Prod.mk.injEq] at H
      obtain ⟨rfl, rfl⟩ := H
      go_enter Try.func45, Try.ntmps45
      go_wp2_with (first | ((with_reducible refine gate_callee (f := 101) rfl ?_); refine goesL_ (some 10) rfl rfl Try.func101 (by kernel_rfl) rfl #[.int .u64 (IntKind.u64.wrap ((l0.length : Int))), .int .i64 2] rfl (by (try simp only [List.map_toArray, List.map_cons, List.map_nil]); first | done | rfl | (simp only [List.length_drop, List.length_take]; rfl)) ?_; (with_reducible refine (damperref03_Uint.calls k (IntKind.u64.wrap ((l0.length : Int))) 2 t263 _ A3.out).mono ?_); rintro e w5 ⟨v264, rfl, ho0, hb⟩; refine ⟨_, rfl, ?_⟩; have n0_ := Aside0.mk (Kd.R_lower ho0 (below_size (by repeat (first | (with_reducible first | exact HB.out | apply below_alloc | apply pw_below_drewN | apply below_drew1) | exact HB.out)))); have n1_ := Aside0.mk (below_step (by repeat (first | (with_reducible first | exact HB.out | apply below_alloc | apply pw_below_drewN | apply below_drew1) | exact HB.out)) hb); clear HB; have HO265 := n0_; have HB := n1_; clear n0_ n1_; (try clear hb); (try clear hb2); (try clear hk); (try clear hi); (try clear ho0)) | ((with_reducible refine gate_builtin (b := .append) (xs := #[.tmp 10, .tmp 11]) rfl ?_); at_builtin; refine Kd.R_append_rows (Kd.int .u8) (w0 := w) w.heap.size rfl (.tmp 10) (.tmp 11) 30 5 (.int .u8 0) 1 rfl Try.underlying30 info5 rfl (by decide) (by omega) v264 t263 l0 _ _ _ (fun _ => True) (fun _ => False) rfl rfl ?aO ?aR (fun _ _ h => h) (fun _ h => h.elim) ?aF ?aB ?aS ?aL ?_; (case aR => repeat (first | exact (Kd.C_below HR0.out HB.out) | (with_reducible refine Kd.C_alloc ?_ _) | (with_reducible refine Kd.C_drewN ?_ _) | (with_reducible refine Kd.C_drew ?_))); (case aB => exact (by repeat (first | (with_reducible first | exact HB.out | apply below_alloc | apply pw_below_drewN | apply below_drew1) | exact HB.out))); (case aF => exact (fun _ _ => trivial)); (case aO => exact (by (with_reducible repeat (first | apply Kd.R_alloc | apply Kd.R_drewN | apply Kd.R_drew)); exact HO265.out)); (case aS => exact (below_size (by repeat (first | (with_reducible first | exact HB.out | apply below_alloc | apply pw_below_drewN | apply below_drew1) | exact HB.out)))); (case aL => have := LMc4.out; omega); intro v267 w6 ho hb hg hat; rw [← Ny266.out] at ho; have n0_ := Aside0.mk (hb); have n1_ := Aside0.mk (ho); clear HB; clear HO265; have HB := n0_; have HO268 := n1_; clear n0_ n1_; clear ho hb hg hat))
      go_ret2
      exact ⟨_, by first | rfl | (simp [errW_none, errW_some] <;> rfl) | (simp [*, errW_none, errW_some] <;> rfl), by (with_reducible repeat (first | apply Kd.R_alloc | apply Kd.R_drewN | apply Kd.R_drew)); exact HO268.out, by repeat (first | (with_reducible first | exact HB.out | apply below_alloc | apply pw_below_drewN | apply below_drew1) | exact HB.out)⟩
    · rw [if_neg c4] at H
      exact absurd H (by simp)

end Go.Proofs.Ytalpemoodollpaa.P
/- Frames: the walk of FrameTakes. -/
namespace Go.Proofs.Ytalpemoodollpaa.P
open Go.RowKit Go.Proofs.YtalpemoodollpaaW.PrintWords Go.Proofs.YtalpemoodollpaaW.PrintLast Go.Proofs.YtalpemoodollpaaW.PrintMore
set_option linter.unusedVariables false
set_option linter.unusedSimpArgs false
theorem refPut (l : List Int) (k : Nat) (hk : 12 ≤ k) : damperref04_Put.f k l = some (if l.length ≤ 64 then (uintForm l.length 2 ++ l, 0) else ([], 9)) := by
  unfold damperref04_Put.f
  by_cases h : l.length ≤ 64
  · have e : IntKind.u64.wrap (l.length : Int) = (l.length : Int) := by rw [wrap_u64]; omega
    rw [if_neg (by omega), if_pos h, e, refUint _ 2 (by omega) (by omega) (by omega) (by omega) k hk]
    simp only [Option.bind_some, Int.toNat_natCast, uintForm_length, show (2 : Int).toNat = 2 from rfl]
    rw [if_pos (by omega)]
  · rw [if_pos (by omega), if_neg h]
theorem alive04 : damperlaw04_alive.f = some true := by
  have h1 : frame_Put.f [7] = some ([0, 1, 7], 0) := by
    unfold frame_Put.f
    decide
  have h2 : frame_Take.f [0, 1, 7] = some ([7], 3, 0) := by
    unfold frame_Take.f
    decide
  unfold damperlaw04_alive.f
  rw [h1]
  simp only [Option.bind_some, h2]
  decide
theorem byt_bytB {l : List Int} (h : Byt l) : bytB l = true := by
  unfold bytB
  simpa [Byt] using h
theorem alive04_calls (w : World) : Calls Try.prog 43 #[] w fun e w' => e = .returned (.bool true) ∧ Below w.heap.size w w' := damperlaw04_alive.calls true w alive04
set_option maxRecDepth 100000 in
set_option maxHeartbeats 2000000 in
theorem frameTakes_calls (A0 : Option Addr) (c0 : Nat) (l0 : List Int) (A1 : Option Addr) (c1 : Nat) (l1 : List Int) (w : World) (hr0 : Kd.C (Kd.int .u8) w A0 l0.length l0) (hc0 : l0.length ≤ c0)
    (hr1 : Kd.C (Kd.int .u8) w A1 l1.length l1) (hc1 : l1.length ≤ c1) (hb : Byt l1) :
    Calls Try.prog 7 #[.slice A0 l0.length c0, .slice A1 l1.length c1] w fun e w' => e = .returned (.bool true) ∧ Below w.heap.size w w' := by
  have HR0 := Aside0.mk hr0
  have HR1 := Aside0.mk hr1
  have HC0 := Aside0.mk hc0
  have HC1 := Aside0.mk hc1
  have HB := Aside0.mk hb
  have hx := hr0.2.1
  have hy := hr1.2.1
  clear hr0 hr1 hc0 hc1 hb
  by_cases hbig : 200 < l0.length ∨ 400 < l1.length
  · have HA := Aside0.mk (alive04_calls)
    go_enter Try.func7, Try.ntmps7
    by_cases hb0 : 200 < l0.length
    · go_wp2_with fail
      refine (HA.out _).mono ?_
      rintro e w1 ⟨rfl, hb1⟩
      go_wp2
      go_ret
      exact ⟨rfl, hb1⟩
    · have hb1 : 400 < l1.length := hbig.resolve_left hb0
      go_wp2_with fail
      refine (HA.out _).mono ?_
      rintro e w1 ⟨rfl, hb1⟩
      go_wp2
      go_ret
      exact ⟨rfl, hb1⟩
  · have hs0 : l0.length ≤ 200 := by omega
    have hs1 : l1.length ≤ 400 := by omega
    clear hbig hx hy
    have HBIG := Aside0.mk hs1
    have hput : frame_Put.f l0 = some (if l0.length ≤ 64 then (uintForm l0.length 2 ++ l0, 0) else ([], 9)) := rfl
    have hrput := refPut l0 12 (by omega)
    have htake : frame_Take.f l1 = some (takeF l1) := by
      unfold frame_Take.f
      rw [if_pos ⟨byt_bytB HB.out, by omega⟩]
    have hrtake := fun w (h1 : Kd.C (Kd.int .u8) w A1 l1.length l1) => refTake_calls A1 c1 l1 w h1 HC1.out HB.out (by omega)
    revert hput hrput htake hrtake
    generalize (if l0.length ≤ 64 then (uintForm l0.length 2 ++ l0, (0 : Int)) else ([], 9)) = P
    generalize takeF l1 = T
    obtain ⟨px, pf⟩ := P
    obtain ⟨tx, tn, tf⟩ := T
    intro hput hrput htake hrtake
    have H1 := Aside0.mk hput
    have H2 := Aside0.mk hrput
    have H3 := Aside0.mk htake
    have H4 := Aside0.mk hrtake
    have HA := Aside0.mk (alive04_calls)
    clear hput hrput htake hrtake
    go_enter Try.func7, Try.ntmps7
    go_wp2_with fail
    refine (frame_Put.calls A0 c0 l0 px pf w HR0.out HC0.out H1.out).mono ?_
    rintro e w1 ⟨v1, rfl, hR, hb⟩
    obtain ⟨X1, x1, rfl, hq, hC⟩ := Kd.R_reads hR
    have CX := Aside0.mk hC
    have QX := Aside0.mk hq
    have B1 := Aside0.mk hb
    have G0 := Aside0.mk (Kd.C_below HR0.out hb)
    have G1 := Aside0.mk (Kd.C_below HR1.out hb)
    clear hR hb hC hq HR0 HR1
    go_wp2_with fail
    refine (damperref04_Put.calls 12 A0 c0 l0 px pf w1 G0.out HC0.out H2.out).mono ?_
    rintro e w2 ⟨v2, rfl, hR, hb⟩
    obtain ⟨X2, x2, rfl, hq, hC⟩ := Kd.R_reads hR
    have CY := Aside0.mk hC
    have QY := Aside0.mk hq
    have CX2 := Aside0.mk (Kd.C_below CX.out hb)
    have B2 := Aside0.mk (B1.out.trans (Below.mono hb B1.out.size))
    have G2 := Aside0.mk (Kd.C_below G1.out hb)
    clear hR hb hC hq G0 G1 CX B1 H1 H2
    go_wp2_with fail
    refine (frame_Take.calls A1 c1 l1 tx tn tf w2 G2.out HC1.out H3.out).mono ?_
    rintro e w3 ⟨v3, rfl, hR, hb⟩
    obtain ⟨X3, x3, rfl, hq, hC⟩ := Kd.R_reads hR
    have CU := Aside0.mk hC
    have QU := Aside0.mk hq
    have CX3 := Aside0.mk (Kd.C_below CX2.out hb)
    have CY3 := Aside0.mk (Kd.C_below CY.out hb)
    have B3 := Aside0.mk (B2.out.trans (Below.mono hb B2.out.size))
    have G3 := Aside0.mk (Kd.C_below G2.out hb)
    clear hR hb hC hq G2 CX2 CY B2 H3
    go_wp2_with fail
    refine (H4.out w3 G3.out).mono ?_
    rintro e w4 ⟨X4, x4, rfl, hC, hq, hb⟩
    have CV := Aside0.mk hC
    have QV := Aside0.mk hq
    have CX4 := Aside0.mk (Kd.C_below CX3.out hb)
    have CY4 := Aside0.mk (Kd.C_below CY3.out hb)
    have CU4 := Aside0.mk (Kd.C_below CU.out hb)
    have B4 := Aside0.mk (B3.out.trans (Below.mono hb B3.out.size))
    clear hb hC hq G3 CX3 CY3 CU B3 H4
    go_wp2_with fail
    refine (damperref03_Same.calls X1 x1 px X2 x2 px true w4 CX4.out QX.out CY4.out QY.out (same_of_eq px)).mono ?_
    rintro e w5 ⟨rfl, hd⟩
    have B5 := Aside0.mk (Below.trans B4.out (Below.mono hd.below B4.out.size))
    have CU5 := Aside0.mk (Kd.C_below CU4.out hd.below)
    have CV5 := Aside0.mk (Kd.C_below CV.out hd.below)
    clear hd CX4 CY4 CU4 CV B4 QX QY
    go_wp2_with fail
    refine (damperref03_Same.calls X3 x3 tx X4 x4 tx true w5 CU5.out QU.out CV5.out QV.out (same_of_eq tx)).mono ?_
    rintro e w6 ⟨rfl, hd⟩
    have B6 := Aside0.mk (Below.trans B5.out (Below.mono hd.below B5.out.size))
    clear hd CU5 CV5 B5 QU QV
    go_wp2_with fail
    refine (HA.out w6).mono ?_
    rintro e w7 ⟨rfl, hd⟩
    have B7 := Aside0.mk (Below.trans B6.out (Below.mono hd B6.out.size))
    clear hd
    go_wp2
    go_ret
    exact ⟨rfl, B7.out⟩
theorem byt_wf {l : List Int} (h : ∀ y ∈ l, (Lit.int .u8 y).wf = true) : Byt l := fun b hb => by
  have := bounds_u8 (h b hb)
  omega
end Go.Proofs.Ytalpemoodollpaa.P
