/- Contracts and plain laws: HfeedS, Hput2, HVals, HSince, HRangeA, HCollect, HWK, Hmessage, P92, PE0, P59, P34, P35, HMsgEnc0, HMsgStrP, HBytes, HReadInt, HRead, HReads, HBackPure, HrefRd. -/
import Derived.Deep.RegionHeld3
import Derived.RangeFuncNested
import Derived.RangeFuncCalls
import Derived.Shelf.Abstract
import Derived.OwnWalkIn
import Derived.TacticsInMore
import Derived.LoopNIn
import Derived.LoopIn
import Derived.RegionTactic
import Derived.Test.YtalpemoodollpaaX1
import Derived.Test.YtalpemoodollpaaX35
/- A feed.Feed: what it holds. -/
namespace Go.Proofs.Ytalpemoodollpaa.P
open Go.RowKit Go.Proofs.YtalpemoodollpaaW.PrintWords Go.Proofs.YtalpemoodollpaaW.PrintLast Go.Proofs.YtalpemoodollpaaW.PrintMore
set_option linter.unusedVariables false
set_option linter.unusedSimpArgs false

theorem R29_ok {W : World} {base : Nat} {ok ok' : Nat → Prop} {v : Value} {ms : List S29} (h : Kd.R k29 29 W base ok v ms) (hk : ∀ k, v.ownBlock = some k → ok' k) : Kd.R k29 29 W base ok' v ms := by
  obtain ⟨_, inner, ho, hr⟩ := h
  exact ⟨hk, inner, ho, hr.imp_ (fun x cs hp => by obtain rfl := k29_openM hp; exact k29_mkM _ _ _ x)⟩
theorem R29_fr {w w1 : World} {S : Nat → Prop} {base : Nat} {ok : Nat → Prop} {v : Value} {ms : List S29} (h : Kd.R k29 29 w base ok v ms) (hf : Fr w w1 S) (hn : ∀ k, v.ownBlock = some k → ¬ S k) : Kd.R k29 29 w1 base ok v ms := by
  have h1 : Kd.R k29 29 w base (fun k => v.ownBlock = some k) v ms := R29_ok h (fun k hk => hk)
  exact R29_ok (Kd.R_step h1 (fun k hk hl => hf.block k hl (hn k hk))) (fun k hk => h.1 k hk)
/-- A feed.Feed (t = 142), or the document's (another t), at block g: its messages; row: the block that they lie in. -/
def FS (t : Nat) (W : World) (g : Nat) (row : Option Nat) (ms : List S29) : Prop :=
  ∃ v, W.heap[g]? = some (.cells #[v] t (0, 0)) ∧ v.ownBlock = row ∧ Kd.R k29 29 W 0 (fun _ => True) v ms
def FPost (t : Nat) (w : World) (g : Nat) (row : Option Nat) (ms : List S29) (w' : World) : Prop :=
  ∃ row', FS t w' g row' ms ∧ (row' = row ∨ ∃ b, row' = some b ∧ w.heap.size ≤ b) ∧ Fr w w' (fun k => k = g ∨ row = some k)
structure FIn (t : Nat) (w W : World) (g : Nat) (row : Option Nat) (ms : List S29) (v : Value) : Prop where
  hb : W.heap[g]? = some (.cells #[v] t (0, 0))
  hR : Kd.R k29 29 W 0 (fun _ => True) v ms
  hrow : v.ownBlock = row ∨ ∃ b, v.ownBlock = some b ∧ w.heap.size ≤ b
  hfr : Fr w W (fun k => k = g ∨ row = some k)
namespace FIn
variable {t : Nat} {w W W1 : World} {g : Nat} {row : Option Nat} {ms ns : List S29} {v v1 : Value}
theorem cell (h : FIn t w W g row ms v) : W.cell? ⟨g, 0, none⟩ = some v := (blk_cell h.hb 0).trans rfl
theorem frozen (h : FIn t w W g row ms v) : W.frozen? ⟨g, 0, none⟩ = false := blk_frozen h.hb 0
theorem below (h : FIn t w W g row ms v) (hB : Below W.heap.size W W1) : FIn t w W1 g row ms v :=
  ⟨(hB.block g (blk_lt h.hb)).trans h.hb, Kd.R_below h.hR hB, h.hrow, h.hfr.trans (Fr.of_below hB (fun _ => False)) (fun _ _ h => h.elim)⟩
theorem drew (h : FIn t w W g row ms v) : FIn t w W.drew g row ms v := ⟨h.hb, Kd.R_drew h.hR, h.hrow, h.hfr.drew⟩
theorem alloc (h : FIn t w W g row ms v) (o : Obj) : FIn t w (W.alloc o) g row ms v := ⟨blk_alloc h.hb o, Kd.R_alloc h.hR o, h.hrow, h.hfr.alloc o⟩
theorem post (h : FIn t w W g row ms v) : FPost t w g row ms W := ⟨_, ⟨v, h.hb, rfl, h.hR⟩, h.hrow, h.hfr⟩
theorem start (h : FS t w g row ms) : ∃ v, FIn t w w g row ms v := by
  obtain ⟨v, hb, hr, ho⟩ := h
  exact ⟨v, hb, ho, .inl hr, Fr.refl _ _⟩
theorem step (ht : 29 ≠ t) (h : FIn t w W g row ns v) (hown : Kd.R k29 29 W1 0 (fun _ => True) v1 ms) (hg : W.grownBy W1 v.ownBlock) (hat : v1.ownBlock = v.ownBlock ∨ ∃ b, v1.ownBlock = some b ∧ W.heap.size ≤ b) :
    FIn t w (W1.setCell ⟨g, 0, none⟩ v1) g row ms v1 := by
  have hne := Kd.R_ne h.hR h.hb ht
  have hb1 := blk_grown h.hb hg hne
  have hne1 := Kd.R_ne hown hb1 ht
  refine ⟨by simpa using blk_set hb1 0 v1, ?_, ?_, ?_⟩
  · exact R29_ok (Kd.R_far (R29_ok hown (ok' := fun k => v1.ownBlock = some k) (fun k hk => hk)) (p := ⟨g, 0, none⟩) (fun k hk e => hne1 (by rw [hk]; exact congrArg some e.symm)) v1) (fun _ _ => trivial)
  · rcases hat with hat | ⟨b, hat, hl⟩
    · rw [hat]; exact h.hrow
    · exact .inr ⟨b, hat, Nat.le_trans h.hfr.size hl⟩
  · refine (h.hfr.grown hg ?_).setCell _ _ (fun _ => .inl rfl)
    intro k hk he
    rcases h.hrow with hrow | ⟨b, hrow, hl⟩
    · right; rw [← hrow]; exact he
    · rw [hrow] at he; injection he with he; omega
theorem cells (ht : 29 ≠ t) (h : FIn t w W g row ns v) (hg : W.grownBy W1 v.ownBlock) : W1.cell? ⟨g, 0, none⟩ = some v ∧ W1.frozen? ⟨g, 0, none⟩ = false := by
  have hb1 := blk_grown h.hb hg (Kd.R_ne h.hR h.hb ht)
  exact ⟨(blk_cell hb1 0).trans rfl, blk_frozen hb1 0⟩
section
variable {ops : Array Oper} {rest : List Oper} {o : Oper} {a : Act} {Q : Exit → Act → World → Prop}
def msgCells (m : S29) : List Value := [.int .i64 m.f0, .int .i64 m.f1, .int .i64 m.f2, .int .i64 m.f3, .int .i64 m.f4, .int .i64 m.f5, .int .i64 m.f6, .int .i64 m.f7, .int .i64 m.f8]
theorem info29 : (Try.prog.info? 29).map (fun i => (i.zero, i.size, i.bytes)) = some (some (.agg #[.int .i64 0, .int .i64 0, .int .i64 0, .int .i64 0, .int .i64 0, .int .i64 0, .int .i64 0, .int .i64 0, .int .i64 0]), 9, 72) := by kernel_rfl
theorem append_step {K : Act → World → Prop} (ht : 29 ≠ t) (h : FIn t w W g row ns v) (hw : Region.wanted o (yielded ops a.tmps) = true) (s x : Operand) (m : S29)
    (ho : o.op = .call { callee := .builtin .append, args := #[s, x], argTypes := #[22, 22] }) (hs : a.eval s = v) (hx : a.eval x = .slice (some ⟨W.heap.size, 0, none⟩) 1 1)
    (hl : (ns.length + 1) * 72 ≤ 140737488355328)
    (k : ∀ A n c w1, FIn t w (w1.setCell ⟨g, 0, none⟩ (.slice A n c)) g row (ns ++ [m]) (.slice A n c) → Aside0 (w1.cell? ⟨g, 0, none⟩ = some v) → w1.frozen? ⟨g, 0, none⟩ = false → Aside0 (Fr W (w1.setCell ⟨g, 0, none⟩ (.slice A n c)) (fun k => k = g ∨ v.ownBlock = some k)) → Aside0 ((Value.slice A n c).ownBlock = v.ownBlock ∨ ∃ b, (Value.slice A n c).ownBlock = some b ∧ W.heap.size ≤ b) → K (a.put o.dst (.slice A n c)) w1) :
    if Region.wanted o (yielded ops a.tmps) = true then Oper.wp Try.prog o a (W.alloc (.cells #[.int .i64 m.f0, .int .i64 m.f1, .int .i64 m.f2, .int .i64 m.f3, .int .i64 m.f4, .int .i64 m.f5, .int .i64 m.f6, .int .i64 m.f7, .int .i64 m.f8] 29)) K Q
    else K (a.put o.dst undef) (W.alloc (.cells #[.int .i64 m.f0, .int .i64 m.f1, .int .i64 m.f2, .int .i64 m.f3, .int .i64 m.f4, .int .i64 m.f5, .int .i64 m.f6, .int .i64 m.f7, .int .i64 m.f8] 29)) := by
  refine Kd.R_append_step k29 (w0 := W) 0 hw s x 22 29 _ 72 ho Try.underlying22 info29 rfl (by decide) (by decide) v ns m (msgCells m) (fun _ => True) (fun _ => False) hs hx (k29_mkM _ _ _ m) (fun _ h => h.elim) (fun _ _ => trivial) h.hR (Below.refl 0 W) (Nat.zero_le _) hl ?_
  intro v1 w1 hown _ hgrow hat
  obtain ⟨A, c, rfl⟩ := Kd.R_slice hown
  obtain ⟨hc1, hf1⟩ := h.cells ht hgrow
  exact k A _ c w1 (h.step ht hown hgrow hat) ⟨hc1⟩ hf1 ⟨((Fr.refl W _).grown hgrow (fun k _ hk => .inr hk)).setCell _ _ (fun _ => .inl rfl)⟩ ⟨hat⟩
end
end FIn
theorem FS.fr {t : Nat} {w w1 : World} {S : Nat → Prop} {g : Nat} {row : Option Nat} {ms : List S29} (h : FS t w g row ms) (hf : Fr w w1 S) (hg : ¬ S g) (hr : ∀ k, row = some k → ¬ S k) : FS t w1 g row ms := by
  obtain ⟨v, hb, he, hR⟩ := h
  exact ⟨v, hf.blk hb hg, he, R29_fr hR hf (fun k hk => hr k (by rw [← he]; exact hk))⟩
theorem FS.below {t : Nat} {w w1 : World} {g : Nat} {row : Option Nat} {ms : List S29} (h : FS t w g row ms) (hb : Below w.heap.size w w1) : FS t w1 g row ms :=
  h.fr (Fr.of_below hb (fun _ => False)) (fun h => h) (fun _ _ h => h)
end Go.Proofs.Ytalpemoodollpaa.P
/- feed.Put. -/
namespace Go.Proofs.Ytalpemoodollpaa.P
open Go.RowKit Go.Proofs.YtalpemoodollpaaW.PrintWords Go.Proofs.YtalpemoodollpaaW.PrintLast Go.Proofs.YtalpemoodollpaaW.PrintMore
set_option linter.unusedVariables false
set_option linter.unusedSimpArgs false
set_option maxRecDepth 100000 in
theorem feed_Last_calls (g : Nat) (row : Option Nat) (ms : List S29) (w : World) (hs : FS 142 w g row ms) : Calls Try.prog 112 #[.pointer (some ⟨g, 0, none⟩)] w fun e w' => e = .returned (.int .i64 (ms.length : Int)) ∧ w = w' := by
  obtain ⟨v, HI⟩ := FIn.start hs
  obtain ⟨A, c, rfl⟩ := Kd.R_slice HI.hR
  have hc0 := HI.cell
  clear hs HI
  go_enter Try.func112, Try.ntmps112
  go_wp2
  go_ret
  exact ⟨rfl, rfl⟩
set_option maxRecDepth 100000 in
theorem feed_Last_nil (w : World) : Calls Try.prog 112 #[.pointer none] w fun e w' => e = .returned (.int .i64 0) ∧ w = w' := by
  go_enter Try.func112, Try.ntmps112
  go_wp2
  go_ret
  exact ⟨rfl, rfl⟩
theorem FIn.far {t : Nat} {w W : World} {g : Nat} {row : Option Nat} {ms : List S29} {v : Value} (h : FIn t w W g row ms v) {b j : Nat} (hw : w.heap.size ≤ b) (hg : g < w.heap.size) (hv : ∀ k, v.ownBlock = some k → k ≠ b) (u : Value) : FIn t w (W.setCell ⟨b, j, none⟩ u) g row ms v :=
  ⟨(Below.heap_setCell W ⟨b, j, none⟩ u g (by show g ≠ b; omega)).trans h.hb, R29_ok (Kd.R_far (R29_ok h.hR (ok' := fun k => v.ownBlock = some k) (fun k hk => hk)) (p := ⟨b, j, none⟩) (fun k hk => hv k hk) u) (fun _ _ => trivial), h.hrow,
    h.hfr.setCell _ _ (fun hlt => absurd hlt (by show ¬ b < _; omega))⟩
theorem box_far {W : World} {b b' j : Nat} {o : Obj} (h : W.heap[b']? = some o) (hne : b' ≠ b) (u : Value) : (W.setCell ⟨b, j, none⟩ u).heap[b']? = some o := (Below.heap_setCell W ⟨b, j, none⟩ u b' hne).trans h
theorem FIn.far9 {t : Nat} {w W : World} {g : Nat} {row : Option Nat} {ms : List S29} {v : Value} (h : FIn t w W g row ms v) {b : Nat} (hw : w.heap.size ≤ b) (hg : g < w.heap.size) (hv : ∀ k, v.ownBlock = some k → k ≠ b) (x0 x1 x2 x3 x4 x5 x6 x7 x8 : Int) :
    FIn t w (((((((((W.setCell ⟨b, 0, none⟩ (.int .i64 x0)).setCell ⟨b, 1, none⟩ (.int .i64 x1)).setCell ⟨b, 2, none⟩ (.int .i64 x2)).setCell ⟨b, 3, none⟩ (.int .i64 x3)).setCell ⟨b, 4, none⟩ (.int .i64 x4)).setCell ⟨b, 5, none⟩ (.int .i64 x5)).setCell ⟨b, 6, none⟩ (.int .i64 x6)).setCell ⟨b, 7, none⟩ (.int .i64 x7)).setCell ⟨b, 8, none⟩ (.int .i64 x8)) g row ms v := (((((((((h.far hw hg hv (.int .i64 x0)).far hw hg hv (.int .i64 x1)).far hw hg hv (.int .i64 x2)).far hw hg hv (.int .i64 x3)).far hw hg hv (.int .i64 x4)).far hw hg hv (.int .i64 x5)).far hw hg hv (.int .i64 x6)).far hw hg hv (.int .i64 x7)).far hw hg hv (.int .i64 x8))
theorem Box9.set9 {W : World} {b t : Nat} {y0 y1 y2 y3 y4 y5 y6 y7 y8 : Int} (h : Box9 W t b y0 y1 y2 y3 y4 y5 y6 y7 y8) (x0 x1 x2 x3 x4 x5 x6 x7 x8 : Int) : Box9 (((((((((W.setCell ⟨b, 0, none⟩ (.int .i64 x0)).setCell ⟨b, 1, none⟩ (.int .i64 x1)).setCell ⟨b, 2, none⟩ (.int .i64 x2)).setCell ⟨b, 3, none⟩ (.int .i64 x3)).setCell ⟨b, 4, none⟩ (.int .i64 x4)).setCell ⟨b, 5, none⟩ (.int .i64 x5)).setCell ⟨b, 6, none⟩ (.int .i64 x6)).setCell ⟨b, 7, none⟩ (.int .i64 x7)).setCell ⟨b, 8, none⟩ (.int .i64 x8)) t b x0 x1 x2 x3 x4 x5 x6 x7 x8 := (blk_set (blk_set (blk_set (blk_set (blk_set (blk_set (blk_set (blk_set (blk_set h 0 (.int .i64 x0)) 1 (.int .i64 x1)) 2 (.int .i64 x2)) 3 (.int .i64 x3)) 4 (.int .i64 x4)) 5 (.int .i64 x5)) 6 (.int .i64 x6)) 7 (.int .i64 x7)) 8 (.int .i64 x8)).trans (by simp)
theorem Box9.far9 {W : World} {b b' t : Nat} {y0 y1 y2 y3 y4 y5 y6 y7 y8 : Int} (h : Box9 W t b' y0 y1 y2 y3 y4 y5 y6 y7 y8) (hne : b' ≠ b) (x0 x1 x2 x3 x4 x5 x6 x7 x8 : Int) : Box9 (((((((((W.setCell ⟨b, 0, none⟩ (.int .i64 x0)).setCell ⟨b, 1, none⟩ (.int .i64 x1)).setCell ⟨b, 2, none⟩ (.int .i64 x2)).setCell ⟨b, 3, none⟩ (.int .i64 x3)).setCell ⟨b, 4, none⟩ (.int .i64 x4)).setCell ⟨b, 5, none⟩ (.int .i64 x5)).setCell ⟨b, 6, none⟩ (.int .i64 x6)).setCell ⟨b, 7, none⟩ (.int .i64 x7)).setCell ⟨b, 8, none⟩ (.int .i64 x8)) t b' y0 y1 y2 y3 y4 y5 y6 y7 y8 := (box_far (box_far (box_far (box_far (box_far (box_far (box_far (box_far (box_far h hne _) hne _) hne _) hne _) hne _) hne _) hne _) hne _) hne _)
def putMsg (ms : List S29) (t : Int) (m : S29) : S29 := ⟨m.f0, m.f1, (ms.length : Int) + 1, t, m.f4, m.f5, m.f6, m.f7, m.f8⟩
set_option maxRecDepth 100000 in
set_option maxHeartbeats 4000000 in
theorem feed_Put_calls (g : Nat) (row : Option Nat) (ms : List S29) (t : Int) (m : S29) (w : World) (hs : FS 142 w g row ms) (hl : ms.length ≤ 1000000) :
    Calls Try.prog 56 #[.pointer (some ⟨g, 0, none⟩), .int .i64 t, .agg #[.int .i64 m.f0, .int .i64 m.f1, .int .i64 m.f2, .int .i64 m.f3, .int .i64 m.f4, .int .i64 m.f5, .int .i64 m.f6, .int .i64 m.f7, .int .i64 m.f8]] w fun e w' =>
      (msgRight (putMsg ms t m) = true → e = .returned (.tuple #[msgVal (putMsg ms t m), .int .i64 0]) ∧ FPost 142 w g row (ms ++ [putMsg ms t m]) w') ∧
      (msgRight (putMsg ms t m) = false → e = .returned (.tuple #[msgVal z29, .int .i64 1]) ∧ FPost 142 w g row ms w') := by
  have HRC := Aside0.mk (fun w => msgRight_calls (putMsg ms t m) w)
  generalize hRT : msgRight (putMsg ms t m) = rt at HRC
  have HRT := Aside0.mk hRT
  clear hRT
  obtain ⟨f0, f1, f2, f3, f4, f5, f6, f7, f8⟩ := m
  unfold putMsg at *
  dsimp only at *
  have hlast : IntKind.i64.wrap ((ms.length : Int) + 1) = (ms.length : Int) + 1 := IntWalk.i64_in _ (by omega)
  have HL := Aside0.mk hl
  have HS := Aside0.mk hs
  clear hs hl
  obtain ⟨v0, HI0⟩ := FIn.start HS.out
  have HI1 := Aside0.mk ((HI0.alloc (.cells #[.int .i64 f0, .int .i64 f1, .int .i64 f2, .int .i64 f3, .int .i64 f4, .int .i64 f5, .int .i64 f6, .int .i64 f7, .int .i64 f8] 29)).alloc (.cells #[.int .i64 0, .int .i64 0, .int .i64 0, .int .i64 0, .int .i64 0, .int .i64 0, .int .i64 0, .int .i64 0, .int .i64 0] 29))
  have bm : Box9 ((w.alloc (.cells #[.int .i64 f0, .int .i64 f1, .int .i64 f2, .int .i64 f3, .int .i64 f4, .int .i64 f5, .int .i64 f6, .int .i64 f7, .int .i64 f8] 29)).alloc (.cells #[.int .i64 0, .int .i64 0, .int .i64 0, .int .i64 0, .int .i64 0, .int .i64 0, .int .i64 0, .int .i64 0, .int .i64 0] 29)) 29 w.heap.size f0 f1 f2 f3 f4 f5 f6 f7 f8 := blk_alloc (blk_new w _) _
  have br : Box9 ((w.alloc (.cells #[.int .i64 f0, .int .i64 f1, .int .i64 f2, .int .i64 f3, .int .i64 f4, .int .i64 f5, .int .i64 f6, .int .i64 f7, .int .i64 f8] 29)).alloc (.cells #[.int .i64 0, .int .i64 0, .int .i64 0, .int .i64 0, .int .i64 0, .int .i64 0, .int .i64 0, .int .i64 0, .int .i64 0] 29)) 29 (w.heap.size + 1) 0 0 0 0 0 0 0 0 0 := by
    have := blk_new (w.alloc (.cells #[.int .i64 f0, .int .i64 f1, .int .i64 f2, .int .i64 f3, .int .i64 f4, .int .i64 f5, .int .i64 f6, .int .i64 f7, .int .i64 f8] 29)) (.cells #[.int .i64 0, .int .i64 0, .int .i64 0, .int .i64 0, .int .i64 0, .int .i64 0, .int .i64 0, .int .i64 0, .int .i64 0] 29)
    rw [World.size_alloc] at this
    exact this
  have BM := Aside0.mk bm
  have BR := Aside0.mk br
  have hg : g < w.heap.size := blk_lt HI0.hb
  have hv0 : ∀ k, v0.ownBlock = some k → k < w.heap.size := fun k hk => (Kd.R_lt HI0.hR) k hk
  have HG := Aside0.mk hg
  have HV0 := Aside0.mk hv0
  clear HI0 bm br hg hv0 HS
  go_enter Try.func56, Try.ntmps56
  go_wp2_with fail
  generalize ((w.alloc (.cells #[.int .i64 f0, .int .i64 f1, .int .i64 f2, .int .i64 f3, .int .i64 f4, .int .i64 f5, .int .i64 f6, .int .i64 f7, .int .i64 f8] 29)).alloc (.cells #[.int .i64 0, .int .i64 0, .int .i64 0, .int .i64 0, .int .i64 0, .int .i64 0, .int .i64 0, .int .i64 0, .int .i64 0] 29)) = W1 at *
  obtain ⟨row1, hs1, _⟩ := HI1.out.post
  refine (feed_Last_calls g row1 ms W1 hs1).mono ?_
  rintro e w1 ⟨rfl, rfl⟩
  clear hs1
  obtain ⟨d0, d1, d2, d3, d4, d5, d6, d7, d8⟩ := BM.out.cells
  have z2 := blk_frozen BM.out 2
  have z3 := blk_frozen BM.out 3
  go_wp2_with fail
  have hv : ∀ k, v0.ownBlock = some k → k ≠ w.heap.size := fun k hk => by have := HV0.out k hk; omega
  have HI2 := Aside0.mk ((HI1.out.far (b := w.heap.size) (j := 3) (Nat.le_refl _) HG.out hv (.int .i64 t)).far (b := w.heap.size) (j := 2) (Nat.le_refl _) HG.out hv (.int .i64 ((ms.length : Int) + 1)))
  have BM2 : Aside0 (Box9 ((W1.setCell ⟨w.heap.size, 3, none⟩ (.int .i64 t)).setCell ⟨w.heap.size, 2, none⟩ (.int .i64 ((ms.length : Int) + 1))) 29 w.heap.size f0 f1 ((ms.length : Int) + 1) t f4 f5 f6 f7 f8) := ⟨(blk_set (blk_set BM.out 3 (.int .i64 t)) 2 (.int .i64 ((ms.length : Int) + 1))).trans (by simp)⟩
  have BR2 : Aside0 (Box9 ((W1.setCell ⟨w.heap.size, 3, none⟩ (.int .i64 t)).setCell ⟨w.heap.size, 2, none⟩ (.int .i64 ((ms.length : Int) + 1))) 29 (w.heap.size + 1) 0 0 0 0 0 0 0 0 0) := ⟨box_far (box_far BR.out (by omega) _) (by omega) _⟩
  clear hv HI1 BM BR d0 d1 d2 d3 d4 d5 d6 d7 d8 z2 z3
  generalize ((W1.setCell ⟨w.heap.size, 3, none⟩ (.int .i64 t)).setCell ⟨w.heap.size, 2, none⟩ (.int .i64 ((ms.length : Int) + 1))) = W2 at *
  refine (HRC.out W2).mono ?_
  rintro e W3 ⟨rfl, hb⟩
  have HI3 := Aside0.mk (HI2.out.below hb)
  have BM3 : Aside0 (Box9 W3 29 w.heap.size f0 f1 ((ms.length : Int) + 1) t f4 f5 f6 f7 f8) := ⟨(hb.block _ (blk_lt BM2.out)).trans BM2.out⟩
  have BR3 : Aside0 (Box9 W3 29 (w.heap.size + 1) 0 0 0 0 0 0 0 0 0) := ⟨(hb.block _ (blk_lt BR2.out)).trans BR2.out⟩
  clear hb HI2 BM2 BR2 HRC
  obtain ⟨d0, d1, d2, d3, d4, d5, d6, d7, d8⟩ := BM3.out.cells
  obtain ⟨r0, r1, r2, r3, r4, r5, r6, r7, r8⟩ := BR3.out.cells
  have y0 := blk_frozen BR3.out 0
  have y1 := blk_frozen BR3.out 1
  have y2 := blk_frozen BR3.out 2
  have y3 := blk_frozen BR3.out 3
  have y4 := blk_frozen BR3.out 4
  have y5 := blk_frozen BR3.out 5
  have y6 := blk_frozen BR3.out 6
  have y7 := blk_frozen BR3.out 7
  have y8 := blk_frozen BR3.out 8
  cases rt with
  | false =>
    have hv : ∀ k, v0.ownBlock = some k → k ≠ w.heap.size + 1 := fun k hk => by have := HV0.out k hk; omega
    have HI4 := Aside0.mk (HI3.out.far9 (b := w.heap.size + 1) (by omega) HG.out hv 0 0 0 0 0 0 0 0 0)
    have BR4 := Aside0.mk (BR3.out.set9 0 0 0 0 0 0 0 0 0)
    clear hv
    go_wp2
    refine bodyPost_ret (results_ct (fn := Try.f56) (p := 6) (u := 7) (ty := 29) rfl _ _ (w.heap.size + 1) 29 #[.int .i64 0, .int .i64 0, .int .i64 0, .int .i64 0, .int .i64 0, .int .i64 0, .int .i64 0, .int .i64 0, .int .i64 0] (0, 0) _ rfl BR4.out Try.underlying29 rfl (by kernel_rfl)) rfl ?_
    first | exact ⟨fun h => by cases h, fun _ => ⟨rfl, HI4.out.post⟩⟩ | exact ⟨rfl, HI4.out.post⟩
  | true =>
    have hl72 : (ms.length + 1) * 72 ≤ 140737488355328 := by have := HL.out; omega
    have HL72 := Aside0.mk hl72
    clear hl72
    have hc0 := HI3.out.cell
    have hf0 := HI3.out.frozen
    have hca := fun o => (HI3.out.alloc o).cell
    have HFR := Aside0.mk (show ∀ k, v0.ownBlock = some k → k < w.heap.size from HV0.out)
    go_wp2_with fail
    go_region_law (first | (refine HI3.out.drew.append_step (by decide) rfl (.tmp 25) (.tmp 27) ⟨f0, f1, (ms.length : Int) + 1, t, f4, f5, f6, f7, f8⟩ rfl rfl rfl HL72.out ?_; intro A1 n1 c1 w1 HS hc1 hf1 hfr hat; have hc1 := hc1.out))
    all_goals
      have BM5 : Aside0 (Box9 (w1.setCell ⟨g, 0, none⟩ (.slice A1 n1 c1)) 29 w.heap.size f0 f1 ((ms.length : Int) + 1) t f4 f5 f6 f7 f8) := ⟨hfr.out.blk BM3.out (fun hS => hS.elim (fun hS => by have := HG.out; omega) (fun hS => by have := HV0.out _ hS; omega))⟩
      have BR5 : Aside0 (Box9 (w1.setCell ⟨g, 0, none⟩ (.slice A1 n1 c1)) 29 (w.heap.size + 1) 0 0 0 0 0 0 0 0 0) := ⟨hfr.out.blk BR3.out (fun hS => hS.elim (fun hS => by have := HG.out; omega) (fun hS => by have := HV0.out _ hS; omega))⟩
      have hsz : w.heap.size + 1 < W3.heap.size := blk_lt BR3.out
      have hv : ∀ k, (Value.slice A1 n1 c1).ownBlock = some k → k ≠ w.heap.size + 1 := fun k hk => by
        rcases hat.out with h | ⟨b, h, hb⟩
        · have := HV0.out k (by rw [← h]; exact hk); omega
        · rw [h] at hk
          injection hk with hk
          have hb' : W3.heap.size ≤ b := hb
          omega
      have HS6 := Aside0.mk (HS.far9 (b := w.heap.size + 1) (by omega) HG.out hv f0 f1 ((ms.length : Int) + 1) t f4 f5 f6 f7 f8)
      have BR6 := Aside0.mk (BR5.out.set9 f0 f1 ((ms.length : Int) + 1) t f4 f5 f6 f7 f8)
      clear hsz hv hfr hat HI3 BM3 BR3 d0 d1 d2 d3 d4 d5 d6 d7 d8 r0 r1 r2 r3 r4 r5 r6 r7 r8 y0 y1 y2 y3 y4 y5 y6 y7 y8
      clear hc0 hf0 hca
      obtain ⟨d0, d1, d2, d3, d4, d5, d6, d7, d8⟩ := BM5.out.cells
      obtain ⟨r0, r1, r2, r3, r4, r5, r6, r7, r8⟩ := BR5.out.cells
      have y0 := blk_frozen BR5.out 0
      have y1 := blk_frozen BR5.out 1
      have y2 := blk_frozen BR5.out 2
      have y3 := blk_frozen BR5.out 3
      have y4 := blk_frozen BR5.out 4
      have y5 := blk_frozen BR5.out 5
      have y6 := blk_frozen BR5.out 6
      have y7 := blk_frozen BR5.out 7
      have y8 := blk_frozen BR5.out 8
      clear HS
      generalize (w1.setCell ⟨g, 0, none⟩ (.slice A1 n1 c1)) = W6 at *
      go_wp2
      refine bodyPost_ret (results_ct (fn := Try.f56) (p := 6) (u := 7) (ty := 29) rfl _ _ (w.heap.size + 1) 29 #[.int .i64 f0, .int .i64 f1, .int .i64 ((ms.length : Int) + 1), .int .i64 t, .int .i64 f4, .int .i64 f5, .int .i64 f6, .int .i64 f7, .int .i64 f8] (0, 0) _ rfl BR6.out Try.underlying29 rfl (by kernel_rfl)) rfl ?_
      first | exact ⟨fun _ => ⟨rfl, HS6.out.post⟩, fun h => by cases h⟩ | exact ⟨rfl, HS6.out.post⟩
end Go.Proofs.Ytalpemoodollpaa.P
/- slices.Values of messages, and slices.Collect. -/
namespace Go.Proofs.Ytalpemoodollpaa.P
open Go.RowKit Go.Shelf Go.Proofs.YtalpemoodollpaaW.PrintWords Go.Proofs.YtalpemoodollpaaW.PrintLast Go.Proofs.YtalpemoodollpaaW.PrintMore
set_option linter.unusedVariables false
set_option linter.unusedSimpArgs false
attribute [local go_sem] Oper.semAt_some
def encM (m : S29) : Array Value := #[.agg #[.int .i64 m.f0, .int .i64 m.f1, .int .i64 m.f2, .int .i64 m.f3, .int .i64 m.f4, .int .i64 m.f5, .int .i64 m.f6, .int .i64 m.f7, .int .i64 m.f8]]
def PrT (x : S29) (W : World) : Prop := True
set_option maxRecDepth 100000 in
set_option maxHeartbeats 2000000 in
theorem vals1_in (n l Bs m0 : Nat) (A : Option Addr) (c : Nat) (xs : List S29) (w0 W : World) (hn : 1 ≤ n) (J Jx : List S29 → World → Prop)
    (hm : m0 ≤ W.heap.size) (hBs : W.heap[Bs]? = some (.cells #[.slice A xs.length c] 22 (0, 0))) (hC : Kd.C k29 w0 A xs.length xs) (hw0 : w0.heap.size = m0) (hbl : Below m0 w0 W) (hl : xs.length ≤ 1000000)
    (hJ : AbidesFrom W.heap.size J)
    (hY : ∀ pre x W1, J pre W1 → PrT x W1 → pre ++ [x] <+: xs → pre.length < xs.length → YieldAt Fence.wide (n - 1) Try.prog l (encM x) W1 fun e W' =>
      (e = .returned (.bool true) ∧ J (pre ++ [x]) W' ∧ Below m0 W1 W') ∨ (e = .returned (.bool false) ∧ Jx (pre ++ [x]) W'))
    (h0 : J [] W) :
    CallsIn Fence.wide n Try.prog 141 #[.func (.yield l) #[] #[], .pointer (some ⟨Bs, 0, none⟩)] W fun e W' => (∃ v, e = .returned v) ∧
      ((∃ ys, ys = xs ∧ J ys W') ∨ (∃ pre, pre <+: xs ∧ Jx pre W')) := by
  have hu29 := Try.underlying29
  have HCC := Aside0.mk hC
  have HBL := Aside0.mk hbl
  have HJ := Aside0.mk hJ
  have HY := Aside0.mk hY
  have c0_ : W.cell? ⟨Bs, 0, none⟩ = some (.slice A xs.length c) := (blk_cell hBs 0).trans rfl
  have hl2 : (xs.length : Int) ≤ 1000000 := by omega
  clear hC hbl hJ hY hBs
  refine callsIn_of_wp Try.func141 rfl trivial ?_ rfl
  simp only [Try.ntmps141, List.size_toArray, List.length_cons, List.length_nil, Nat.reduceAdd, Nat.reduceSub, Array.replicate_succ, Array.replicate_zero, List.push_toArray, List.append_toArray, List.nil_append, List.cons_append]
  gi_wp2
  gi_loopw [7] (fun u7 wr => ∃ (k : Nat), u7 = .int .i64 (k : Int) ∧ k ≤ xs.length ∧ Aside0 (J (xs.take k) wr) ∧ Aside0 (Below m0 W wr)) (fun u7 _ => (xs.length - (intOf u7).toNat))
  case atStart => exact ⟨0, rfl, by omega, ⟨h0⟩, ⟨Below.refl _ _⟩⟩
  case round =>
    obtain ⟨k, rfl, hk, HJS, HB⟩ := hrel
    by_cases hlt : k < xs.length
    · have hwr : Below w0.heap.size w0 wr := by rw [hw0]; exact HBL.out.trans HB.out
      have hCr := Kd.C_below HCC.out hwr
      obtain ⟨ad, rfl, p0, p1, p2, p3, p4, p5, p6, p7, p8⟩ := at_T29 hCr (k : Int) (by omega) (by omega)
      have hx : rd_T29 xs (k : Int) = xs[k] := by rw [rd_T29, Int.toNat_natCast, List.getD_eq_getElem?_getD, List.getElem?_eq_getElem hlt]; rfl
      have hts : xs.take (k + 1) = xs.take k ++ [rd_T29 xs (k : Int)] := by rw [hx]; exact List.take_succ_eq_append_getElem hlt
      generalize rd_T29 xs (k : Int) = x at *
      have HTS := Aside0.mk hts
      rw [Int.toNat_natCast] at p0 p1 p2 p3 p4 p5 p6 p7 p8
      have hJ1 := HJ.out (xs.take k) wr (wr.alloc (.cells #[.int .i64 x.f0, .int .i64 x.f1, .int .i64 x.f2, .int .i64 x.f3, .int .i64 x.f4, .int .i64 x.f5, .int .i64 x.f6, .int .i64 x.f7, .int .i64 x.f8] 29)) none HJS.out (World.grownBy_alloc _ _ _) (fun r e => by cases e)
      obtain ⟨fn, tmps, assign, body, hy, hR⟩ := HY.out (xs.take k) x _ hJ1 trivial (by rw [← hts]; exact List.take_prefix _ _) (by rw [List.length_take]; omega)
      have HRR := Aside0.mk hR
      clear hR hJ1 hx hts hCr hwr
      dsimp only [encM] at hy
      gi_wp2
      refine HRR.out.mono ?_
      rintro e W3 (⟨rfl, hJ3, hk3⟩ | ⟨rfl, hJx3⟩)
      · have HJ3 := Aside0.mk hJ3
        have HB3 : Aside0 (Below m0 W W3) := ⟨HB.out.trans (((Below.refl _ _).alloc (Nat.le_trans hm HB.out.size) _).trans hk3)⟩
        clear hJ3 hk3 HRR p0 p1 p2 p3 p4 p5 p6 p7 p8
        gi_wp2
        go_roundw
        case rel => exact ⟨k + 1, by go_num, by omega, ⟨by rw [HTS.out]; exact HJ3.out⟩, HB3⟩
        case measure => simp [intOf]; omega
      · gi_wp2
        refine bodyPost_ret (results_none rfl _ _ _) rfl ?_
        exact ⟨⟨_, rfl⟩, .inr ⟨_, by rw [← HTS.out]; exact List.take_prefix _ _, hJx3⟩⟩
    · obtain rfl : k = xs.length := by omega
      gi_wp2
      go_end0
      exact ⟨⟨_, rfl⟩, .inl ⟨_, List.take_length, HJS.out⟩⟩
end Go.Proofs.Ytalpemoodollpaa.P
/- (*feed.Feed).Since. -/
namespace Go.Proofs.Ytalpemoodollpaa.P
open Go.RowKit Go.Shelf Go.Proofs.YtalpemoodollpaaW.PrintWords Go.Proofs.YtalpemoodollpaaW.PrintLast Go.Proofs.YtalpemoodollpaaW.PrintMore
set_option linter.unusedVariables false
set_option linter.unusedSimpArgs false
attribute [local go_sem] max2_int min2_int max_two min_two
theorem info29v : (Try.prog.info? 29).map (fun i => (i.zero, i.size, i.bytes)) = some (some (.agg #[.int .i64 0, .int .i64 0, .int .i64 0, .int .i64 0, .int .i64 0, .int .i64 0, .int .i64 0, .int .i64 0, .int .i64 0]), 9, 72) := by kernel_rfl
/-- 'l[m:]' of a list of messages. -/
theorem cut22_ (A : Option Addr) (n c m : Nat) (hm : m ≤ n) :
    ∃ A' : Option Addr, (∀ W : World, (Instr.slice 22 (.slice A n c) (some (.int .i64 (m : Int))) none none).run Try.prog W = .ok (.slice A' (n - m) (c - m)) W) ∧
      ∀ (w : World) (xs : List S29), xs.length = n → n ≤ c → Kd.C k29 w A n xs → Kd.C k29 w A' (n - m) (xs.drop m) := by
  obtain ⟨i, hi, hzz⟩ := Option.map_eq_some_iff.1 info29v
  simp only [Prod.mk.injEq] at hzz
  refine ⟨if c = m then A else A.map (·.add (m * 9)), fun W => ?_, fun w xs hx hc h => ?_⟩
  · have hel : Try.prog.elem 22 = 29 := by simp [Program.elem, Try.underlying22]
    have hu : Try.prog.underlying 22 = some (.slice (Try.prog.elem 22)) := by rw [hel]; exact Try.underlying22
    rw [run_slice_l W 22 A n c hu .i64 (m : Int) (Int.natCast_nonneg _) (by omega), hel]
    simp [sizeOf, typeInfo, hi, hzz.2.1, sliced, Result.andThen]
  · subst hx
    have h2 := Kd.C_drop (c := c) h hm hc
    rw [List.length_drop] at h2
    exact h2
theorem vals_calls (A : Option Addr) (len cap : Nat) (w : World) :
    Calls Try.prog 127 #[.slice A len cap] w fun e w' => e = .returned (.func (.func 141) #[] #[.pointer (some ⟨w.heap.size, 0, none⟩)]) ∧ w' = w.alloc (.cells #[.slice A len cap] 22) := by
  go_enter Try.func127, Try.ntmps127
  go_wp2
  go_ret
  exact ⟨rfl, rfl⟩
/-- What Since hands back: an iterator over these messages. -/
def SinceIs (W : World) (gf : Nat) (lb : Array Value) (xs : List S29) : Prop :=
  (gf = 126 ∧ lb = #[] ∧ xs = []) ∨ (gf = 141 ∧ ∃ Bs A c, lb = #[.pointer (some ⟨Bs, 0, none⟩)] ∧ W.heap[Bs]? = some (.cells #[.slice A xs.length c] 22 (0, 0)) ∧ xs.length ≤ c ∧ Kd.C k29 W A xs.length xs)
/-- From which message on. -/
def sinceAt (seq : Int) (n : Nat) : Nat := if seq < 0 then 0 else if (n : Int) < seq then n else seq.toNat
set_option maxRecDepth 100000 in
set_option maxHeartbeats 2000000 in
theorem since_calls (g : Nat) (row : Option Nat) (ms : List S29) (seq : Int) (w : World) (hs : FS 142 w g row ms) (hl : ms.length ≤ 1000000) :
    Calls Try.prog 85 #[.pointer (some ⟨g, 0, none⟩), .int .i64 seq] w fun e w' => ∃ gf lb, e = .returned (.func (.func gf) #[] lb) ∧ Below w.heap.size w w' ∧ SinceIs w' gf lb (ms.drop (sinceAt seq ms.length)) := by
  have HL := Aside0.mk (feed_Last_calls g row ms w hs)
  obtain ⟨v, HI⟩ := FIn.start hs
  obtain ⟨A, c, rfl⟩ := Kd.R_slice HI.hR
  have hc0 := HI.cell
  have hrd := Kd.R_reads' HI.hR
  have HC := Aside0.mk hrd
  clear hs HI hrd
  generalize hn : ms.length = n at *
  have HN := Aside0.mk hn
  clear hn
  have hl2 : (n : Int) ≤ 1000000 := by omega
  have none_ : ∀ e : Ending, sinceAt seq n = n → e = .returned (.func (.func 126) #[] #[]) → ∃ gf lb, e = .returned (.func (.func gf) #[] lb) ∧ Below w.heap.size w w ∧ SinceIs w gf lb (ms.drop (sinceAt seq n)) := by
    intro e h1 h2
    exact ⟨126, #[], h2, Below.refl _ _, .inl ⟨rfl, rfl, by rw [h1]; exact List.drop_eq_nil_of_le (by rw [HN.out]; exact Nat.le_refl _)⟩⟩
  have some_ : ∀ (m : Nat) (A' : Option Addr) (e : Ending), sinceAt seq n = m → m ≤ n → (∀ (w : World) (xs : List S29), xs.length = n → n ≤ c → Kd.C k29 w A n xs → Kd.C k29 w A' (n - m) (xs.drop m)) → e = .returned (.func (.func 141) #[] #[.pointer (some ⟨w.heap.size, 0, none⟩)]) →
      ∃ gf lb, e = .returned (.func (.func gf) #[] lb) ∧ Below w.heap.size w (w.alloc (.cells #[.slice A' (n - m) (c - m)] 22)) ∧ SinceIs (w.alloc (.cells #[.slice A' (n - m) (c - m)] 22)) gf lb (ms.drop (sinceAt seq n)) := by
    intro m A' e h1 hm h2 h3
    have hC := h2 w ms HN.out HC.out.2.1 HC.out.2.2
    have hlen : (ms.drop m).length = n - m := by rw [List.length_drop, HN.out]
    refine ⟨141, _, h3, (Below.refl _ w).alloc (Nat.le_refl _) _, .inr ⟨rfl, w.heap.size, A', c - m, rfl, ?_, ?_, ?_⟩⟩
    · rw [h1, hlen]; exact blk_new w _
    · rw [h1, hlen]; have := HC.out.2.1; omega
    · rw [h1, hlen]; exact Kd.C_alloc hC _
  have NONE := Aside0.mk none_
  have SOME := Aside0.mk some_
  have VL := Aside0.mk (fun A' len cap => vals_calls A' len cap w)
  clear none_ some_
  go_enter Try.func85, Try.ntmps85
  by_cases h0 : seq < 0
  · have hs0 : Aside0 (sinceAt seq n = 0) := ⟨by rw [sinceAt, if_pos h0]⟩
    by_cases hn0 : n = 0
    · subst hn0
      go_wp2_with fail
      refine HL.out.mono ?_
      rintro e w1 ⟨rfl, rfl⟩
      go_wp2_with fail
      refine HL.out.mono ?_
      rintro e w1 ⟨rfl, rfl⟩
      go_wp2
      go_ret
      exact NONE.out _ hs0.out rfl
    · have hn1 : (0 : Int) < (n : Int) := by omega
      obtain ⟨A', hcut, hkeep⟩ := cut22_ A n c 0 (by omega)
      have HK := Aside0.mk hkeep
      clear hkeep
      go_wp2_with fail
      refine HL.out.mono ?_
      rintro e w1 ⟨rfl, rfl⟩
      go_wp2_with fail
      refine HL.out.mono ?_
      rintro e w1 ⟨rfl, rfl⟩
      go_wp2_with fail
      refine (VL.out _ _ _).mono ?_
      rintro e w1 ⟨rfl, rfl⟩
      go_wp2
      go_ret
      have := SOME.out 0 A _ hs0.out (by omega) (fun w xs hx hc h => by rw [Nat.sub_zero, List.drop_zero]; exact h) rfl
      simp only [Nat.sub_zero] at this
      exact this
  · obtain ⟨m, rfl⟩ : ∃ m : Nat, seq = (m : Int) := ⟨seq.toNat, by omega⟩
    by_cases hm : n ≤ m
    · have hs0 : Aside0 (sinceAt (m : Int) n = n) := ⟨by
        unfold sinceAt
        rw [if_neg h0]
        split <;> omega⟩
      have hmi : (n : Int) ≤ (m : Int) := by omega
      by_cases hmn : m = n
      · subst hmn
        go_wp2_with fail
        refine HL.out.mono ?_
        rintro e w1 ⟨rfl, rfl⟩
        go_wp2_with fail
        refine HL.out.mono ?_
        rintro e w1 ⟨rfl, rfl⟩
        go_wp2
        go_ret
        exact NONE.out _ hs0.out rfl
      · have hlt : (n : Int) < (m : Int) := by omega
        go_wp2_with fail
        refine HL.out.mono ?_
        rintro e w1 ⟨rfl, rfl⟩
        go_wp2_with fail
        refine HL.out.mono ?_
        rintro e w1 ⟨rfl, rfl⟩
        go_wp2
        go_ret
        exact NONE.out _ hs0.out rfl
    · have hs0 : Aside0 (sinceAt (m : Int) n = m) := ⟨by
        unfold sinceAt
        rw [if_neg h0]
        split <;> omega⟩
      have hmi : (m : Int) < (n : Int) := by omega
      obtain ⟨A', hcut, hkeep⟩ := cut22_ A n c m (by omega)
      have HK := Aside0.mk hkeep
      clear hkeep
      go_wp2_with fail
      refine HL.out.mono ?_
      rintro e w1 ⟨rfl, rfl⟩
      go_wp2_with fail
      refine HL.out.mono ?_
      rintro e w1 ⟨rfl, rfl⟩
      go_wp2_with fail
      refine (VL.out _ _ _).mono ?_
      rintro e w1 ⟨rfl, rfl⟩
      go_wp2
      go_ret
      exact SOME.out m A' _ hs0.out (by omega) HK.out rfl
set_option maxRecDepth 100000 in
theorem since_nil_calls (seq : Int) (w : World) :
    Calls Try.prog 85 #[.pointer none, .int .i64 seq] w fun e w' => e = .returned (.func (.func 126) #[] #[]) ∧ w' = w := by
  have HL := Aside0.mk (feed_Last_nil w)
  go_enter Try.func85, Try.ntmps85
  by_cases h0 : seq < 0
  · go_wp2_with fail
    refine HL.out.mono ?_
    rintro e w1 ⟨rfl, rfl⟩
    go_wp2_with fail
    refine HL.out.mono ?_
    rintro e w1 ⟨rfl, rfl⟩
    go_wp2
    go_ret
    exact ⟨rfl, rfl⟩
  · by_cases h1 : 0 < seq
    · go_wp2_with fail
      refine HL.out.mono ?_
      rintro e w1 ⟨rfl, rfl⟩
      go_wp2_with fail
      refine HL.out.mono ?_
      rintro e w1 ⟨rfl, rfl⟩
      go_wp2
      go_ret
      exact ⟨rfl, rfl⟩
    · obtain rfl : seq = 0 := by omega
      go_wp2_with fail
      refine HL.out.mono ?_
      rintro e w1 ⟨rfl, rfl⟩
      go_wp2_with fail
      refine HL.out.mono ?_
      rintro e w1 ⟨rfl, rfl⟩
      go_wp2
      go_ret
      exact ⟨rfl, rfl⟩
set_option maxRecDepth 100000 in
set_option maxHeartbeats 1000000 in
theorem since1_in (n : Nat) (fv : Value) (W : World) : CallsIn Fence.wide n Try.prog 126 #[fv] W fun e W' => (∃ v, e = .returned v) ∧ W' = W := by
  refine callsIn_wide.2 ?_
  go_enter Try.func126, Try.ntmps126
  go_wp2
  go_end0
  exact ⟨⟨_, rfl⟩, rfl⟩
/-- **Its value: every message; or a prefix.** -/
theorem since_stops (n m0 gf : Nat) (lb : Array Value) (xs : List S29) (w0 w : World) (hn : 1 ≤ n) (hm : m0 ≤ w.heap.size) (hw0 : w0.heap.size = m0) (hI : SinceIs w0 gf lb xs) (hbl : Below m0 w0 w) (hl : xs.length ≤ 1000000) :
    SeqPr Fence.wide n Try.prog gf lb encM PrT (Below m0) (fun ys => ys = xs) (fun pre => pre <+: xs) xs.length w := fun l J Jx W hW hJ hJx hY h0 => by
  rcases hI with ⟨rfl, rfl, rfl⟩ | ⟨rfl, Bs, A, c, rfl, hBs, hc, hC⟩
  · refine (since1_in n _ W).mono ?_
    rintro e W' ⟨he, rfl⟩
    exact ⟨he, .inl ⟨[], rfl, h0⟩⟩
  · have hb := hbl.trans (hW.mono hm)
    exact vals1_in n l Bs m0 A c xs w0 W hn J Jx (Nat.le_trans hm hW.size) ((hb.block _ (by rw [← hw0]; exact (Array.getElem?_eq_some_iff.1 hBs).1)).trans hBs) hC hw0 hb hl hJ hY h0
theorem since_enters {gf : Nat} {lb : Array Value} {xs : List S29} {W : World} (h : SinceIs W gf lb xs) : ∀ args w, (callFunc gf args).run Try.prog w = .ok (.enter gf args) w := by
  rcases h with ⟨rfl, rfl, rfl⟩ | ⟨rfl, _⟩
  · exact enters_of Try.func126 (by kernel_rfl) rfl
  · exact enters_of Try.func141 (by kernel_rfl) rfl
end Go.Proofs.Ytalpemoodollpaa.P
/- A range over a function whose loop variables are made anew in each round: HRange's law, where the assignment may make memory. -/
namespace Go.Proofs.Ytalpemoodollpaa.P
open Go Go.RowKit
set_option linter.unusedVariables false
variable {F : Fence} {n : Nat} {P : Program} {α : Type}
theorem wpIn_rangeFunc_prA {g : Operand} {ps : Array Tmp} {assign body : Code} {Q : Exit → Act → World → Prop} {a : Act} {w : World}
    (hro : F.round = none) (h1 : 1 ≤ n) {gf : Nat} {lb : Array Value} (hg : a.eval g = .func (.func gf) #[] lb) (hFg : F.fn gf) (eg : ∀ args w, (callFunc gf args).run P w = .ok (.enter gf args) w)
    {encs : α → Array Value} {Pr : α → World → Prop} {Kp : World → World → Prop} {S Sp : List α → Prop} {N : Nat} {w0 : World} (hseq : SeqPr F (n - 1) P gf lb encs Pr Kp S Sp N w0)
    (hKt : ∀ {A B C : World}, Kp A B → Kp B C → Kp A C) (hKb : ∀ (W : World) (l : Nat) (o o' : Obj), w.heap.size ≤ l → W.heap[l]? = some o → o.isCells = false → o.isWalk = false → Kp W (W.putObj l o')) (hb0 : Below w0.heap.size w0 w) (hps : ∀ x, (encs x).size = ps.size)
    (I : List α → World → Prop) (Ix : Code → List α → World → Prop) (hI : OwnFrom w.heap.size I) (hIx : ∀ c, OwnFrom w.heap.size (Ix c)) (h0 : I [] w)
    (B : List α → α → Act → World → Prop) (hB : ∀ (pre : List α) (x : α) (a' : Act) (W : World) (l : Nat) (o o' : Obj), B pre x a' W → w.heap.size ≤ l → W.heap[l]? = some o → o.isCells = false → B pre x a' (W.putObj l o'))
    (hassign : ∀ (l : Nat) (pre : List α) (x : α) (W : World) (K : Act → World → Prop), I pre W → Pr x W → Sp (pre ++ [x]) → pre.length < N → (∀ a' W', B pre x a' W' → KeepsOthers W W' → Kp W W' → K a' W') →
      assign.wpIn (F.inRound l) (n - 1 - 1) P (Exit.then K (fun _ _ _ => False)) { tmps := (ps.zip (encs x)).foldl (fun t (p, v) => t.setIfInBounds p v) a.tmps, defers := [] } W)
    (hbody : ∀ (l : Nat) (pre : List α) (x : α) (a' : Act) (W : World), B pre x a' W → body.wpIn (F.inRound l) (n - 1 - 1) P (ownPostK Kp I Ix (pre ++ [x]) W) a' W)
    (hdone : ∀ (D : Nat) (xs : List α) (W : World), w.heap.size ≤ D → S xs → I xs W → W.heap[D]? = some (.deferred (some [])) → Q .normal { a with defers := { target := .collected D, args := #[] } :: a.defers } W)
    (hstop : ∀ (D : Nat) (c : Code) (pre : List α) (W : World), w.heap.size ≤ D → Sp pre → Ix c pre W → W.heap[D]? = some (.deferred (some [])) → c.wpIn F n P Q { a with defers := { target := .collected D, args := #[] } :: a.defers } W) :
    (Code.rangeFunc g ps assign body).wpIn F n P Q a w := by
  refine wpIn_rangeFunc ?_
  intro fn hfn
  rw [hro]
  let rc : LoopState → Option Code → Loop := fun st pe => { state := st, pending := pe, fn, tmps := a.tmps, params := ps, assign, body, defers := w.heap.size }
  obtain ⟨W1, hW1⟩ : ∃ W1, (w.alloc (.deferred (some []))).alloc (.loop (rc .ready none)) = W1 := ⟨_, rfl⟩
  have M1 : Mark W1 w.heap.size (.loop (rc .ready none)) := by
    rw [← hW1]
    refine ⟨?_, (Below.heap_alloc _ _ _ (by simp)).trans (World.alloc_heap_new w _)⟩
    have h := World.alloc_heap_new (w.alloc (.deferred (some []))) (.loop (rc .ready none))
    rwa [World.size_alloc] at h
  have hS1 : W1.heap.size = w.heap.size + 1 + 1 := by rw [← hW1]; simp
  have hI1 : I [] W1 := by rw [← hW1]; exact hI.alloc _ (hI.alloc _ h0)
  have hB1 : Below w0.heap.size w0 W1 := by
    rw [← hW1]
    exact hb0.trans ((((Below.refl _ w).alloc (Nat.le_refl _) _).alloc (by simp) _).mono hb0.size)
  have walk : ∀ {A : World} {row : Option Nat}, (∀ r, row = some r → W1.heap.size ≤ r ∧ ∃ o : Obj, A.heap[r]? = some o ∧ o.isWalk = true) → ∀ r, row = some r → w.heap.size ≤ r ∧ ∃ o : Obj, A.heap[r]? = some o ∧ o.isCells = false :=
    fun hr r e => by
      obtain ⟨hb, o, ho, hw⟩ := hr r e
      exact ⟨by omega, o, ho, Obj.not_cells_of_walk hw⟩
  refine ⟨w.heap.size + 1, [{ target := .collected w.heap.size, args := #[] }], W1, { target := .fn (.func gf) lb, args := #[.func (.yield (w.heap.size + 1)) #[] #[]] }, W1, gf,
    #[.func (.yield (w.heap.size + 1)) #[] #[]] ++ lb, W1, ?_, ?_, ?_, ?_, fun _ => h1, ?_⟩
  · rw [← hW1]
    exact run_enterLoop_outer _ _ _ _ _
  · simp only [resolve, hg]
    simp [go_sem]
  · intro f' hf'
    simp [Target.leads] at hf'
    subst hf'
    exact hFg
  · simp [invoke, go_sem, eg]
  · refine (hseq (w.heap.size + 1) (fun pre W => I pre W ∧ Mark W w.heap.size (.loop (rc .ready none))) (fun pre W => ∃ c, Ix c pre W ∧ Mark W w.heap.size (.loop (rc .done (some c)))) W1 hB1
      (fun s A B row hs hg' hr => ⟨hI s A B row hs.1 hg' (walk (A := A) hr), hs.2.kept ⟨_, rfl⟩ hg' (fun r e => (hr r e).2)⟩)
      (fun s A B row hs hg' hr => by
        obtain ⟨c, hc, hm⟩ := hs
        exact ⟨c, hIx c s A B row hc hg' (walk (A := A) hr), hm.kept ⟨_, rfl⟩ hg' (fun r e => (hr r e).2)⟩)
      ?_ ⟨hI1, M1⟩).mono ?_
    · rintro pre x W ⟨hi, hm⟩ hpx hsp hlen
      have hy := run_yield (P := P) (args := encs x) hm.rec_ (hps x)
      refine ⟨fn, _, assign, body, hy, roundIn_of_wpIn hfn (hassign _ pre x W _ hi hpx hsp hlen (fun a' W' hb hko hkw => ?_))⟩
      have hmr : W'.heap[w.heap.size + 1]? = some (.loop (rc .ready none)) := hko.same _ _ hm.rec_ rfl
      have hmd : W'.heap[w.heap.size]? = some (.deferred (some [])) := hko.same _ _ hm.defs rfl
      have hm' : Mark W' w.heap.size (.loop (rc .ready none)) := ⟨hmr, hmd⟩
      refine ⟨_, run_beginRound hm'.rec_ rfl, ?_⟩
      have m2 := hm'.put (.loop { rc .ready none with state := .busy })
      have k2 : Kp W (W'.putObj (w.heap.size + 1) (.loop { rc .ready none with state := .busy })) := hKt hkw (hKb _ _ _ _ (by omega) hm'.rec_ rfl rfl)
      refine wpIn_mono (hbody _ pre x a' _ (hB _ _ _ _ _ _ _ hb (by omega) hm'.rec_ rfl)) ?_
      have fin : ∀ (jump : Option Code) (W3 : World), KeepsOthers (W'.putObj (w.heap.size + 1) (.loop { rc .ready none with state := .busy })) W3 →
          (Instr.endRound (w.heap.size + 1) jump).run P W3 = .ok (.bool jump.isNone) (W3.putObj (w.heap.size + 1) (.loop (rc (if jump.isNone then .ready else .done) jump))) ∧ Mark W3 w.heap.size (.loop { rc .ready none with state := .busy }) :=
        fun jump W3 hk => ⟨run_endRound (P := P) jump (hk.same _ _ m2.rec_ rfl), hk.same _ _ m2.rec_ rfl, hk.same _ _ m2.defs rfl⟩
      rintro e a3 W3 hp
      cases e with
      | normal =>
        obtain ⟨hk, hkp, hi3⟩ := hp
        obtain ⟨hr, m3⟩ := fin none W3 hk
        exact ⟨_, _, hr, .inl ⟨rfl, ⟨hI.putObj _ hi3 (by omega) m3.rec_ rfl, m3.put _⟩, hKt (hKt k2 hkp) (hKb _ _ _ _ (by omega) m3.rec_ rfl rfl)⟩⟩
      | ret =>
        obtain ⟨hk, hi3⟩ := hp
        obtain ⟨hr, m3⟩ := fin (some .ret) W3 hk
        exact ⟨_, _, hr, .inr ⟨rfl, .ret, (hIx _).putObj _ hi3 (by omega) m3.rec_ rfl, m3.put _⟩⟩
      | exit id =>
        obtain ⟨hk, hi3⟩ := hp
        obtain ⟨hr, m3⟩ := fin (some (.exit id)) W3 hk
        exact ⟨_, _, hr, .inr ⟨rfl, .exit id, (hIx _).putObj _ hi3 (by omega) m3.rec_ rfl, m3.put _⟩⟩
      | goto t =>
        obtain ⟨hk, hi3⟩ := hp
        obtain ⟨hr, m3⟩ := fin (some (.goto t)) W3 hk
        exact ⟨_, _, hr, .inr ⟨rfl, .goto t, (hIx _).putObj _ hi3 (by omega) m3.rec_ rfl, m3.put _⟩⟩
      | panic ch => exact hp.elim
      | outgrown => exact hp.elim
    · rintro e W2 ⟨⟨v, rfl⟩, (⟨xs, hS, hi, hm⟩ | ⟨pre, hSp, c, hi, hm⟩)⟩
      · exact ⟨none, _, run_endLoop (P := P) hm.rec_ (by simp [rc]), hdone _ xs _ (Nat.le_refl _) hS (hI.putObj _ hi (by omega) hm.rec_ rfl) (hm.put _).defs⟩
      · exact ⟨some c, _, run_endLoop (P := P) hm.rec_ (by simp [rc]), hstop _ c pre _ (Nat.le_refl _) hSp ((hIx c).putObj _ hi (by omega) hm.rec_ rfl) (hm.put _).defs⟩
end Go.Proofs.Ytalpemoodollpaa.P
/- slices.Collect of messages. -/
namespace Go.Proofs.Ytalpemoodollpaa.P
open Go.RowKit Go.Shelf Go.Proofs.YtalpemoodollpaaW.PrintWords Go.Proofs.YtalpemoodollpaaW.PrintLast Go.Proofs.YtalpemoodollpaaW.PrintMore
set_option linter.unusedVariables false
set_option linter.unusedSimpArgs false
attribute [local go_sem] Oper.semAt_some
theorem blkO_ {A B : World} {B0 b : Nat} {t : TypeId} {cs : Array Value} {row : Option Nat} (h : A.heap[b]? = some (.cells cs t (0, 0))) (hg : A.grownBy B row) (hr : ∀ r, row = some r → B0 ≤ r ∧ ∃ o : Obj, A.heap[r]? = some o ∧ o.isCells = false) : B.heap[b]? = some (.cells cs t (0, 0)) := by
  refine (hg.block b (blk_lt h) ?_).trans h
  intro e
  obtain ⟨_, o, ho, hc⟩ := hr b e.symm
  rw [h] at ho
  cases ho
  exact absurd hc (by simp [Obj.isCells])
def msgK (m : S29) : List Value := [.int .i64 m.f0, .int .i64 m.f1, .int .i64 m.f2, .int .i64 m.f3, .int .i64 m.f4, .int .i64 m.f5, .int .i64 m.f6, .int .i64 m.f7, .int .i64 m.f8]
theorem info29k : (Try.prog.info? 29).map (fun i => (i.zero, i.size, i.bytes)) = some (some (.agg #[.int .i64 0, .int .i64 0, .int .i64 0, .int .i64 0, .int .i64 0, .int .i64 0, .int .i64 0, .int .i64 0, .int .i64 0]), 9, 72) := by kernel_rfl
theorem k29n_ (t : Nat) (ht : 29 ≠ t) : ∀ q, q ∈ 29 :: k29.E → q ≠ t := by
  intro q hq
  simp [k29, Kd.iso, Kd.pair, Kd.int, Kd.scalar] at hq
  omega
theorem R29s_ {w : World} {base : Nat} {ok : Nat → Prop} {v : Value} {xs : List S29} {g t : Nat} {cs : Array Value} (h : k29.R 29 w base ok v xs) (hb : w.heap[g]? = some (.cells cs t (0, 0))) (ht : 29 ≠ t) (i : Nat) (u : Value) : k29.R 29 (w.setCell ⟨g, i, none⟩ u) base ok v xs := by
  refine Kd.R_mono (Kd.R_far (p := ⟨g, i, none⟩) (Kd.R_bound h) ?_ u) (fun _ hk => hk.1)
  rintro k ⟨_, _, _, q, hq, cells, hc⟩ e
  have e : k = g := e
  subst e
  rw [hb] at hc
  injection hc with hc
  injection hc with _ hc
  exact k29n_ t ht q hq hc.symm
theorem R29o_ {w W : World} {base : Nat} {ok : Nat → Prop} {v : Value} {xs : List S29} {B0 : Nat} {row : Option Nat} (h : k29.R 29 w base ok v xs) (hg : w.grownBy W row) (hr : ∀ r, row = some r → B0 ≤ r ∧ ∃ o : Obj, w.heap[r]? = some o ∧ o.isCells = false) : k29.R 29 W base ok v xs := by
  refine Kd.R_mono (Kd.R_grown (Kd.R_bound h) hg ?_) (fun _ hk => hk.1)
  rintro k ⟨_, _, _, q, hq, cells, hc⟩ e
  obtain ⟨_, o, ho, hc2⟩ := hr k e.symm
  rw [hc] at ho
  cases ho
  exact absurd hc2 (by simp [Obj.isCells])
/-- What is collected, between two rounds. -/
structure CI (w : World) (ps : List S29) (A : Option Addr) (m : Nat) (W : World) : Prop where
  bl : Below w.heap.size w W
  h2 : W.heap[w.heap.size]? = some (.cells #[.slice A ps.length m] 22 (0, 0))
  hR : Kd.R k29 29 W w.heap.size (fun _ => True) (.slice A ps.length m) ps
theorem CI.own {w w7 : World} {ps : List S29} {A : Option Addr} {m : Nat} {X Y : World} {row : Option Nat} (h7 : w.heap.size ≤ w7.heap.size) (h : CI w ps A m X) (hg : X.grownBy Y row)
    (hr : ∀ r, row = some r → w7.heap.size ≤ r ∧ ∃ o : Obj, X.heap[r]? = some o ∧ o.isCells = false) : CI w ps A m Y :=
  ⟨h.bl.grown hg h.bl.size (fun k e => by have := (hr k e).1; omega), blkO_ h.h2 hg hr, R29o_ h.hR hg hr⟩
theorem CI.below {w : World} {ps : List S29} {A : Option Addr} {m : Nat} {X Y : World} (h : CI w ps A m X) (hb : Below X.heap.size X Y) : CI w ps A m Y :=
  ⟨below_then h.bl h.bl.size hb, blk_below h.h2 hb, Kd.R_below h.hR hb⟩
theorem CI.kp {w : World} {ps ps' : List S29} {A A' : Option Addr} {m m' : Nat} {X Y : World} (h : CI w ps A m X) (h' : CI w ps' A' m' Y) (hs : X.heap.size ≤ Y.heap.size) : Below w.heap.size X Y :=
  ⟨h'.bl.os.trans h.bl.os.symm, h'.bl.tape.trans h.bl.tape.symm, h'.bl.output.trans h.bl.output.symm, hs, fun k hk => (h'.bl.block k hk).trans (h.bl.block k hk).symm⟩
theorem CI.step {w : World} {ps : List S29} {A A1 : Option Addr} {m m1 : Nat} {X Y : World} {p : S29} {L : Nat} (h : CI w ps A m X) (hg : X.grownBy Y (Value.slice A ps.length m).ownBlock)
    (hR : Kd.R k29 29 Y w.heap.size (fun _ => True) (.slice A1 L m1) (ps ++ [p])) (hL : L = ps.length + 1) :
    CI w (ps ++ [p]) A1 m1 (Y.setCell ⟨w.heap.size, 0, none⟩ (.slice A1 L m1)) := by
  subst hL
  have y2 := blk_grown h.h2 hg (Kd.R_ne h.hR h.h2 (by decide))
  obtain ⟨inn, ho⟩ := Kd.R_own h.hR
  have hbl := h.bl.grown hg h.bl.size (own_base ho)
  refine ⟨hbl.setCell (Nat.le_refl _) _, ?_, ?_⟩
  · rw [List.length_append, List.length_singleton]
    exact blk_put y2 0 _ rfl
  · rw [List.length_append, List.length_singleton]
    exact R29s_ hR y2 (by decide) 0 _
set_option maxRecDepth 100000 in
set_option maxHeartbeats 4000000 in
theorem appendSeq_calls (gf : Nat) (lb : Array Value) (xs : List S29) (w : World) (hI : SinceIs w gf lb xs) (hl : xs.length ≤ 1000000) :
    Calls Try.prog 135 #[.slice none 0 0, .func (.func gf) #[] lb] w fun e w' => ∃ v0_ : Value, e = .returned v0_ ∧ Kd.R k29 29 w' w.heap.size (fun _ => True) v0_ xs ∧ Below w.heap.size w w' := by
  have hu29 := Try.underlying29
  have HI := Aside0.mk hI
  clear hI
  refine (callsIn_wide (n := 4)).1 ?_
  refine callsIn_of_wp_marks Try.func135 rfl trivial ?_ rfl
  simp only [Try.ntmps135, List.size_toArray, List.length_cons, List.length_nil, Nat.reduceAdd, Nat.reduceSub, Array.replicate_succ, Array.replicate_zero, List.push_toArray, List.append_toArray, List.nil_append, List.cons_append]
  gi_wp2_with fail
  have E7 : CI w [] none 0 (w.alloc (Obj.cells #[Value.slice none 0 0] 22)) :=
    ⟨(Below.refl _ w).alloc (Nat.le_refl _) _, blk_new w _, Kd.R_nil _ _ _ _ _⟩
  have hST := since_stops 3 w.heap.size gf lb xs w (w.alloc (Obj.cells #[Value.slice none 0 0] 22)) (by omega) (by simp) rfl HI.out E7.bl hl
  generalize (w.alloc (Obj.cells #[Value.slice none 0 0] 22)) = w7 at *
  have hw7 := E7.bl.size
  refine wpIn_rangeFunc_prA rfl (by omega) (gf := gf) (lb := lb) rfl trivial (since_enters HI.out)
    hST (fun h k => h.trans k) (belowK_b hw7) (Below.refl _ _) (fun _ => rfl)
    (fun pre W => ∃ A m, CI w pre A m W)
    (fun _ _ _ => False)
    (fun s A B row hs hg hr => by obtain ⟨X, m, h⟩ := hs; exact ⟨X, m, h.own (w7 := w7) hw7 hg hr⟩)
    (fun _ _ _ _ _ hs _ _ => hs)
    ⟨none, 0, E7⟩
    (fun pre x a' W => ∃ A m b5, CI w pre A m W ∧ W.heap[b5]? = some (.cells #[.int .i64 x.f0, .int .i64 x.f1, .int .i64 x.f2, .int .i64 x.f3, .int .i64 x.f4, .int .i64 x.f5, .int .i64 x.f6, .int .i64 x.f7, .int .i64 x.f8] 29 (0, 0)) ∧ pre.length < xs.length ∧
      a' = { tmps := #[.slice none 0 0, .func (.func gf) #[] lb, .pointer (some ⟨w.heap.size, 0, none⟩), undef, .slice none 0 0, .pointer (some ⟨b5, 0, none⟩), .func (.func gf) #[] lb, .agg #[.int .i64 x.f0, .int .i64 x.f1, .int .i64 x.f2, .int .i64 x.f3, .int .i64 x.f4, .int .i64 x.f5, .int .i64 x.f6, .int .i64 x.f7, .int .i64 x.f8], undef, undef, undef, undef, undef], defers := [] })
    (fun pre x a' W l o o' hb hl ho hc => by
      obtain ⟨A, m, b5, h1, h2, h3, h4⟩ := hb
      have hr : ∀ r, some l = some r → w7.heap.size ≤ r ∧ ∃ o : Obj, W.heap[r]? = some o ∧ o.isCells = false := fun r e => by cases e; exact ⟨hl, _, ho, hc⟩
      exact ⟨A, m, b5, h1.own hw7 (grownBy_putObj' W l o') hr, blkO_ h2 (grownBy_putObj' W l o') hr, h3, h4⟩)
    ?assign ?body ?done ?stop
  case assign =>
    rintro l pre x W K ⟨A, m, hE⟩ _ hsp hlen hK
    simp only [encM]
    gi_wp2
    refine hK _ _ ⟨A, m, W.heap.size, hE.below (below_alloc (Below.refl _ W) _), blk_new W _, hlen, rfl⟩ (KeepsOthers.alloc _ _) ((Below.refl _ W).alloc hE.bl.size _)
  case body =>
    rintro l pre x a' W ⟨A, m, b5, hE, h5, hlen, rfl⟩
    have HE := Aside0.mk hE
    have d2_ : W.cell? ⟨w.heap.size, 0, none⟩ = some (.slice A pre.length m) := (blk_cell hE.h2 0).trans rfl
    have f2_ := blk_frozen hE.h2 0
    have hs2 := blk_lt hE.h2
    have e0 : W.cell? ⟨b5, 0, none⟩ = some (.int .i64 x.f0) := (blk_cell h5 0).trans rfl
    have e1 : W.cell? ⟨b5, 1, none⟩ = some (.int .i64 x.f1) := (blk_cell h5 1).trans rfl
    have e2 : W.cell? ⟨b5, 2, none⟩ = some (.int .i64 x.f2) := (blk_cell h5 2).trans rfl
    have e3 : W.cell? ⟨b5, 3, none⟩ = some (.int .i64 x.f3) := (blk_cell h5 3).trans rfl
    have e4 : W.cell? ⟨b5, 4, none⟩ = some (.int .i64 x.f4) := (blk_cell h5 4).trans rfl
    have e5 : W.cell? ⟨b5, 5, none⟩ = some (.int .i64 x.f5) := (blk_cell h5 5).trans rfl
    have e6 : W.cell? ⟨b5, 6, none⟩ = some (.int .i64 x.f6) := (blk_cell h5 6).trans rfl
    have e7 : W.cell? ⟨b5, 7, none⟩ = some (.int .i64 x.f7) := (blk_cell h5 7).trans rfl
    have e8 : W.cell? ⟨b5, 8, none⟩ = some (.int .i64 x.f8) := (blk_cell h5 8).trans rfl
    have HL : Aside0 (pre.length ≤ 1000000) := ⟨by omega⟩
    clear hE h5
    gi_wp2_with (gi_at_builtin; go_must (refine R_append_in k29 (w0 := w) w.heap.size rfl (.tmp 8) (.tmp 10) 22 29 _ 72 rfl Try.underlying22 info29k rfl (by decide) (by decide) (.slice A pre.length m) pre x (msgK x) (fun _ => True) (fun _ => False) rfl rfl (k29_mkM _ _ _ x) (fun _ h => False.elim h) (fun _ _ => trivial) HE.out.hR HE.out.bl HE.out.bl.size (by have := HL.out; omega) ?_; intro v1 w10 hR1 hB1 hg1 hat1; obtain ⟨A1, m1, e1⟩ := Kd.R_slice hR1; subst e1; have HR1 := Aside0.mk hR1; have HG1 := Aside0.mk hg1; have y2 := blk_grown HE.out.h2 hg1 (Kd.R_ne HE.out.hR HE.out.h2 (by decide)); have n2_ : w10.cell? ⟨w.heap.size, 0, none⟩ = some (.slice A pre.length m) := (blk_cell y2 0).trans rfl; have m2_ := blk_frozen y2 0; clear hR1 hB1 hg1 hat1 y2))
    have hS := HE.out.step (p := x) (L := pre.length + 1) (A1 := A1) (m1 := m1) HG1.out (by have := HR1.out; rwa [List.length_append, List.length_singleton] at this) rfl
    have hKO : KeepsOthers W (w10.setCell ⟨w.heap.size, 0, none⟩ (.slice A1 (pre.length + 1) m1)) :=
      (KeepsOthers.of_grownBy HG1.out (fun j o hj ho => by
        obtain ⟨cells, hc⟩ := Kd.R_typed HE.out.hR j hj
        have := hc.symm.trans ho; injection this with this; subst this; rfl)).trans (KeepsOthers.setCell _ _ _)
    exact ⟨hKO, HE.out.kp hS hKO.size, A1, m1, hS⟩
  case done =>
    rintro D ys W hD rfl ⟨A, m, hE⟩ hK
    have d2_ : W.cell? ⟨w.heap.size, 0, none⟩ = some (.slice A ys.length m) := (blk_cell hE.h2 0).trans rfl
    have HE := Aside0.mk hE
    have HK := Aside0.mk hK
    clear hE hK
    gi_wp2
    refine ⟨by simp, .inl ⟨_, _, rfl, run_takeDeferred HK.out, ?_⟩⟩
    refine ⟨_, results_tmp rfl _ _ _, _, rfl, ?_, HE.out.bl.trans (belowK_b (w := w) (Nat.le_refl _) W D _ _ (by omega) HK.out rfl rfl)⟩
    exact R29o_ (B0 := 0) HE.out.hR (grownBy_putObj' _ D (.deferred none)) (fun r e => by cases e; exact ⟨Nat.zero_le _, _, HK.out, rfl⟩)
  case stop =>
    rintro D c pre W _ _ h _
    exact h.elim
set_option maxRecDepth 100000 in
theorem collect_calls (gf : Nat) (lb : Array Value) (xs : List S29) (w : World) (hI : SinceIs w gf lb xs) (hl : xs.length ≤ 1000000) :
    Calls Try.prog 113 #[.func (.func gf) #[] lb] w fun e w' => ∃ v0_ : Value, e = .returned v0_ ∧ Kd.R k29 29 w' w.heap.size (fun _ => True) v0_ xs ∧ Below w.heap.size w w' := by
  have HA := Aside0.mk (appendSeq_calls gf lb xs w hI hl)
  clear hI
  go_enter Try.func113, Try.ntmps113
  go_wp2_with fail
  refine HA.out.mono ?_
  rintro e w1 ⟨v, rfl, hR, hb⟩
  have HR := Aside0.mk hR
  have HB := Aside0.mk hb
  obtain ⟨A, c, rfl⟩ := Kd.R_slice hR
  clear hR hb
  go_wp2
  go_ret
  exact ⟨_, rfl, HR.out, HB.out⟩
end Go.Proofs.Ytalpemoodollpaa.P
/- A writer of one's own, call by call. -/
namespace Go.Proofs.Ytalpemoodollpaa.P
open Go.RowKit Go.Proofs.YtalpemoodollpaaW.PrintWords Go.Proofs.YtalpemoodollpaaW.PrintLast Go.Proofs.YtalpemoodollpaaW.PrintMore
set_option linter.unusedVariables false
set_option linter.unusedSimpArgs false

theorem lit_C (W : World) (xs : List Int) (hl : xs.length ≤ 9223372036854775807) : Kd.C (Kd.int .u8) (W.alloc (.cells (nums .u8 xs).toArray 5)) (some ⟨W.heap.size, 0, none⟩) xs.length xs := by
  have h := own_lit W W.heap.size 5 .u8 xs (Nat.le_refl _) hl
  obtain ⟨A, c, e, h2⟩ := own_reads h
  injection e with e1 e2 e3
  subst e1
  exact Kd.C_of_reads (d := (0 : Int)) (h1 := fun _ => rfl) h2
/-- Blocks of other types stay. -/
def KeepT (W W1 : World) (g : Nat) : Prop := ∀ (b : Nat) (cs : Array Value) (t : Nat), W.heap[b]? = some (.cells cs t (0, 0)) → t ≠ 5 → b ≠ g → W1.heap[b]? = some (.cells cs t (0, 0))
structure WK (w0 W : World) (g : Nat) (xs : List Int) : Prop where
  ex : ∃ row, WS W g row xs ∧ ∀ k, row = some k → w0.heap.size ≤ k
  bel : Below w0.heap.size w0 W
  hg : w0.heap.size ≤ g
namespace WK
variable {w0 W W1 : World} {g : Nat} {xs ys : List Int}
theorem new (hB : Below w0.heap.size w0 W) : WK w0 (W.alloc (.cells #[.slice none 0 0] 39)) W.heap.size [] :=
  ⟨⟨none, WS.new W, fun k hk => by cases hk⟩, below_alloc hB _, hB.size⟩
theorem below (h : WK w0 W g xs) (hb : Below W.heap.size W W1) : WK w0 W1 g xs := by
  obtain ⟨⟨row, hs, hr⟩, hB, hg⟩ := h
  exact ⟨⟨row, hs.below hb, hr⟩, below_then hB hB.size hb, hg⟩
theorem alloc (h : WK w0 W g xs) (o : Obj) : WK w0 (W.alloc o) g xs := h.below (below_alloc (Below.refl _ _) _)
theorem drew (h : WK w0 W g xs) : WK w0 W.drew g xs := ⟨h.ex, h.bel.drew, h.hg⟩
/-- What a call leaves. -/
theorem of_post {row : Option Nat} (hs : WS W g row xs) (hr : ∀ k, row = some k → w0.heap.size ≤ k) (hB : Below w0.heap.size w0 W) (hg : w0.heap.size ≤ g) (hp : WPost W g row ys W1) : WK w0 W1 g ys ∧ KeepT W W1 g := by
  obtain ⟨row1, h1, h2, h3⟩ := hp.below hB hg hr
  refine ⟨⟨⟨row1, h1, h3⟩, h2, hg⟩, fun b cs t hb ht hne => ?_⟩
  obtain ⟨_, _, _, hf⟩ := hp
  refine hf.blk hb (fun hS => hS.elim hne (fun hrow => ?_))
  obtain ⟨v, hb2, hr2, ho⟩ := hs
  exact own_ne ho hb (Ne.symm ht) (by rw [hr2, hrow])
theorem num (h : WK w0 W g xs) (n : Int) (h0 : 0 ≤ n) (h1 : n < 18446744073709551616) (hl : xs.length ≤ 1000000) :
    Calls Try.prog 36 #[.pointer (some ⟨g, 0, none⟩), .int .u64 n] W fun e w' => e = .returned (.pointer (some ⟨g, 0, none⟩)) ∧ WK w0 w' g (xs ++ numForm n.toNat) ∧ KeepT W w' g := by
  obtain ⟨⟨row, hs, hr⟩, hB, hg⟩ := h
  have := numForm_ten n h1
  exact (octets_Writer_Num.calls g row xs n W h0 hs (by omega)).mono fun e w' ⟨he, hp⟩ => ⟨he, of_post hs hr hB hg hp⟩
theorem int (h : WK w0 W g xs) (n : Int) (h0 : -9223372036854775808 ≤ n) (h1 : n ≤ 9223372036854775807) (hl : xs.length ≤ 1000000) :
    Calls Try.prog 38 #[.pointer (some ⟨g, 0, none⟩), .int .i64 n] W fun e w' => e = .returned (.pointer (some ⟨g, 0, none⟩)) ∧ WK w0 w' g (xs ++ intForm n) ∧ KeepT W w' g := by
  obtain ⟨⟨row, hs, hr⟩, hB, hg⟩ := h
  exact (octets_Writer_Int.calls g row xs n W h0 h1 hs (by omega)).mono fun e w' ⟨he, hp⟩ => ⟨he, of_post hs hr hB hg hp⟩
theorem uint (h : WK w0 W g xs) (n k : Int) (h0 : 0 ≤ n) (h1 : 1 ≤ k) (h2 : k ≤ 8) (hl : xs.length ≤ 1000000) :
    Calls Try.prog 99 #[.pointer (some ⟨g, 0, none⟩), .int .u64 n, .int .i64 k] W fun e w' => e = .returned (.pointer (some ⟨g, 0, none⟩)) ∧ WK w0 w' g (xs ++ uintForm n.toNat k.toNat) ∧ KeepT W w' g := by
  obtain ⟨⟨row, hs, hr⟩, hB, hg⟩ := h
  exact (octets_Writer_Uint.calls g row xs n k W h0 hs h1 h2 (by omega)).mono fun e w' ⟨he, hp⟩ => ⟨he, of_post hs hr hB hg hp⟩
theorem raw (h : WK w0 W g xs) (zs : List Int) (A : Option Addr) (c : Nat) (hz : Kd.C (Kd.int .u8) W A zs.length zs) (hl : xs.length ≤ 1000000) (hl2 : zs.length ≤ 1000000) :
    Calls Try.prog 94 #[.pointer (some ⟨g, 0, none⟩), .slice A zs.length c] W fun e w' => e = .returned (.pointer (some ⟨g, 0, none⟩)) ∧ WK w0 w' g (xs ++ zs) ∧ KeepT W w' g := by
  obtain ⟨⟨row, hs, hr⟩, hB, hg⟩ := h
  exact (octets_Writer_Raw.calls g row xs zs A c W hs hz (by omega)).mono fun e w' ⟨he, hp⟩ => ⟨he, of_post hs hr hB hg hp⟩
theorem bytes (h : WK w0 W g xs) (hl : xs.length ≤ 100000000) :
    Calls Try.prog 37 #[.pointer (some ⟨g, 0, none⟩)] W fun e w' => ∃ v0_ : Value, e = .returned v0_ ∧ Kd.R (Kd.int .u8) 5 w' w0.heap.size (fun _ => True) v0_ xs ∧ Below w0.heap.size w0 w' ∧ Below W.heap.size W w' := by
  obtain ⟨⟨row, hs, hr⟩, hB, hg⟩ := h
  exact (octets_Writer_Bytes.calls g row xs W hs (by omega)).mono fun e w' ⟨v, he, hR, hb⟩ => ⟨v, he, Kd.R_lower hR hB.size, below_then hB hB.size hb, hb⟩
theorem numA (h : WK w0 W g xs) (o : Obj) (n : Int) (h0 : 0 ≤ n) (h1 : n < 18446744073709551616) (hl : xs.length ≤ 1000000) :
    Calls Try.prog 36 #[.pointer (some ⟨g, 0, none⟩), .int .u64 n] (W.alloc o).drew fun e w' => e = .returned (.pointer (some ⟨g, 0, none⟩)) ∧ WK w0 w' g (xs ++ numForm n.toNat) ∧ KeepT (W.alloc o) w' g ∧ w'.heap[W.heap.size]? = some o := by
  obtain ⟨⟨row, hs, hr⟩, hB, hg⟩ := h
  have := numForm_ten n h1
  have hs2 : WS (W.alloc o).drew g row xs := hs.alloc o
  refine (octets_Writer_Num.calls g row xs n _ h0 hs2 (by omega)).mono fun e w' ⟨he, hp⟩ => ?_
  have h2 := of_post (w0 := w0) hs2 hr (below_alloc hB o).drew hg hp
  refine ⟨he, h2.1, h2.2, ?_⟩
  obtain ⟨_, _, _, hf⟩ := hp
  refine hf.blk (blk_new W o) (fun hS => ?_)
  rcases hS with hS | hS
  · have := hs.lt; omega
  · obtain ⟨v, hb2, hr2, ho⟩ := hs
    have := own_lt ho W.heap.size (by rw [hr2, hS])
    omega
end WK
theorem lit_at {W : World} {b : Nat} {xs : List Int} (h : W.heap[b]? = some (.cells (nums .u8 xs).toArray 5 (0, 0))) (hl : xs.length ≤ 9223372036854775807) : Kd.C (Kd.int .u8) W (some ⟨b, 0, none⟩) xs.length xs := by
  refine Kd.C_of_reads (d := (0 : Int)) (h1 := fun _ => rfl) ⟨rfl, hl, fun _ => ⟨_, rfl, fun j hj => ?_⟩⟩
  rw [add_plain, blk_cell h j]
  simp [nums, List.getD_eq_getElem?_getD, hj]
end Go.Proofs.Ytalpemoodollpaa.P
/- The contract of message.Encode. -/
namespace Go.Proofs.Ytalpemoodollpaa.P
open Go.RowKit Go.Proofs.YtalpemoodollpaaW.PrintWords Go.Proofs.YtalpemoodollpaaW.PrintLast Go.Proofs.YtalpemoodollpaaW.PrintMore
set_option linter.unusedVariables false
set_option linter.unusedSimpArgs false

def message_Encode.f (a0_0 a0_1 a0_2 a0_3 a0_4 a0_5 a0_6 a0_7 a0_8 : Int) : Option (List Int × Int) :=
  if i64B a0_6 = true ∧ i64B a0_7 = true then some (if msgRight ⟨a0_0, a0_1, a0_2, a0_3, a0_4, a0_5, a0_6, a0_7, a0_8⟩ = true then (msgForm ⟨a0_0, a0_1, a0_2, a0_3, a0_4, a0_5, a0_6, a0_7, a0_8⟩, 0) else ([], 1)) else none
set_option maxRecDepth 100000 in
set_option maxHeartbeats 2000000 in
theorem message_Encode.calls (a0_0 a0_1 a0_2 a0_3 a0_4 a0_5 a0_6 a0_7 a0_8 : Int) (r1 : List Int) (r2 : Int) (w : World) (h : message_Encode.f a0_0 a0_1 a0_2 a0_3 a0_4 a0_5 a0_6 a0_7 a0_8 = some (r1, r2)) :
    Calls Try.prog 29 #[.agg #[.int .i64 a0_0, .int .i64 a0_1, .int .i64 a0_2, .int .i64 a0_3, .int .i64 a0_4, .int .i64 a0_5, .int .i64 a0_6, .int .i64 a0_7, .int .i64 a0_8]] w fun e w' => ∃ v0_ : Value, e = .returned (.tuple #[v0_, .int .i64 r2]) ∧ Kd.R (Kd.int .u8) 5 w' w.heap.size (fun _ => True) v0_ r1 ∧ Below w.heap.size w w' := by
  unfold message_Encode.f at h
  by_cases hp : i64B a0_6 = true ∧ i64B a0_7 = true
  · rw [if_pos hp] at h
    have H := Option.some.inj h
    clear h
    have HRC : ∀ W : World, Calls Try.prog 32 #[.agg #[.int .i64 a0_0, .int .i64 a0_1, .int .i64 a0_2, .int .i64 a0_3, .int .i64 a0_4, .int .i64 a0_5, .int .i64 a0_6, .int .i64 a0_7, .int .i64 a0_8]] W fun e w' => e = .returned (.bool (msgRight ⟨a0_0, a0_1, a0_2, a0_3, a0_4, a0_5, a0_6, a0_7, a0_8⟩)) ∧ Below W.heap.size W w' := fun W => msgRight_calls ⟨a0_0, a0_1, a0_2, a0_3, a0_4, a0_5, a0_6, a0_7, a0_8⟩ W
    have hu29 := Try.underlying29
    have bx : Box9 (w.alloc (.cells #[.int .i64 a0_0, .int .i64 a0_1, .int .i64 a0_2, .int .i64 a0_3, .int .i64 a0_4, .int .i64 a0_5, .int .i64 a0_6, .int .i64 a0_7, .int .i64 a0_8] 29)) 29 w.heap.size a0_0 a0_1 a0_2 a0_3 a0_4 a0_5 a0_6 a0_7 a0_8 := blk_new w _
    have hb0 := below_alloc (Below.refl w.heap.size w) (.cells #[.int .i64 a0_0, .int .i64 a0_1, .int .i64 a0_2, .int .i64 a0_3, .int .i64 a0_4, .int .i64 a0_5, .int .i64 a0_6, .int .i64 a0_7, .int .i64 a0_8] 29)
    have BX := Aside0.mk bx
    have HB0 := Aside0.mk hb0
    have HP := Aside0.mk hp
    clear hb0 hp
    obtain ⟨c0, c1, c2, c3, c4, c5, c6, c7, c8⟩ := bx.cells
    clear bx
    by_cases hr : msgRight ⟨a0_0, a0_1, a0_2, a0_3, a0_4, a0_5, a0_6, a0_7, a0_8⟩ = true
    · rw [if_pos hr] at H
      obtain ⟨rfl, rfl⟩ := Prod.mk.inj H
      clear H
      have HR := Aside0.mk hr
      go_enter Try.func29, Try.ntmps29
      go_wp2_with fail
      refine (HRC _).mono ?_
      rintro e w1 ⟨rfl, hb⟩
      rw [HR.out]
      have BX1 := Aside0.mk (show Box9 w1 29 w.heap.size a0_0 a0_1 a0_2 a0_3 a0_4 a0_5 a0_6 a0_7 a0_8 from (hb.block _ (by simp)).trans BX.out)
      have HB1 := Aside0.mk (below_then HB0.out HB0.out.size hb)
      have HZ := Aside0.mk (show w.heap.size < w1.heap.size from by have := hb.size; simp at this; omega)
      clear hb c0 c1 c2 c3 c4 c5 c6 c7 c8 BX HB0
      have HK := Aside0.mk (WK.new HB1.out)
      have BX2 := Aside0.mk (show Box9 (w1.alloc (.cells #[.slice none 0 0] 39)) 29 w.heap.size a0_0 a0_1 a0_2 a0_3 a0_4 a0_5 a0_6 a0_7 a0_8 from blk_alloc BX1.out _)
      obtain ⟨c0, c1, c2, c3, c4, c5, c6, c7, c8⟩ := BX2.out.cells
      go_wp2_with fail
      have HG := Aside0.mk (show w.heap.size < w1.heap.size from HZ.out)
      clear HZ BX1 HB1
      generalize hg : w1.heap.size = g at *
      generalize (w1.alloc (.cells #[.slice none 0 0] 39)) = W2 at *
      clear hg
      have H94 : Aside0 (Calls Try.prog 94 #[.pointer (some ⟨g, 0, none⟩), .slice (some ⟨W2.heap.size, 0, none⟩) 3 3] (W2.alloc (.cells #[.int .u8 (IntKind.u8.wrap a0_0), .int .u8 (IntKind.u8.wrap a0_1), .int .u8 (IntKind.u8.wrap a0_8)] 5)).drew fun e w' => e = .returned (.pointer (some ⟨g, 0, none⟩)) ∧ WK w w' g ([] ++ [IntKind.u8.wrap a0_0, IntKind.u8.wrap a0_1, IntKind.u8.wrap a0_8]) ∧ KeepT (W2.alloc (.cells #[.int .u8 (IntKind.u8.wrap a0_0), .int .u8 (IntKind.u8.wrap a0_1), .int .u8 (IntKind.u8.wrap a0_8)] 5)).drew w' g) :=
        ⟨(HK.out.alloc (.cells (nums .u8 [IntKind.u8.wrap a0_0, IntKind.u8.wrap a0_1, IntKind.u8.wrap a0_8]).toArray 5)).drew.raw [IntKind.u8.wrap a0_0, IntKind.u8.wrap a0_1, IntKind.u8.wrap a0_8] _ 3 (lit_C W2 [IntKind.u8.wrap a0_0, IntKind.u8.wrap a0_1, IntKind.u8.wrap a0_8] (by simp)) (by simp) (by simp)⟩
      have BX3 := Aside0.mk (show Box9 (W2.alloc (.cells #[.int .u8 (IntKind.u8.wrap a0_0), .int .u8 (IntKind.u8.wrap a0_1), .int .u8 (IntKind.u8.wrap a0_8)] 5)).drew 29 w.heap.size a0_0 a0_1 a0_2 a0_3 a0_4 a0_5 a0_6 a0_7 a0_8 from blk_alloc BX2.out _)
      have R2 : 0 ≤ IntKind.u64.wrap a0_2 ∧ IntKind.u64.wrap a0_2 < 18446744073709551616 := wrap_u64_range _
      have R3 : 0 ≤ IntKind.u64.wrap a0_3 ∧ IntKind.u64.wrap a0_3 < 18446744073709551616 := wrap_u64_range _
      have HR2 := Aside0.mk R2
      have HR3 := Aside0.mk R3
      clear R2 R3
      have hr3 := HR.out
      simp only [msgRight, Bool.and_eq_true, within_iff] at hr3
      have hp3 := HP.out
      simp only [i64B, within_iff] at hp3
      have HL4 : Aside0 (-9223372036854775808 ≤ a0_4 ∧ a0_4 ≤ 9223372036854775807) := ⟨by omega⟩
      have HL5 : Aside0 (-9223372036854775808 ≤ a0_5 ∧ a0_5 ≤ 9223372036854775807) := ⟨by omega⟩
      have HL6 : Aside0 (-9223372036854775808 ≤ a0_6 ∧ a0_6 ≤ 9223372036854775807) := ⟨hp3.1⟩
      have HL7 : Aside0 (-9223372036854775808 ≤ a0_7 ∧ a0_7 ≤ 9223372036854775807) := ⟨hp3.2⟩
      clear hr3 hp3
      go_region_held3 (fun w' => w'.cell? ⟨w.heap.size, 0, none⟩ = some (.int .i64 a0_0) ∧ w'.cell? ⟨w.heap.size, 1, none⟩ = some (.int .i64 a0_1) ∧ w'.cell? ⟨w.heap.size, 8, none⟩ = some (.int .i64 a0_8) ∧ w'.cell? ⟨w.heap.size, 2, none⟩ = some (.int .i64 a0_2) ∧ w'.cell? ⟨w.heap.size, 3, none⟩ = some (.int .i64 a0_3)) (first | (refine ⟨?_, ?_, ?_, ?_, ?_⟩ <;> assumption) | go_keep)
        (first | (go_at_call 94; refine H94.out.mono ?_; rintro e w3 ⟨rfl, hk3, kt⟩; have HK3 := Aside0.mk hk3; have BX4 := Aside0.mk (show Box9 w3 29 w.heap.size a0_0 a0_1 a0_2 a0_3 a0_4 a0_5 a0_6 a0_7 a0_8 from kt _ _ _ BX3.out (by decide) (by have := HG.out; omega)); obtain ⟨d0, d1, d2, d3, d4, d5, d6, d7, d8⟩ := BX4.out.cells; clear hk3 kt) | (go_at_call 36; (with_reducible refine (HK4.out.num (IntKind.u64.wrap a0_3) HR3.out.1 HR3.out.2 (by have := numForm_ten _ HR2.out.2; simp; omega)).mono ?_); rintro e w5 ⟨rfl, hk5, kt⟩; have HK5 := Aside0.mk hk5; have BX6 := Aside0.mk (show Box9 w5 29 w.heap.size a0_0 a0_1 a0_2 a0_3 a0_4 a0_5 a0_6 a0_7 a0_8 from kt _ _ _ BX5.out (by decide) (by have := HG.out; omega)); obtain ⟨f0, f1, f2, f3, f4, f5, f6, f7, f8⟩ := BX6.out.cells; clear hk5 kt) | (go_at_call 36; (with_reducible refine (HK3.out.num (IntKind.u64.wrap a0_2) HR2.out.1 HR2.out.2 (by simp)).mono ?_); rintro e w4 ⟨rfl, hk4, kt⟩; have HK4 := Aside0.mk hk4; have BX5 := Aside0.mk (show Box9 w4 29 w.heap.size a0_0 a0_1 a0_2 a0_3 a0_4 a0_5 a0_6 a0_7 a0_8 from kt _ _ _ BX4.out (by decide) (by have := HG.out; omega)); obtain ⟨e0, e1, e2, e3, e4, e5, e6, e7, e8⟩ := BX5.out.cells; clear hk4 kt))
      have hmf : ∀ (fn : Fn) (first cap : Array Value) (w : World), (Instr.makeFunc fn first cap).run Try.prog w = .ok (.func fn first cap) w := fun _ _ _ _ => rfl
      have i0 : ∀ w, (Instr.index 124 (.agg #[.int .i64 a0_4, .int .i64 a0_5, .int .i64 a0_6, .int .i64 a0_7]) (.int .i64 0)).run Try.prog w = .ok (.int .i64 a0_4) w := fun _ => by kernel_rfl
      have i1 : ∀ w, (Instr.index 124 (.agg #[.int .i64 a0_4, .int .i64 a0_5, .int .i64 a0_6, .int .i64 a0_7]) (.int .i64 1)).run Try.prog w = .ok (.int .i64 a0_5) w := fun _ => by kernel_rfl
      have i2 : ∀ w, (Instr.index 124 (.agg #[.int .i64 a0_4, .int .i64 a0_5, .int .i64 a0_6, .int .i64 a0_7]) (.int .i64 2)).run Try.prog w = .ok (.int .i64 a0_6) w := fun _ => by kernel_rfl
      have i3 : ∀ w, (Instr.index 124 (.agg #[.int .i64 a0_4, .int .i64 a0_5, .int .i64 a0_6, .int .i64 a0_7]) (.int .i64 3)).run Try.prog w = .ok (.int .i64 a0_7) w := fun _ => by kernel_rfl
      go_wp2
      refine wp_loop_rounds 5 ?_
      rw [rounds_succ]
      go_wp2_with fail
      refine (HK5.out.int a0_4 HL4.out.1 HL4.out.2 (by have := numForm_ten _ HR2.out.2; have := numForm_ten _ HR3.out.2; simp [intForm_length]; omega)).mono ?_
      rintro e w6 ⟨rfl, hk, kt⟩
      have HK6 := Aside0.mk hk
      clear hk kt
      go_wp2
      rw [rounds_succ]
      go_wp2_with fail
      refine (HK6.out.int a0_5 HL5.out.1 HL5.out.2 (by have := numForm_ten _ HR2.out.2; have := numForm_ten _ HR3.out.2; simp [intForm_length]; omega)).mono ?_
      rintro e w7 ⟨rfl, hk, kt⟩
      have HK7 := Aside0.mk hk
      clear hk kt
      go_wp2
      rw [rounds_succ]
      go_wp2_with fail
      refine (HK7.out.int a0_6 HL6.out.1 HL6.out.2 (by have := numForm_ten _ HR2.out.2; have := numForm_ten _ HR3.out.2; simp [intForm_length]; omega)).mono ?_
      rintro e w8 ⟨rfl, hk, kt⟩
      have HK8 := Aside0.mk hk
      clear hk kt
      go_wp2
      rw [rounds_succ]
      go_wp2_with fail
      refine (HK8.out.int a0_7 HL7.out.1 HL7.out.2 (by have := numForm_ten _ HR2.out.2; have := numForm_ten _ HR3.out.2; simp [intForm_length]; omega)).mono ?_
      rintro e w9 ⟨rfl, hk, kt⟩
      have HK9 := Aside0.mk hk
      clear hk kt
      go_wp2
      rw [rounds_succ]
      go_wp2_with fail
      refine (HK9.out.bytes (by have := numForm_ten _ HR2.out.2; have := numForm_ten _ HR3.out.2; simp [intForm_length]; omega)).mono ?_
      rintro e w10 ⟨v, rfl, hR, hB, _⟩
      have HRR := Aside0.mk hR
      have HBB := Aside0.mk hB
      clear hR hB
      go_wp2
      go_ret2
      refine ⟨_, rfl, ?_, HBB.out⟩
      have hr2 := HR.out
      simp only [msgRight, Bool.and_eq_true, within_iff] at hr2
      have e0 : IntKind.u8.wrap a0_0 = a0_0 := by rw [IntKind.wrap_u8]; omega
      have e1 : IntKind.u8.wrap a0_1 = a0_1 := by rw [IntKind.wrap_u8]; omega
      have e8 : IntKind.u8.wrap a0_8 = a0_8 := by rw [IntKind.wrap_u8]; omega
      have e2 : IntKind.u64.wrap a0_2 = a0_2 := by rw [wrap_u64]; omega
      have e3 : IntKind.u64.wrap a0_3 = a0_3 := by rw [wrap_u64]; omega
      have h := HRR.out
      rw [e0, e1, e8, e2, e3] at h
      exact h
    · rw [if_neg hr] at H
      obtain ⟨rfl, rfl⟩ := Prod.mk.inj H
      clear H
      have hr2 : msgRight ⟨a0_0, a0_1, a0_2, a0_3, a0_4, a0_5, a0_6, a0_7, a0_8⟩ = false := by simpa using hr
      have HR := Aside0.mk hr2
      clear hr hr2
      go_enter Try.func29, Try.ntmps29
      go_wp2_with fail
      refine (HRC _).mono ?_
      rintro e w1 ⟨rfl, hb⟩
      rw [HR.out]
      have HB1 := Aside0.mk (below_then HB0.out HB0.out.size hb)
      clear hb c0 c1 c2 c3 c4 c5 c6 c7 c8 BX HB0
      go_wp2
      go_ret2
      exact ⟨_, rfl, Kd.R_nil _ _ _ _ _, HB1.out⟩
  · rw [if_neg hp] at h
    cases h
end Go.Proofs.Ytalpemoodollpaa.P
-- Printed by hookprint.py (the session's own program, over the kit's print.py): checked by Lean like any text.
namespace Go.Proofs.Ytalpemoodollpaa.P
open Go.RowKit Go.Proofs.YtalpemoodollpaaW.PrintWords Go.Proofs.YtalpemoodollpaaW.PrintLast Go.Proofs.YtalpemoodollpaaW.PrintMore
attribute [local go_sem] max2_int min2_int max_two min_two max_three min_three max_four min_four   -- for this text's walks alone
set_option linter.unusedVariables false
set_option linter.unusedSimpArgs false

/-! ### message_Stream: function 92 -/
def message_Stream.l0 : Nat → List Int → List (S29) → Int → Int → Option (List Int × Int)
  | 0, _, _, _, _ => none
  | k + 1, x2, x9, x10, x11 => if x11 < x10 then (if 0 ≤ x11 then (if x11 < (x9.length : Int) then ((message_Encode.f ((rd_T29 x9 x11).f0) ((rd_T29 x9 x11).f1) ((rd_T29 x9 x11).f2) ((rd_T29 x9 x11).f3) ((rd_T29 x9 x11).f4) ((rd_T29 x9 x11).f5) ((rd_T29 x9 x11).f6) ((rd_T29 x9 x11).f7) ((rd_T29 x9 x11).f8)).bind fun bt357 => (if bt357.2 = 0 then ((frame_Put.f bt357.1).bind fun bt361 => (if bt361.2 = 0 then (if x2.length + bt361.1.length < 140737488355328 then (message_Stream.l0 k (x2 ++ bt361.1) x9 x10 (wrap64 (x11 + 1))) else (none)) else (some (([] : List Int), bt361.2)))) else (some (([] : List Int), bt357.2)))) else (none)) else (none)) else (some (x2, 0))
def message_Stream.f (k : Nat) (l0 : List (S29)) : Option (List Int × Int) := message_Stream.l0 k ([] : List Int) l0 (l0.length : Int) 0
theorem message_Stream.mono_l : ∀ k, (∀ y0 y1 y2 y3, LeO (message_Stream.l0 k y0 y1 y2 y3) (message_Stream.l0 (k + 1) y0 y1 y2 y3))
  | 0 => fun _ _ _ _ r h => by simp [message_Stream.l0] at h
  | k + 1 => by
    have ih0 := message_Stream.mono_l k
    · intro y0 y1 y2 y3
      unfold message_Stream.l0
      repeat' first
      | (with_reducible exact ih0 _ _ _ _)
      | (with_reducible exact LeO.refl _)
      | (with_reducible exact LeO.none _)
      | (with_reducible refine LeO.ite ?_ ?_)
      | (with_reducible refine LeO.bind ?_ (fun _ => ?_))
      | exact ih0 _ _ _ _
      | exact LeO.none _
      | refine LeO.ite ?_ ?_
      | refine LeO.bind ?_ (fun _ => ?_)
theorem message_Stream.mono : ∀ a0 k, LeO (message_Stream.f k a0) (message_Stream.f (k + 1) a0) := by
  intro a0 k
  have ih0 := message_Stream.mono_l k
  unfold message_Stream.f
  repeat' first
      | (with_reducible exact ih0 _ _ _ _)
      | (with_reducible exact LeO.refl _)
      | (with_reducible exact LeO.none _)
      | (with_reducible refine LeO.ite ?_ ?_)
      | (with_reducible refine LeO.bind ?_ (fun _ => ?_))
      | exact ih0 _ _ _ _
      | exact LeO.none _
      | refine LeO.ite ?_ ?_
      | refine LeO.bind ?_ (fun _ => ?_)
set_option maxHeartbeats 8000000 in
set_option maxRecDepth 100000 in
theorem message_Stream.calls (k : Nat) (A0 : Option Addr) (c0 : Nat) (l0 : List (S29)) (r1 : List Int) (r2 : Int) (w : World) (hr0 : Kd.C k29 w A0 l0.length l0) (hc0 : l0.length ≤ c0) (h : message_Stream.f k l0 = some (r1, r2)) :
    Calls Try.prog 92 #[.slice A0 l0.length c0] w fun e w' => ∃ v0_ : Value, e = .returned (.tuple #[v0_, .int .i64 r2]) ∧ Kd.R (Kd.int .u8) 5 w' w.heap.size (fun _ => True) v0_ r1 ∧ Below w.heap.size w w' := by
  have hu29 := Try.underlying29
  have HR0 := Aside0.mk hr0
  have HC0 := Aside0.mk hc0
  clear hr0 hc0
  have HB := Aside0.mk (Below.refl w.heap.size w)
  have H : (message_Stream.l0 k ([] : List Int) l0 (l0.length : Int) 0) = some (r1, r2) := h
  clear h
  have H' := Aside0.mk H
  clear H
  go_enter Try.func92, Try.ntmps92
  go_wp2
  go_loopg [2, 11] k (fun kq v2 v11 w' => ∃ (x2_1 : List Int) (x11_1 : Int), v11 = .int .i64 x11_1 ∧ Aside0 (message_Stream.l0 kq x2_1 l0 (l0.length : Int) x11_1 = some (r1, r2)) ∧ Aside0 (kq ≤ k) ∧ Aside0 (Kd.R (Kd.int .u8) 5 w' w.heap.size (fun _ => True) v2 x2_1) ∧ Aside0 (Below w.heap.size w w'))
  case atStart => exact ⟨(([] : List Int)), (0), (by first | rfl | (simp; done) | (simp [*]; done)), H', ⟨Nat.le_refl _⟩, ⟨by first | exact Kd.R_nil _ _ _ _ _ | exact Kd.N_nil _ _ _ _ _ | exact Kd.V_nil _ _ _ _ _ | exact Kd.Q_nil _ _ _ _ _ | exact Kd.S_nil _ _ _ _ _⟩, ⟨by repeat (first | (with_reducible first | exact HB.out | apply below_alloc | apply pw_below_drewN | apply below_drew1) | exact HB.out)⟩⟩
  case round =>
    clear H'
    obtain ⟨x2_1, x11_1, rfl, HA, HK1, HO_2, HB⟩ := hrel
    cases gk with
    | zero => exact absurd HA.out (by simp [message_Stream.l0])
    | succ k1 =>
      have H := HA.out
      clear HA
      simp only [message_Stream.l0] at H
      by_cases c2 : x11_1 < (l0.length : Int)
      · rw [if_pos c2] at H
        have c2b0 : decide (x11_1 < (l0.length : Int)) = true := decide_eq_true c2
        clear c2
        by_cases c3 : 0 ≤ x11_1
        · rw [if_pos c3] at H
          have c3b0 : decide (0 ≤ x11_1) = true := decide_eq_true c3
          clear c3
          by_cases c4 : x11_1 < (l0.length : Int)
          · rw [if_pos c4] at H
            have c4b0 : decide (x11_1 < (l0.length : Int)) = true := decide_eq_true c4
            clear c4
            replace H := Option.bind_eq_some_iff.mp H
            obtain ⟨⟨t357, t360⟩, A50, H⟩ := H
            replace H : (if t360 = 0 then ((frame_Put.f t357).bind fun bt361 => (if bt361.2 = 0 then (if x2_1.length + bt361.1.length < 140737488355328 then (message_Stream.l0 k1 (x2_1 ++ bt361.1) l0 (l0.length : Int) (wrap64 (x11_1 + 1))) else (none)) else (some (([] : List Int), bt361.2)))) else (some (([] : List Int), t360))) = some (r1, r2) := H
            have A5 := Aside0.mk A50
            clear A50
            by_cases c6 : t360 = 0
            · rw [if_pos c6] at H
              have c6b0 : (t360 == 0) = true := beq_iff_eq.mpr c6
              have c6b1 : (t360 != 0) = false := bne_eq_false_iff_eq.mpr c6
              clear c6
              replace H := Option.bind_eq_some_iff.mp H
              obtain ⟨⟨t361, t362⟩, A70, H⟩ := H
              replace H : (if t362 = 0 then (if x2_1.length + t361.length < 140737488355328 then (message_Stream.l0 k1 (x2_1 ++ t361) l0 (l0.length : Int) (wrap64 (x11_1 + 1))) else (none)) else (some (([] : List Int), t362))) = some (r1, r2) := H
              have A7 := Aside0.mk A70
              clear A70
              by_cases c8 : t362 = 0
              · rw [if_pos c8] at H
                have c8b0 : (t362 == 0) = true := beq_iff_eq.mpr c8
                have c8b1 : (t362 != 0) = false := bne_eq_false_iff_eq.mpr c8
                clear c8
                by_cases c9 : x2_1.length + t361.length < 140737488355328
                · rw [if_pos c9] at H
                  have LMc9 := Aside0.mk c9
                  clear c9
                  obtain ⟨y365, hy365⟩ : ∃ y_ : List Int, y_ = (x2_1 ++ t361) := ⟨_, rfl⟩
                  replace H : (message_Stream.l0 k1 y365 l0 (l0.length : Int) (wrap64 (x11_1 + 1))) = some (r1, r2) := by first | (rw [hy365]; with_reducible exact H) | (have H2_ := (Option.bind_some _ _).symm.trans H; rw [hy365]; with_reducible exact H2_) | (have H2_ := (Option.bind_some _ _).symm.trans H; with_reducible exact H2_) | with_reducible exact H | (rw [hy365]; exact H) | exact H
                  have Ny365 := Aside0.mk hy365
                  clear hy365
                  have H' := Aside0.mk H
                  clear H
                  have p355 : 0 ≤ (x11_1 : Int) := of_decide_eq_true (by first | (with_reducible assumption) | assumption)
                  have q355 : x11_1 < (l0.length : Int) := of_decide_eq_true (by first | (with_reducible assumption) | assumption)
                  obtain ⟨ad355, e355, hx355_0, hx355_1, hx355_2, hx355_3, hx355_4, hx355_5, hx355_6, hx355_7, hx355_8⟩ := at_T29 HR0.out x11_1 p355 q355
                  cases e355
                  replace hx355_0 := (HB.out.cell (World.block_lt_of_cell? w _ hx355_0)).trans hx355_0
                  replace hx355_1 := (HB.out.cell (World.block_lt_of_cell? w _ hx355_1)).trans hx355_1
                  replace hx355_2 := (HB.out.cell (World.block_lt_of_cell? w _ hx355_2)).trans hx355_2
                  replace hx355_3 := (HB.out.cell (World.block_lt_of_cell? w _ hx355_3)).trans hx355_3
                  replace hx355_4 := (HB.out.cell (World.block_lt_of_cell? w _ hx355_4)).trans hx355_4
                  replace hx355_5 := (HB.out.cell (World.block_lt_of_cell? w _ hx355_5)).trans hx355_5
                  replace hx355_6 := (HB.out.cell (World.block_lt_of_cell? w _ hx355_6)).trans hx355_6
                  replace hx355_7 := (HB.out.cell (World.block_lt_of_cell? w _ hx355_7)).trans hx355_7
                  replace hx355_8 := (HB.out.cell (World.block_lt_of_cell? w _ hx355_8)).trans hx355_8
                  replace p355 := eq_true p355
                  replace q355 := eq_true q355
                  go_wp2_with (first | ((with_reducible refine gate_dst (N := 5) rfl ?_); refine box_event ?hg (N := 5) ?hd (cs := #[.int .i64 0, .int .i64 0, .int .i64 0, .int .i64 0, .int .i64 0, .int .i64 0, .int .i64 0, .int .i64 0, .int .i64 0]) (t := 29) ?hr ?_; (case hd => rfl); (case hg => rfl); (case hr => first | (go_simp; done) | (go_simp; rfl)); intro gb356 hg w10 hbox hb; have n0_ := Aside0.mk (Kd.R_below (by (with_reducible repeat (first | apply Kd.R_alloc | apply Kd.R_drewN | apply Kd.R_drew)); exact HO_2.out) hb); have n1_ := Aside0.mk (below_step (by repeat (first | (with_reducible first | exact HB.out | apply below_alloc | apply pw_below_drewN | apply below_drew1) | exact HB.out)) hb); have n2_ := Aside0.mk (hbox); have n3_ := Aside0.mk ((by rw [hg]; exact (below_size (by repeat (first | (with_reducible first | exact HB.out | apply below_alloc | apply pw_below_drewN | apply below_drew1) | exact HB.out))) : w.heap.size ≤ gb356)); have n4_ := Aside0.mk ((by rw [hg]; exact (below_size (by repeat (first | (with_reducible first | exact HB.out | apply below_alloc | apply pw_below_drewN | apply below_drew1) | exact HB.out))) : w.heap.size ≤ gb356)); clear HO_2; clear HB; have HO_2 := n0_; have HB := n1_; have BK356 := n2_; have GW356 := n3_; have GE356 := n4_; clear n0_ n1_ n2_ n3_ n4_; clear hb hbox hg; have hcz11_0 : w10.cell? ⟨gb356, 0, none⟩ = some (.int .i64 0) := (blk_cell BK356.out 0).trans rfl; have hcz11_1 : w10.cell? ⟨gb356, 1, none⟩ = some (.int .i64 0) := (blk_cell BK356.out 1).trans rfl; have hcz11_2 : w10.cell? ⟨gb356, 2, none⟩ = some (.int .i64 0) := (blk_cell BK356.out 2).trans rfl; have hcz11_3 : w10.cell? ⟨gb356, 3, none⟩ = some (.int .i64 0) := (blk_cell BK356.out 3).trans rfl; have hcz11_4 : w10.cell? ⟨gb356, 4, none⟩ = some (.int .i64 0) := (blk_cell BK356.out 4).trans rfl; have hcz11_5 : w10.cell? ⟨gb356, 5, none⟩ = some (.int .i64 0) := (blk_cell BK356.out 5).trans rfl; have hcz11_6 : w10.cell? ⟨gb356, 6, none⟩ = some (.int .i64 0) := (blk_cell BK356.out 6).trans rfl; have hcz11_7 : w10.cell? ⟨gb356, 7, none⟩ = some (.int .i64 0) := (blk_cell BK356.out 7).trans rfl; have hcz11_8 : w10.cell? ⟨gb356, 8, none⟩ = some (.int .i64 0) := (blk_cell BK356.out 8).trans rfl; have hfz11_0 := blk_frozen BK356.out 0; have hfz11_1 := blk_frozen BK356.out 1; have hfz11_2 := blk_frozen BK356.out 2; have hfz11_3 := blk_frozen BK356.out 3; have hfz11_4 := blk_frozen BK356.out 4; have hfz11_5 := blk_frozen BK356.out 5; have hfz11_6 := blk_frozen BK356.out 6; have hfz11_7 := blk_frozen BK356.out 7; have hfz11_8 := blk_frozen BK356.out 8) | ((with_reducible refine gate_callee (f := 29) rfl ?_); refine goesL_ (some 17) rfl rfl Try.func29 (by kernel_rfl) rfl #[.agg #[.int .i64 ((rd_T29 l0 x11_1).f0), .int .i64 ((rd_T29 l0 x11_1).f1), .int .i64 ((rd_T29 l0 x11_1).f2), .int .i64 ((rd_T29 l0 x11_1).f3), .int .i64 ((rd_T29 l0 x11_1).f4), .int .i64 ((rd_T29 l0 x11_1).f5), .int .i64 ((rd_T29 l0 x11_1).f6), .int .i64 ((rd_T29 l0 x11_1).f7), .int .i64 ((rd_T29 l0 x11_1).f8)]] rfl (by (try simp only [List.map_toArray, List.map_cons, List.map_nil]); first | done | rfl | (simp only [List.length_drop, List.length_take]; rfl)) ?_; (with_reducible refine (message_Encode.calls ((rd_T29 l0 x11_1).f0) ((rd_T29 l0 x11_1).f1) ((rd_T29 l0 x11_1).f2) ((rd_T29 l0 x11_1).f3) ((rd_T29 l0 x11_1).f4) ((rd_T29 l0 x11_1).f5) ((rd_T29 l0 x11_1).f6) ((rd_T29 l0 x11_1).f7) ((rd_T29 l0 x11_1).f8) t357 t360 _ A5.out).mono ?_); rintro e w12 ⟨v358, rfl, ho0, hb⟩; refine ⟨_, rfl, ?_⟩; have n0_ := Aside0.mk (Kd.R_elder' (by (with_reducible repeat (first | apply Kd.R_alloc | apply Kd.R_drewN | apply Kd.R_drew)); exact (Kd.R_mono (Kd.R_far (p := ⟨gb356, 8, none⟩) (Kd.R_far (p := ⟨gb356, 7, none⟩) (Kd.R_far (p := ⟨gb356, 6, none⟩) (Kd.R_far (p := ⟨gb356, 5, none⟩) (Kd.R_far (p := ⟨gb356, 4, none⟩) (Kd.R_far (p := ⟨gb356, 3, none⟩) (Kd.R_far (p := ⟨gb356, 2, none⟩) (Kd.R_far (p := ⟨gb356, 1, none⟩) (Kd.R_far (p := ⟨gb356, 0, none⟩) (Kd.R_types HO_2.out BK356.out (by decide)) (fun _ hk => hk.2) (.int .i64 ((rd_T29 l0 x11_1).f0))) (fun _ hk => hk.2) (.int .i64 ((rd_T29 l0 x11_1).f1))) (fun _ hk => hk.2) (.int .i64 ((rd_T29 l0 x11_1).f2))) (fun _ hk => hk.2) (.int .i64 ((rd_T29 l0 x11_1).f3))) (fun _ hk => hk.2) (.int .i64 ((rd_T29 l0 x11_1).f4))) (fun _ hk => hk.2) (.int .i64 ((rd_T29 l0 x11_1).f5))) (fun _ hk => hk.2) (.int .i64 ((rd_T29 l0 x11_1).f6))) (fun _ hk => hk.2) (.int .i64 ((rd_T29 l0 x11_1).f7))) (fun _ hk => hk.2) (.int .i64 ((rd_T29 l0 x11_1).f8))) (fun _ h_ => h_.1))) (Kd.R_base ho0) hb); have n1_ := Aside0.mk (Kd.R_lower (Kd.R_new' ho0 (Kd.R_lt (by (with_reducible repeat (first | apply Kd.R_alloc | apply Kd.R_drewN | apply Kd.R_drew)); exact (Kd.R_mono (Kd.R_far (p := ⟨gb356, 8, none⟩) (Kd.R_far (p := ⟨gb356, 7, none⟩) (Kd.R_far (p := ⟨gb356, 6, none⟩) (Kd.R_far (p := ⟨gb356, 5, none⟩) (Kd.R_far (p := ⟨gb356, 4, none⟩) (Kd.R_far (p := ⟨gb356, 3, none⟩) (Kd.R_far (p := ⟨gb356, 2, none⟩) (Kd.R_far (p := ⟨gb356, 1, none⟩) (Kd.R_far (p := ⟨gb356, 0, none⟩) (Kd.R_types HO_2.out BK356.out (by decide)) (fun _ hk => hk.2) (.int .i64 ((rd_T29 l0 x11_1).f0))) (fun _ hk => hk.2) (.int .i64 ((rd_T29 l0 x11_1).f1))) (fun _ hk => hk.2) (.int .i64 ((rd_T29 l0 x11_1).f2))) (fun _ hk => hk.2) (.int .i64 ((rd_T29 l0 x11_1).f3))) (fun _ hk => hk.2) (.int .i64 ((rd_T29 l0 x11_1).f4))) (fun _ hk => hk.2) (.int .i64 ((rd_T29 l0 x11_1).f5))) (fun _ hk => hk.2) (.int .i64 ((rd_T29 l0 x11_1).f6))) (fun _ hk => hk.2) (.int .i64 ((rd_T29 l0 x11_1).f7))) (fun _ hk => hk.2) (.int .i64 ((rd_T29 l0 x11_1).f8))) (fun _ h_ => h_.1))))) (below_size (by repeat (first | (with_reducible first | exact HB.out | apply below_alloc | apply pw_below_drewN | apply below_drew1 | refine below_set ?_ GE356.out) | exact HB.out)))); have n2_ := Aside0.mk (blk_below (g := gb356) (o := .cells #[.int .i64 ((rd_T29 l0 x11_1).f0), .int .i64 ((rd_T29 l0 x11_1).f1), .int .i64 ((rd_T29 l0 x11_1).f2), .int .i64 ((rd_T29 l0 x11_1).f3), .int .i64 ((rd_T29 l0 x11_1).f4), .int .i64 ((rd_T29 l0 x11_1).f5), .int .i64 ((rd_T29 l0 x11_1).f6), .int .i64 ((rd_T29 l0 x11_1).f7), .int .i64 ((rd_T29 l0 x11_1).f8)] 29 (0, 0)) (by (with_reducible repeat (first | refine blk_drewN ?_ _ | refine blk_drew ?_ | refine blk_alloc ?_ _)); refine blk_put (cs := #[.int .i64 ((rd_T29 l0 x11_1).f0), .int .i64 ((rd_T29 l0 x11_1).f1), .int .i64 ((rd_T29 l0 x11_1).f2), .int .i64 ((rd_T29 l0 x11_1).f3), .int .i64 ((rd_T29 l0 x11_1).f4), .int .i64 ((rd_T29 l0 x11_1).f5), .int .i64 ((rd_T29 l0 x11_1).f6), .int .i64 ((rd_T29 l0 x11_1).f7), .int .i64 0]) ?_ 8 _ rfl; (with_reducible repeat (first | refine blk_drewN ?_ _ | refine blk_drew ?_ | refine blk_alloc ?_ _)); refine blk_put (cs := #[.int .i64 ((rd_T29 l0 x11_1).f0), .int .i64 ((rd_T29 l0 x11_1).f1), .int .i64 ((rd_T29 l0 x11_1).f2), .int .i64 ((rd_T29 l0 x11_1).f3), .int .i64 ((rd_T29 l0 x11_1).f4), .int .i64 ((rd_T29 l0 x11_1).f5), .int .i64 ((rd_T29 l0 x11_1).f6), .int .i64 0, .int .i64 0]) ?_ 7 _ rfl; (with_reducible repeat (first | refine blk_drewN ?_ _ | refine blk_drew ?_ | refine blk_alloc ?_ _)); refine blk_put (cs := #[.int .i64 ((rd_T29 l0 x11_1).f0), .int .i64 ((rd_T29 l0 x11_1).f1), .int .i64 ((rd_T29 l0 x11_1).f2), .int .i64 ((rd_T29 l0 x11_1).f3), .int .i64 ((rd_T29 l0 x11_1).f4), .int .i64 ((rd_T29 l0 x11_1).f5), .int .i64 0, .int .i64 0, .int .i64 0]) ?_ 6 _ rfl; (with_reducible repeat (first | refine blk_drewN ?_ _ | refine blk_drew ?_ | refine blk_alloc ?_ _)); refine blk_put (cs := #[.int .i64 ((rd_T29 l0 x11_1).f0), .int .i64 ((rd_T29 l0 x11_1).f1), .int .i64 ((rd_T29 l0 x11_1).f2), .int .i64 ((rd_T29 l0 x11_1).f3), .int .i64 ((rd_T29 l0 x11_1).f4), .int .i64 0, .int .i64 0, .int .i64 0, .int .i64 0]) ?_ 5 _ rfl; (with_reducible repeat (first | refine blk_drewN ?_ _ | refine blk_drew ?_ | refine blk_alloc ?_ _)); refine blk_put (cs := #[.int .i64 ((rd_T29 l0 x11_1).f0), .int .i64 ((rd_T29 l0 x11_1).f1), .int .i64 ((rd_T29 l0 x11_1).f2), .int .i64 ((rd_T29 l0 x11_1).f3), .int .i64 0, .int .i64 0, .int .i64 0, .int .i64 0, .int .i64 0]) ?_ 4 _ rfl; (with_reducible repeat (first | refine blk_drewN ?_ _ | refine blk_drew ?_ | refine blk_alloc ?_ _)); refine blk_put (cs := #[.int .i64 ((rd_T29 l0 x11_1).f0), .int .i64 ((rd_T29 l0 x11_1).f1), .int .i64 ((rd_T29 l0 x11_1).f2), .int .i64 0, .int .i64 0, .int .i64 0, .int .i64 0, .int .i64 0, .int .i64 0]) ?_ 3 _ rfl; (with_reducible repeat (first | refine blk_drewN ?_ _ | refine blk_drew ?_ | refine blk_alloc ?_ _)); refine blk_put (cs := #[.int .i64 ((rd_T29 l0 x11_1).f0), .int .i64 ((rd_T29 l0 x11_1).f1), .int .i64 0, .int .i64 0, .int .i64 0, .int .i64 0, .int .i64 0, .int .i64 0, .int .i64 0]) ?_ 2 _ rfl; (with_reducible repeat (first | refine blk_drewN ?_ _ | refine blk_drew ?_ | refine blk_alloc ?_ _)); refine blk_put (cs := #[.int .i64 ((rd_T29 l0 x11_1).f0), .int .i64 0, .int .i64 0, .int .i64 0, .int .i64 0, .int .i64 0, .int .i64 0, .int .i64 0, .int .i64 0]) ?_ 1 _ rfl; (with_reducible repeat (first | refine blk_drewN ?_ _ | refine blk_drew ?_ | refine blk_alloc ?_ _)); refine blk_put (cs := #[.int .i64 0, .int .i64 0, .int .i64 0, .int .i64 0, .int .i64 0, .int .i64 0, .int .i64 0, .int .i64 0, .int .i64 0]) ?_ 0 _ rfl; (with_reducible repeat (first | refine blk_drewN ?_ _ | refine blk_drew ?_ | refine blk_alloc ?_ _)); exact BK356.out) hb); have n3_ := Aside0.mk (below_step (by repeat (first | (with_reducible first | exact HB.out | apply below_alloc | apply pw_below_drewN | apply below_drew1 | refine below_set ?_ GE356.out) | exact HB.out)) hb); clear HO_2; clear BK356; clear HB; have HO_2 := n0_; have HO359 := n1_; have BK356 := n2_; have HB := n3_; clear n0_ n1_ n2_ n3_; (try clear hb); (try clear hb2); (try clear hk); (try clear hi); (try clear ho0); obtain ⟨Ao13, co13, eo13⟩ := Kd.R_slice HO359.out; subst eo13) | ((with_reducible refine gate_callee (f := 44) rfl ?_); refine goesL_ (some 25) rfl rfl Try.func44 (by kernel_rfl) rfl #[.slice Ao13 t357.length co13] rfl (by (try simp only [List.map_toArray, List.map_cons, List.map_nil]); first | done | rfl | (simp only [List.length_drop, List.length_take]; rfl)) ?_; (with_reducible refine (frame_Put.calls _ _ t357 t361 t362 _ ?side1 ?side2 A7.out).mono ?_); (case side1 => repeat (first | exact (Kd.R_reads' HO359.out).2.2 | (with_reducible refine Kd.C_alloc ?_ _) | (with_reducible refine Kd.C_drewN ?_ _) | (with_reducible refine Kd.C_drew ?_))); (case side2 => exact (Kd.R_reads' HO359.out).2.1); rintro e w14 ⟨v363, rfl, ho0, hb⟩; refine ⟨_, rfl, ?_⟩; have n0_ := Aside0.mk (Kd.R_elder' (by (with_reducible repeat (first | apply Kd.R_alloc | apply Kd.R_drewN | apply Kd.R_drew)); exact HO_2.out) (Kd.R_base ho0) hb); have n1_ := Aside0.mk (Kd.R_elder' (by (with_reducible repeat (first | apply Kd.R_alloc | apply Kd.R_drewN | apply Kd.R_drew)); exact HO359.out) (Kd.R_base ho0) hb); have n2_ := Aside0.mk (Kd.R_lower (Kd.R_new' (Kd.R_new' ho0 (Kd.R_lt (by (with_reducible repeat (first | apply Kd.R_alloc | apply Kd.R_drewN | apply Kd.R_drew)); exact HO_2.out))) (Kd.R_lt (by (with_reducible repeat (first | apply Kd.R_alloc | apply Kd.R_drewN | apply Kd.R_drew)); exact HO359.out))) (below_size (by repeat (first | (with_reducible first | exact HB.out | apply below_alloc | apply pw_below_drewN | apply below_drew1 | refine below_set ?_ GE356.out) | exact HB.out)))); have n3_ := Aside0.mk (blk_below (g := gb356) (o := .cells #[.int .i64 ((rd_T29 l0 x11_1).f0), .int .i64 ((rd_T29 l0 x11_1).f1), .int .i64 ((rd_T29 l0 x11_1).f2), .int .i64 ((rd_T29 l0 x11_1).f3), .int .i64 ((rd_T29 l0 x11_1).f4), .int .i64 ((rd_T29 l0 x11_1).f5), .int .i64 ((rd_T29 l0 x11_1).f6), .int .i64 ((rd_T29 l0 x11_1).f7), .int .i64 ((rd_T29 l0 x11_1).f8)] 29 (0, 0)) (by (with_reducible repeat (first | refine blk_drewN ?_ _ | refine blk_drew ?_ | refine blk_alloc ?_ _)); exact BK356.out) hb); have n4_ := Aside0.mk (below_step (by repeat (first | (with_reducible first | exact HB.out | apply below_alloc | apply pw_below_drewN | apply below_drew1 | refine below_set ?_ GE356.out) | exact HB.out)) hb); clear HO_2; clear HO359; clear BK356; clear HB; have HO_2 := n0_; have HO359 := n1_; have HO364 := n2_; have BK356 := n3_; have HB := n4_; clear n0_ n1_ n2_ n3_ n4_; (try clear hb); (try clear hb2); (try clear hk); (try clear hi); (try clear ho0); obtain ⟨Ao16, co16, eo16⟩ := Kd.R_slice HO364.out; subst eo16) | ((with_reducible refine gate_builtin (b := .append) (xs := #[.tmp 31, .tmp 32]) rfl ?_); at_builtin; refine Kd.R_append_rows (Kd.int .u8) (w0 := w) w.heap.size rfl (.tmp 31) (.tmp 32) 30 5 (.int .u8 0) 1 rfl Try.underlying30 info5 rfl (by decide) (by omega) u2 x2_1 t361 _ _ _ (fun k_ => some k_ ≠ (.slice Ao13 t357.length co13 : Value).ownBlock ∧ some k_ ≠ (.slice Ao16 t361.length co16 : Value).ownBlock) (fun _ => False) rfl rfl ?aO ?aR (fun _ _ h => h) (fun _ h => h.elim) ?aF ?aB ?aS ?aL ?_; (case aR => repeat (first | exact (Kd.R_reads' HO364.out).2.2 | (with_reducible refine Kd.C_alloc ?_ _) | (with_reducible refine Kd.C_drewN ?_ _) | (with_reducible refine Kd.C_drew ?_))); (case aB => exact (by repeat (first | (with_reducible first | exact HB.out | apply below_alloc | apply pw_below_drewN | apply below_drew1 | refine below_set ?_ GE356.out) | exact HB.out))); (case aF => exact (fun k_ hk => ⟨Kd.fresh' (Kd.R_lt (by (with_reducible repeat (first | apply Kd.R_alloc | apply Kd.R_drewN | apply Kd.R_drew)); exact HO359.out)) k_ hk, Kd.fresh' (Kd.R_lt (by (with_reducible repeat (first | apply Kd.R_alloc | apply Kd.R_drewN | apply Kd.R_drew)); exact HO364.out)) k_ hk⟩)); (case aO => exact (by (with_reducible repeat (first | apply Kd.R_alloc | apply Kd.R_drewN | apply Kd.R_drew)); exact Kd.R_mono HO_2.out (fun _ hk => ⟨hk.1.2, hk.2⟩))); (case aS => exact (below_size (by repeat (first | (with_reducible first | exact HB.out | apply below_alloc | apply pw_below_drewN | apply below_drew1 | refine below_set ?_ GE356.out) | exact HB.out)))); (case aL => have := LMc9.out; omega); intro v366 w15 ho hb hg hat; rw [← Ny365.out] at ho; have n0_ := Aside0.mk (blk_grown (g := gb356) (o := .cells #[.int .i64 ((rd_T29 l0 x11_1).f0), .int .i64 ((rd_T29 l0 x11_1).f1), .int .i64 ((rd_T29 l0 x11_1).f2), .int .i64 ((rd_T29 l0 x11_1).f3), .int .i64 ((rd_T29 l0 x11_1).f4), .int .i64 ((rd_T29 l0 x11_1).f5), .int .i64 ((rd_T29 l0 x11_1).f6), .int .i64 ((rd_T29 l0 x11_1).f7), .int .i64 ((rd_T29 l0 x11_1).f8)] 29 (0, 0)) (by (with_reducible repeat (first | refine blk_drewN ?_ _ | refine blk_drew ?_ | refine blk_alloc ?_ _)); exact BK356.out) hg (Kd.R_ne HO_2.out BK356.out (by decide))); have n1_ := Aside0.mk (Kd.R_after (ok := (fun k_ => some k_ ≠ (.slice Ao16 t361.length co16 : Value).ownBlock)) (by (with_reducible repeat (first | apply Kd.R_alloc | apply Kd.R_drewN | apply Kd.R_drew)); exact Kd.R_mono HO359.out (fun _ hk => ⟨hk.2, hk.1.2⟩)) hg hat); have n2_ := Aside0.mk (Kd.R_after (ok := (fun k_ => some k_ ≠ (.slice Ao13 t357.length co13 : Value).ownBlock)) (by (with_reducible repeat (first | apply Kd.R_alloc | apply Kd.R_drewN | apply Kd.R_drew)); exact Kd.R_mono HO364.out (fun _ hk => ⟨hk.2, hk.1.2⟩)) hg hat); have n3_ := Aside0.mk (hb); have n4_ := Aside0.mk (ho); clear BK356; clear HO359; clear HO364; clear HB; clear HO_2; have BK356 := n0_; have HO359 := n1_; have HO364 := n2_; have HB := n3_; have HO367 := n4_; clear n0_ n1_ n2_ n3_ n4_; clear ho hb hg hat))
                  go_roundg k1
                  case measure => have := HK1.out; omega
                  case rel => exact ⟨(y365), (wrap64 (x11_1 + 1)), (by first | rfl | (simp; done) | (simp [*]; done)), H', ⟨by have := HK1.out; omega⟩, ⟨by (with_reducible repeat (first | apply Kd.R_alloc | apply Kd.R_drewN | apply Kd.R_drew)); exact Kd.R_mono HO367.out (fun _ hk => trivial)⟩, ⟨by repeat (first | (with_reducible first | exact HB.out | apply below_alloc | apply pw_below_drewN | apply below_drew1 | refine below_set ?_ GE356.out) | exact HB.out)⟩⟩
                · rw [if_neg c9] at H
                  exact absurd H (by simp)
              · rw [if_neg c8] at H
                have c8b0 : (t362 == 0) = false := beq_eq_false_iff_ne.mpr c8
                have c8b1 : (t362 != 0) = true := bne_iff_ne.mpr c8
                simp only [Option.some.injEq, Prod.mk.injEq] at H
                obtain ⟨rfl, rfl⟩ := H
                have p355 : 0 ≤ (x11_1 : Int) := of_decide_eq_true (by first | (with_reducible assumption) | assumption)
                have q355 : x11_1 < (l0.length : Int) := of_decide_eq_true (by first | (with_reducible assumption) | assumption)
                obtain ⟨ad355, e355, hx355_0, hx355_1, hx355_2, hx355_3, hx355_4, hx355_5, hx355_6, hx355_7, hx355_8⟩ := at_T29 HR0.out x11_1 p355 q355
                cases e355
                replace hx355_0 := (HB.out.cell (World.block_lt_of_cell? w _ hx355_0)).trans hx355_0
                replace hx355_1 := (HB.out.cell (World.block_lt_of_cell? w _ hx355_1)).trans hx355_1
                replace hx355_2 := (HB.out.cell (World.block_lt_of_cell? w _ hx355_2)).trans hx355_2
                replace hx355_3 := (HB.out.cell (World.block_lt_of_cell? w _ hx355_3)).trans hx355_3
                replace hx355_4 := (HB.out.cell (World.block_lt_of_cell? w _ hx355_4)).trans hx355_4
                replace hx355_5 := (HB.out.cell (World.block_lt_of_cell? w _ hx355_5)).trans hx355_5
                replace hx355_6 := (HB.out.cell (World.block_lt_of_cell? w _ hx355_6)).trans hx355_6
                replace hx355_7 := (HB.out.cell (World.block_lt_of_cell? w _ hx355_7)).trans hx355_7
                replace hx355_8 := (HB.out.cell (World.block_lt_of_cell? w _ hx355_8)).trans hx355_8
                replace p355 := eq_true p355
                replace q355 := eq_true q355
                go_wp2_with (first | ((with_reducible refine gate_dst (N := 5) rfl ?_); refine box_event ?hg (N := 5) ?hd (cs := #[.int .i64 0, .int .i64 0, .int .i64 0, .int .i64 0, .int .i64 0, .int .i64 0, .int .i64 0, .int .i64 0, .int .i64 0]) (t := 29) ?hr ?_; (case hd => rfl); (case hg => rfl); (case hr => first | (go_simp; done) | (go_simp; rfl)); intro gb356 hg w17 hbox hb; have n0_ := Aside0.mk (Kd.R_below (by (with_reducible repeat (first | apply Kd.R_alloc | apply Kd.R_drewN | apply Kd.R_drew)); exact HO_2.out) hb); have n1_ := Aside0.mk (below_step (by repeat (first | (with_reducible first | exact HB.out | apply below_alloc | apply pw_below_drewN | apply below_drew1) | exact HB.out)) hb); have n2_ := Aside0.mk (hbox); have n3_ := Aside0.mk ((by rw [hg]; exact (below_size (by repeat (first | (with_reducible first | exact HB.out | apply below_alloc | apply pw_below_drewN | apply below_drew1) | exact HB.out))) : w.heap.size ≤ gb356)); have n4_ := Aside0.mk ((by rw [hg]; exact (below_size (by repeat (first | (with_reducible first | exact HB.out | apply below_alloc | apply pw_below_drewN | apply below_drew1) | exact HB.out))) : w.heap.size ≤ gb356)); clear HO_2; clear HB; have HO_2 := n0_; have HB := n1_; have BK356 := n2_; have GW356 := n3_; have GE356 := n4_; clear n0_ n1_ n2_ n3_ n4_; clear hb hbox hg; have hcz18_0 : w17.cell? ⟨gb356, 0, none⟩ = some (.int .i64 0) := (blk_cell BK356.out 0).trans rfl; have hcz18_1 : w17.cell? ⟨gb356, 1, none⟩ = some (.int .i64 0) := (blk_cell BK356.out 1).trans rfl; have hcz18_2 : w17.cell? ⟨gb356, 2, none⟩ = some (.int .i64 0) := (blk_cell BK356.out 2).trans rfl; have hcz18_3 : w17.cell? ⟨gb356, 3, none⟩ = some (.int .i64 0) := (blk_cell BK356.out 3).trans rfl; have hcz18_4 : w17.cell? ⟨gb356, 4, none⟩ = some (.int .i64 0) := (blk_cell BK356.out 4).trans rfl; have hcz18_5 : w17.cell? ⟨gb356, 5, none⟩ = some (.int .i64 0) := (blk_cell BK356.out 5).trans rfl; have hcz18_6 : w17.cell? ⟨gb356, 6, none⟩ = some (.int .i64 0) := (blk_cell BK356.out 6).trans rfl; have hcz18_7 : w17.cell? ⟨gb356, 7, none⟩ = some (.int .i64 0) := (blk_cell BK356.out 7).trans rfl; have hcz18_8 : w17.cell? ⟨gb356, 8, none⟩ = some (.int .i64 0) := (blk_cell BK356.out 8).trans rfl; have hfz18_0 := blk_frozen BK356.out 0; have hfz18_1 := blk_frozen BK356.out 1; have hfz18_2 := blk_frozen BK356.out 2; have hfz18_3 := blk_frozen BK356.out 3; have hfz18_4 := blk_frozen BK356.out 4; have hfz18_5 := blk_frozen BK356.out 5; have hfz18_6 := blk_frozen BK356.out 6; have hfz18_7 := blk_frozen BK356.out 7; have hfz18_8 := blk_frozen BK356.out 8) | ((with_reducible refine gate_callee (f := 29) rfl ?_); refine goesL_ (some 17) rfl rfl Try.func29 (by kernel_rfl) rfl #[.agg #[.int .i64 ((rd_T29 l0 x11_1).f0), .int .i64 ((rd_T29 l0 x11_1).f1), .int .i64 ((rd_T29 l0 x11_1).f2), .int .i64 ((rd_T29 l0 x11_1).f3), .int .i64 ((rd_T29 l0 x11_1).f4), .int .i64 ((rd_T29 l0 x11_1).f5), .int .i64 ((rd_T29 l0 x11_1).f6), .int .i64 ((rd_T29 l0 x11_1).f7), .int .i64 ((rd_T29 l0 x11_1).f8)]] rfl (by (try simp only [List.map_toArray, List.map_cons, List.map_nil]); first | done | rfl | (simp only [List.length_drop, List.length_take]; rfl)) ?_; (with_reducible refine (message_Encode.calls ((rd_T29 l0 x11_1).f0) ((rd_T29 l0 x11_1).f1) ((rd_T29 l0 x11_1).f2) ((rd_T29 l0 x11_1).f3) ((rd_T29 l0 x11_1).f4) ((rd_T29 l0 x11_1).f5) ((rd_T29 l0 x11_1).f6) ((rd_T29 l0 x11_1).f7) ((rd_T29 l0 x11_1).f8) t357 t360 _ A5.out).mono ?_); rintro e w19 ⟨v358, rfl, ho0, hb⟩; refine ⟨_, rfl, ?_⟩; have n0_ := Aside0.mk (Kd.R_elder' (by (with_reducible repeat (first | apply Kd.R_alloc | apply Kd.R_drewN | apply Kd.R_drew)); exact (Kd.R_mono (Kd.R_far (p := ⟨gb356, 8, none⟩) (Kd.R_far (p := ⟨gb356, 7, none⟩) (Kd.R_far (p := ⟨gb356, 6, none⟩) (Kd.R_far (p := ⟨gb356, 5, none⟩) (Kd.R_far (p := ⟨gb356, 4, none⟩) (Kd.R_far (p := ⟨gb356, 3, none⟩) (Kd.R_far (p := ⟨gb356, 2, none⟩) (Kd.R_far (p := ⟨gb356, 1, none⟩) (Kd.R_far (p := ⟨gb356, 0, none⟩) (Kd.R_types HO_2.out BK356.out (by decide)) (fun _ hk => hk.2) (.int .i64 ((rd_T29 l0 x11_1).f0))) (fun _ hk => hk.2) (.int .i64 ((rd_T29 l0 x11_1).f1))) (fun _ hk => hk.2) (.int .i64 ((rd_T29 l0 x11_1).f2))) (fun _ hk => hk.2) (.int .i64 ((rd_T29 l0 x11_1).f3))) (fun _ hk => hk.2) (.int .i64 ((rd_T29 l0 x11_1).f4))) (fun _ hk => hk.2) (.int .i64 ((rd_T29 l0 x11_1).f5))) (fun _ hk => hk.2) (.int .i64 ((rd_T29 l0 x11_1).f6))) (fun _ hk => hk.2) (.int .i64 ((rd_T29 l0 x11_1).f7))) (fun _ hk => hk.2) (.int .i64 ((rd_T29 l0 x11_1).f8))) (fun _ h_ => h_.1))) (Kd.R_base ho0) hb); have n1_ := Aside0.mk (Kd.R_lower (Kd.R_new' ho0 (Kd.R_lt (by (with_reducible repeat (first | apply Kd.R_alloc | apply Kd.R_drewN | apply Kd.R_drew)); exact (Kd.R_mono (Kd.R_far (p := ⟨gb356, 8, none⟩) (Kd.R_far (p := ⟨gb356, 7, none⟩) (Kd.R_far (p := ⟨gb356, 6, none⟩) (Kd.R_far (p := ⟨gb356, 5, none⟩) (Kd.R_far (p := ⟨gb356, 4, none⟩) (Kd.R_far (p := ⟨gb356, 3, none⟩) (Kd.R_far (p := ⟨gb356, 2, none⟩) (Kd.R_far (p := ⟨gb356, 1, none⟩) (Kd.R_far (p := ⟨gb356, 0, none⟩) (Kd.R_types HO_2.out BK356.out (by decide)) (fun _ hk => hk.2) (.int .i64 ((rd_T29 l0 x11_1).f0))) (fun _ hk => hk.2) (.int .i64 ((rd_T29 l0 x11_1).f1))) (fun _ hk => hk.2) (.int .i64 ((rd_T29 l0 x11_1).f2))) (fun _ hk => hk.2) (.int .i64 ((rd_T29 l0 x11_1).f3))) (fun _ hk => hk.2) (.int .i64 ((rd_T29 l0 x11_1).f4))) (fun _ hk => hk.2) (.int .i64 ((rd_T29 l0 x11_1).f5))) (fun _ hk => hk.2) (.int .i64 ((rd_T29 l0 x11_1).f6))) (fun _ hk => hk.2) (.int .i64 ((rd_T29 l0 x11_1).f7))) (fun _ hk => hk.2) (.int .i64 ((rd_T29 l0 x11_1).f8))) (fun _ h_ => h_.1))))) (below_size (by repeat (first | (with_reducible first | exact HB.out | apply below_alloc | apply pw_below_drewN | apply below_drew1 | refine below_set ?_ GE356.out) | exact HB.out)))); have n2_ := Aside0.mk (blk_below (g := gb356) (o := .cells #[.int .i64 ((rd_T29 l0 x11_1).f0), .int .i64 ((rd_T29 l0 x11_1).f1), .int .i64 ((rd_T29 l0 x11_1).f2), .int .i64 ((rd_T29 l0 x11_1).f3), .int .i64 ((rd_T29 l0 x11_1).f4), .int .i64 ((rd_T29 l0 x11_1).f5), .int .i64 ((rd_T29 l0 x11_1).f6), .int .i64 ((rd_T29 l0 x11_1).f7), .int .i64 ((rd_T29 l0 x11_1).f8)] 29 (0, 0)) (by (with_reducible repeat (first | refine blk_drewN ?_ _ | refine blk_drew ?_ | refine blk_alloc ?_ _)); refine blk_put (cs := #[.int .i64 ((rd_T29 l0 x11_1).f0), .int .i64 ((rd_T29 l0 x11_1).f1), .int .i64 ((rd_T29 l0 x11_1).f2), .int .i64 ((rd_T29 l0 x11_1).f3), .int .i64 ((rd_T29 l0 x11_1).f4), .int .i64 ((rd_T29 l0 x11_1).f5), .int .i64 ((rd_T29 l0 x11_1).f6), .int .i64 ((rd_T29 l0 x11_1).f7), .int .i64 0]) ?_ 8 _ rfl; (with_reducible repeat (first | refine blk_drewN ?_ _ | refine blk_drew ?_ | refine blk_alloc ?_ _)); refine blk_put (cs := #[.int .i64 ((rd_T29 l0 x11_1).f0), .int .i64 ((rd_T29 l0 x11_1).f1), .int .i64 ((rd_T29 l0 x11_1).f2), .int .i64 ((rd_T29 l0 x11_1).f3), .int .i64 ((rd_T29 l0 x11_1).f4), .int .i64 ((rd_T29 l0 x11_1).f5), .int .i64 ((rd_T29 l0 x11_1).f6), .int .i64 0, .int .i64 0]) ?_ 7 _ rfl; (with_reducible repeat (first | refine blk_drewN ?_ _ | refine blk_drew ?_ | refine blk_alloc ?_ _)); refine blk_put (cs := #[.int .i64 ((rd_T29 l0 x11_1).f0), .int .i64 ((rd_T29 l0 x11_1).f1), .int .i64 ((rd_T29 l0 x11_1).f2), .int .i64 ((rd_T29 l0 x11_1).f3), .int .i64 ((rd_T29 l0 x11_1).f4), .int .i64 ((rd_T29 l0 x11_1).f5), .int .i64 0, .int .i64 0, .int .i64 0]) ?_ 6 _ rfl; (with_reducible repeat (first | refine blk_drewN ?_ _ | refine blk_drew ?_ | refine blk_alloc ?_ _)); refine blk_put (cs := #[.int .i64 ((rd_T29 l0 x11_1).f0), .int .i64 ((rd_T29 l0 x11_1).f1), .int .i64 ((rd_T29 l0 x11_1).f2), .int .i64 ((rd_T29 l0 x11_1).f3), .int .i64 ((rd_T29 l0 x11_1).f4), .int .i64 0, .int .i64 0, .int .i64 0, .int .i64 0]) ?_ 5 _ rfl; (with_reducible repeat (first | refine blk_drewN ?_ _ | refine blk_drew ?_ | refine blk_alloc ?_ _)); refine blk_put (cs := #[.int .i64 ((rd_T29 l0 x11_1).f0), .int .i64 ((rd_T29 l0 x11_1).f1), .int .i64 ((rd_T29 l0 x11_1).f2), .int .i64 ((rd_T29 l0 x11_1).f3), .int .i64 0, .int .i64 0, .int .i64 0, .int .i64 0, .int .i64 0]) ?_ 4 _ rfl; (with_reducible repeat (first | refine blk_drewN ?_ _ | refine blk_drew ?_ | refine blk_alloc ?_ _)); refine blk_put (cs := #[.int .i64 ((rd_T29 l0 x11_1).f0), .int .i64 ((rd_T29 l0 x11_1).f1), .int .i64 ((rd_T29 l0 x11_1).f2), .int .i64 0, .int .i64 0, .int .i64 0, .int .i64 0, .int .i64 0, .int .i64 0]) ?_ 3 _ rfl; (with_reducible repeat (first | refine blk_drewN ?_ _ | refine blk_drew ?_ | refine blk_alloc ?_ _)); refine blk_put (cs := #[.int .i64 ((rd_T29 l0 x11_1).f0), .int .i64 ((rd_T29 l0 x11_1).f1), .int .i64 0, .int .i64 0, .int .i64 0, .int .i64 0, .int .i64 0, .int .i64 0, .int .i64 0]) ?_ 2 _ rfl; (with_reducible repeat (first | refine blk_drewN ?_ _ | refine blk_drew ?_ | refine blk_alloc ?_ _)); refine blk_put (cs := #[.int .i64 ((rd_T29 l0 x11_1).f0), .int .i64 0, .int .i64 0, .int .i64 0, .int .i64 0, .int .i64 0, .int .i64 0, .int .i64 0, .int .i64 0]) ?_ 1 _ rfl; (with_reducible repeat (first | refine blk_drewN ?_ _ | refine blk_drew ?_ | refine blk_alloc ?_ _)); refine blk_put (cs := #[.int .i64 0, .int .i64 0, .int .i64 0, .int .i64 0, .int .i64 0, .int .i64 0, .int .i64 0, .int .i64 0, .int .i64 0]) ?_ 0 _ rfl; (with_reducible repeat (first | refine blk_drewN ?_ _ | refine blk_drew ?_ | refine blk_alloc ?_ _)); exact BK356.out) hb); have n3_ := Aside0.mk (below_step (by repeat (first | (with_reducible first | exact HB.out | apply below_alloc | apply pw_below_drewN | apply below_drew1 | refine below_set ?_ GE356.out) | exact HB.out)) hb); clear HO_2; clear BK356; clear HB; have HO_2 := n0_; have HO359 := n1_; have BK356 := n2_; have HB := n3_; clear n0_ n1_ n2_ n3_; (try clear hb); (try clear hb2); (try clear hk); (try clear hi); (try clear ho0); obtain ⟨Ao20, co20, eo20⟩ := Kd.R_slice HO359.out; subst eo20) | ((with_reducible refine gate_callee (f := 44) rfl ?_); refine goesL_ (some 25) rfl rfl Try.func44 (by kernel_rfl) rfl #[.slice Ao20 t357.length co20] rfl (by (try simp only [List.map_toArray, List.map_cons, List.map_nil]); first | done | rfl | (simp only [List.length_drop, List.length_take]; rfl)) ?_; (with_reducible refine (frame_Put.calls _ _ t357 t361 t362 _ ?side1 ?side2 A7.out).mono ?_); (case side1 => repeat (first | exact (Kd.R_reads' HO359.out).2.2 | (with_reducible refine Kd.C_alloc ?_ _) | (with_reducible refine Kd.C_drewN ?_ _) | (with_reducible refine Kd.C_drew ?_))); (case side2 => exact (Kd.R_reads' HO359.out).2.1); rintro e w21 ⟨v363, rfl, ho0, hb⟩; refine ⟨_, rfl, ?_⟩; have n0_ := Aside0.mk (Kd.R_elder' (by (with_reducible repeat (first | apply Kd.R_alloc | apply Kd.R_drewN | apply Kd.R_drew)); exact HO_2.out) (Kd.R_base ho0) hb); have n1_ := Aside0.mk (Kd.R_elder' (by (with_reducible repeat (first | apply Kd.R_alloc | apply Kd.R_drewN | apply Kd.R_drew)); exact HO359.out) (Kd.R_base ho0) hb); have n2_ := Aside0.mk (Kd.R_lower (Kd.R_new' (Kd.R_new' ho0 (Kd.R_lt (by (with_reducible repeat (first | apply Kd.R_alloc | apply Kd.R_drewN | apply Kd.R_drew)); exact HO_2.out))) (Kd.R_lt (by (with_reducible repeat (first | apply Kd.R_alloc | apply Kd.R_drewN | apply Kd.R_drew)); exact HO359.out))) (below_size (by repeat (first | (with_reducible first | exact HB.out | apply below_alloc | apply pw_below_drewN | apply below_drew1 | refine below_set ?_ GE356.out) | exact HB.out)))); have n3_ := Aside0.mk (blk_below (g := gb356) (o := .cells #[.int .i64 ((rd_T29 l0 x11_1).f0), .int .i64 ((rd_T29 l0 x11_1).f1), .int .i64 ((rd_T29 l0 x11_1).f2), .int .i64 ((rd_T29 l0 x11_1).f3), .int .i64 ((rd_T29 l0 x11_1).f4), .int .i64 ((rd_T29 l0 x11_1).f5), .int .i64 ((rd_T29 l0 x11_1).f6), .int .i64 ((rd_T29 l0 x11_1).f7), .int .i64 ((rd_T29 l0 x11_1).f8)] 29 (0, 0)) (by (with_reducible repeat (first | refine blk_drewN ?_ _ | refine blk_drew ?_ | refine blk_alloc ?_ _)); exact BK356.out) hb); have n4_ := Aside0.mk (below_step (by repeat (first | (with_reducible first | exact HB.out | apply below_alloc | apply pw_below_drewN | apply below_drew1 | refine below_set ?_ GE356.out) | exact HB.out)) hb); clear HO_2; clear HO359; clear BK356; clear HB; have HO_2 := n0_; have HO359 := n1_; have HO364 := n2_; have BK356 := n3_; have HB := n4_; clear n0_ n1_ n2_ n3_ n4_; (try clear hb); (try clear hb2); (try clear hk); (try clear hi); (try clear ho0)))
                go_ret2
                exact ⟨_, by first | rfl | (simp [errW_none, errW_some] <;> rfl) | (simp [*, errW_none, errW_some] <;> rfl), by first | exact Kd.R_nil _ _ _ _ _ | exact Kd.N_nil _ _ _ _ _ | exact Kd.V_nil _ _ _ _ _ | exact Kd.Q_nil _ _ _ _ _ | exact Kd.S_nil _ _ _ _ _, by repeat (first | (with_reducible first | exact HB.out | apply below_alloc | apply pw_below_drewN | apply below_drew1 | refine below_set ?_ GE356.out) | exact HB.out)⟩
            · rw [if_neg c6] at H
              have c6b0 : (t360 == 0) = false := beq_eq_false_iff_ne.mpr c6
              have c6b1 : (t360 != 0) = true := bne_iff_ne.mpr c6
              simp only [Option.some.injEq, Prod.mk.injEq] at H
              obtain ⟨rfl, rfl⟩ := H
              have p355 : 0 ≤ (x11_1 : Int) := of_decide_eq_true (by first | (with_reducible assumption) | assumption)
              have q355 : x11_1 < (l0.length : Int) := of_decide_eq_true (by first | (with_reducible assumption) | assumption)
              obtain ⟨ad355, e355, hx355_0, hx355_1, hx355_2, hx355_3, hx355_4, hx355_5, hx355_6, hx355_7, hx355_8⟩ := at_T29 HR0.out x11_1 p355 q355
              cases e355
              replace hx355_0 := (HB.out.cell (World.block_lt_of_cell? w _ hx355_0)).trans hx355_0
              replace hx355_1 := (HB.out.cell (World.block_lt_of_cell? w _ hx355_1)).trans hx355_1
              replace hx355_2 := (HB.out.cell (World.block_lt_of_cell? w _ hx355_2)).trans hx355_2
              replace hx355_3 := (HB.out.cell (World.block_lt_of_cell? w _ hx355_3)).trans hx355_3
              replace hx355_4 := (HB.out.cell (World.block_lt_of_cell? w _ hx355_4)).trans hx355_4
              replace hx355_5 := (HB.out.cell (World.block_lt_of_cell? w _ hx355_5)).trans hx355_5
              replace hx355_6 := (HB.out.cell (World.block_lt_of_cell? w _ hx355_6)).trans hx355_6
              replace hx355_7 := (HB.out.cell (World.block_lt_of_cell? w _ hx355_7)).trans hx355_7
              replace hx355_8 := (HB.out.cell (World.block_lt_of_cell? w _ hx355_8)).trans hx355_8
              replace p355 := eq_true p355
              replace q355 := eq_true q355
              go_wp2_with (first | ((with_reducible refine gate_dst (N := 5) rfl ?_); refine box_event ?hg (N := 5) ?hd (cs := #[.int .i64 0, .int .i64 0, .int .i64 0, .int .i64 0, .int .i64 0, .int .i64 0, .int .i64 0, .int .i64 0, .int .i64 0]) (t := 29) ?hr ?_; (case hd => rfl); (case hg => rfl); (case hr => first | (go_simp; done) | (go_simp; rfl)); intro gb356 hg w22 hbox hb; have n0_ := Aside0.mk (Kd.R_below (by (with_reducible repeat (first | apply Kd.R_alloc | apply Kd.R_drewN | apply Kd.R_drew)); exact HO_2.out) hb); have n1_ := Aside0.mk (below_step (by repeat (first | (with_reducible first | exact HB.out | apply below_alloc | apply pw_below_drewN | apply below_drew1) | exact HB.out)) hb); have n2_ := Aside0.mk (hbox); have n3_ := Aside0.mk ((by rw [hg]; exact (below_size (by repeat (first | (with_reducible first | exact HB.out | apply below_alloc | apply pw_below_drewN | apply below_drew1) | exact HB.out))) : w.heap.size ≤ gb356)); have n4_ := Aside0.mk ((by rw [hg]; exact (below_size (by repeat (first | (with_reducible first | exact HB.out | apply below_alloc | apply pw_below_drewN | apply below_drew1) | exact HB.out))) : w.heap.size ≤ gb356)); clear HO_2; clear HB; have HO_2 := n0_; have HB := n1_; have BK356 := n2_; have GW356 := n3_; have GE356 := n4_; clear n0_ n1_ n2_ n3_ n4_; clear hb hbox hg; have hcz23_0 : w22.cell? ⟨gb356, 0, none⟩ = some (.int .i64 0) := (blk_cell BK356.out 0).trans rfl; have hcz23_1 : w22.cell? ⟨gb356, 1, none⟩ = some (.int .i64 0) := (blk_cell BK356.out 1).trans rfl; have hcz23_2 : w22.cell? ⟨gb356, 2, none⟩ = some (.int .i64 0) := (blk_cell BK356.out 2).trans rfl; have hcz23_3 : w22.cell? ⟨gb356, 3, none⟩ = some (.int .i64 0) := (blk_cell BK356.out 3).trans rfl; have hcz23_4 : w22.cell? ⟨gb356, 4, none⟩ = some (.int .i64 0) := (blk_cell BK356.out 4).trans rfl; have hcz23_5 : w22.cell? ⟨gb356, 5, none⟩ = some (.int .i64 0) := (blk_cell BK356.out 5).trans rfl; have hcz23_6 : w22.cell? ⟨gb356, 6, none⟩ = some (.int .i64 0) := (blk_cell BK356.out 6).trans rfl; have hcz23_7 : w22.cell? ⟨gb356, 7, none⟩ = some (.int .i64 0) := (blk_cell BK356.out 7).trans rfl; have hcz23_8 : w22.cell? ⟨gb356, 8, none⟩ = some (.int .i64 0) := (blk_cell BK356.out 8).trans rfl; have hfz23_0 := blk_frozen BK356.out 0; have hfz23_1 := blk_frozen BK356.out 1; have hfz23_2 := blk_frozen BK356.out 2; have hfz23_3 := blk_frozen BK356.out 3; have hfz23_4 := blk_frozen BK356.out 4; have hfz23_5 := blk_frozen BK356.out 5; have hfz23_6 := blk_frozen BK356.out 6; have hfz23_7 := blk_frozen BK356.out 7; have hfz23_8 := blk_frozen BK356.out 8) | ((with_reducible refine gate_callee (f := 29) rfl ?_); refine goesL_ (some 17) rfl rfl Try.func29 (by kernel_rfl) rfl #[.agg #[.int .i64 ((rd_T29 l0 x11_1).f0), .int .i64 ((rd_T29 l0 x11_1).f1), .int .i64 ((rd_T29 l0 x11_1).f2), .int .i64 ((rd_T29 l0 x11_1).f3), .int .i64 ((rd_T29 l0 x11_1).f4), .int .i64 ((rd_T29 l0 x11_1).f5), .int .i64 ((rd_T29 l0 x11_1).f6), .int .i64 ((rd_T29 l0 x11_1).f7), .int .i64 ((rd_T29 l0 x11_1).f8)]] rfl (by (try simp only [List.map_toArray, List.map_cons, List.map_nil]); first | done | rfl | (simp only [List.length_drop, List.length_take]; rfl)) ?_; (with_reducible refine (message_Encode.calls ((rd_T29 l0 x11_1).f0) ((rd_T29 l0 x11_1).f1) ((rd_T29 l0 x11_1).f2) ((rd_T29 l0 x11_1).f3) ((rd_T29 l0 x11_1).f4) ((rd_T29 l0 x11_1).f5) ((rd_T29 l0 x11_1).f6) ((rd_T29 l0 x11_1).f7) ((rd_T29 l0 x11_1).f8) t357 t360 _ A5.out).mono ?_); rintro e w24 ⟨v358, rfl, ho0, hb⟩; refine ⟨_, rfl, ?_⟩; have n0_ := Aside0.mk (Kd.R_elder' (by (with_reducible repeat (first | apply Kd.R_alloc | apply Kd.R_drewN | apply Kd.R_drew)); exact (Kd.R_mono (Kd.R_far (p := ⟨gb356, 8, none⟩) (Kd.R_far (p := ⟨gb356, 7, none⟩) (Kd.R_far (p := ⟨gb356, 6, none⟩) (Kd.R_far (p := ⟨gb356, 5, none⟩) (Kd.R_far (p := ⟨gb356, 4, none⟩) (Kd.R_far (p := ⟨gb356, 3, none⟩) (Kd.R_far (p := ⟨gb356, 2, none⟩) (Kd.R_far (p := ⟨gb356, 1, none⟩) (Kd.R_far (p := ⟨gb356, 0, none⟩) (Kd.R_types HO_2.out BK356.out (by decide)) (fun _ hk => hk.2) (.int .i64 ((rd_T29 l0 x11_1).f0))) (fun _ hk => hk.2) (.int .i64 ((rd_T29 l0 x11_1).f1))) (fun _ hk => hk.2) (.int .i64 ((rd_T29 l0 x11_1).f2))) (fun _ hk => hk.2) (.int .i64 ((rd_T29 l0 x11_1).f3))) (fun _ hk => hk.2) (.int .i64 ((rd_T29 l0 x11_1).f4))) (fun _ hk => hk.2) (.int .i64 ((rd_T29 l0 x11_1).f5))) (fun _ hk => hk.2) (.int .i64 ((rd_T29 l0 x11_1).f6))) (fun _ hk => hk.2) (.int .i64 ((rd_T29 l0 x11_1).f7))) (fun _ hk => hk.2) (.int .i64 ((rd_T29 l0 x11_1).f8))) (fun _ h_ => h_.1))) (Kd.R_base ho0) hb); have n1_ := Aside0.mk (Kd.R_lower (Kd.R_new' ho0 (Kd.R_lt (by (with_reducible repeat (first | apply Kd.R_alloc | apply Kd.R_drewN | apply Kd.R_drew)); exact (Kd.R_mono (Kd.R_far (p := ⟨gb356, 8, none⟩) (Kd.R_far (p := ⟨gb356, 7, none⟩) (Kd.R_far (p := ⟨gb356, 6, none⟩) (Kd.R_far (p := ⟨gb356, 5, none⟩) (Kd.R_far (p := ⟨gb356, 4, none⟩) (Kd.R_far (p := ⟨gb356, 3, none⟩) (Kd.R_far (p := ⟨gb356, 2, none⟩) (Kd.R_far (p := ⟨gb356, 1, none⟩) (Kd.R_far (p := ⟨gb356, 0, none⟩) (Kd.R_types HO_2.out BK356.out (by decide)) (fun _ hk => hk.2) (.int .i64 ((rd_T29 l0 x11_1).f0))) (fun _ hk => hk.2) (.int .i64 ((rd_T29 l0 x11_1).f1))) (fun _ hk => hk.2) (.int .i64 ((rd_T29 l0 x11_1).f2))) (fun _ hk => hk.2) (.int .i64 ((rd_T29 l0 x11_1).f3))) (fun _ hk => hk.2) (.int .i64 ((rd_T29 l0 x11_1).f4))) (fun _ hk => hk.2) (.int .i64 ((rd_T29 l0 x11_1).f5))) (fun _ hk => hk.2) (.int .i64 ((rd_T29 l0 x11_1).f6))) (fun _ hk => hk.2) (.int .i64 ((rd_T29 l0 x11_1).f7))) (fun _ hk => hk.2) (.int .i64 ((rd_T29 l0 x11_1).f8))) (fun _ h_ => h_.1))))) (below_size (by repeat (first | (with_reducible first | exact HB.out | apply below_alloc | apply pw_below_drewN | apply below_drew1 | refine below_set ?_ GE356.out) | exact HB.out)))); have n2_ := Aside0.mk (blk_below (g := gb356) (o := .cells #[.int .i64 ((rd_T29 l0 x11_1).f0), .int .i64 ((rd_T29 l0 x11_1).f1), .int .i64 ((rd_T29 l0 x11_1).f2), .int .i64 ((rd_T29 l0 x11_1).f3), .int .i64 ((rd_T29 l0 x11_1).f4), .int .i64 ((rd_T29 l0 x11_1).f5), .int .i64 ((rd_T29 l0 x11_1).f6), .int .i64 ((rd_T29 l0 x11_1).f7), .int .i64 ((rd_T29 l0 x11_1).f8)] 29 (0, 0)) (by (with_reducible repeat (first | refine blk_drewN ?_ _ | refine blk_drew ?_ | refine blk_alloc ?_ _)); refine blk_put (cs := #[.int .i64 ((rd_T29 l0 x11_1).f0), .int .i64 ((rd_T29 l0 x11_1).f1), .int .i64 ((rd_T29 l0 x11_1).f2), .int .i64 ((rd_T29 l0 x11_1).f3), .int .i64 ((rd_T29 l0 x11_1).f4), .int .i64 ((rd_T29 l0 x11_1).f5), .int .i64 ((rd_T29 l0 x11_1).f6), .int .i64 ((rd_T29 l0 x11_1).f7), .int .i64 0]) ?_ 8 _ rfl; (with_reducible repeat (first | refine blk_drewN ?_ _ | refine blk_drew ?_ | refine blk_alloc ?_ _)); refine blk_put (cs := #[.int .i64 ((rd_T29 l0 x11_1).f0), .int .i64 ((rd_T29 l0 x11_1).f1), .int .i64 ((rd_T29 l0 x11_1).f2), .int .i64 ((rd_T29 l0 x11_1).f3), .int .i64 ((rd_T29 l0 x11_1).f4), .int .i64 ((rd_T29 l0 x11_1).f5), .int .i64 ((rd_T29 l0 x11_1).f6), .int .i64 0, .int .i64 0]) ?_ 7 _ rfl; (with_reducible repeat (first | refine blk_drewN ?_ _ | refine blk_drew ?_ | refine blk_alloc ?_ _)); refine blk_put (cs := #[.int .i64 ((rd_T29 l0 x11_1).f0), .int .i64 ((rd_T29 l0 x11_1).f1), .int .i64 ((rd_T29 l0 x11_1).f2), .int .i64 ((rd_T29 l0 x11_1).f3), .int .i64 ((rd_T29 l0 x11_1).f4), .int .i64 ((rd_T29 l0 x11_1).f5), .int .i64 0, .int .i64 0, .int .i64 0]) ?_ 6 _ rfl; (with_reducible repeat (first | refine blk_drewN ?_ _ | refine blk_drew ?_ | refine blk_alloc ?_ _)); refine blk_put (cs := #[.int .i64 ((rd_T29 l0 x11_1).f0), .int .i64 ((rd_T29 l0 x11_1).f1), .int .i64 ((rd_T29 l0 x11_1).f2), .int .i64 ((rd_T29 l0 x11_1).f3), .int .i64 ((rd_T29 l0 x11_1).f4), .int .i64 0, .int .i64 0, .int .i64 0, .int .i64 0]) ?_ 5 _ rfl; (with_reducible repeat (first | refine blk_drewN ?_ _ | refine blk_drew ?_ | refine blk_alloc ?_ _)); refine blk_put (cs := #[.int .i64 ((rd_T29 l0 x11_1).f0), .int .i64 ((rd_T29 l0 x11_1).f1), .int .i64 ((rd_T29 l0 x11_1).f2), .int .i64 ((rd_T29 l0 x11_1).f3), .int .i64 0, .int .i64 0, .int .i64 0, .int .i64 0, .int .i64 0]) ?_ 4 _ rfl; (with_reducible repeat (first | refine blk_drewN ?_ _ | refine blk_drew ?_ | refine blk_alloc ?_ _)); refine blk_put (cs := #[.int .i64 ((rd_T29 l0 x11_1).f0), .int .i64 ((rd_T29 l0 x11_1).f1), .int .i64 ((rd_T29 l0 x11_1).f2), .int .i64 0, .int .i64 0, .int .i64 0, .int .i64 0, .int .i64 0, .int .i64 0]) ?_ 3 _ rfl; (with_reducible repeat (first | refine blk_drewN ?_ _ | refine blk_drew ?_ | refine blk_alloc ?_ _)); refine blk_put (cs := #[.int .i64 ((rd_T29 l0 x11_1).f0), .int .i64 ((rd_T29 l0 x11_1).f1), .int .i64 0, .int .i64 0, .int .i64 0, .int .i64 0, .int .i64 0, .int .i64 0, .int .i64 0]) ?_ 2 _ rfl; (with_reducible repeat (first | refine blk_drewN ?_ _ | refine blk_drew ?_ | refine blk_alloc ?_ _)); refine blk_put (cs := #[.int .i64 ((rd_T29 l0 x11_1).f0), .int .i64 0, .int .i64 0, .int .i64 0, .int .i64 0, .int .i64 0, .int .i64 0, .int .i64 0, .int .i64 0]) ?_ 1 _ rfl; (with_reducible repeat (first | refine blk_drewN ?_ _ | refine blk_drew ?_ | refine blk_alloc ?_ _)); refine blk_put (cs := #[.int .i64 0, .int .i64 0, .int .i64 0, .int .i64 0, .int .i64 0, .int .i64 0, .int .i64 0, .int .i64 0, .int .i64 0]) ?_ 0 _ rfl; (with_reducible repeat (first | refine blk_drewN ?_ _ | refine blk_drew ?_ | refine blk_alloc ?_ _)); exact BK356.out) hb); have n3_ := Aside0.mk (below_step (by repeat (first | (with_reducible first | exact HB.out | apply below_alloc | apply pw_below_drewN | apply below_drew1 | refine below_set ?_ GE356.out) | exact HB.out)) hb); clear HO_2; clear BK356; clear HB; have HO_2 := n0_; have HO359 := n1_; have BK356 := n2_; have HB := n3_; clear n0_ n1_ n2_ n3_; (try clear hb); (try clear hb2); (try clear hk); (try clear hi); (try clear ho0)))
              go_ret2
              exact ⟨_, by first | rfl | (simp [errW_none, errW_some] <;> rfl) | (simp [*, errW_none, errW_some] <;> rfl), by first | exact Kd.R_nil _ _ _ _ _ | exact Kd.N_nil _ _ _ _ _ | exact Kd.V_nil _ _ _ _ _ | exact Kd.Q_nil _ _ _ _ _ | exact Kd.S_nil _ _ _ _ _, by repeat (first | (with_reducible first | exact HB.out | apply below_alloc | apply pw_below_drewN | apply below_drew1 | refine below_set ?_ GE356.out) | exact HB.out)⟩
          · rw [if_neg c4] at H
            exact absurd H (by simp)
        · rw [if_neg c3] at H
          exact absurd H (by simp)
      · rw [if_neg c2] at H
        have c2b0 : decide (x11_1 < (l0.length : Int)) = false := decide_eq_false c2
        clear c2
        simp only [Option.some.injEq, Prod.mk.injEq] at H
        obtain ⟨rfl, rfl⟩ := H
        go_wp2
        go_ret2
        exact ⟨_, by first | rfl | (simp [errW_none, errW_some] <;> rfl) | (simp [*, errW_none, errW_some] <;> rfl), by (with_reducible repeat (first | apply Kd.R_alloc | apply Kd.R_drewN | apply Kd.R_drew)); exact HO_2.out, by repeat (first | (with_reducible first | exact HB.out | apply below_alloc | apply pw_below_drewN | apply below_drew1) | exact HB.out)⟩

end Go.Proofs.Ytalpemoodollpaa.P
-- Printed by hookprint.py (the session's own program, over the kit's print.py): checked by Lean like any text.
namespace Go.Proofs.Ytalpemoodollpaa.P
open Go.RowKit Go.Proofs.YtalpemoodollpaaW.PrintWords Go.Proofs.YtalpemoodollpaaW.PrintLast Go.Proofs.YtalpemoodollpaaW.PrintMore
attribute [local go_sem] max2_int min2_int max_two min_two max_three min_three max_four min_four   -- for this text's walks alone
set_option linter.unusedVariables false
set_option linter.unusedSimpArgs false

theorem eqA29 (d : Nat) (w : World) (x0 y0 : Int) (x1 y1 : Int) (x2 y2 : Int) (x3 y3 : Int) (x4 y4 : Int) (x5 y5 : Int) (x6 y6 : Int) (x7 y7 : Int) (x8 y8 : Int) :
    (Op.equalIn (d + 2) 29 (.agg #[.int .i64 x0, .int .i64 x1, .int .i64 x2, .int .i64 x3, .int .i64 x4, .int .i64 x5, .int .i64 x6, .int .i64 x7, .int .i64 x8]) (.agg #[.int .i64 y0, .int .i64 y1, .int .i64 y2, .int .i64 y3, .int .i64 y4, .int .i64 y5, .int .i64 y6, .int .i64 y7, .int .i64 y8])).run Try.prog w = .ok (x0 == y0 && (x1 == y1 && (x2 == y2 && (x3 == y3 && (x4 == y4 && (x5 == y5 && (x6 == y6 && (x7 == y7 && (x8 == y8))))))))) w := by
  refine eqA_of Try.underlying29 (by kernel_rfl) ?_
  refine eqf_cons (by rfl) (by go_simp; rfl) (by go_simp; rfl) (by go_simp) ?_
  refine eqf_cons (by rfl) (by go_simp; rfl) (by go_simp; rfl) (by go_simp) ?_
  refine eqf_cons (by rfl) (by go_simp; rfl) (by go_simp; rfl) (by go_simp) ?_
  refine eqf_cons (by rfl) (by go_simp; rfl) (by go_simp; rfl) (by go_simp) ?_
  refine eqf_cons (by rfl) (by go_simp; rfl) (by go_simp; rfl) (by go_simp) ?_
  refine eqf_cons (by rfl) (by go_simp; rfl) (by go_simp; rfl) (by go_simp) ?_
  refine eqf_cons (by rfl) (by go_simp; rfl) (by go_simp; rfl) (by go_simp) ?_
  refine eqf_cons (by rfl) (by go_simp; rfl) (by go_simp; rfl) (by go_simp) ?_
  exact eqf_last (by rfl) (by go_simp; rfl) (by go_simp; rfl) (by go_simp)
end Go.Proofs.Ytalpemoodollpaa.P
-- Printed by hookprint.py (the session's own program, over the kit's print.py): checked by Lean like any text.
namespace Go.Proofs.Ytalpemoodollpaa.P
open Go.RowKit Go.Proofs.YtalpemoodollpaaW.PrintWords Go.Proofs.YtalpemoodollpaaW.PrintLast Go.Proofs.YtalpemoodollpaaW.PrintMore
attribute [local go_sem] max2_int min2_int max_two min_two max_three min_three max_four min_four   -- for this text's walks alone
set_option linter.unusedVariables false
set_option linter.unusedSimpArgs false

attribute [local go_sem high] eqA29
/-! ### damperref06_Lists: function 59 -/
def damperref06_Lists.l0 : Nat → List (S29) → List (S29) → Int → Option (Bool)
  | 0, _, _, _ => none
  | k + 1, x0, x1, x5 => if x5 < (x0.length : Int) then (if 0 ≤ x5 then (if x5 < (x1.length : Int) then (if (!(((rd_T29 x0 x5).f0) == ((rd_T29 x1 x5).f0)) || (!(((rd_T29 x0 x5).f1) == ((rd_T29 x1 x5).f1)) || (!(((rd_T29 x0 x5).f2) == ((rd_T29 x1 x5).f2)) || (!(((rd_T29 x0 x5).f3) == ((rd_T29 x1 x5).f3)) || (!(((rd_T29 x0 x5).f4) == ((rd_T29 x1 x5).f4)) || (!(((rd_T29 x0 x5).f5) == ((rd_T29 x1 x5).f5)) || (!(((rd_T29 x0 x5).f6) == ((rd_T29 x1 x5).f6)) || (!(((rd_T29 x0 x5).f7) == ((rd_T29 x1 x5).f7)) || (!(((rd_T29 x0 x5).f8) == ((rd_T29 x1 x5).f8))))))))))) = true then (some false) else (damperref06_Lists.l0 k x0 x1 (wrap64 (x5 + 1)))) else (none)) else (none)) else (some true)
def damperref06_Lists.f (k : Nat) (l0 : List (S29)) (l1 : List (S29)) : Option (Bool) := if (l0.length : Int) = (l1.length : Int) then (damperref06_Lists.l0 k l0 l1 0) else (some false)
theorem damperref06_Lists.mono_l : ∀ k, (∀ y0 y1 y2, LeO (damperref06_Lists.l0 k y0 y1 y2) (damperref06_Lists.l0 (k + 1) y0 y1 y2))
  | 0 => fun _ _ _ r h => by simp [damperref06_Lists.l0] at h
  | k + 1 => by
    have ih0 := damperref06_Lists.mono_l k
    · intro y0 y1 y2
      unfold damperref06_Lists.l0
      repeat' first
      | (with_reducible exact ih0 _ _ _)
      | (with_reducible exact LeO.refl _)
      | (with_reducible exact LeO.none _)
      | (with_reducible refine LeO.ite ?_ ?_)
      | (with_reducible refine LeO.bind ?_ (fun _ => ?_))
      | exact ih0 _ _ _
      | exact LeO.none _
      | refine LeO.ite ?_ ?_
      | refine LeO.bind ?_ (fun _ => ?_)
theorem damperref06_Lists.mono : ∀ a0 a1 k, LeO (damperref06_Lists.f k a0 a1) (damperref06_Lists.f (k + 1) a0 a1) := by
  intro a0 a1 k
  have ih0 := damperref06_Lists.mono_l k
  unfold damperref06_Lists.f
  repeat' first
      | (with_reducible exact ih0 _ _ _)
      | (with_reducible exact LeO.refl _)
      | (with_reducible exact LeO.none _)
      | (with_reducible refine LeO.ite ?_ ?_)
      | (with_reducible refine LeO.bind ?_ (fun _ => ?_))
      | exact ih0 _ _ _
      | exact LeO.none _
      | refine LeO.ite ?_ ?_
      | refine LeO.bind ?_ (fun _ => ?_)
set_option maxHeartbeats 8000000 in
set_option maxRecDepth 100000 in
theorem damperref06_Lists.calls (k : Nat) (A0 : Option Addr) (c0 : Nat) (l0 : List (S29)) (A1 : Option Addr) (c1 : Nat) (l1 : List (S29)) (r : Bool) (w : World) (hr0 : Kd.C k29 w A0 l0.length l0) (hc0 : l0.length ≤ c0) (hr1 : Kd.C k29 w A1 l1.length l1) (hc1 : l1.length ≤ c1) (h : damperref06_Lists.f k l0 l1 = some r) :
    Calls Try.prog 59 #[.slice A0 l0.length c0, .slice A1 l1.length c1] w fun e w' => e = .returned (.bool r) ∧ Drawn0 w w' := by
  have hu29 := Try.underlying29
  have HR0 := Aside0.mk hr0
  have HC0 := Aside0.mk hc0
  clear hr0 hc0
  have HR1 := Aside0.mk hr1
  have HC1 := Aside0.mk hc1
  clear hr1 hc1
  have H : (if (l0.length : Int) = (l1.length : Int) then (damperref06_Lists.l0 k l0 l1 0) else (some false)) = some r := h
  clear h
  by_cases c3 : (l0.length : Int) = (l1.length : Int)
  · rw [if_pos c3] at H
    have c3b0 : ((l0.length : Int) == (l1.length : Int)) = true := beq_iff_eq.mpr c3
    have c3b1 : ((l0.length : Int) != (l1.length : Int)) = false := bne_eq_false_iff_eq.mpr c3
    have c3b2 : (l0.length == l1.length) = true := by first | simpa using c3 | (simp at c3 ⊢; omega)
    clear c3
    have H' := Aside0.mk H
    clear H
    go_enter Try.func59, Try.ntmps59
    go_wp2
    repeat (go_quiet (fail); try go_wp2)
    go_loopg [5] k (fun kq v5 w' => ∃ (x5_1 : Int), v5 = .int .i64 x5_1 ∧ Aside0 (damperref06_Lists.l0 kq l0 l1 x5_1 = some r) ∧ Aside0 (kq ≤ k) ∧ Drawn0 w w')
    case atStart => exact ⟨(0), (by first | rfl | (simp; done) | (simp [*]; done)), H', ⟨Nat.le_refl _⟩, by repeat (first | exact Drawn0.refl _ | apply Drawn0.step)⟩
    case round =>
      clear H'
      try clear c1
      try clear p2
      try clear c3
      try clear c3b0
      try clear c3b1
      try clear c3b2
      obtain ⟨x5_1, rfl, HA, HK1, ⟨m1, rfl⟩⟩ := hrel
      cases gk with
      | zero => exact absurd HA.out (by simp [damperref06_Lists.l0])
      | succ k1 =>
        have H := HA.out
        clear HA
        simp only [damperref06_Lists.l0] at H
        by_cases c4 : x5_1 < (l0.length : Int)
        · rw [if_pos c4] at H
          have c4b0 : decide (x5_1 < (l0.length : Int)) = true := decide_eq_true c4
          clear c4
          by_cases c5 : 0 ≤ x5_1
          · rw [if_pos c5] at H
            have c5b0 : decide (0 ≤ x5_1) = true := decide_eq_true c5
            clear c5
            by_cases c6 : x5_1 < (l1.length : Int)
            · rw [if_pos c6] at H
              have c6b0 : decide (x5_1 < (l1.length : Int)) = true := decide_eq_true c6
              clear c6
              by_cases c7 : (!(((rd_T29 l0 x5_1).f0) == ((rd_T29 l1 x5_1).f0)) || (!(((rd_T29 l0 x5_1).f1) == ((rd_T29 l1 x5_1).f1)) || (!(((rd_T29 l0 x5_1).f2) == ((rd_T29 l1 x5_1).f2)) || (!(((rd_T29 l0 x5_1).f3) == ((rd_T29 l1 x5_1).f3)) || (!(((rd_T29 l0 x5_1).f4) == ((rd_T29 l1 x5_1).f4)) || (!(((rd_T29 l0 x5_1).f5) == ((rd_T29 l1 x5_1).f5)) || (!(((rd_T29 l0 x5_1).f6) == ((rd_T29 l1 x5_1).f6)) || (!(((rd_T29 l0 x5_1).f7) == ((rd_T29 l1 x5_1).f7)) || (!(((rd_T29 l0 x5_1).f8) == ((rd_T29 l1 x5_1).f8))))))))))) = true
              · rw [if_pos c7] at H
                have c7b0 : (!(((rd_T29 l0 x5_1).f0) == ((rd_T29 l1 x5_1).f0)) || (!(((rd_T29 l0 x5_1).f1) == ((rd_T29 l1 x5_1).f1)) || (!(((rd_T29 l0 x5_1).f2) == ((rd_T29 l1 x5_1).f2)) || (!(((rd_T29 l0 x5_1).f3) == ((rd_T29 l1 x5_1).f3)) || (!(((rd_T29 l0 x5_1).f4) == ((rd_T29 l1 x5_1).f4)) || (!(((rd_T29 l0 x5_1).f5) == ((rd_T29 l1 x5_1).f5)) || (!(((rd_T29 l0 x5_1).f6) == ((rd_T29 l1 x5_1).f6)) || (!(((rd_T29 l0 x5_1).f7) == ((rd_T29 l1 x5_1).f7)) || (!(((rd_T29 l0 x5_1).f8) == ((rd_T29 l1 x5_1).f8))))))))))) = true := c7
                clear c7
                obtain rfl := Option.some.inj H
                have p368 : 0 ≤ (x5_1 : Int) := of_decide_eq_true (by first | (with_reducible assumption) | assumption)
                have q368 : x5_1 < (l0.length : Int) := of_decide_eq_true (by first | (with_reducible assumption) | assumption)
                obtain ⟨ad368, e368, hx368_0, hx368_1, hx368_2, hx368_3, hx368_4, hx368_5, hx368_6, hx368_7, hx368_8⟩ := at_T29 HR0.out x5_1 p368 q368
                cases e368
                replace p368 := eq_true p368
                replace q368 := eq_true q368
                have p369 : 0 ≤ (x5_1 : Int) := of_decide_eq_true (by first | (with_reducible assumption) | assumption)
                have q369 : x5_1 < (l1.length : Int) := of_decide_eq_true (by first | (with_reducible assumption) | assumption)
                obtain ⟨ad369, e369, hx369_0, hx369_1, hx369_2, hx369_3, hx369_4, hx369_5, hx369_6, hx369_7, hx369_8⟩ := at_T29 HR1.out x5_1 p369 q369
                cases e369
                replace p369 := eq_true p369
                replace q369 := eq_true q369
                go_wp2
                repeat (go_quiet (fail); try go_wp2)
                go_ret
                exact ⟨by first | rfl | (simp; done) | (simp [*]; done), by repeat (first | exact Drawn0.refl _ | apply Drawn0.step)⟩
              · rw [if_neg c7] at H
                have c7b0 : (!(((rd_T29 l0 x5_1).f0) == ((rd_T29 l1 x5_1).f0)) || (!(((rd_T29 l0 x5_1).f1) == ((rd_T29 l1 x5_1).f1)) || (!(((rd_T29 l0 x5_1).f2) == ((rd_T29 l1 x5_1).f2)) || (!(((rd_T29 l0 x5_1).f3) == ((rd_T29 l1 x5_1).f3)) || (!(((rd_T29 l0 x5_1).f4) == ((rd_T29 l1 x5_1).f4)) || (!(((rd_T29 l0 x5_1).f5) == ((rd_T29 l1 x5_1).f5)) || (!(((rd_T29 l0 x5_1).f6) == ((rd_T29 l1 x5_1).f6)) || (!(((rd_T29 l0 x5_1).f7) == ((rd_T29 l1 x5_1).f7)) || (!(((rd_T29 l0 x5_1).f8) == ((rd_T29 l1 x5_1).f8))))))))))) = false := by simpa using c7
                clear c7
                have H' := Aside0.mk H
                clear H
                have p368 : 0 ≤ (x5_1 : Int) := of_decide_eq_true (by first | (with_reducible assumption) | assumption)
                have q368 : x5_1 < (l0.length : Int) := of_decide_eq_true (by first | (with_reducible assumption) | assumption)
                obtain ⟨ad368, e368, hx368_0, hx368_1, hx368_2, hx368_3, hx368_4, hx368_5, hx368_6, hx368_7, hx368_8⟩ := at_T29 HR0.out x5_1 p368 q368
                cases e368
                replace p368 := eq_true p368
                replace q368 := eq_true q368
                have p369 : 0 ≤ (x5_1 : Int) := of_decide_eq_true (by first | (with_reducible assumption) | assumption)
                have q369 : x5_1 < (l1.length : Int) := of_decide_eq_true (by first | (with_reducible assumption) | assumption)
                obtain ⟨ad369, e369, hx369_0, hx369_1, hx369_2, hx369_3, hx369_4, hx369_5, hx369_6, hx369_7, hx369_8⟩ := at_T29 HR1.out x5_1 p369 q369
                cases e369
                replace p369 := eq_true p369
                replace q369 := eq_true q369
                go_wp2
                repeat (go_quiet (fail); try go_wp2)
                go_roundg k1
                case measure => have := HK1.out; omega
                case rel => exact ⟨(wrap64 (x5_1 + 1)), (by first | rfl | (simp; done) | (simp [*]; done)), H', ⟨by have := HK1.out; omega⟩, by repeat (first | exact Drawn0.refl _ | apply Drawn0.step)⟩
            · rw [if_neg c6] at H
              exact absurd H (by simp)
          · rw [if_neg c5] at H
            exact absurd H (by simp)
        · rw [if_neg c4] at H
          have c4b0 : decide (x5_1 < (l0.length : Int)) = false := decide_eq_false c4
          clear c4
          obtain rfl := Option.some.inj H
          go_wp2
          repeat (go_quiet (fail); try go_wp2)
          go_ret
          exact ⟨by first | rfl | (simp; done) | (simp [*]; done), by repeat (first | exact Drawn0.refl _ | apply Drawn0.step)⟩
  · rw [if_neg c3] at H
    have c3b0 : ((l0.length : Int) == (l1.length : Int)) = false := beq_eq_false_iff_ne.mpr c3
    have c3b1 : ((l0.length : Int) != (l1.length : Int)) = true := bne_iff_ne.mpr c3
    have c3b2 : (l0.length == l1.length) = false := by first | simpa using c3 | (simp at c3 ⊢; omega)
    obtain rfl := Option.some.inj H
    go_enter Try.func59, Try.ntmps59
    go_wp2
    repeat (go_quiet (fail); try go_wp2)
    go_ret
    exact ⟨by first | rfl | (simp; done) | (simp [*]; done), by repeat (first | exact Drawn0.refl _ | apply Drawn0.step)⟩

end Go.Proofs.Ytalpemoodollpaa.P
-- Printed by hookprint.py (the session's own program, over the kit's print.py): checked by Lean like any text.
namespace Go.Proofs.Ytalpemoodollpaa.P
open Go.RowKit Go.Proofs.YtalpemoodollpaaW.PrintWords Go.Proofs.YtalpemoodollpaaW.PrintLast Go.Proofs.YtalpemoodollpaaW.PrintMore
attribute [local go_sem] max2_int min2_int max_two min_two max_three min_three max_four min_four   -- for this text's walks alone
set_option linter.unusedVariables false
set_option linter.unusedSimpArgs false

/-! ### message_Is: function 34 -/
def message_Is.f (a0_0 : Int) (a0_1 : Int) (a0_2 : Int) (a0_3 : Int) (a0_4 : Int) (a0_5 : Int) (a0_6 : Int) (a0_7 : Int) (a0_8 : Int) (a1 : Int) (a2 : Int) : Option (Bool) := if a0_0 = a1 then (some (a0_1 == a2)) else (some false)
set_option maxHeartbeats 8000000 in
set_option maxRecDepth 100000 in
theorem message_Is.calls (a0_0 : Int) (a0_1 : Int) (a0_2 : Int) (a0_3 : Int) (a0_4 : Int) (a0_5 : Int) (a0_6 : Int) (a0_7 : Int) (a0_8 : Int) (a1 : Int) (a2 : Int) (r : Bool) (w : World) (h : message_Is.f a0_0 a0_1 a0_2 a0_3 a0_4 a0_5 a0_6 a0_7 a0_8 a1 a2 = some r) :
    Calls Try.prog 34 #[.agg #[.int .i64 a0_0, .int .i64 a0_1, .int .i64 a0_2, .int .i64 a0_3, .int .i64 a0_4, .int .i64 a0_5, .int .i64 a0_6, .int .i64 a0_7, .int .i64 a0_8], .int .i64 a1, .int .i64 a2] w fun e w' => e = .returned (.bool r) ∧ Below w.heap.size w w' := by
  have hu29 := Try.underlying29
  have HB := Aside0.mk (Below.refl w.heap.size w)
  have H : (if a0_0 = a1 then (some (a0_1 == a2)) else (some false)) = some r := h
  clear h
  by_cases c4 : a0_0 = a1
  · rw [if_pos c4] at H
    have c4b0 : (a0_0 == a1) = true := beq_iff_eq.mpr c4
    have c4b1 : (a0_0 != a1) = false := bne_eq_false_iff_eq.mpr c4
    clear c4
    obtain rfl := Option.some.inj H
    go_enter Try.func34, Try.ntmps34
    go_wp2_with (first | ((with_reducible refine gate_dst (N := 3) rfl ?_); refine box_event ?hg (N := 3) ?hd (cs := #[.int .i64 a0_0, .int .i64 a0_1, .int .i64 a0_2, .int .i64 a0_3, .int .i64 a0_4, .int .i64 a0_5, .int .i64 a0_6, .int .i64 a0_7, .int .i64 a0_8]) (t := 29) ?hr ?_; (case hd => rfl); (case hg => rfl); (case hr => first | (go_simp; done) | (go_simp; rfl)); intro gb208 hg w5 hbox hb; have n0_ := Aside0.mk (below_step (by repeat (first | (with_reducible first | exact HB.out | apply below_alloc | apply pw_below_drewN | apply below_drew1) | exact HB.out)) hb); have n1_ := Aside0.mk (hbox); have n2_ := Aside0.mk ((by rw [hg]; exact (below_size (by repeat (first | (with_reducible first | exact HB.out | apply below_alloc | apply pw_below_drewN | apply below_drew1) | exact HB.out))) : w.heap.size ≤ gb208)); have n3_ := Aside0.mk ((by rw [hg]; exact (below_size (by repeat (first | (with_reducible first | exact HB.out | apply below_alloc | apply pw_below_drewN | apply below_drew1) | exact HB.out))) : w.heap.size ≤ gb208)); clear HB; have HB := n0_; have BK208 := n1_; have GW208 := n2_; have GE208 := n3_; clear n0_ n1_ n2_ n3_; clear hb hbox hg; have hcz6_0 : w5.cell? ⟨gb208, 0, none⟩ = some (.int .i64 a0_0) := (blk_cell BK208.out 0).trans rfl; have hcz6_1 : w5.cell? ⟨gb208, 1, none⟩ = some (.int .i64 a0_1) := (blk_cell BK208.out 1).trans rfl; have hcz6_2 : w5.cell? ⟨gb208, 2, none⟩ = some (.int .i64 a0_2) := (blk_cell BK208.out 2).trans rfl; have hcz6_3 : w5.cell? ⟨gb208, 3, none⟩ = some (.int .i64 a0_3) := (blk_cell BK208.out 3).trans rfl; have hcz6_4 : w5.cell? ⟨gb208, 4, none⟩ = some (.int .i64 a0_4) := (blk_cell BK208.out 4).trans rfl; have hcz6_5 : w5.cell? ⟨gb208, 5, none⟩ = some (.int .i64 a0_5) := (blk_cell BK208.out 5).trans rfl; have hcz6_6 : w5.cell? ⟨gb208, 6, none⟩ = some (.int .i64 a0_6) := (blk_cell BK208.out 6).trans rfl; have hcz6_7 : w5.cell? ⟨gb208, 7, none⟩ = some (.int .i64 a0_7) := (blk_cell BK208.out 7).trans rfl; have hcz6_8 : w5.cell? ⟨gb208, 8, none⟩ = some (.int .i64 a0_8) := (blk_cell BK208.out 8).trans rfl; have hfz6_0 := blk_frozen BK208.out 0; have hfz6_1 := blk_frozen BK208.out 1; have hfz6_2 := blk_frozen BK208.out 2; have hfz6_3 := blk_frozen BK208.out 3; have hfz6_4 := blk_frozen BK208.out 4; have hfz6_5 := blk_frozen BK208.out 5; have hfz6_6 := blk_frozen BK208.out 6; have hfz6_7 := blk_frozen BK208.out 7; have hfz6_8 := blk_frozen BK208.out 8))
    go_ret
    exact ⟨by first | rfl | (simp [errW_none, errW_some] <;> rfl) | (simp [*, errW_none, errW_some] <;> rfl), by repeat (first | (with_reducible first | exact HB.out | apply below_alloc | apply pw_below_drewN | apply below_drew1 | refine below_set ?_ GE208.out) | exact HB.out)⟩
  · rw [if_neg c4] at H
    have c4b0 : (a0_0 == a1) = false := beq_eq_false_iff_ne.mpr c4
    have c4b1 : (a0_0 != a1) = true := bne_iff_ne.mpr c4
    obtain rfl := Option.some.inj H
    go_enter Try.func34, Try.ntmps34
    go_wp2_with (first | ((with_reducible refine gate_dst (N := 3) rfl ?_); refine box_event ?hg (N := 3) ?hd (cs := #[.int .i64 a0_0, .int .i64 a0_1, .int .i64 a0_2, .int .i64 a0_3, .int .i64 a0_4, .int .i64 a0_5, .int .i64 a0_6, .int .i64 a0_7, .int .i64 a0_8]) (t := 29) ?hr ?_; (case hd => rfl); (case hg => rfl); (case hr => first | (go_simp; done) | (go_simp; rfl)); intro gb208 hg w7 hbox hb; have n0_ := Aside0.mk (below_step (by repeat (first | (with_reducible first | exact HB.out | apply below_alloc | apply pw_below_drewN | apply below_drew1) | exact HB.out)) hb); have n1_ := Aside0.mk (hbox); have n2_ := Aside0.mk ((by rw [hg]; exact (below_size (by repeat (first | (with_reducible first | exact HB.out | apply below_alloc | apply pw_below_drewN | apply below_drew1) | exact HB.out))) : w.heap.size ≤ gb208)); have n3_ := Aside0.mk ((by rw [hg]; exact (below_size (by repeat (first | (with_reducible first | exact HB.out | apply below_alloc | apply pw_below_drewN | apply below_drew1) | exact HB.out))) : w.heap.size ≤ gb208)); clear HB; have HB := n0_; have BK208 := n1_; have GW208 := n2_; have GE208 := n3_; clear n0_ n1_ n2_ n3_; clear hb hbox hg; have hcz8_0 : w7.cell? ⟨gb208, 0, none⟩ = some (.int .i64 a0_0) := (blk_cell BK208.out 0).trans rfl; have hcz8_1 : w7.cell? ⟨gb208, 1, none⟩ = some (.int .i64 a0_1) := (blk_cell BK208.out 1).trans rfl; have hcz8_2 : w7.cell? ⟨gb208, 2, none⟩ = some (.int .i64 a0_2) := (blk_cell BK208.out 2).trans rfl; have hcz8_3 : w7.cell? ⟨gb208, 3, none⟩ = some (.int .i64 a0_3) := (blk_cell BK208.out 3).trans rfl; have hcz8_4 : w7.cell? ⟨gb208, 4, none⟩ = some (.int .i64 a0_4) := (blk_cell BK208.out 4).trans rfl; have hcz8_5 : w7.cell? ⟨gb208, 5, none⟩ = some (.int .i64 a0_5) := (blk_cell BK208.out 5).trans rfl; have hcz8_6 : w7.cell? ⟨gb208, 6, none⟩ = some (.int .i64 a0_6) := (blk_cell BK208.out 6).trans rfl; have hcz8_7 : w7.cell? ⟨gb208, 7, none⟩ = some (.int .i64 a0_7) := (blk_cell BK208.out 7).trans rfl; have hcz8_8 : w7.cell? ⟨gb208, 8, none⟩ = some (.int .i64 a0_8) := (blk_cell BK208.out 8).trans rfl; have hfz8_0 := blk_frozen BK208.out 0; have hfz8_1 := blk_frozen BK208.out 1; have hfz8_2 := blk_frozen BK208.out 2; have hfz8_3 := blk_frozen BK208.out 3; have hfz8_4 := blk_frozen BK208.out 4; have hfz8_5 := blk_frozen BK208.out 5; have hfz8_6 := blk_frozen BK208.out 6; have hfz8_7 := blk_frozen BK208.out 7; have hfz8_8 := blk_frozen BK208.out 8))
    go_ret
    exact ⟨by first | rfl | (simp [errW_none, errW_some] <;> rfl) | (simp [*, errW_none, errW_some] <;> rfl), by repeat (first | (with_reducible first | exact HB.out | apply below_alloc | apply pw_below_drewN | apply below_drew1 | refine below_set ?_ GE208.out) | exact HB.out)⟩

end Go.Proofs.Ytalpemoodollpaa.P
-- Printed by hookprint.py (the session's own program, over the kit's print.py): checked by Lean like any text.
namespace Go.Proofs.Ytalpemoodollpaa.P
open Go.RowKit Go.Proofs.YtalpemoodollpaaW.PrintWords Go.Proofs.YtalpemoodollpaaW.PrintLast Go.Proofs.YtalpemoodollpaaW.PrintMore
attribute [local go_sem] max2_int min2_int max_two min_two max_three min_three max_four min_four   -- for this text's walks alone
set_option linter.unusedVariables false
set_option linter.unusedSimpArgs false

/-! ### damperlaw06_alive: function 35 -/
def damperlaw06_alive.f  : Option (Bool) := (message_Encode.f 6 1 0 0 0 0 0 0 2).bind fun bt209 => (if bt209.2 = 0 then (if (bt209.1.length : Int) = 37 then (if 0 < (bt209.1.length : Int) then (if (rd bt209.1 0) = 6 then (if 2 < (bt209.1.length : Int) then (if (rd bt209.1 2) = 2 then ((message_Is.f 3 1 0 0 0 0 0 0 0 3 1).bind fun t215 => (some t215)) else (some false)) else (none)) else (some false)) else (none)) else (some false)) else (some false))
set_option maxHeartbeats 8000000 in
set_option maxRecDepth 100000 in
theorem damperlaw06_alive.calls  (r : Bool) (w : World) (h : damperlaw06_alive.f  = some r) :
    Calls Try.prog 35 #[] w fun e w' => e = .returned (.bool r) ∧ Below w.heap.size w w' := by
  have hu29 := Try.underlying29
  have HB := Aside0.mk (Below.refl w.heap.size w)
  have H : ((message_Encode.f 6 1 0 0 0 0 0 0 2).bind fun bt209 => (if bt209.2 = 0 then (if (bt209.1.length : Int) = 37 then (if 0 < (bt209.1.length : Int) then (if (rd bt209.1 0) = 6 then (if 2 < (bt209.1.length : Int) then (if (rd bt209.1 2) = 2 then ((message_Is.f 3 1 0 0 0 0 0 0 0 3 1).bind fun t215 => (some t215)) else (some false)) else (none)) else (some false)) else (none)) else (some false)) else (some false))) = some r := h
  clear h
  replace H := Option.bind_eq_some_iff.mp H
  obtain ⟨⟨t209, t212⟩, A10, H⟩ := H
  replace H : (if t212 = 0 then (if (t209.length : Int) = 37 then (if 0 < (t209.length : Int) then (if (rd t209 0) = 6 then (if 2 < (t209.length : Int) then (if (rd t209 2) = 2 then ((message_Is.f 3 1 0 0 0 0 0 0 0 3 1).bind fun t215 => (some t215)) else (some false)) else (none)) else (some false)) else (none)) else (some false)) else (some false)) = some r := H
  have A1 := Aside0.mk A10
  clear A10
  by_cases c2 : t212 = 0
  · rw [if_pos c2] at H
    have c2b0 : (t212 == 0) = true := beq_iff_eq.mpr c2
    have c2b1 : (t212 != 0) = false := bne_eq_false_iff_eq.mpr c2
    clear c2
    by_cases c3 : (t209.length : Int) = 37
    · rw [if_pos c3] at H
      have c3b0 : ((t209.length : Int) == 37) = true := beq_iff_eq.mpr c3
      have c3b1 : ((t209.length : Int) != 37) = false := bne_eq_false_iff_eq.mpr c3
      clear c3
      by_cases c4 : 0 < (t209.length : Int)
      · rw [if_pos c4] at H
        have c4b0 : decide (0 < (t209.length : Int)) = true := decide_eq_true c4
        have c4b1 : decide (0 < t209.length) = true := decide_eq_true (by omega)
        clear c4
        by_cases c5 : (rd t209 0) = 6
        · rw [if_pos c5] at H
          have c5b0 : ((rd t209 0) == 6) = true := beq_iff_eq.mpr c5
          have c5b1 : ((rd t209 0) != 6) = false := bne_eq_false_iff_eq.mpr c5
          clear c5
          by_cases c6 : 2 < (t209.length : Int)
          · rw [if_pos c6] at H
            have c6b0 : decide (2 < (t209.length : Int)) = true := decide_eq_true c6
            have c6b1 : decide (2 < t209.length) = true := decide_eq_true (by omega)
            clear c6
            by_cases c7 : (rd t209 2) = 2
            · rw [if_pos c7] at H
              have c7b0 : ((rd t209 2) == 2) = true := beq_iff_eq.mpr c7
              have c7b1 : ((rd t209 2) != 2) = false := bne_eq_false_iff_eq.mpr c7
              clear c7
              replace H := Option.bind_eq_some_iff.mp H
              obtain ⟨t215, A80, H⟩ := H
              replace H : (some t215) = some r := H
              have A8 := Aside0.mk A80
              clear A80
              obtain rfl := Option.some.inj H
              go_enter Try.func35, Try.ntmps35
              go_wp2_with (first | ((with_reducible refine gate_callee (f := 29) rfl ?_); refine goesL_ (some 5) rfl rfl Try.func29 (by kernel_rfl) rfl #[.agg #[.int .i64 6, .int .i64 1, .int .i64 0, .int .i64 0, .int .i64 0, .int .i64 0, .int .i64 0, .int .i64 0, .int .i64 2]] rfl (by (try simp only [List.map_toArray, List.map_cons, List.map_nil]); first | done | rfl | (simp only [List.length_drop, List.length_take]; rfl)) ?_; (with_reducible refine (message_Encode.calls 6 1 0 0 0 0 0 0 2 t209 t212 _ A1.out).mono ?_); rintro e w9 ⟨v210, rfl, ho0, hb⟩; refine ⟨_, rfl, ?_⟩; have n0_ := Aside0.mk (Kd.R_lower ho0 (below_size (by repeat (first | (with_reducible first | exact HB.out | apply below_alloc | apply pw_below_drewN | apply below_drew1) | exact HB.out)))); have n1_ := Aside0.mk (below_step (by repeat (first | (with_reducible first | exact HB.out | apply below_alloc | apply pw_below_drewN | apply below_drew1) | exact HB.out)) hb); clear HB; have HO211 := n0_; have HB := n1_; clear n0_ n1_; (try clear hb); (try clear hb2); (try clear hk); (try clear hi); (try clear ho0); obtain ⟨Ao10, co10, eo10⟩ := Kd.R_slice HO211.out; subst eo10; have p213 : 0 ≤ (0 : Int) := (by omega); have q213 : 0 < (t209.length : Int) := of_decide_eq_true (by first | (with_reducible assumption) | assumption); obtain ⟨ad213, e213, hx213_0⟩ := Kd.at_int (Kd.R_reads' HO211.out).2.2 0 p213 q213; cases e213; have qi213 : (0 < t209.length) = True := eq_true (by omega); (try rw [show ((0 : Int)).toNat = 0 from rfl] at hx213_0); (try rw [Addr.add_zero'] at hx213_0); replace p213 := eq_true p213; replace q213 := eq_true q213; have p214 : 0 ≤ (2 : Int) := (by omega); have q214 : 2 < (t209.length : Int) := of_decide_eq_true (by first | (with_reducible assumption) | assumption); obtain ⟨ad214, e214, hx214_0⟩ := Kd.at_int (Kd.R_reads' HO211.out).2.2 2 p214 q214; obtain rfl : ad213 = ad214 := (by injection e214); (try simp only [show (2 : Int).toNat = 2 from rfl, Nat.reduceMul, Nat.reduceEqDiff, Go.Addr.add, ↓reduceIte] at hx214_0); have qi214 : (2 < t209.length) = True := eq_true (by omega); (try rw [show ((2 : Int)).toNat = 2 from rfl] at hx214_0); replace p214 := eq_true p214; replace q214 := eq_true q214) | (go_at_call 34; (with_reducible refine (message_Is.calls 3 1 0 0 0 0 0 0 0 3 1 t215 _ A8.out).mono ?_); rintro e w11 ⟨rfl, hb⟩; have n0_ := Aside0.mk (Kd.R_below (by (with_reducible repeat (first | apply Kd.R_alloc | apply Kd.R_drewN | apply Kd.R_drew)); exact HO211.out) hb); have n1_ := Aside0.mk (below_step (by repeat (first | (with_reducible first | exact HB.out | apply below_alloc | apply pw_below_drewN | apply below_drew1) | exact HB.out)) hb); clear HO211; clear HB; have HO211 := n0_; have HB := n1_; clear n0_ n1_; (try clear hb); (try clear hb2); (try clear hk); (try clear hi)))
              go_ret
              exact ⟨by first | rfl | (simp [errW_none, errW_some] <;> rfl) | (simp [*, errW_none, errW_some] <;> rfl), by repeat (first | (with_reducible first | exact HB.out | apply below_alloc | apply pw_below_drewN | apply below_drew1) | exact HB.out)⟩
            · rw [if_neg c7] at H
              have c7b0 : ((rd t209 2) == 2) = false := beq_eq_false_iff_ne.mpr c7
              have c7b1 : ((rd t209 2) != 2) = true := bne_iff_ne.mpr c7
              obtain rfl := Option.some.inj H
              go_enter Try.func35, Try.ntmps35
              go_wp2_with (first | ((with_reducible refine gate_callee (f := 29) rfl ?_); refine goesL_ (some 5) rfl rfl Try.func29 (by kernel_rfl) rfl #[.agg #[.int .i64 6, .int .i64 1, .int .i64 0, .int .i64 0, .int .i64 0, .int .i64 0, .int .i64 0, .int .i64 0, .int .i64 2]] rfl (by (try simp only [List.map_toArray, List.map_cons, List.map_nil]); first | done | rfl | (simp only [List.length_drop, List.length_take]; rfl)) ?_; (with_reducible refine (message_Encode.calls 6 1 0 0 0 0 0 0 2 t209 t212 _ A1.out).mono ?_); rintro e w12 ⟨v210, rfl, ho0, hb⟩; refine ⟨_, rfl, ?_⟩; have n0_ := Aside0.mk (Kd.R_lower ho0 (below_size (by repeat (first | (with_reducible first | exact HB.out | apply below_alloc | apply pw_below_drewN | apply below_drew1) | exact HB.out)))); have n1_ := Aside0.mk (below_step (by repeat (first | (with_reducible first | exact HB.out | apply below_alloc | apply pw_below_drewN | apply below_drew1) | exact HB.out)) hb); clear HB; have HO211 := n0_; have HB := n1_; clear n0_ n1_; (try clear hb); (try clear hb2); (try clear hk); (try clear hi); (try clear ho0); obtain ⟨Ao13, co13, eo13⟩ := Kd.R_slice HO211.out; subst eo13; have p213 : 0 ≤ (0 : Int) := (by omega); have q213 : 0 < (t209.length : Int) := of_decide_eq_true (by first | (with_reducible assumption) | assumption); obtain ⟨ad213, e213, hx213_0⟩ := Kd.at_int (Kd.R_reads' HO211.out).2.2 0 p213 q213; cases e213; have qi213 : (0 < t209.length) = True := eq_true (by omega); (try rw [show ((0 : Int)).toNat = 0 from rfl] at hx213_0); (try rw [Addr.add_zero'] at hx213_0); replace p213 := eq_true p213; replace q213 := eq_true q213; have p214 : 0 ≤ (2 : Int) := (by omega); have q214 : 2 < (t209.length : Int) := of_decide_eq_true (by first | (with_reducible assumption) | assumption); obtain ⟨ad214, e214, hx214_0⟩ := Kd.at_int (Kd.R_reads' HO211.out).2.2 2 p214 q214; obtain rfl : ad213 = ad214 := (by injection e214); (try simp only [show (2 : Int).toNat = 2 from rfl, Nat.reduceMul, Nat.reduceEqDiff, Go.Addr.add, ↓reduceIte] at hx214_0); have qi214 : (2 < t209.length) = True := eq_true (by omega); (try rw [show ((2 : Int)).toNat = 2 from rfl] at hx214_0); replace p214 := eq_true p214; replace q214 := eq_true q214))
              go_ret
              exact ⟨by first | rfl | (simp [errW_none, errW_some] <;> rfl) | (simp [*, errW_none, errW_some] <;> rfl), by repeat (first | (with_reducible first | exact HB.out | apply below_alloc | apply pw_below_drewN | apply below_drew1) | exact HB.out)⟩
          · rw [if_neg c6] at H
            exact absurd H (by simp)
        · rw [if_neg c5] at H
          have c5b0 : ((rd t209 0) == 6) = false := beq_eq_false_iff_ne.mpr c5
          have c5b1 : ((rd t209 0) != 6) = true := bne_iff_ne.mpr c5
          obtain rfl := Option.some.inj H
          go_enter Try.func35, Try.ntmps35
          go_wp2_with (first | ((with_reducible refine gate_callee (f := 29) rfl ?_); refine goesL_ (some 5) rfl rfl Try.func29 (by kernel_rfl) rfl #[.agg #[.int .i64 6, .int .i64 1, .int .i64 0, .int .i64 0, .int .i64 0, .int .i64 0, .int .i64 0, .int .i64 0, .int .i64 2]] rfl (by (try simp only [List.map_toArray, List.map_cons, List.map_nil]); first | done | rfl | (simp only [List.length_drop, List.length_take]; rfl)) ?_; (with_reducible refine (message_Encode.calls 6 1 0 0 0 0 0 0 2 t209 t212 _ A1.out).mono ?_); rintro e w14 ⟨v210, rfl, ho0, hb⟩; refine ⟨_, rfl, ?_⟩; have n0_ := Aside0.mk (Kd.R_lower ho0 (below_size (by repeat (first | (with_reducible first | exact HB.out | apply below_alloc | apply pw_below_drewN | apply below_drew1) | exact HB.out)))); have n1_ := Aside0.mk (below_step (by repeat (first | (with_reducible first | exact HB.out | apply below_alloc | apply pw_below_drewN | apply below_drew1) | exact HB.out)) hb); clear HB; have HO211 := n0_; have HB := n1_; clear n0_ n1_; (try clear hb); (try clear hb2); (try clear hk); (try clear hi); (try clear ho0); obtain ⟨Ao15, co15, eo15⟩ := Kd.R_slice HO211.out; subst eo15; have p213 : 0 ≤ (0 : Int) := (by omega); have q213 : 0 < (t209.length : Int) := of_decide_eq_true (by first | (with_reducible assumption) | assumption); obtain ⟨ad213, e213, hx213_0⟩ := Kd.at_int (Kd.R_reads' HO211.out).2.2 0 p213 q213; cases e213; have qi213 : (0 < t209.length) = True := eq_true (by omega); (try rw [show ((0 : Int)).toNat = 0 from rfl] at hx213_0); (try rw [Addr.add_zero'] at hx213_0); replace p213 := eq_true p213; replace q213 := eq_true q213))
          go_ret
          exact ⟨by first | rfl | (simp [errW_none, errW_some] <;> rfl) | (simp [*, errW_none, errW_some] <;> rfl), by repeat (first | (with_reducible first | exact HB.out | apply below_alloc | apply pw_below_drewN | apply below_drew1) | exact HB.out)⟩
      · rw [if_neg c4] at H
        exact absurd H (by simp)
    · rw [if_neg c3] at H
      have c3b0 : ((t209.length : Int) == 37) = false := beq_eq_false_iff_ne.mpr c3
      have c3b1 : ((t209.length : Int) != 37) = true := bne_iff_ne.mpr c3
      obtain rfl := Option.some.inj H
      go_enter Try.func35, Try.ntmps35
      go_wp2_with (first | ((with_reducible refine gate_callee (f := 29) rfl ?_); refine goesL_ (some 5) rfl rfl Try.func29 (by kernel_rfl) rfl #[.agg #[.int .i64 6, .int .i64 1, .int .i64 0, .int .i64 0, .int .i64 0, .int .i64 0, .int .i64 0, .int .i64 0, .int .i64 2]] rfl (by (try simp only [List.map_toArray, List.map_cons, List.map_nil]); first | done | rfl | (simp only [List.length_drop, List.length_take]; rfl)) ?_; (with_reducible refine (message_Encode.calls 6 1 0 0 0 0 0 0 2 t209 t212 _ A1.out).mono ?_); rintro e w16 ⟨v210, rfl, ho0, hb⟩; refine ⟨_, rfl, ?_⟩; have n0_ := Aside0.mk (Kd.R_lower ho0 (below_size (by repeat (first | (with_reducible first | exact HB.out | apply below_alloc | apply pw_below_drewN | apply below_drew1) | exact HB.out)))); have n1_ := Aside0.mk (below_step (by repeat (first | (with_reducible first | exact HB.out | apply below_alloc | apply pw_below_drewN | apply below_drew1) | exact HB.out)) hb); clear HB; have HO211 := n0_; have HB := n1_; clear n0_ n1_; (try clear hb); (try clear hb2); (try clear hk); (try clear hi); (try clear ho0); obtain ⟨Ao17, co17, eo17⟩ := Kd.R_slice HO211.out; subst eo17))
      go_ret
      exact ⟨by first | rfl | (simp [errW_none, errW_some] <;> rfl) | (simp [*, errW_none, errW_some] <;> rfl), by repeat (first | (with_reducible first | exact HB.out | apply below_alloc | apply pw_below_drewN | apply below_drew1) | exact HB.out)⟩
  · rw [if_neg c2] at H
    have c2b0 : (t212 == 0) = false := beq_eq_false_iff_ne.mpr c2
    have c2b1 : (t212 != 0) = true := bne_iff_ne.mpr c2
    obtain rfl := Option.some.inj H
    go_enter Try.func35, Try.ntmps35
    go_wp2_with (first | ((with_reducible refine gate_callee (f := 29) rfl ?_); refine goesL_ (some 5) rfl rfl Try.func29 (by kernel_rfl) rfl #[.agg #[.int .i64 6, .int .i64 1, .int .i64 0, .int .i64 0, .int .i64 0, .int .i64 0, .int .i64 0, .int .i64 0, .int .i64 2]] rfl (by (try simp only [List.map_toArray, List.map_cons, List.map_nil]); first | done | rfl | (simp only [List.length_drop, List.length_take]; rfl)) ?_; (with_reducible refine (message_Encode.calls 6 1 0 0 0 0 0 0 2 t209 t212 _ A1.out).mono ?_); rintro e w18 ⟨v210, rfl, ho0, hb⟩; refine ⟨_, rfl, ?_⟩; have n0_ := Aside0.mk (Kd.R_lower ho0 (below_size (by repeat (first | (with_reducible first | exact HB.out | apply below_alloc | apply pw_below_drewN | apply below_drew1) | exact HB.out)))); have n1_ := Aside0.mk (below_step (by repeat (first | (with_reducible first | exact HB.out | apply below_alloc | apply pw_below_drewN | apply below_drew1) | exact HB.out)) hb); clear HB; have HO211 := n0_; have HB := n1_; clear n0_ n1_; (try clear hb); (try clear hb2); (try clear hk); (try clear hi); (try clear ho0)))
    go_ret
    exact ⟨by first | rfl | (simp [errW_none, errW_some] <;> rfl) | (simp [*, errW_none, errW_some] <;> rfl), by repeat (first | (with_reducible first | exact HB.out | apply below_alloc | apply pw_below_drewN | apply below_drew1) | exact HB.out)⟩

end Go.Proofs.Ytalpemoodollpaa.P
/- Messages: the program's encoding, plain. -/
namespace Go.Proofs.Ytalpemoodollpaa.P
open Go.RowKit Go.Proofs.YtalpemoodollpaaW.PrintWords Go.Proofs.YtalpemoodollpaaW.PrintLast Go.Proofs.YtalpemoodollpaaW.PrintMore
set_option linter.unusedVariables false
set_option linter.unusedSimpArgs false
theorem up0_ {α : Type} {f : Nat → Option α} (hm : ∀ k, LeO (f k) (f (k + 1))) {k : Nat} {r : α} (h : f k = some r) : ∀ m, k ≤ m → f m = some r := by
  intro m hm'
  induction m with
  | zero => obtain rfl : k = 0 := by omega
            exact h
  | succ m ih =>
    rcases Nat.lt_or_ge m k with h1 | h1
    · obtain rfl : k = m + 1 := by omega
      exact h
    · exact hm m r (ih h1)

theorem msgEncode_f (m : S29) (h6 : i64B m.f6 = true) (h7 : i64B m.f7 = true) :
    message_Encode.f m.f0 m.f1 m.f2 m.f3 m.f4 m.f5 m.f6 m.f7 m.f8 = some (if msgRight m = true then (msgForm m, 0) else ([], 1)) := by
  unfold message_Encode.f
  rw [if_pos ⟨h6, h7⟩]
theorem alive06 : damperlaw06_alive.f = some true := by
  unfold damperlaw06_alive.f
  rw [msgEncode_f ⟨6, 1, 0, 0, 0, 0, 0, 0, 2⟩ (by decide) (by decide), if_pos (by decide)]
  have hl : (msgForm ⟨6, 1, 0, 0, 0, 0, 0, 0, 2⟩).length = 37 := by
    simp [msgForm, numForm_lt, intForm_length]
  simp only [Option.bind_some, hl]
  have h0 : rd (msgForm ⟨6, 1, 0, 0, 0, 0, 0, 0, 2⟩) 0 = 6 := rfl
  have h2 : rd (msgForm ⟨6, 1, 0, 0, 0, 0, 0, 0, 2⟩) 2 = 2 := rfl
  simp [h0, h2, message_Is.f]
theorem msgRight_up (m : S29) (k : Nat) (hk : 4 ≤ k) : message_Right.f k m.f0 m.f1 m.f2 m.f3 m.f4 m.f5 m.f6 m.f7 m.f8 = some (msgRight m) :=
  up0_ (f := fun k => message_Right.f k m.f0 m.f1 m.f2 m.f3 m.f4 m.f5 m.f6 m.f7 m.f8) (fun k => message_Right.mono _ _ _ _ _ _ _ _ _ k) (msgRight_f m) k hk
end Go.Proofs.Ytalpemoodollpaa.P
/- The stream of messages, plain. -/
namespace Go.Proofs.Ytalpemoodollpaa.P
open Go.RowKit Go.Proofs.YtalpemoodollpaaW.PrintWords Go.Proofs.YtalpemoodollpaaW.PrintLast Go.Proofs.YtalpemoodollpaaW.PrintMore
set_option linter.unusedVariables false
set_option linter.unusedSimpArgs false
/-- The stream of messages. -/
def strm : List S29 → List Int → List Int × Int
  | [], acc => (acc, 0)
  | m :: ms, acc => if msgRight m = true then strm ms (acc ++ putF (msgForm m)) else ([], 1)
theorem wrap_succ (i : Nat) (h : i ≤ 1000000) : wrap64 ((i : Int) + 1) = ((i + 1 : Nat) : Int) := by rw [wrap64_eq]; omega
theorem rd29_drop (l : List S29) (i : Nat) (h : i < l.length) : l.drop i = rd_T29 l (i : Int) :: l.drop (i + 1) := by
  rw [rd_T29, Int.toNat_natCast, List.getD_eq_getElem?_getD, List.getElem?_eq_getElem h]
  exact List.drop_eq_getElem_cons h
theorem rd29_mem (l : List S29) (i : Nat) (h : i < l.length) : rd_T29 l (i : Int) ∈ l := by
  rw [rd_T29, Int.toNat_natCast, List.getD_eq_getElem?_getD, List.getElem?_eq_getElem h]
  exact List.getElem_mem h
theorem putF_form (m : S29) (h : msgRight m = true) : frame_Put.f (msgForm m) = some (putF (msgForm m), 0) ∧ (putF (msgForm m)).length ≤ 57 := by
  have hl := (msgForm_length m h).1
  refine ⟨?_, ?_⟩
  · unfold frame_Put.f
    rw [if_pos (by omega)]
    rfl
  · rw [putF_length]; omega
theorem stream_l0 (l : List S29) (h : ∀ m ∈ l, i64B m.f6 = true ∧ i64B m.f7 = true) (hl : l.length ≤ 60) : ∀ (j i : Nat) (acc : List Int), i + j = l.length → acc.length ≤ i * 57 → ∀ k, j + 1 ≤ k →
    message_Stream.l0 k acc l (l.length : Int) (i : Int) = some (strm (l.drop i) acc) := by
  intro j
  induction j with
  | zero =>
    intro i acc hi ha k hk
    obtain ⟨k, rfl⟩ : ∃ k', k = k' + 1 := ⟨k - 1, by omega⟩
    rw [message_Stream.l0, if_neg (by omega), List.drop_eq_nil_of_le (by omega)]
    rfl
  | succ j ih =>
    intro i acc hi ha k hk
    obtain ⟨k, rfl⟩ : ∃ k', k = k' + 1 := ⟨k - 1, by omega⟩
    have hm := h _ (rd29_mem l i (by omega))
    rw [message_Stream.l0, if_pos (by omega), if_pos (by omega), if_pos (by omega), msgEncode_f _ hm.1 hm.2, rd29_drop l i (by omega)]
    by_cases hr : msgRight (rd_T29 l (i : Int)) = true
    · obtain ⟨hp, hq⟩ := putF_form _ hr
      rw [if_pos hr, strm, if_pos hr]
      simp only [Option.bind_some, if_pos, hp]
      rw [if_pos (by omega), wrap_succ i (by omega)]
      exact ih (i + 1) _ (by omega) (by rw [List.length_append]; omega) k (by omega)
    · rw [if_neg hr, strm, if_neg hr]
      rfl
theorem lists_l0 (x : List S29) (hl : x.length ≤ 1000000) : ∀ (j i : Nat), i + j = x.length → ∀ k, j + 1 ≤ k → damperref06_Lists.l0 k x x (i : Int) = some true := by
  intro j
  induction j with
  | zero =>
    intro i hi k hk
    obtain ⟨k, rfl⟩ : ∃ k', k = k' + 1 := ⟨k - 1, by omega⟩
    rw [damperref06_Lists.l0, if_neg (by omega)]
  | succ j ih =>
    intro i hi k hk
    obtain ⟨k, rfl⟩ : ∃ k', k = k' + 1 := ⟨k - 1, by omega⟩
    rw [damperref06_Lists.l0, if_pos (by omega), if_pos (by omega), if_pos (by omega), if_neg (by simp), wrap_succ i (by omega)]
    exact ih (i + 1) (by omega) k (by omega)
theorem lists_refl (x : List S29) (hl : x.length ≤ 1000000) (k : Nat) (hk : x.length + 1 ≤ k) : damperref06_Lists.f k x x = some true := by
  unfold damperref06_Lists.f
  rw [if_pos rfl]
  exact lists_l0 x hl x.length 0 (by omega) k hk
theorem msgAll_length (l : List Int) (hb : Byt l) : (msgAll l).1.length ≤ l.length := by
  have h1 := frames_count l.length l (Nat.le_refl _) hb
  have h2 := frames_end l hb
  unfold msgAll
  split
  · simp
  · split
    · simp
    · rw [msgsOf_length]; omega
end Go.Proofs.Ytalpemoodollpaa.P
/- (*feed.Feed).Bytes. -/
namespace Go.Proofs.Ytalpemoodollpaa.P
open Go.RowKit Go.Shelf Go.Proofs.YtalpemoodollpaaW.PrintWords Go.Proofs.YtalpemoodollpaaW.PrintLast Go.Proofs.YtalpemoodollpaaW.PrintMore
set_option linter.unusedVariables false
set_option linter.unusedSimpArgs false
theorem SinceIs.below {W W1 : World} {gf : Nat} {lb : Array Value} {xs : List S29} (h : SinceIs W gf lb xs) (hb : Below W.heap.size W W1) : SinceIs W1 gf lb xs := by
  rcases h with h | ⟨h1, Bs, A, c, h2, h3, h4, h5⟩
  · exact .inl h
  · exact .inr ⟨h1, Bs, A, c, h2, blk_below h3 hb, h4, Kd.C_below h5 hb⟩
set_option maxRecDepth 100000 in
set_option maxHeartbeats 1000000 in
theorem feed_Bytes_calls (g : Nat) (row : Option Nat) (ms : List S29) (seq : Int) (w : World) (hs : FS 142 w g row ms) (hl : ms.length ≤ 60) (h6 : ∀ m ∈ ms, i64B m.f6 = true ∧ i64B m.f7 = true) :
    Calls Try.prog 58 #[.pointer (some ⟨g, 0, none⟩), .int .i64 seq] w fun e w' => ∃ v0_ : Value, e = .returned v0_ ∧ Kd.R (Kd.int .u8) 5 w' w.heap.size (fun _ => True) v0_ (strm (ms.drop (sinceAt seq ms.length)) []).1 ∧ Below w.heap.size w w' := by
  have HS := Aside0.mk (since_calls g row ms seq w hs (by omega))
  have hxl : (ms.drop (sinceAt seq ms.length)).length ≤ 60 := by rw [List.length_drop]; omega
  have hx6 : ∀ m ∈ ms.drop (sinceAt seq ms.length), i64B m.f6 = true ∧ i64B m.f7 = true := fun m hm => h6 m (List.mem_of_mem_drop hm)
  generalize ms.drop (sinceAt seq ms.length) = xs at *
  have hst : message_Stream.f 100 xs = some (strm xs []) := stream_l0 xs hx6 hxl xs.length 0 [] (by omega) (by simp) 100 (by omega)
  generalize strm xs [] = S at *
  obtain ⟨s1, s2⟩ := S
  dsimp only
  have HST := Aside0.mk hst
  have HXL := Aside0.mk hxl
  clear hs h6 hx6 hst hxl
  go_enter Try.func58, Try.ntmps58
  go_wp2_with fail
  refine HS.out.mono ?_
  rintro e w1 ⟨gf, lb, rfl, hb1, hI⟩
  have CL := Aside0.mk (collect_calls gf lb xs w1 hI (by have := HXL.out; omega))
  have B1 := Aside0.mk hb1
  clear hb1 hI HS
  go_wp2_with fail
  refine CL.out.mono ?_
  rintro e w2 ⟨v, rfl, hR, hb2⟩
  obtain ⟨A, c, rfl⟩ := Kd.R_slice hR
  have hrd := Kd.R_reads' hR
  have MS := Aside0.mk (message_Stream.calls 100 A c xs s1 s2 w2 hrd.2.2 hrd.2.1 HST.out)
  have B2 := Aside0.mk (below_then B1.out B1.out.size hb2)
  clear hrd hR hb2 CL
  go_wp2_with fail
  refine MS.out.mono ?_
  rintro e w3 ⟨v3, rfl, hR3, hb3⟩
  have HR3 := Aside0.mk (Kd.R_lower hR3 B2.out.size)
  have B3 := Aside0.mk (below_then B2.out B2.out.size hb3)
  obtain ⟨A3, c3, rfl⟩ := Kd.R_slice hR3
  clear hR3 hb3 MS
  go_wp2
  go_ret
  exact ⟨.slice A3 s1.length c3, rfl, HR3.out, B3.out⟩
end Go.Proofs.Ytalpemoodollpaa.P
/- damperref03.ReadInt. -/
namespace Go.Proofs.Ytalpemoodollpaa.P
open Go.RowKit Go.Proofs.YtalpemoodollpaaW.PrintWords Go.Proofs.YtalpemoodollpaaW.PrintLast Go.Proofs.YtalpemoodollpaaW.PrintMore
set_option linter.unusedVariables false
set_option linter.unusedSimpArgs false
theorem R_far5 {W : World} {base b : Nat} {v : Value} {xs : List Int} (h : Kd.R (Kd.int .u8) 5 W base (fun _ => True) v xs) (hb : b < base) (n s z f : Int) (u : Value) : Kd.R (Kd.int .u8) 5 (((((W.setCell ⟨b, 0, none⟩ (.int .u64 n)).setCell ⟨b, 1, none⟩ (.int .i64 s)).setCell ⟨b, 2, none⟩ u).setCell ⟨b, 3, none⟩ (.int .i64 z)).setCell ⟨b, 4, none⟩ (.int .i64 f)) base (fun _ => True) v xs := by
  have h1 : Kd.R (Kd.int .u8) 5 W base (fun k => base ≤ k) v xs := Kd.R_mono (Kd.R_bound h) (fun k hk => hk.2.1)
  exact Kd.R_mono (Kd.R_far (Kd.R_far (Kd.R_far (Kd.R_far (Kd.R_far h1 (p := ⟨b, 0, none⟩) (fun k hk => by show k ≠ b; omega) (.int .u64 n)) (p := ⟨b, 1, none⟩) (fun k hk => by show k ≠ b; omega) (.int .i64 s)) (p := ⟨b, 2, none⟩) (fun k hk => by show k ≠ b; omega) u) (p := ⟨b, 3, none⟩) (fun k hk => by show k ≠ b; omega) (.int .i64 z)) (p := ⟨b, 4, none⟩) (fun k hk => by show k ≠ b; omega) (.int .i64 f)) (fun _ _ => trivial)
theorem below_far5 {w W : World} {b : Nat} (h : Below w.heap.size w W) (hb : w.heap.size ≤ b) (n s z f : Int) (u : Value) : Below w.heap.size w (((((W.setCell ⟨b, 0, none⟩ (.int .u64 n)).setCell ⟨b, 1, none⟩ (.int .i64 s)).setCell ⟨b, 2, none⟩ u).setCell ⟨b, 3, none⟩ (.int .i64 z)).setCell ⟨b, 4, none⟩ (.int .i64 f)) := (below_set (j := 4) (v := (.int .i64 f)) (below_set (j := 3) (v := (.int .i64 z)) (below_set (j := 2) (v := u) (below_set (j := 1) (v := (.int .i64 s)) (below_set (j := 0) (v := (.int .u64 n)) h hb) hb) hb) hb) hb)
def rdInt (l : List Int) : Int × Int × List Int × Int × Int := if l.length < 8 then (0, 0, [], 0, 3) else (0, unzig (beNum (l.take 8)), [], 8, 0)
set_option maxRecDepth 100000 in
set_option maxHeartbeats 2000000 in
theorem refReadInt_calls (A0 : Option Addr) (c0 : Nat) (l0 : List Int) (w : World) (hr0 : Kd.C (Kd.int .u8) w A0 l0.length l0) (hc0 : l0.length ≤ c0) (hb : Byt l0) :
    Calls Try.prog 114 #[.slice A0 l0.length c0] w fun e w' => ∃ v : Value, e = .returned (.agg #[.int .u64 0, .int .i64 (rdInt l0).2.1, v, .int .i64 (rdInt l0).2.2.2.1, .int .i64 (rdInt l0).2.2.2.2]) ∧ Kd.R (Kd.int .u8) 5 w' w.heap.size (fun _ => True) v [] ∧ Below w.heap.size w w' := by
  have hU := refReadUint l0 8 hb 12 (by omega)
  have HU : Aside0 (∃ n S z f : Int, rdInt l0 = (0, S, [], z, f) ∧ rdUint l0 8 = (n, 0, [], z, f) ∧ 0 ≤ n ∧ n < 18446744073709551616 ∧ S = unzig n) := ⟨by
    unfold rdInt rdUint
    rw [if_neg (show ¬ ((8 : Int) < 1 ∨ (8 : Int) < 8) by decide)]
    by_cases h : l0.length < 8
    · rw [if_pos h, if_pos (show (l0.length : Int) < 8 by omega)]
      exact ⟨0, 0, 0, 3, rfl, rfl, by omega, by omega, by decide⟩
    · rw [if_neg h, if_neg (show ¬ (l0.length : Int) < 8 by omega)]
      have hrg := beNum_range (l0.take 8) (hb.take 8)
      rw [show (l0.take 8).length = 8 by rw [List.length_take]; omega] at hrg
      have h2 : ((256 ^ 8 : Nat) : Int) = 18446744073709551616 := by decide
      rw [h2] at hrg
      exact ⟨_, _, _, _, rfl, rfl, hrg.1, hrg.2, rfl⟩⟩
  obtain ⟨n, S, z, f, hI, hN, h0, h1, hS⟩ := HU.out
  rw [hN] at hU
  rw [hI]
  have HX := Aside0.mk hU
  have HR := Aside0.mk hr0
  have HC := Aside0.mk hc0
  have HNN := Aside0.mk (And.intro h0 h1)
  have HS := Aside0.mk hS
  clear hU hI hN HU hr0 hc0 hb h0 h1 hS
  have HB0 := Aside0.mk (show Box5 (w.alloc (.cells #[.int .u64 0, .int .i64 0, .slice none 0 0, .int .i64 0, .int .i64 0] 81)) w.heap.size 0 0 (.slice none 0 0) 0 0 from blk_new w _)
  have HR1 := Aside0.mk (Kd.C_alloc HR.out (.cells #[.int .u64 0, .int .i64 0, .slice none 0 0, .int .i64 0, .int .i64 0] 81))
  have HL0 := Aside0.mk (below_alloc (Below.refl w.heap.size w) (.cells #[.int .u64 0, .int .i64 0, .slice none 0 0, .int .i64 0, .int .i64 0] 81))
  have hX := damperref03_ReadUint.calls 12 A0 c0 l0 8 n 0 [] z f _ HR1.out HC.out HX.out
  go_enter Try.func114, Try.ntmps114
  go_wp2_with fail
  refine hX.mono ?_
  rintro e w1 ⟨v, rfl, hR, hbl⟩
  obtain ⟨A, c, rfl⟩ := Kd.R_slice hR
  have HB1 : Aside0 (Box5 w1 w.heap.size 0 0 (.slice none 0 0) 0 0) := ⟨(hbl.block _ (blk_lt HB0.out)).trans HB0.out⟩
  have HRR := Aside0.mk hR
  have HL1 := Aside0.mk (Below.trans HL0.out (Below.mono hbl HL0.out.size))
  clear hR hbl hX HB0 HR1 HL0
  have hb1 := fun o => (show Box5 (w1.alloc o) w.heap.size 0 0 (.slice none 0 0) 0 0 from blk_alloc HB1.out o)
  have d0 := fun o => (hb1 o).cells.1
  have d1 := fun o => (hb1 o).cells.2.1
  have d2 := fun o => (hb1 o).cells.2.2.1
  have d3 := fun o => (hb1 o).cells.2.2.2.1
  have d4 := fun o => (hb1 o).cells.2.2.2.2
  have y0 := fun o => blk_frozen (hb1 o) 0
  have y1 := fun o => blk_frozen (hb1 o) 1
  have y2 := fun o => blk_frozen (hb1 o) 2
  have y3 := fun o => blk_frozen (hb1 o) 3
  have y4 := fun o => blk_frozen (hb1 o) 4
  clear hb1
  have ht : Int.tmod n 2 = n % 2 := Int.tmod_eq_emod_of_nonneg HNN.out.1
  have hd : Int.tdiv n 2 = n / 2 := Int.tdiv_eq_ediv_of_nonneg HNN.out.1
  by_cases hev : n % 2 = 0
  · skip
    have hS : S = wrap64 (IntKind.u64.wrap (n / 2)) := by
      have h := HS.out
      unfold unzig at h
      rw [h]
      rw [if_pos hev, wrap_u64, wrap64_eq]
      have := HNN.out
      omega
    have hsz : (w.alloc (.cells #[.int .u64 0, .int .i64 0, .slice none 0 0, .int .i64 0, .int .i64 0] 81)).heap.size = w.heap.size + 1 := World.size_alloc _ _
    have HBX := Aside0.mk (show Box5 (w1.alloc (.cells #[.int .u64 0, .int .i64 (wrap64 (IntKind.u64.wrap (n / 2))), .slice A ([] : List Int).length c, .int .i64 z, .int .i64 f] 81)) w.heap.size 0 0 (.slice none 0 0) 0 0 from blk_alloc HB1.out _)
    have HBY := Aside0.mk (HBX.out.set5 0 (wrap64 (IntKind.u64.wrap (n / 2))) z f (.slice A ([] : List Int).length c))
    have HRY := Aside0.mk (R_far5 (Kd.R_alloc HRR.out (.cells #[.int .u64 0, .int .i64 (wrap64 (IntKind.u64.wrap (n / 2))), .slice A ([] : List Int).length c, .int .i64 z, .int .i64 f] 81)) (b := w.heap.size) (by omega) 0 (wrap64 (IntKind.u64.wrap (n / 2))) z f (.slice A ([] : List Int).length c))
    have HLY := Aside0.mk (below_far5 (below_alloc HL1.out (.cells #[.int .u64 0, .int .i64 (wrap64 (IntKind.u64.wrap (n / 2))), .slice A ([] : List Int).length c, .int .i64 z, .int .i64 f] 81)) (Nat.le_refl w.heap.size) 0 (wrap64 (IntKind.u64.wrap (n / 2))) z f (.slice A ([] : List Int).length c))
    have HSS := Aside0.mk hS
    clear hS hsz
    go_wp2
    refine bodyPost_ret (results_cell_row (fn := Try.f114) (p := 2) (ty := 81) rfl _ _ w.heap.size 81 #[.int .u64 0, .int .i64 (wrap64 (IntKind.u64.wrap (n / 2))), .slice A ([] : List Int).length c, .int .i64 z, .int .i64 f] (0, 0) _ rfl HBY.out Try.underlying81 rfl (by kernel_rfl)) rfl ?_
    refine ⟨_, by rw [HSS.out], Kd.R_lower HRY.out (by rw [World.size_alloc]; omega), HLY.out⟩
  · skip
    have hS : S = wrap64 (wrap64 (-wrap64 (IntKind.u64.wrap (n / 2))) - 1) := by
      have h := HS.out
      unfold unzig at h
      rw [h]
      rw [if_neg hev, wrap_u64, wrap64_eq, wrap64_eq, wrap64_eq]
      have := HNN.out
      omega
    have hsz : (w.alloc (.cells #[.int .u64 0, .int .i64 0, .slice none 0 0, .int .i64 0, .int .i64 0] 81)).heap.size = w.heap.size + 1 := World.size_alloc _ _
    have HBX := Aside0.mk (show Box5 (w1.alloc (.cells #[.int .u64 0, .int .i64 (wrap64 (wrap64 (-wrap64 (IntKind.u64.wrap (n / 2))) - 1)), .slice A ([] : List Int).length c, .int .i64 z, .int .i64 f] 81)) w.heap.size 0 0 (.slice none 0 0) 0 0 from blk_alloc HB1.out _)
    have HBY := Aside0.mk (HBX.out.set5 0 (wrap64 (wrap64 (-wrap64 (IntKind.u64.wrap (n / 2))) - 1)) z f (.slice A ([] : List Int).length c))
    have HRY := Aside0.mk (R_far5 (Kd.R_alloc HRR.out (.cells #[.int .u64 0, .int .i64 (wrap64 (wrap64 (-wrap64 (IntKind.u64.wrap (n / 2))) - 1)), .slice A ([] : List Int).length c, .int .i64 z, .int .i64 f] 81)) (b := w.heap.size) (by omega) 0 (wrap64 (wrap64 (-wrap64 (IntKind.u64.wrap (n / 2))) - 1)) z f (.slice A ([] : List Int).length c))
    have HLY := Aside0.mk (below_far5 (below_alloc HL1.out (.cells #[.int .u64 0, .int .i64 (wrap64 (wrap64 (-wrap64 (IntKind.u64.wrap (n / 2))) - 1)), .slice A ([] : List Int).length c, .int .i64 z, .int .i64 f] 81)) (Nat.le_refl w.heap.size) 0 (wrap64 (wrap64 (-wrap64 (IntKind.u64.wrap (n / 2))) - 1)) z f (.slice A ([] : List Int).length c))
    have HSS := Aside0.mk hS
    clear hS hsz
    go_wp2
    refine bodyPost_ret (results_cell_row (fn := Try.f114) (p := 2) (ty := 81) rfl _ _ w.heap.size 81 #[.int .u64 0, .int .i64 (wrap64 (wrap64 (-wrap64 (IntKind.u64.wrap (n / 2))) - 1)), .slice A ([] : List Int).length c, .int .i64 z, .int .i64 f] (0, 0) _ rfl HBY.out Try.underlying81 rfl (by kernel_rfl)) rfl ?_
    refine ⟨_, by rw [HSS.out], Kd.R_lower HRY.out (by rw [World.size_alloc]; omega), HLY.out⟩
end Go.Proofs.Ytalpemoodollpaa.P
/- damperref03.ReadRaw, damperlaw03.read. -/
namespace Go.Proofs.Ytalpemoodollpaa.P
open Go.RowKit Go.Proofs.YtalpemoodollpaaW.PrintWords Go.Proofs.YtalpemoodollpaaW.PrintLast Go.Proofs.YtalpemoodollpaaW.PrintMore
set_option linter.unusedVariables false
set_option linter.unusedSimpArgs false
/-- What ReadRaw tells. -/
def rdRaw (l : List Int) (n : Int) : Int × Int × List Int × Int × Int := if n < 0 then (0, 0, [], 0, 0) else if (l.length : Int) < n then (0, 0, [], 0, 3) else (0, 0, l.take n.toNat, n, 0)
set_option maxRecDepth 100000 in
set_option maxHeartbeats 2000000 in
theorem refReadRaw_calls (A0 : Option Addr) (c0 : Nat) (l0 : List Int) (n : Int) (w : World) (hr0 : Kd.C (Kd.int .u8) w A0 l0.length l0) (hc0 : l0.length ≤ c0) :
    Calls Try.prog 116 #[.slice A0 l0.length c0, .int .i64 n] w fun e w' => ∃ A c, e = .returned (.agg #[.int .u64 (rdRaw l0 n).1, .int .i64 (rdRaw l0 n).2.1, .slice A (rdRaw l0 n).2.2.1.length c, .int .i64 (rdRaw l0 n).2.2.2.1, .int .i64 (rdRaw l0 n).2.2.2.2]) ∧
      (rdRaw l0 n).2.2.1.length ≤ c ∧ (A = A0 ∨ (rdRaw l0 n).2.2.1 = []) ∧ Below w.heap.size w w' := by
  generalize hG : rdRaw l0 n = G
  unfold rdRaw at hG
  have HR := Aside0.mk hr0
  have HC := Aside0.mk hc0
  have HG := Aside0.mk hG
  clear hr0 hG
  by_cases h0 : n < 0
  · have HF : Aside0 (G = (0, 0, [], 0, 0)) := ⟨by have h := HG.out; rw [if_pos h0] at h; exact h.symm⟩
    clear HG
    have HBX := Aside0.mk (show Box5 (w.alloc (.cells #[.int .u64 0, .int .i64 0, .slice none 0 0, .int .i64 0, .int .i64 0] 81)) w.heap.size 0 0 (.slice none 0 0) 0 0 from blk_new w _)
    have HLX := Aside0.mk (below_alloc (Below.refl w.heap.size w) (.cells #[.int .u64 0, .int .i64 0, .slice none 0 0, .int .i64 0, .int .i64 0] 81))
    go_enter Try.func116, Try.ntmps116
    go_wp2
    refine bodyPost_ret (results_cell_row (fn := Try.f116) (p := 4) (ty := 81) rfl _ _ w.heap.size 81 #[.int .u64 0, .int .i64 0, .slice none 0 0, .int .i64 0, .int .i64 0] (0, 0) _ rfl HBX.out Try.underlying81 rfl (by kernel_rfl)) rfl ?_
    obtain rfl := HF.out
    exact ⟨none, 0, rfl, Nat.le_refl _, .inr rfl, HLX.out⟩
  · by_cases h1 : (l0.length : Int) < n
    · have HF : Aside0 (G = (0, 0, [], 0, 3)) := ⟨by have h := HG.out; rw [if_neg h0, if_pos h1] at h; exact h.symm⟩
      clear HG
      have HBX := Aside0.mk (show Box5 (w.alloc (.cells #[.int .u64 0, .int .i64 0, .slice none 0 0, .int .i64 0, .int .i64 3] 81)) w.heap.size 0 0 (.slice none 0 0) 0 3 from blk_new w _)
      have HLX := Aside0.mk (below_alloc (Below.refl w.heap.size w) (.cells #[.int .u64 0, .int .i64 0, .slice none 0 0, .int .i64 0, .int .i64 3] 81))
      go_enter Try.func116, Try.ntmps116
      go_wp2
      refine bodyPost_ret (results_cell_row (fn := Try.f116) (p := 4) (ty := 81) rfl _ _ w.heap.size 81 #[.int .u64 0, .int .i64 0, .slice none 0 0, .int .i64 0, .int .i64 3] (0, 0) _ rfl HBX.out Try.underlying81 rfl (by kernel_rfl)) rfl ?_
      obtain rfl := HF.out
      exact ⟨none, 0, rfl, Nat.le_refl _, .inr rfl, HLX.out⟩
    · obtain ⟨m, rfl⟩ := Int.eq_ofNat_of_zero_le (show 0 ≤ n by omega)
      have HF : Aside0 (G = (0, 0, l0.take m, (m : Int), 0)) := ⟨by have h := HG.out; rw [if_neg h0, if_neg h1] at h; exact h.symm⟩
      have hml : m ≤ l0.length := by omega
      have HML := Aside0.mk hml
      clear HG h0
      have HBX := Aside0.mk (show Box5 (w.alloc (.cells #[.int .u64 0, .int .i64 0, .slice A0 m c0, .int .i64 (m : Int), .int .i64 0] 81)) w.heap.size 0 0 (.slice A0 m c0) (m : Int) 0 from blk_new w _)
      have HLX := Aside0.mk (below_alloc (Below.refl w.heap.size w) (.cells #[.int .u64 0, .int .i64 0, .slice A0 m c0, .int .i64 (m : Int), .int .i64 0] 81))
      have HCC := Aside0.mk (Kd.C_take (Kd.C_alloc HR.out (.cells #[.int .u64 0, .int .i64 0, .slice A0 m c0, .int .i64 (m : Int), .int .i64 0] 81)) hml)
      go_enter Try.func116, Try.ntmps116
      go_wp2
      refine bodyPost_ret (results_cell_row (fn := Try.f116) (p := 4) (ty := 81) rfl _ _ w.heap.size 81 #[.int .u64 0, .int .i64 0, .slice A0 m c0, .int .i64 (m : Int), .int .i64 0] (0, 0) _ rfl HBX.out Try.underlying81 rfl (by kernel_rfl)) rfl ?_
      obtain rfl := HF.out
      have hlen : (l0.take m).length = m := by rw [List.length_take]; have := HML.out; omega
      refine ⟨A0, c0, by rw [hlen], by rw [hlen]; have := HML.out; have := HC.out; omega, .inl rfl, HLX.out⟩
theorem C_empty (W : World) (A : Option Addr) : Kd.C (Kd.int .u8) W A ([] : List Int).length [] := ⟨rfl, by simp, fun h => absurd h (Nat.lt_irrefl 0)⟩
/-- What law03.read tells. -/
def readF (l : List Int) (p : S49) : Int × Int × List Int × Int × Int :=
  if p.f0 = 1 then rdUint l p.f1 else if p.f0 = 2 then rdInt l else if p.f0 = 3 then fin3 l (numGo 10 0 0 l) else if p.f0 = 4 then rdRaw l p.f1 else (0, 0, [], 0, 0)
def RD (fn : Nat) (args : Array Value) (W : World) (A0 : Option Addr) (T : Int × Int × List Int × Int × Int) : Prop :=
  Calls Try.prog fn args W fun e w' => ∃ A c, e = .returned (.agg #[.int .u64 T.1, .int .i64 T.2.1, .slice A T.2.2.1.length c, .int .i64 T.2.2.2.1, .int .i64 T.2.2.2.2]) ∧ T.2.2.1.length ≤ c ∧ (A = A0 ∨ T.2.2.1 = []) ∧ Below W.heap.size W w'
theorem rdUint_raw (l : List Int) (s : Int) : (rdUint l s).2.2.1 = [] := by unfold rdUint; split; rfl; split <;> rfl
theorem fin3_raw (l : List Int) (r : Int × (List Int × Int)) : (fin3 l r).2.2.1 = [] := by unfold fin3; split <;> rfl
theorem rdInt_raw (l : List Int) : (rdInt l).2.2.1 = [] ∧ (rdInt l).1 = 0 := by unfold rdInt; split <;> exact ⟨rfl, rfl⟩
theorem RD.uint (A0 : Option Addr) (c0 : Nat) (l : List Int) (s : Int) (w : World) (hr : Kd.C (Kd.int .u8) w A0 l.length l) (hc : l.length ≤ c0) (hb : Byt l) : RD 106 #[.slice A0 l.length c0, .int .i64 s] w A0 (rdUint l s) := by
  refine (damperref03_ReadUint.calls 12 A0 c0 l s _ _ _ _ _ w hr hc (refReadUint l s hb 12 (by omega))).mono ?_
  rintro e w' ⟨v, rfl, hR, hbl⟩
  obtain ⟨A, c, rfl, hq, _⟩ := Kd.R_reads hR
  exact ⟨A, c, rfl, hq, .inr (rdUint_raw l s), hbl⟩
theorem RD.num (A0 : Option Addr) (c0 : Nat) (l : List Int) (w : World) (hr : Kd.C (Kd.int .u8) w A0 l.length l) (hc : l.length ≤ c0) (hb : Byt l) (hl : l.length ≤ 140737488355328) : RD 115 #[.slice A0 l.length c0] w A0 (fin3 l (numGo 10 0 0 l)) := by
  refine (damperref03_ReadNum.calls 21 A0 c0 l _ _ _ _ _ w hr hc (refReadNum l hb hl 21 (by omega))).mono ?_
  rintro e w' ⟨v, rfl, hR, hbl⟩
  obtain ⟨A, c, rfl, hq, _⟩ := Kd.R_reads hR
  exact ⟨A, c, rfl, hq, .inr (fin3_raw l _), hbl⟩
theorem RD.int (A0 : Option Addr) (c0 : Nat) (l : List Int) (w : World) (hr : Kd.C (Kd.int .u8) w A0 l.length l) (hc : l.length ≤ c0) (hb : Byt l) : RD 114 #[.slice A0 l.length c0] w A0 (rdInt l) := by
  refine (refReadInt_calls A0 c0 l w hr hc hb).mono ?_
  rintro e w' ⟨v, rfl, hR, hbl⟩
  obtain ⟨A, c, rfl, hq, _⟩ := Kd.R_reads hR
  exact ⟨A, c, by rw [(rdInt_raw l).1, (rdInt_raw l).2], by rw [(rdInt_raw l).1]; exact hq, .inr (rdInt_raw l).1, hbl⟩
set_option maxRecDepth 100000 in
set_option maxHeartbeats 4000000 in
theorem law03_read_calls (B : Option Addr) (m : Nat) (l : List Int) (p : S49) (A : Option Addr) (c : Nat) (w : World) (hr : Kd.C (Kd.int .u8) w B l.length l) (hm : l.length ≤ m) (hb : Byt l) (hl : l.length ≤ 140737488355328) :
    RD 61 #[.slice B l.length m, .agg #[.int .i64 p.f0, .int .i64 p.f1, .int .u64 p.f2, .int .i64 p.f3, .slice A p.f4.length c]] w B (readF l p) := by
  unfold RD
  obtain ⟨f0, f1, f2, f3, f4⟩ := p
  generalize hG : readF l ⟨f0, f1, f2, f3, f4⟩ = G
  unfold readF at hG
  dsimp only at *
  by_cases h1 : f0 = 1
  · rw [if_pos h1] at hG
    subst h1
    have hx : RD 106 #[.slice B l.length m, .int .i64 f1] ((w.alloc (.cells #[.int .i64 1, .int .i64 f1, .int .u64 f2, .int .i64 f3, .slice A f4.length c] 49)).alloc (.cells #[.int .u64 0, .int .i64 0, .slice none 0 0, .int .i64 0, .int .i64 0] 81)) B (rdUint l f1) := RD.uint B m l f1 _ (Kd.C_alloc (Kd.C_alloc hr _) _) hm hb
    rw [hG] at hx
    have HX := Aside0.mk hx
    have HB := Aside0.mk (show Box5 ((w.alloc (.cells #[.int .i64 1, .int .i64 f1, .int .u64 f2, .int .i64 f3, .slice A f4.length c] 49)).alloc (.cells #[.int .u64 0, .int .i64 0, .slice none 0 0, .int .i64 0, .int .i64 0] 81)) (w.heap.size + 1) 0 0 (.slice none 0 0) 0 0 from by
      have := blk_new (w.alloc (.cells #[.int .i64 1, .int .i64 f1, .int .u64 f2, .int .i64 f3, .slice A f4.length c] 49)) (.cells #[.int .u64 0, .int .i64 0, .slice none 0 0, .int .i64 0, .int .i64 0] 81)
      rw [World.size_alloc] at this
      exact this)
    have HL := Aside0.mk (below_alloc (below_alloc (Below.refl w.heap.size w) (.cells #[.int .i64 1, .int .i64 f1, .int .u64 f2, .int .i64 f3, .slice A f4.length c] 49)) (.cells #[.int .u64 0, .int .i64 0, .slice none 0 0, .int .i64 0, .int .i64 0] 81))
    clear hG hr hm hb hl hx
    go_enter Try.func61, Try.ntmps61
    go_wp2_with fail
    refine HX.out.mono ?_
    rintro e w1 ⟨X, x, rfl, hq, hX, hbl⟩
    obtain ⟨tn, ts, tr, tz, tf⟩ := G
    have HB1 : Aside0 (Box5 w1 (w.heap.size + 1) 0 0 (.slice none 0 0) 0 0) := ⟨(hbl.block _ (blk_lt HB.out)).trans HB.out⟩
    have HL1 := Aside0.mk (Below.trans HL.out (Below.mono hbl HL.out.size))
    have HB2 := Aside0.mk (HB1.out.set5 tn ts tz tf (.slice X tr.length x))
    have HL2 := Aside0.mk (below_far5 HL1.out (b := w.heap.size + 1) (by omega) tn ts tz tf (.slice X tr.length x))
    have HQ := Aside0.mk hq
    have HXX := Aside0.mk hX
    clear hbl hq hX HX HB HL
    obtain ⟨d0, d1, d2, d3, d4⟩ := HB1.out.cells
    have y0 := blk_frozen HB1.out 0
    have y1 := blk_frozen HB1.out 1
    have y2 := blk_frozen HB1.out 2
    have y3 := blk_frozen HB1.out 3
    have y4 := blk_frozen HB1.out 4
    go_wp2
    refine bodyPost_ret (results_cell_row (fn := Try.f61) (p := 4) (ty := 81) rfl _ _ (w.heap.size + 1) 81 #[.int .u64 tn, .int .i64 ts, .slice X tr.length x, .int .i64 tz, .int .i64 tf] (0, 0) _ rfl HB2.out Try.underlying81 rfl (by kernel_rfl)) rfl ?_
    exact ⟨X, x, rfl, HQ.out, HXX.out, HL2.out⟩
  · by_cases h2 : f0 = 2
    · rw [if_neg h1, if_pos h2] at hG
      clear h1
      subst h2
      have hx : RD 114 #[.slice B l.length m] ((w.alloc (.cells #[.int .i64 2, .int .i64 f1, .int .u64 f2, .int .i64 f3, .slice A f4.length c] 49)).alloc (.cells #[.int .u64 0, .int .i64 0, .slice none 0 0, .int .i64 0, .int .i64 0] 81)) B (rdInt l) := RD.int B m l _ (Kd.C_alloc (Kd.C_alloc hr _) _) hm hb
      rw [hG] at hx
      have HX := Aside0.mk hx
      have HB := Aside0.mk (show Box5 ((w.alloc (.cells #[.int .i64 2, .int .i64 f1, .int .u64 f2, .int .i64 f3, .slice A f4.length c] 49)).alloc (.cells #[.int .u64 0, .int .i64 0, .slice none 0 0, .int .i64 0, .int .i64 0] 81)) (w.heap.size + 1) 0 0 (.slice none 0 0) 0 0 from by
        have := blk_new (w.alloc (.cells #[.int .i64 2, .int .i64 f1, .int .u64 f2, .int .i64 f3, .slice A f4.length c] 49)) (.cells #[.int .u64 0, .int .i64 0, .slice none 0 0, .int .i64 0, .int .i64 0] 81)
        rw [World.size_alloc] at this
        exact this)
      have HL := Aside0.mk (below_alloc (below_alloc (Below.refl w.heap.size w) (.cells #[.int .i64 2, .int .i64 f1, .int .u64 f2, .int .i64 f3, .slice A f4.length c] 49)) (.cells #[.int .u64 0, .int .i64 0, .slice none 0 0, .int .i64 0, .int .i64 0] 81))
      clear hG hr hm hb hl hx
      go_enter Try.func61, Try.ntmps61
      go_wp2_with fail
      refine HX.out.mono ?_
      rintro e w1 ⟨X, x, rfl, hq, hX, hbl⟩
      obtain ⟨tn, ts, tr, tz, tf⟩ := G
      have HB1 : Aside0 (Box5 w1 (w.heap.size + 1) 0 0 (.slice none 0 0) 0 0) := ⟨(hbl.block _ (blk_lt HB.out)).trans HB.out⟩
      have HL1 := Aside0.mk (Below.trans HL.out (Below.mono hbl HL.out.size))
      have HB2 := Aside0.mk (HB1.out.set5 tn ts tz tf (.slice X tr.length x))
      have HL2 := Aside0.mk (below_far5 HL1.out (b := w.heap.size + 1) (by omega) tn ts tz tf (.slice X tr.length x))
      have HQ := Aside0.mk hq
      have HXX := Aside0.mk hX
      clear hbl hq hX HX HB HL
      obtain ⟨d0, d1, d2, d3, d4⟩ := HB1.out.cells
      have y0 := blk_frozen HB1.out 0
      have y1 := blk_frozen HB1.out 1
      have y2 := blk_frozen HB1.out 2
      have y3 := blk_frozen HB1.out 3
      have y4 := blk_frozen HB1.out 4
      go_wp2
      refine bodyPost_ret (results_cell_row (fn := Try.f61) (p := 4) (ty := 81) rfl _ _ (w.heap.size + 1) 81 #[.int .u64 tn, .int .i64 ts, .slice X tr.length x, .int .i64 tz, .int .i64 tf] (0, 0) _ rfl HB2.out Try.underlying81 rfl (by kernel_rfl)) rfl ?_
      exact ⟨X, x, rfl, HQ.out, HXX.out, HL2.out⟩
    · by_cases h3 : f0 = 3
      · rw [if_neg h1, if_neg h2, if_pos h3] at hG
        clear h1 h2
        subst h3
        have hx : RD 115 #[.slice B l.length m] ((w.alloc (.cells #[.int .i64 3, .int .i64 f1, .int .u64 f2, .int .i64 f3, .slice A f4.length c] 49)).alloc (.cells #[.int .u64 0, .int .i64 0, .slice none 0 0, .int .i64 0, .int .i64 0] 81)) B (fin3 l (numGo 10 0 0 l)) := RD.num B m l _ (Kd.C_alloc (Kd.C_alloc hr _) _) hm hb hl
        rw [hG] at hx
        have HX := Aside0.mk hx
        have HB := Aside0.mk (show Box5 ((w.alloc (.cells #[.int .i64 3, .int .i64 f1, .int .u64 f2, .int .i64 f3, .slice A f4.length c] 49)).alloc (.cells #[.int .u64 0, .int .i64 0, .slice none 0 0, .int .i64 0, .int .i64 0] 81)) (w.heap.size + 1) 0 0 (.slice none 0 0) 0 0 from by
          have := blk_new (w.alloc (.cells #[.int .i64 3, .int .i64 f1, .int .u64 f2, .int .i64 f3, .slice A f4.length c] 49)) (.cells #[.int .u64 0, .int .i64 0, .slice none 0 0, .int .i64 0, .int .i64 0] 81)
          rw [World.size_alloc] at this
          exact this)
        have HL := Aside0.mk (below_alloc (below_alloc (Below.refl w.heap.size w) (.cells #[.int .i64 3, .int .i64 f1, .int .u64 f2, .int .i64 f3, .slice A f4.length c] 49)) (.cells #[.int .u64 0, .int .i64 0, .slice none 0 0, .int .i64 0, .int .i64 0] 81))
        clear hG hr hm hb hl hx
        go_enter Try.func61, Try.ntmps61
        go_wp2_with fail
        refine HX.out.mono ?_
        rintro e w1 ⟨X, x, rfl, hq, hX, hbl⟩
        obtain ⟨tn, ts, tr, tz, tf⟩ := G
        have HB1 : Aside0 (Box5 w1 (w.heap.size + 1) 0 0 (.slice none 0 0) 0 0) := ⟨(hbl.block _ (blk_lt HB.out)).trans HB.out⟩
        have HL1 := Aside0.mk (Below.trans HL.out (Below.mono hbl HL.out.size))
        have HB2 := Aside0.mk (HB1.out.set5 tn ts tz tf (.slice X tr.length x))
        have HL2 := Aside0.mk (below_far5 HL1.out (b := w.heap.size + 1) (by omega) tn ts tz tf (.slice X tr.length x))
        have HQ := Aside0.mk hq
        have HXX := Aside0.mk hX
        clear hbl hq hX HX HB HL
        obtain ⟨d0, d1, d2, d3, d4⟩ := HB1.out.cells
        have y0 := blk_frozen HB1.out 0
        have y1 := blk_frozen HB1.out 1
        have y2 := blk_frozen HB1.out 2
        have y3 := blk_frozen HB1.out 3
        have y4 := blk_frozen HB1.out 4
        go_wp2
        refine bodyPost_ret (results_cell_row (fn := Try.f61) (p := 4) (ty := 81) rfl _ _ (w.heap.size + 1) 81 #[.int .u64 tn, .int .i64 ts, .slice X tr.length x, .int .i64 tz, .int .i64 tf] (0, 0) _ rfl HB2.out Try.underlying81 rfl (by kernel_rfl)) rfl ?_
        exact ⟨X, x, rfl, HQ.out, HXX.out, HL2.out⟩
      · by_cases h4 : f0 = 4
        · rw [if_neg h1, if_neg h2, if_neg h3, if_pos h4] at hG
          clear h1 h2 h3
          subst h4
          have hx : RD 116 #[.slice B l.length m, .int .i64 f1] ((w.alloc (.cells #[.int .i64 4, .int .i64 f1, .int .u64 f2, .int .i64 f3, .slice A f4.length c] 49)).alloc (.cells #[.int .u64 0, .int .i64 0, .slice none 0 0, .int .i64 0, .int .i64 0] 81)) B (rdRaw l f1) := refReadRaw_calls B m l f1 _ (Kd.C_alloc (Kd.C_alloc hr _) _) hm
          rw [hG] at hx
          have HX := Aside0.mk hx
          have HB := Aside0.mk (show Box5 ((w.alloc (.cells #[.int .i64 4, .int .i64 f1, .int .u64 f2, .int .i64 f3, .slice A f4.length c] 49)).alloc (.cells #[.int .u64 0, .int .i64 0, .slice none 0 0, .int .i64 0, .int .i64 0] 81)) (w.heap.size + 1) 0 0 (.slice none 0 0) 0 0 from by
            have := blk_new (w.alloc (.cells #[.int .i64 4, .int .i64 f1, .int .u64 f2, .int .i64 f3, .slice A f4.length c] 49)) (.cells #[.int .u64 0, .int .i64 0, .slice none 0 0, .int .i64 0, .int .i64 0] 81)
            rw [World.size_alloc] at this
            exact this)
          have HL := Aside0.mk (below_alloc (below_alloc (Below.refl w.heap.size w) (.cells #[.int .i64 4, .int .i64 f1, .int .u64 f2, .int .i64 f3, .slice A f4.length c] 49)) (.cells #[.int .u64 0, .int .i64 0, .slice none 0 0, .int .i64 0, .int .i64 0] 81))
          clear hG hr hm hb hl hx
          go_enter Try.func61, Try.ntmps61
          go_wp2_with fail
          refine HX.out.mono ?_
          rintro e w1 ⟨X, x, rfl, hq, hX, hbl⟩
          obtain ⟨tn, ts, tr, tz, tf⟩ := G
          have HB1 : Aside0 (Box5 w1 (w.heap.size + 1) 0 0 (.slice none 0 0) 0 0) := ⟨(hbl.block _ (blk_lt HB.out)).trans HB.out⟩
          have HL1 := Aside0.mk (Below.trans HL.out (Below.mono hbl HL.out.size))
          have HB2 := Aside0.mk (HB1.out.set5 tn ts tz tf (.slice X tr.length x))
          have HL2 := Aside0.mk (below_far5 HL1.out (b := w.heap.size + 1) (by omega) tn ts tz tf (.slice X tr.length x))
          have HQ := Aside0.mk hq
          have HXX := Aside0.mk hX
          clear hbl hq hX HX HB HL
          obtain ⟨d0, d1, d2, d3, d4⟩ := HB1.out.cells
          have y0 := blk_frozen HB1.out 0
          have y1 := blk_frozen HB1.out 1
          have y2 := blk_frozen HB1.out 2
          have y3 := blk_frozen HB1.out 3
          have y4 := blk_frozen HB1.out 4
          go_wp2
          refine bodyPost_ret (results_cell_row (fn := Try.f61) (p := 4) (ty := 81) rfl _ _ (w.heap.size + 1) 81 #[.int .u64 tn, .int .i64 ts, .slice X tr.length x, .int .i64 tz, .int .i64 tf] (0, 0) _ rfl HB2.out Try.underlying81 rfl (by kernel_rfl)) rfl ?_
          exact ⟨X, x, rfl, HQ.out, HXX.out, HL2.out⟩
        · rw [if_neg h1, if_neg h2, if_neg h3, if_neg h4] at hG
          subst hG
          have HB := Aside0.mk (show Box5 ((w.alloc (.cells #[.int .i64 f0, .int .i64 f1, .int .u64 f2, .int .i64 f3, .slice A f4.length c] 49)).alloc (.cells #[.int .u64 0, .int .i64 0, .slice none 0 0, .int .i64 0, .int .i64 0] 81)) (w.heap.size + 1) 0 0 (.slice none 0 0) 0 0 from by
            have := blk_new (w.alloc (.cells #[.int .i64 f0, .int .i64 f1, .int .u64 f2, .int .i64 f3, .slice A f4.length c] 49)) (.cells #[.int .u64 0, .int .i64 0, .slice none 0 0, .int .i64 0, .int .i64 0] 81)
            rw [World.size_alloc] at this
            exact this)
          have HL := Aside0.mk (below_alloc (below_alloc (Below.refl w.heap.size w) (.cells #[.int .i64 f0, .int .i64 f1, .int .u64 f2, .int .i64 f3, .slice A f4.length c] 49)) (.cells #[.int .u64 0, .int .i64 0, .slice none 0 0, .int .i64 0, .int .i64 0] 81))
          clear hr hm hb hl
          go_enter Try.func61, Try.ntmps61
          go_wp2
          refine bodyPost_ret (results_cell_row (fn := Try.f61) (p := 4) (ty := 81) rfl _ _ (w.heap.size + 1) 81 #[.int .u64 0, .int .i64 0, .slice none 0 0, .int .i64 0, .int .i64 0] (0, 0) _ rfl HB.out Try.underlying81 rfl (by kernel_rfl)) rfl ?_
          first | exact ⟨none, 0, rfl, Nat.le_refl _, .inr rfl, HL.out⟩ | exact ⟨none, 0, rfl, Nat.le_refl _, .inr trivial, HL.out⟩ | exact ⟨none, 0, by simp, by simp, by simp, HL.out⟩
end Go.Proofs.Ytalpemoodollpaa.P
/- What is got is what the document reads. -/

namespace Go.Proofs.Ytalpemoodollpaa.P
open Go.RowKit Go.Proofs.YtalpemoodollpaaW.PrintWords Go.Proofs.YtalpemoodollpaaW.PrintLast Go.Proofs.YtalpemoodollpaaW.PrintMore
set_option linter.unusedVariables false
set_option linter.unusedSimpArgs false
theorem rTake_0 (l : List Int) (n : Nat) : rTake (l, 0) n = if l.length < n then ([], false, (l, 3)) else (l.take n, true, (l.drop n, 0)) := by
  unfold rTake
  rw [if_neg (by simp)]
theorem rTake_f (l : List Int) (f : Int) (hf : f ≠ 0) (n : Nat) : rTake (l, f) n = ([], false, (l, f)) := by
  unfold rTake
  rw [if_pos hf]
theorem numGo_fin (k : Nat) : ∀ (i : Nat) (n : Int) (l : List Int), ((numGo k i n l).2.2 ≠ 0 → (numGo k i n l).1 = 0) ∧ ((numGo k i n l).2.2 = 0 → ∃ m, m ≤ l.length ∧ (numGo k i n l).2.1 = l.drop m) := by
  induction k with
  | zero => intro i n l; exact ⟨fun _ => rfl, fun h => absurd h (by simp [numGo])⟩
  | succ k ih =>
    intro i n l
    cases l with
    | nil => exact ⟨fun _ => rfl, fun h => absurd h (by simp [numGo])⟩
    | cons b bs =>
      rw [numGo]
      split
      · exact ⟨fun _ => rfl, fun h => absurd h (by simp)⟩
      · split
        · obtain ⟨h1, h2⟩ := ih (i + 1) (n + b % 128 * ((128 ^ i : Nat) : Int)) bs
          refine ⟨h1, fun h => ?_⟩
          obtain ⟨m, hm, he⟩ := h2 h
          exact ⟨m + 1, by simp; omega, by rw [he]; rfl⟩
        · split
          · exact ⟨fun _ => rfl, fun h => absurd h (by simp)⟩
          · exact ⟨fun h => absurd rfl h, fun _ => ⟨1, by simp, rfl⟩⟩
theorem got_read (l : List Int) (p : S49) : (gotF (l, 0) p).1 = (readF l p).1 ∧ (gotF (l, 0) p).2.1 = (readF l p).2.1 ∧ (gotF (l, 0) p).2.2.1 = (readF l p).2.2.1 ∧ (gotF (l, 0) p).2.2.2.2 = (readF l p).2.2.2.2 ∧
    0 ≤ (readF l p).2.2.2.1 ∧ (readF l p).2.2.2.1 ≤ l.length ∧ ((readF l p).2.2.2.2 = 0 → (gotF (l, 0) p).2.2.2.1 = l.drop (readF l p).2.2.2.1.toNat) := by
  unfold gotF readF
  by_cases h1 : p.f0 = 1
  · rw [if_pos h1, if_pos h1]
    unfold rUint rdUint
    by_cases hk : p.f1 < 1 ∨ 8 < p.f1
    · rw [if_pos hk, if_pos hk]
      exact ⟨rfl, rfl, rfl, rfl, by simp, by simp, fun _ => rfl⟩
    · rw [if_neg hk, if_neg hk, rTake_0]
      by_cases hl : l.length < p.f1.toNat
      · rw [if_pos hl, if_pos (show (l.length : Int) < p.f1 by omega)]
        exact ⟨rfl, rfl, rfl, rfl, by simp, by simp, fun h => absurd h (by simp)⟩
      · rw [if_neg hl, if_neg (show ¬ (l.length : Int) < p.f1 by omega)]
        exact ⟨rfl, rfl, rfl, rfl, by show 0 ≤ p.f1; omega, by show p.f1 ≤ (l.length : Int); omega, fun _ => rfl⟩
  · rw [if_neg h1, if_neg h1]
    by_cases h2 : p.f0 = 2
    · rw [if_pos h2, if_pos h2]
      unfold rUint rdInt
      rw [if_neg (show ¬ ((8 : Int) < 1 ∨ (8 : Int) < 8) by decide), show (8 : Int).toNat = 8 from rfl, rTake_0]
      by_cases hl : l.length < 8
      · rw [if_pos hl, if_pos hl]
        exact ⟨rfl, by show unzig 0 = 0; decide, rfl, rfl, by simp, by simp, fun h => absurd h (by simp)⟩
      · rw [if_neg hl, if_neg hl]
        exact ⟨rfl, rfl, rfl, rfl, by simp, by show (8 : Int) ≤ (l.length : Int); omega, fun _ => rfl⟩
    · rw [if_neg h2, if_neg h2]
      by_cases h3 : p.f0 = 3
      · rw [if_pos h3, if_pos h3]
        unfold rNum fin3
        rw [if_neg (by simp)]
        obtain ⟨hz, hd⟩ := numGo_fin 10 0 0 l
        by_cases hf : (numGo 10 0 0 l).2.2 = 0
        · rw [if_pos hf]
          obtain ⟨m, hm, he⟩ := hd hf
          refine ⟨rfl, rfl, rfl, hf, ?_, ?_, fun _ => ?_⟩
          · show 0 ≤ (l.length : Int) - ((numGo 10 0 0 l).2.1.length : Int)
            rw [he, List.length_drop]; omega
          · show (l.length : Int) - ((numGo 10 0 0 l).2.1.length : Int) ≤ _
            omega
          · show (numGo 10 0 0 l).2.1 = l.drop ((l.length : Int) - ((numGo 10 0 0 l).2.1.length : Int)).toNat
            rw [he, List.length_drop]
            congr 1
            omega
        · rw [if_neg hf]
          exact ⟨hz hf, rfl, rfl, rfl, by simp, by simp, fun h => absurd h hf⟩
      · rw [if_neg h3, if_neg h3]
        by_cases h4 : p.f0 = 4
        · rw [if_pos h4, if_pos h4]
          unfold rdRaw
          by_cases hn : p.f1 < 0
          · rw [if_pos hn, if_pos hn]
            exact ⟨rfl, rfl, rfl, rfl, by simp, by simp, fun _ => rfl⟩
          · rw [if_neg hn, if_neg hn, rTake_0]
            by_cases hl : l.length < p.f1.toNat
            · rw [if_pos hl, if_pos (show (l.length : Int) < p.f1 by omega)]
              exact ⟨rfl, rfl, rfl, rfl, by simp, by simp, fun h => absurd h (by simp)⟩
            · rw [if_neg hl, if_neg (show ¬ (l.length : Int) < p.f1 by omega)]
              exact ⟨rfl, rfl, rfl, rfl, by show 0 ≤ p.f1; omega, by show p.f1 ≤ (l.length : Int); omega, fun _ => rfl⟩
        · rw [if_neg h4, if_neg h4]
          exact ⟨rfl, rfl, rfl, rfl, by simp, by simp, fun _ => rfl⟩
theorem got_fault (l : List Int) (f : Int) (hf : f ≠ 0) (p : S49) : gotF (l, f) p = (0, 0, [], (l, f)) := by
  unfold gotF rUint rNum
  have e := rTake_f l f hf
  split
  · split
    · rfl
    · rw [e]; rfl
  · split
    · rw [if_neg (by decide), e]; rfl
    · split
      · rfl
      · split
        · split
          · rfl
          · rw [e]
        · rfl
end Go.Proofs.Ytalpemoodollpaa.P
/- What is put is read as it was; of fewer bytes it is not; what is read has just those bytes. -/
namespace Go.Proofs.Ytalpemoodollpaa.P
open Go.RowKit Go.Proofs.YtalpemoodollpaaW.PrintWords Go.Proofs.YtalpemoodollpaaW.PrintLast Go.Proofs.YtalpemoodollpaaW.PrintMore
set_option linter.unusedVariables false
set_option linter.unusedSimpArgs false
theorem numGo_form (j : Nat) : ∀ (i : Nat) (a : Int) (n : Nat) (rest : List Int), i + j = 9 → n < 2 * 128 ^ j → (0 < i → 1 ≤ n) →
    numGo (j + 1) i a (numForm n ++ rest) = (a + (n : Int) * ((128 ^ i : Nat) : Int), (rest, 0)) := by
  induction j with
  | zero =>
    intro i a n rest hi hn hp
    obtain rfl : i = 9 := by omega
    have hn2 : n < 2 := by simpa using hn
    have h1 := hp (by omega)
    obtain rfl : n = 1 := by omega
    rw [numForm_lt (by omega)]
    simp [numGo]
  | succ j ih =>
    intro i a n rest hi hn hp
    by_cases h : n < 128
    · rw [numForm_lt h, List.cons_append, List.nil_append, numGo, if_neg (by omega), if_neg (by omega), if_neg (by omega)]
      have : (n : Int) % 128 = n := by omega
      rw [this]
    · rw [numForm_ge h, List.cons_append, numGo, if_neg (by omega), if_pos (by omega)]
      rw [ih (i + 1) _ (n / 128) rest (by omega) (by rw [Nat.pow_succ] at hn; omega) (by omega)]
      congr 1
      rw [Nat.pow_succ]
      have e : (((n % 128 + 128 : Nat) : Int) % 128) = ((n % 128 : Nat) : Int) := by omega
      rw [e]
      have e2 : (n : Int) = ((n % 128 : Nat) : Int) + ((n / 128 : Nat) : Int) * 128 := by omega
      generalize ((n % 128 : Nat) : Int) = x at *
      generalize ((n / 128 : Nat) : Int) = y at *
      rw [e2]
      push_cast
      generalize ((128 : Int) ^ i) = P
      rw [Int.add_mul, Int.mul_assoc y 128 P, Int.mul_comm 128 P]
      omega
theorem rNum_form (n : Nat) (hn : n < 18446744073709551616) (rest : List Int) : rNum (numForm n ++ rest, 0) = ((n : Int), (rest, 0)) := by
  unfold rNum
  rw [if_neg (by simp)]
  have := numGo_form 9 0 0 n rest (by omega) (by have : (2 * 128 ^ 9 : Nat) = 18446744073709551616 := by decide
                                                 omega) (by omega)
  simpa using this
theorem numGo_short (j : Nat) : ∀ (i : Nat) (a : Int) (n m : Nat), i + j = 9 → n < 2 * 128 ^ j → m < (numForm n).length → (numGo (j + 1) i a ((numForm n).take m)).2.2 = 3 := by
  induction j with
  | zero =>
    intro i a n m hi hn hm
    have hn2 : n < 2 := by simpa using hn
    rw [numForm_lt (by omega)] at hm ⊢
    obtain rfl : m = 0 := by simp at hm; omega
    rfl
  | succ j ih =>
    intro i a n m hi hn hm
    cases m with
    | zero => rfl
    | succ m =>
      by_cases h : n < 128
      · rw [numForm_lt h] at hm
        simp at hm
      · rw [numForm_ge h] at hm ⊢
        rw [List.take_succ_cons, numGo, if_neg (by omega), if_pos (by omega)]
        exact ih (i + 1) _ (n / 128) m (by omega) (by rw [Nat.pow_succ] at hn; omega) (by simpa using hm)
theorem rNum_short (n m : Nat) (hn : n < 18446744073709551616) (hm : m < (numForm n).length) : (rNum ((numForm n).take m, 0)).2.2 = 3 := by
  unfold rNum
  rw [if_neg (by simp)]
  exact numGo_short 9 0 0 n m (by omega) (by have : (2 * 128 ^ 9 : Nat) = 18446744073709551616 := by decide
                                             omega) hm
theorem numGo_back (j : Nat) : ∀ (i : Nat) (a : Int) (l : List Int), Byt l → i + j = 9 → (numGo (j + 1) i a l).2.2 = 0 →
    ∃ n : Nat, l = numForm n ++ (numGo (j + 1) i a l).2.1 ∧ (numGo (j + 1) i a l).1 = a + (n : Int) * ((128 ^ i : Nat) : Int) ∧ n < 2 * 128 ^ j ∧ (0 < i → 1 ≤ n) := by
  induction j with
  | zero =>
    intro i a l hb hi h
    obtain rfl : i = 9 := by omega
    cases l with
    | nil => simp [numGo] at h
    | cons b bs =>
      have hbb := hb.cons.1
      rw [numGo] at h ⊢
      by_cases h1 : (9 : Nat) = 9 ∧ 1 < b % 128
      · rw [if_pos h1] at h; simp at h
      · rw [if_neg h1] at h ⊢
        by_cases h2 : 128 ≤ b
        · rw [if_pos h2] at h; simp [numGo] at h
        · rw [if_neg h2] at h ⊢
          by_cases h3 : b % 128 = 0 ∧ 0 < 9
          · rw [if_pos h3] at h; simp at h
          · rw [if_neg h3]
            have e : b = 1 := by omega
            subst e
            exact ⟨1, by rw [numForm_lt (by omega)]; rfl, by simp, by simp, by omega⟩
  | succ j ih =>
    intro i a l hb hi h
    cases l with
    | nil => simp [numGo] at h
    | cons b bs =>
      obtain ⟨hbb, hbs⟩ := hb.cons
      rw [numGo] at h ⊢
      rw [if_neg (by omega)] at h ⊢
      by_cases h2 : 128 ≤ b
      · rw [if_pos h2] at h ⊢
        obtain ⟨n, e1, e2, e3, e4⟩ := ih (i + 1) _ bs hbs (by omega) h
        have hn1 := e4 (by omega)
        refine ⟨(b % 128).toNat + 128 * n, ?_, ?_, ?_, by omega⟩
        · rw [numForm_ge (by omega), show ((b % 128).toNat + 128 * n) / 128 = n by omega, List.cons_append, ← e1]
          congr 1
          omega
        · rw [e2, Nat.pow_succ]
          have : (((b % 128).toNat + 128 * n : Nat) : Int) = b % 128 + 128 * (n : Int) := by omega
          rw [this]
          push_cast
          generalize ((128 : Int) ^ i) = P
          generalize b % 128 = x
          rw [Int.add_mul, Int.mul_comm P 128, ← Int.mul_assoc, Int.mul_comm (n : Int) 128]
          omega
        · rw [Nat.pow_succ]; omega
      · rw [if_neg h2] at h ⊢
        by_cases h3 : b % 128 = 0 ∧ 0 < i
        · rw [if_pos h3] at h; simp at h
        · rw [if_neg h3]
          refine ⟨b.toNat, ?_, ?_, ?_, by omega⟩
          · rw [numForm_lt (by omega)]
            simp only [List.cons_append, List.nil_append]
            congr 1
            omega
          · show a + b % 128 * _ = _
            rw [show ((b.toNat : Nat) : Int) = b % 128 by omega]
          · have : 0 < 128 ^ j := Nat.pos_of_ne_zero (by simp)
            rw [Nat.pow_succ]; omega
theorem rNum_back (l : List Int) (hb : Byt l) (h : (rNum (l, 0)).2.2 = 0) : ∃ n : Nat, l = numForm n ++ (rNum (l, 0)).2.1 ∧ (rNum (l, 0)).1 = (n : Int) ∧ n < 18446744073709551616 := by
  unfold rNum at h ⊢
  rw [if_neg (by simp)] at h ⊢
  obtain ⟨n, e1, e2, e3, _⟩ := numGo_back 9 0 0 l hb (by omega) h
  refine ⟨n, e1, by simpa using e2, ?_⟩
  have : (2 * 128 ^ 9 : Nat) = 18446744073709551616 := by decide
  omega
theorem rUint_form (n k : Nat) (h1 : 1 ≤ k) (h8 : k ≤ 8) (rest : List Int) : rUint (uintForm n k ++ rest, 0) (k : Int) = (((n % 256 ^ k : Nat) : Int), (rest, 0)) := by
  unfold rUint
  rw [if_neg (by omega), Int.toNat_natCast, rTake_ok _ _ (by rw [List.length_append, uintForm_length]; omega)]
  simp only
  rw [List.take_left' (uintForm_length n k), List.drop_left' (uintForm_length n k), beNum_uintForm]
theorem rUint_short (l : List Int) (k : Int) (h1 : 1 ≤ k) (h8 : k ≤ 8) (h : (l.length : Int) < k) : rUint (l, 0) k = (0, (l, 3)) := by
  unfold rUint
  rw [if_neg (by omega), rTake_few _ _ (by omega)]
  rfl
theorem uintForm_beNum (l : List Int) (hb : Byt l) : uintForm (beNum l).toNat l.length = l := by
  induction l with
  | nil => rfl
  | cons b bs ih =>
    obtain ⟨hbb, hbs⟩ := hb.cons
    have hr := beNum_range bs hbs
    obtain ⟨m, hm⟩ := Int.eq_ofNat_of_zero_le hr.1
    obtain ⟨c, hc⟩ := Int.eq_ofNat_of_zero_le hbb.1
    have hml : m < 256 ^ bs.length := by rw [hm] at hr; exact_mod_cast hr.2
    have hpos : 0 < 256 ^ bs.length := Nat.pos_of_ne_zero (by simp)
    rw [beNum_cons, hm, hc]
    have e : ((c : Int) * ((256 ^ bs.length : Nat) : Int) + (m : Int)).toNat = c * 256 ^ bs.length + m := by
      have : ((c : Int) * ((256 ^ bs.length : Nat) : Int) + (m : Int)) = ((c * 256 ^ bs.length + m : Nat) : Int) := by rw [Int.natCast_add, Int.natCast_mul]
      rw [this, Int.toNat_natCast]
    rw [e, List.length_cons, uintForm]
    have hd : (c * 256 ^ bs.length + m) / 256 ^ bs.length = c := by
      rw [Nat.mul_comm, Nat.mul_add_div hpos, Nat.div_eq_of_lt hml, Nat.add_zero]
    rw [hd]
    have hc2 : c % 256 = c := by omega
    rw [hc2]
    congr 1
    have hmod : ∀ k, k ≤ bs.length → uintForm (c * 256 ^ bs.length + m) k = uintForm m k := by
      intro k hk
      induction k with
      | zero => rfl
      | succ k ihk =>
        rw [uintForm, uintForm, ihk (by omega)]
        congr 2
        obtain ⟨d, hd⟩ : ∃ d, bs.length = k + 1 + d := ⟨bs.length - (k + 1), by omega⟩
        rw [hd, Nat.pow_add, Nat.pow_succ]
        have : c * (256 ^ k * 256 * 256 ^ d) + m = 256 ^ k * (c * 256 ^ d * 256) + m := by
          congr 1
          rw [Nat.mul_assoc (256 ^ k), Nat.mul_left_comm, Nat.mul_comm 256 (256 ^ d), Nat.mul_assoc c]
        have hp : 0 < 256 ^ k := Nat.pos_of_ne_zero (by simp)
        rw [this, Nat.mul_add_div hp, Nat.add_comm, Nat.add_mul_mod_self_right]
    rw [hmod _ (Nat.le_refl _)]
    have := ih hbs
    rw [hm] at this
    simpa using this
theorem rUint_back (l : List Int) (k : Nat) (h1 : 1 ≤ k) (h8 : k ≤ 8) (hb : Byt l) (h : (rUint (l, 0) (k : Int)).2.2 = 0) :
    ∃ n : Nat, l = uintForm n k ++ (rUint (l, 0) (k : Int)).2.1 ∧ (rUint (l, 0) (k : Int)).1 = (n : Int) ∧ n < 256 ^ k := by
  by_cases hl : l.length < k
  · rw [rUint_short l k (by omega) (by omega) (by omega)] at h
    simp at h
  · unfold rUint
    rw [if_neg (by omega), Int.toNat_natCast, rTake_ok _ _ (by omega)]
    simp only
    have hlen : (l.take k).length = k := by rw [List.length_take]; omega
    have hr := beNum_range (l.take k) (hb.take k)
    rw [hlen] at hr
    refine ⟨(beNum (l.take k)).toNat, ?_, by omega, by have := hr.2; omega⟩
    have := uintForm_beNum (l.take k) (hb.take k)
    rw [hlen] at this
    rw [this, List.take_append_drop]
theorem intForm_read (n : Int) (h0 : -9223372036854775808 ≤ n) (h1 : n ≤ 9223372036854775807) (rest : List Int) : unzig (rUint (intForm n ++ rest, 0) 8).1 = n ∧ (rUint (intForm n ++ rest, 0) 8).2 = (rest, 0) := by
  have := rUint_form (zig n).toNat 8 (by omega) (by omega) rest
  have hz := zig_range n h0 h1
  unfold intForm
  rw [show (8 : Int) = ((8 : Nat) : Int) from rfl, this]
  have h256 : (256 ^ 8 : Nat) = 18446744073709551616 := by decide
  have e : (zig n).toNat % 256 ^ 8 = (zig n).toNat := Nat.mod_eq_of_lt (by omega)
  rw [e]
  refine ⟨?_, rfl⟩
  show unzig (((zig n).toNat : Nat) : Int) = n
  rw [Int.toNat_of_nonneg hz.1, unzig_zig]
theorem intForm_back (l : List Int) (hb : Byt l) (h : (rUint (l, 0) 8).2.2 = 0) : l = intForm (unzig (rUint (l, 0) 8).1) ++ (rUint (l, 0) 8).2.1 ∧ -9223372036854775808 ≤ unzig (rUint (l, 0) 8).1 ∧ unzig (rUint (l, 0) 8).1 ≤ 9223372036854775807 := by
  obtain ⟨n, e1, e2, e3⟩ := rUint_back l 8 (by omega) (by omega) hb h
  have e2' : (rUint (l, 0) 8).1 = (n : Int) := e2
  have e1' : l = uintForm n 8 ++ (rUint (l, 0) 8).2.1 := e1
  have h256 : (256 ^ 8 : Nat) = 18446744073709551616 := by decide
  rw [e2']
  refine ⟨?_, ?_, ?_⟩
  · unfold intForm
    rw [zig_unzig _ (by omega), Int.toNat_natCast]
    exact e1'
  · unfold unzig; split <;> omega
  · unfold unzig; split <;> omega
end Go.Proofs.Ytalpemoodollpaa.P
/- The reader of damperref05. -/
namespace Go.Proofs.Ytalpemoodollpaa.P
open Go.RowKit Go.Proofs.YtalpemoodollpaaW.PrintWords Go.Proofs.YtalpemoodollpaaW.PrintLast Go.Proofs.YtalpemoodollpaaW.PrintMore
set_option linter.unusedVariables false
set_option linter.unusedSimpArgs false
/-- The document's reader at g: up to the first fault it reads as s. -/
structure RR (w0 W : World) (g : Nat) (s : List Int × Int) : Prop where
  ex : ∃ (l : List Int) (A : Option Addr) (c : Nat), W.heap[g]? = some (.cells #[.slice A l.length c, .int .i64 s.2] 152 (0, 0)) ∧ l.length ≤ c ∧ Kd.C (Kd.int .u8) w0 A l.length l ∧ Byt l ∧ l.length ≤ 140737488355328 ∧ (s.2 = 0 → l = s.1)
  bel : Below w0.heap.size w0 W
  hg : w0.heap.size ≤ g
theorem RR.below {w0 W W1 : World} {g : Nat} {s : List Int × Int} (h : RR w0 W g s) (hb : Below W.heap.size W W1) : RR w0 W1 g s := by
  obtain ⟨⟨l, A, c, h1, h2⟩, hB, hg⟩ := h
  exact ⟨⟨l, A, c, (hb.block _ (blk_lt h1)).trans h1, h2⟩, below_then hB hB.size hb, hg⟩
theorem RR.set {w0 W : World} {g : Nat} {s : List Int × Int} (h : RR w0 W g s) {b j : Nat} (h0 : w0.heap.size ≤ b) (hb : b ≠ g) (u : Value) : RR w0 (W.setCell ⟨b, j, none⟩ u) g s := by
  obtain ⟨⟨l, A, c, h1, h2⟩, hB, hg⟩ := h
  exact ⟨⟨l, A, c, (Below.heap_setCell W ⟨b, j, none⟩ u g (by show g ≠ b; omega)).trans h1, h2⟩, hB.setCell (p := ⟨b, j, none⟩) h0 u, hg⟩
/-- take, behind a fault. -/
theorem take_fault (g : Nat) (l : List Int) (A : Option Addr) (c : Nat) (f : Int) (W : World) (hb : W.heap[g]? = some (.cells #[.slice A l.length c, .int .i64 f] 152 (0, 0))) (hf : f ≠ 0) (n s z k : Int) (B : Option Addr) (m q : Nat) :
    Calls Try.prog 140 #[.pointer (some ⟨g, 0, none⟩), .agg #[.int .u64 n, .int .i64 s, .slice B m q, .int .i64 z, .int .i64 k]] W fun e w' => e = .returned (.agg #[.int .u64 0, .int .i64 0, .slice none 0 0, .int .i64 0, .int .i64 0]) ∧ Below W.heap.size W w' := by
  have hlt := blk_lt hb
  have hb1 := blk_alloc (blk_alloc hb (.cells #[.int .u64 n, .int .i64 s, .slice B m q, .int .i64 z, .int .i64 k] 81)) (.cells #[.int .u64 0, .int .i64 0, .slice none 0 0, .int .i64 0, .int .i64 0] 81)
  have c1 := (blk_cell hb1 1).trans rfl
  have HX := Aside0.mk (blk_new (W.alloc (.cells #[.int .u64 n, .int .i64 s, .slice B m q, .int .i64 z, .int .i64 k] 81)) (.cells #[.int .u64 0, .int .i64 0, .slice none 0 0, .int .i64 0, .int .i64 0] 81))
  have HB := Aside0.mk (below_alloc (below_alloc (Below.refl W.heap.size W) (.cells #[.int .u64 n, .int .i64 s, .slice B m q, .int .i64 z, .int .i64 k] 81)) (.cells #[.int .u64 0, .int .i64 0, .slice none 0 0, .int .i64 0, .int .i64 0] 81))
  have hff : (f != 0) = true := by simpa using hf
  clear hb hb1 hf
  go_enter Try.func140, Try.ntmps140
  go_wp2
  refine bodyPost_ret (results_cell_row (fn := Try.f140) (p := 4) (ty := 81) rfl _ _ (W.heap.size + 1) 81 #[.int .u64 0, .int .i64 0, .slice none 0 0, .int .i64 0, .int .i64 0] (0, 0) _ rfl ?_ Try.underlying81 rfl (by kernel_rfl)) rfl ?_
  · have := HX.out
    rw [World.size_alloc] at this
    exact this
  · exact ⟨rfl, HB.out⟩
theorem take_ok (g : Nat) (l : List Int) (A : Option Addr) (c : Nat) (W : World) (hb : W.heap[g]? = some (.cells #[.slice A l.length c, .int .i64 0] 152 (0, 0))) (n s k : Int) (z : Nat) (hz : z ≤ l.length) (hl : l.length ≤ 140737488355328) (B : Option Addr) (m q : Nat) :
    Calls Try.prog 140 #[.pointer (some ⟨g, 0, none⟩), .agg #[.int .u64 n, .int .i64 s, .slice B m q, .int .i64 (z : Int), .int .i64 k]] W fun e w' => e = .returned (.agg #[.int .u64 n, .int .i64 s, .slice B m q, .int .i64 (z : Int), .int .i64 k]) ∧
      ∃ A', A'.map (·.block) = A.map (·.block) ∧ w'.heap[g]? = some (.cells #[.slice A' (l.drop z).length (c - z), .int .i64 k] 152 (0, 0)) ∧ Fr W w' (fun k => k = g) ∧
        ∀ (w : World) (xs : List Int), l.length ≤ c → Kd.C (Kd.int .u8) w A l.length xs → Kd.C (Kd.int .u8) w A' (l.drop z).length (xs.drop z) := by
  have hlt := blk_lt hb
  have hu := Try.underlying81
  have hb0 := blk_alloc (blk_alloc hb (.cells #[.int .u64 n, .int .i64 s, .slice B m q, .int .i64 (z : Int), .int .i64 k] 81)) (.cells #[.int .u64 0, .int .i64 0, .slice none 0 0, .int .i64 0, .int .i64 0] 81)
  have c0 := (blk_cell hb0 0).trans rfl
  have c1 := (blk_cell hb0 1).trans rfl
  have z0 := blk_frozen hb0 0
  have z1 := blk_frozen hb0 1
  have hsz : (W.setCell ⟨g, 1, none⟩ (.int .i64 k)).heap.size = W.heap.size := by simp [World.setCell]
  have HB2 : Aside0 ((((W.setCell ⟨g, 1, none⟩ (.int .i64 k)).alloc (.cells #[.int .u64 n, .int .i64 s, .slice B m q, .int .i64 (z : Int), .int .i64 k] 81)).alloc (.cells #[.int .u64 0, .int .i64 0, .slice none 0 0, .int .i64 0, .int .i64 0] 81)).heap[g]? = some (.cells #[.slice A l.length c, .int .i64 k] 152 (0, 0))) := ⟨blk_alloc (blk_alloc (by simpa using blk_set hb 1 (.int .i64 k)) _) _⟩
  have HX2 : Aside0 (Box5 (((W.setCell ⟨g, 1, none⟩ (.int .i64 k)).alloc (.cells #[.int .u64 n, .int .i64 s, .slice B m q, .int .i64 (z : Int), .int .i64 k] 81)).alloc (.cells #[.int .u64 0, .int .i64 0, .slice none 0 0, .int .i64 0, .int .i64 0] 81)) W.heap.size n s (.slice B m q) z k) := ⟨blk_alloc (by have := blk_new (W.setCell ⟨g, 1, none⟩ (.int .i64 k)) (.cells #[.int .u64 n, .int .i64 s, .slice B m q, .int .i64 (z : Int), .int .i64 k] 81); rw [hsz] at this; exact this) _⟩
  have HY2 : Aside0 (Box5 (((W.setCell ⟨g, 1, none⟩ (.int .i64 k)).alloc (.cells #[.int .u64 n, .int .i64 s, .slice B m q, .int .i64 (z : Int), .int .i64 k] 81)).alloc (.cells #[.int .u64 0, .int .i64 0, .slice none 0 0, .int .i64 0, .int .i64 0] 81)) (W.heap.size + 1) 0 0 (.slice none 0 0) 0 0) := ⟨by have := blk_new ((W.setCell ⟨g, 1, none⟩ (.int .i64 k)).alloc (.cells #[.int .u64 n, .int .i64 s, .slice B m q, .int .i64 (z : Int), .int .i64 k] 81)) (.cells #[.int .u64 0, .int .i64 0, .slice none 0 0, .int .i64 0, .int .i64 0] 81); rw [World.size_alloc, hsz] at this; exact this⟩
  have HF2 : Aside0 (Fr W (((W.setCell ⟨g, 1, none⟩ (.int .i64 k)).alloc (.cells #[.int .u64 n, .int .i64 s, .slice B m q, .int .i64 (z : Int), .int .i64 k] 81)).alloc (.cells #[.int .u64 0, .int .i64 0, .slice none 0 0, .int .i64 0, .int .i64 0] 81)) (fun k => k = g)) := ⟨(((Fr.refl W (fun k => k = g)).setCell ⟨g, 1, none⟩ (.int .i64 k) (fun _ => rfl)).alloc _).alloc _⟩
  have hg : g < W.heap.size := hlt
  obtain ⟨A', hcut, hA', hR'⟩ := cut_ A l.length c z hz
  rw [← List.length_drop] at hR'
  have HCUT := Aside0.mk hR'
  have HA' := Aside0.mk hA'
  clear hA' hR' hb hb0 hsz
  go_enter Try.func140, Try.ntmps140
  go_wp2
  generalize (((W.setCell ⟨g, 1, none⟩ (.int .i64 k)).alloc (.cells #[.int .u64 n, .int .i64 s, .slice B m q, .int .i64 (z : Int), .int .i64 k] 81)).alloc (.cells #[.int .u64 0, .int .i64 0, .slice none 0 0, .int .i64 0, .int .i64 0] 81)) = W2 at *
  clear c0 c1 z0 z1
  have c0 := (blk_cell HB2.out 0).trans rfl
  have z0 := blk_frozen HB2.out 0
  obtain ⟨x0, x1, x2, x3, x4⟩ := HX2.out.cells
  obtain ⟨y0, y1, y2, y3, y4⟩ := HY2.out.cells
  have HB3 : Aside0 ((W2.setCell ⟨g, 0, none⟩ (.slice A' (l.length - z) (c - z))).drew.heap[g]? = some (.cells #[.slice A' (l.length - z) (c - z), .int .i64 k] 152 (0, 0))) := ⟨(blk_set HB2.out 0 (.slice A' (l.length - z) (c - z))).trans (by simp)⟩
  have HX3 := Aside0.mk (show Box5 (W2.setCell ⟨g, 0, none⟩ (.slice A' (l.length - z) (c - z))).drew W.heap.size n s (.slice B m q) z k from blk_far HX2.out (by show W.heap.size ≠ g; omega) _)
  have HY3 := Aside0.mk (show Box5 (W2.setCell ⟨g, 0, none⟩ (.slice A' (l.length - z) (c - z))).drew (W.heap.size + 1) 0 0 (.slice none 0 0) 0 0 from blk_far HY2.out (by show W.heap.size + 1 ≠ g; omega) _)
  have HF3 := Aside0.mk (HF2.out.setCell ⟨g, 0, none⟩ (.slice A' (l.length - z) (c - z)) (fun _ => rfl)).drew
  go_region
  generalize (W2.setCell ⟨g, 0, none⟩ (.slice A' (l.length - z) (c - z))).drew = W3 at *
  clear c0 z0 x0 x1 x2 x3 x4 y0 y1 y2 y3 y4
  obtain ⟨x0, x1, x2, x3, x4⟩ := HX3.out.cells
  obtain ⟨y0, y1, y2, y3, y4⟩ := HY3.out.cells
  have u0 := blk_frozen HY3.out 0
  have u1 := blk_frozen HY3.out 1
  have u2 := blk_frozen HY3.out 2
  have u3 := blk_frozen HY3.out 3
  have u4 := blk_frozen HY3.out 4
  have HY4 := Aside0.mk (HY3.out.set5 n s (z : Int) k (.slice B m q))
  have HF4 := Aside0.mk (HF3.out.far5 (b := W.heap.size + 1) (by omega) n s (z : Int) k (.slice B m q))
  have HB4 := Aside0.mk (blk_far (blk_far (blk_far (blk_far (blk_far HB3.out (p := ⟨W.heap.size + 1, 0, none⟩) (by show g ≠ W.heap.size + 1; omega) (.int .u64 n)) (p := ⟨W.heap.size + 1, 1, none⟩) (by show g ≠ W.heap.size + 1; omega) (.int .i64 s)) (p := ⟨W.heap.size + 1, 2, none⟩) (by show g ≠ W.heap.size + 1; omega) (.slice B m q)) (p := ⟨W.heap.size + 1, 3, none⟩) (by show g ≠ W.heap.size + 1; omega) (.int .i64 (z : Int))) (p := ⟨W.heap.size + 1, 4, none⟩) (by show g ≠ W.heap.size + 1; omega) (.int .i64 k))
  go_wp2
  refine bodyPost_ret (results_cell_row (fn := Try.f140) (p := 4) (ty := 81) rfl _ _ (W.heap.size + 1) 81 #[.int .u64 n, .int .i64 s, .slice B m q, .int .i64 (z : Int), .int .i64 k] (0, 0) _ rfl HY4.out Try.underlying81 rfl (by kernel_rfl)) rfl ?_
  refine ⟨rfl, A', HA'.out, ?_, HF4.out, HCUT.out⟩
  rw [List.length_drop]
  exact HB4.out
/-- RR: the calls. -/
theorem rUint_f (l : List Int) (f : Int) (hf : f ≠ 0) (k : Int) : rUint (l, f) k = (0, (l, f)) := by
  unfold rUint
  rw [rTake_f l f hf]
  split <;> rfl
theorem rNum_f (l : List Int) (f : Int) (hf : f ≠ 0) : rNum (l, f) = (0, (l, f)) := by
  unfold rNum
  rw [if_pos hf]
set_option maxRecDepth 100000 in
set_option maxHeartbeats 1000000 in
theorem RR.one {w0 W : World} {g : Nat} {s : List Int × Int} (h : RR w0 W g s) :
    Calls Try.prog 122 #[.pointer (some ⟨g, 0, none⟩)] W fun e w' => e = .returned (.int .i64 (rUint s 1).1) ∧ RR w0 w' g (rUint s 1).2 ∧ KeepG W w' g := by
  obtain ⟨s1, f⟩ := s
  obtain ⟨⟨l, A, c, hb, hlc, hC, hby, hl, hs⟩, hB, hg⟩ := h
  dsimp only at hb hs
  have c0 : W.cell? ⟨g, 0, none⟩ = some (.slice A l.length c) := (blk_cell hb 0).trans rfl
  have HRD := Aside0.mk (RD.uint A c l 1 W (Kd.C_below hC hB) hlc hby)
  have HB0 := Aside0.mk hb
  have HC := Aside0.mk hC
  have HBY := Aside0.mk hby
  have HB := Aside0.mk hB
  have HLC := Aside0.mk hlc
  have HG := Aside0.mk hg
  have HL := Aside0.mk hl
  by_cases hf : f = 0
  · subst hf
    obtain rfl := hs rfl
    have HG0 := got_read l ⟨1, 1, 0, 0, []⟩
    rw [show gotF (l, 0) ⟨1, 1, 0, 0, []⟩ = ((rUint (l, 0) 1).1, 0, [], (rUint (l, 0) 1).2) from rfl, show readF l ⟨1, 1, 0, 0, []⟩ = rdUint l 1 from rfl] at HG0
    obtain ⟨hv, hw, _, hfe, hz0, hz1, hd⟩ := HG0
    have HRG := rUint1_range (l, 0) hby
    have HRS := Aside0.mk HRG
    clear HRG hb hC hby hB hlc hg hl
    try dsimp only at *
    generalize rUint (l, 0) 1 = P at *
    generalize rdUint l 1 = T at *
    obtain ⟨pn, pl, pf⟩ := P
    obtain ⟨n, sg, raw, z, k⟩ := T
    try dsimp only at *
    obtain ⟨z, rfl⟩ := Int.eq_ofNat_of_zero_le hz0
    have HZ := Aside0.mk (show z ≤ l.length by omega)
    have HD := Aside0.mk hd
    obtain rfl := hv
    obtain rfl := hfe
    have hr0 := HRS.out.1
    have hr1 := HRS.out.2
    clear hd hz0 hz1
    go_enter Try.func122, Try.ntmps122
    go_wp2_with fail
    refine HRD.out.mono ?_
    rintro e w1 ⟨B, m, rfl, hq, hBA, hb1⟩
    have HB1 := Aside0.mk (show w1.heap[g]? = some (.cells #[.slice A l.length c, .int .i64 0] 152 (0, 0)) from (hb1.block _ (blk_lt HB0.out)).trans HB0.out)
    have HL1 := Aside0.mk hb1
    clear hq hBA hb1 c0
    have hfd : ∀ w : World, (Instr.field 81 (.agg #[.int .u64 pn, .int .i64 sg, .slice B raw.length m, .int .i64 (z : Int), .int .i64 pf]) 0).run Try.prog w = .ok (.int .u64 pn) w := fun _ => by kernel_rfl
    dsimp only
    go_wp2_with fail
    refine (take_ok g l A c w1 HB1.out _ _ _ z HZ.out HL.out B _ m).mono ?_
    rintro e w2 ⟨rfl, A', hA', hb2, hf2, hC2⟩
    have HB2 := Aside0.mk hb2
    have HF2 := Aside0.mk hf2
    have HC2 := Aside0.mk (hC2 w0 l HLC.out HC.out)
    clear hb2 hf2 hC2 hA'
    go_wp2
    go_ret
    refine ⟨rfl, ⟨⟨l.drop z, A', c - z, HB2.out, by have := HLC.out; rw [List.length_drop]; omega, HC2.out, HBY.out.drop z, by have := HL.out; rw [List.length_drop]; omega, fun h => (HD.out h).symm⟩, (below_then HB.out HB.out.size HL1.out).trans (HF2.out.below (Nat.le_trans HB.out.size HL1.out.size) (fun k hk => by rw [hk]; exact HG.out)), HG.out⟩, fun b o h hne => HF2.out.blk ((HL1.out.block _ (blk_lt h)).trans h) hne⟩
  · have hr : rUint (s1, f) 1 = (0, (s1, f)) := rUint_f s1 f hf 1
    rw [hr]
    have HF := Aside0.mk hf
    have HSS := Aside0.mk hs
    clear hr hb hC hby hB hlc hg hl hf hs
    generalize rdUint l 1 = T at *
    obtain ⟨n, sg, raw, z, k⟩ := T
    go_enter Try.func122, Try.ntmps122
    go_wp2_with fail
    refine HRD.out.mono ?_
    rintro e w1 ⟨B, m, rfl, hq, hBA, hb1⟩
    have HB1 := Aside0.mk (show w1.heap[g]? = some (.cells #[.slice A l.length c, .int .i64 f] 152 (0, 0)) from (hb1.block _ (blk_lt HB0.out)).trans HB0.out)
    have HL1 := Aside0.mk hb1
    clear hq hBA hb1 c0
    have hfd : ∀ w : World, (Instr.field 81 (.agg #[.int .u64 0, .int .i64 0, .slice none 0 0, .int .i64 0, .int .i64 0]) 0).run Try.prog w = .ok (.int .u64 0) w := fun _ => by kernel_rfl
    dsimp only
    go_wp2_with fail
    refine (take_fault g l A c f w1 HB1.out HF.out _ _ _ _ B _ m).mono ?_
    rintro e w2 ⟨rfl, hb2⟩
    have HL2 := Aside0.mk (Below.trans HL1.out (Below.mono hb2 HL1.out.size))
    clear hb2
    go_wp2
    go_ret
    exact ⟨rfl, ⟨⟨l, A, c, (HL2.out.block _ (blk_lt HB0.out)).trans HB0.out, HLC.out, HC.out, HBY.out, HL.out, HSS.out⟩, below_then HB.out HB.out.size HL2.out, HG.out⟩, fun b o h hne => (HL2.out.block _ (blk_lt h)).trans h⟩
set_option maxRecDepth 100000 in
set_option maxHeartbeats 1000000 in
theorem RR.num {w0 W : World} {g : Nat} {s : List Int × Int} (h : RR w0 W g s) :
    Calls Try.prog 123 #[.pointer (some ⟨g, 0, none⟩)] W fun e w' => e = .returned (.int .u64 (rNum s).1) ∧ RR w0 w' g (rNum s).2 ∧ KeepG W w' g := by
  obtain ⟨s1, f⟩ := s
  obtain ⟨⟨l, A, c, hb, hlc, hC, hby, hl, hs⟩, hB, hg⟩ := h
  dsimp only at hb hs
  have c0 : W.cell? ⟨g, 0, none⟩ = some (.slice A l.length c) := (blk_cell hb 0).trans rfl
  have HRD := Aside0.mk (RD.num A c l W (Kd.C_below hC hB) hlc hby hl)
  have HB0 := Aside0.mk hb
  have HC := Aside0.mk hC
  have HBY := Aside0.mk hby
  have HB := Aside0.mk hB
  have HLC := Aside0.mk hlc
  have HG := Aside0.mk hg
  have HL := Aside0.mk hl
  by_cases hf : f = 0
  · subst hf
    obtain rfl := hs rfl
    have HG0 := got_read l ⟨3, 0, 0, 0, []⟩
    rw [show gotF (l, 0) ⟨3, 0, 0, 0, []⟩ = ((rNum (l, 0)).1, 0, [], (rNum (l, 0)).2) from rfl, show readF l ⟨3, 0, 0, 0, []⟩ = fin3 l (numGo 10 0 0 l) from rfl] at HG0
    obtain ⟨hv, hw, _, hfe, hz0, hz1, hd⟩ := HG0
    have HRG := rNum_range (l, 0) hby
    have HRS := Aside0.mk HRG
    clear HRG hb hC hby hB hlc hg hl
    try dsimp only at *
    generalize rNum (l, 0) = P at *
    generalize fin3 l (numGo 10 0 0 l) = T at *
    obtain ⟨pn, pl, pf⟩ := P
    obtain ⟨n, sg, raw, z, k⟩ := T
    try dsimp only at *
    obtain ⟨z, rfl⟩ := Int.eq_ofNat_of_zero_le hz0
    have HZ := Aside0.mk (show z ≤ l.length by omega)
    have HD := Aside0.mk hd
    obtain rfl := hv
    obtain rfl := hfe
    clear hd hz0 hz1
    go_enter Try.func123, Try.ntmps123
    go_wp2_with fail
    refine HRD.out.mono ?_
    rintro e w1 ⟨B, m, rfl, hq, hBA, hb1⟩
    have HB1 := Aside0.mk (show w1.heap[g]? = some (.cells #[.slice A l.length c, .int .i64 0] 152 (0, 0)) from (hb1.block _ (blk_lt HB0.out)).trans HB0.out)
    have HL1 := Aside0.mk hb1
    clear hq hBA hb1 c0
    have hfd : ∀ w : World, (Instr.field 81 (.agg #[.int .u64 pn, .int .i64 sg, .slice B raw.length m, .int .i64 (z : Int), .int .i64 pf]) 0).run Try.prog w = .ok (.int .u64 pn) w := fun _ => by kernel_rfl
    dsimp only
    go_wp2_with fail
    refine (take_ok g l A c w1 HB1.out _ _ _ z HZ.out HL.out B _ m).mono ?_
    rintro e w2 ⟨rfl, A', hA', hb2, hf2, hC2⟩
    have HB2 := Aside0.mk hb2
    have HF2 := Aside0.mk hf2
    have HC2 := Aside0.mk (hC2 w0 l HLC.out HC.out)
    clear hb2 hf2 hC2 hA'
    go_wp2
    go_ret
    refine ⟨rfl, ⟨⟨l.drop z, A', c - z, HB2.out, by have := HLC.out; rw [List.length_drop]; omega, HC2.out, HBY.out.drop z, by have := HL.out; rw [List.length_drop]; omega, fun h => (HD.out h).symm⟩, (below_then HB.out HB.out.size HL1.out).trans (HF2.out.below (Nat.le_trans HB.out.size HL1.out.size) (fun k hk => by rw [hk]; exact HG.out)), HG.out⟩, fun b o h hne => HF2.out.blk ((HL1.out.block _ (blk_lt h)).trans h) hne⟩
  · have hr : rNum (s1, f) = (0, (s1, f)) := rNum_f s1 f hf
    rw [hr]
    have HF := Aside0.mk hf
    have HSS := Aside0.mk hs
    clear hr hb hC hby hB hlc hg hl hf hs
    generalize fin3 l (numGo 10 0 0 l) = T at *
    obtain ⟨n, sg, raw, z, k⟩ := T
    go_enter Try.func123, Try.ntmps123
    go_wp2_with fail
    refine HRD.out.mono ?_
    rintro e w1 ⟨B, m, rfl, hq, hBA, hb1⟩
    have HB1 := Aside0.mk (show w1.heap[g]? = some (.cells #[.slice A l.length c, .int .i64 f] 152 (0, 0)) from (hb1.block _ (blk_lt HB0.out)).trans HB0.out)
    have HL1 := Aside0.mk hb1
    clear hq hBA hb1 c0
    have hfd : ∀ w : World, (Instr.field 81 (.agg #[.int .u64 0, .int .i64 0, .slice none 0 0, .int .i64 0, .int .i64 0]) 0).run Try.prog w = .ok (.int .u64 0) w := fun _ => by kernel_rfl
    dsimp only
    go_wp2_with fail
    refine (take_fault g l A c f w1 HB1.out HF.out _ _ _ _ B _ m).mono ?_
    rintro e w2 ⟨rfl, hb2⟩
    have HL2 := Aside0.mk (Below.trans HL1.out (Below.mono hb2 HL1.out.size))
    clear hb2
    go_wp2
    go_ret
    exact ⟨rfl, ⟨⟨l, A, c, (HL2.out.block _ (blk_lt HB0.out)).trans HB0.out, HLC.out, HC.out, HBY.out, HL.out, HSS.out⟩, below_then HB.out HB.out.size HL2.out, HG.out⟩, fun b o h hne => (HL2.out.block _ (blk_lt h)).trans h⟩
set_option maxRecDepth 100000 in
set_option maxHeartbeats 1000000 in
theorem RR.int {w0 W : World} {g : Nat} {s : List Int × Int} (h : RR w0 W g s) :
    Calls Try.prog 124 #[.pointer (some ⟨g, 0, none⟩)] W fun e w' => e = .returned (.int .i64 (unzig (rUint s 8).1)) ∧ RR w0 w' g (rUint s 8).2 ∧ KeepG W w' g := by
  obtain ⟨s1, f⟩ := s
  obtain ⟨⟨l, A, c, hb, hlc, hC, hby, hl, hs⟩, hB, hg⟩ := h
  dsimp only at hb hs
  have c0 : W.cell? ⟨g, 0, none⟩ = some (.slice A l.length c) := (blk_cell hb 0).trans rfl
  have HRD := Aside0.mk (RD.int A c l W (Kd.C_below hC hB) hlc hby)
  have HB0 := Aside0.mk hb
  have HC := Aside0.mk hC
  have HBY := Aside0.mk hby
  have HB := Aside0.mk hB
  have HLC := Aside0.mk hlc
  have HG := Aside0.mk hg
  have HL := Aside0.mk hl
  by_cases hf : f = 0
  · subst hf
    obtain rfl := hs rfl
    have HG0 := got_read l ⟨2, 0, 0, 0, []⟩
    rw [show gotF (l, 0) ⟨2, 0, 0, 0, []⟩ = (0, unzig (rUint (l, 0) 8).1, [], (rUint (l, 0) 8).2) from rfl, show readF l ⟨2, 0, 0, 0, []⟩ = rdInt l from rfl] at HG0
    obtain ⟨hv, hw, _, hfe, hz0, hz1, hd⟩ := HG0
    have HRG := rUint_range (l, 0) 8 hby
    have HRS := Aside0.mk HRG
    clear HRG hb hC hby hB hlc hg hl
    try dsimp only at *
    generalize rUint (l, 0) 8 = P at *
    generalize rdInt l = T at *
    obtain ⟨pn, pl, pf⟩ := P
    obtain ⟨n, sg, raw, z, k⟩ := T
    try dsimp only at *
    obtain ⟨z, rfl⟩ := Int.eq_ofNat_of_zero_le hz0
    have HZ := Aside0.mk (show z ≤ l.length by omega)
    have HD := Aside0.mk hd
    obtain rfl := hw
    obtain rfl := hfe
    clear hd hz0 hz1
    go_enter Try.func124, Try.ntmps124
    go_wp2_with fail
    refine HRD.out.mono ?_
    rintro e w1 ⟨B, m, rfl, hq, hBA, hb1⟩
    have HB1 := Aside0.mk (show w1.heap[g]? = some (.cells #[.slice A l.length c, .int .i64 0] 152 (0, 0)) from (hb1.block _ (blk_lt HB0.out)).trans HB0.out)
    have HL1 := Aside0.mk hb1
    clear hq hBA hb1 c0
    have hfd : ∀ w : World, (Instr.field 81 (.agg #[.int .u64 n, .int .i64 (unzig pn), .slice B raw.length m, .int .i64 (z : Int), .int .i64 pf]) 1).run Try.prog w = .ok (.int .i64 (unzig pn)) w := fun _ => by kernel_rfl
    dsimp only
    go_wp2_with fail
    refine (take_ok g l A c w1 HB1.out _ _ _ z HZ.out HL.out B _ m).mono ?_
    rintro e w2 ⟨rfl, A', hA', hb2, hf2, hC2⟩
    have HB2 := Aside0.mk hb2
    have HF2 := Aside0.mk hf2
    have HC2 := Aside0.mk (hC2 w0 l HLC.out HC.out)
    clear hb2 hf2 hC2 hA'
    go_wp2
    go_ret
    refine ⟨rfl, ⟨⟨l.drop z, A', c - z, HB2.out, by have := HLC.out; rw [List.length_drop]; omega, HC2.out, HBY.out.drop z, by have := HL.out; rw [List.length_drop]; omega, fun h => (HD.out h).symm⟩, (below_then HB.out HB.out.size HL1.out).trans (HF2.out.below (Nat.le_trans HB.out.size HL1.out.size) (fun k hk => by rw [hk]; exact HG.out)), HG.out⟩, fun b o h hne => HF2.out.blk ((HL1.out.block _ (blk_lt h)).trans h) hne⟩
  · have hr : rUint (s1, f) 8 = (0, (s1, f)) := rUint_f s1 f hf 8
    rw [hr]
    have HF := Aside0.mk hf
    have HSS := Aside0.mk hs
    clear hr hb hC hby hB hlc hg hl hf hs
    generalize rdInt l = T at *
    obtain ⟨n, sg, raw, z, k⟩ := T
    go_enter Try.func124, Try.ntmps124
    go_wp2_with fail
    refine HRD.out.mono ?_
    rintro e w1 ⟨B, m, rfl, hq, hBA, hb1⟩
    have HB1 := Aside0.mk (show w1.heap[g]? = some (.cells #[.slice A l.length c, .int .i64 f] 152 (0, 0)) from (hb1.block _ (blk_lt HB0.out)).trans HB0.out)
    have HL1 := Aside0.mk hb1
    clear hq hBA hb1 c0
    have hfd : ∀ w : World, (Instr.field 81 (.agg #[.int .u64 0, .int .i64 0, .slice none 0 0, .int .i64 0, .int .i64 0]) 1).run Try.prog w = .ok (.int .i64 0) w := fun _ => by kernel_rfl
    dsimp only
    go_wp2_with fail
    refine (take_fault g l A c f w1 HB1.out HF.out _ _ _ _ B _ m).mono ?_
    rintro e w2 ⟨rfl, hb2⟩
    have HL2 := Aside0.mk (Below.trans HL1.out (Below.mono hb2 HL1.out.size))
    clear hb2
    go_wp2
    go_ret
    exact ⟨by show Ending.returned (.int .i64 0) = Ending.returned (.int .i64 (unzig 0)); rw [show unzig 0 = 0 by decide], ⟨⟨l, A, c, (HL2.out.block _ (blk_lt HB0.out)).trans HB0.out, HLC.out, HC.out, HBY.out, HL.out, HSS.out⟩, below_then HB.out HB.out.size HL2.out, HG.out⟩, fun b o h hne => (HL2.out.block _ (blk_lt h)).trans h⟩
end Go.Proofs.Ytalpemoodollpaa.P
