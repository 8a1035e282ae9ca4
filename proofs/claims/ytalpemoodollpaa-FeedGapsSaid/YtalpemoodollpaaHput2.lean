/- feed.Put. -/
import Derived.Test.YtalpemoodollpaaHfeedS
import Derived.Deep.RegionHeld3
namespace Go.Proofs.Ytalpemoodollpaa.P
open Go.RowKit Go.Proofs.YtalpemoodollpaaW.PrintWords Go.Proofs.YtalpemoodollpaaW.PrintLast Go.Proofs.YtalpemoodollpaaW.PrintMore
set_option linter.unusedVariables false
set_option linter.unusedSimpArgs false
set_option maxRecDepth 100000 in
theorem feed_Last_calls (g : Nat) (row : Option Nat) (ms : List S29) (w : World) (hs : FS 142 w g row ms) : Calls Try.prog 112 #[.pointer (some ⟨g, 0, none⟩)] w fun e w' => e = .returned (.int .i64 (ms.length : Int)) ∧ w = w' := by
  obtain ⟨v, HI⟩ := FIn.start hs
  obtain ⟨A, c, rfl⟩ := Kd.R_slice HI.hR
  have hc0 := HI.cell
  clear hs HI
  go_enter Try.func112, Try.ntmps112
  go_wp2
  go_ret
  exact ⟨rfl, rfl⟩
set_option maxRecDepth 100000 in
theorem feed_Last_nil (w : World) : Calls Try.prog 112 #[.pointer none] w fun e w' => e = .returned (.int .i64 0) ∧ w = w' := by
  go_enter Try.func112, Try.ntmps112
  go_wp2
  go_ret
  exact ⟨rfl, rfl⟩
theorem FIn.far {t : Nat} {w W : World} {g : Nat} {row : Option Nat} {ms : List S29} {v : Value} (h : FIn t w W g row ms v) {b j : Nat} (hw : w.heap.size ≤ b) (hg : g < w.heap.size) (hv : ∀ k, v.ownBlock = some k → k ≠ b) (u : Value) : FIn t w (W.setCell ⟨b, j, none⟩ u) g row ms v :=
  ⟨(Below.heap_setCell W ⟨b, j, none⟩ u g (by show g ≠ b; omega)).trans h.hb, R29_ok (Kd.R_far (R29_ok h.hR (ok' := fun k => v.ownBlock = some k) (fun k hk => hk)) (p := ⟨b, j, none⟩) (fun k hk => hv k hk) u) (fun _ _ => trivial), h.hrow,
    h.hfr.setCell _ _ (fun hlt => absurd hlt (by show ¬ b < _; omega))⟩
theorem box_far {W : World} {b b' j : Nat} {o : Obj} (h : W.heap[b']? = some o) (hne : b' ≠ b) (u : Value) : (W.setCell ⟨b, j, none⟩ u).heap[b']? = some o := (Below.heap_setCell W ⟨b, j, none⟩ u b' hne).trans h
theorem FIn.far9 {t : Nat} {w W : World} {g : Nat} {row : Option Nat} {ms : List S29} {v : Value} (h : FIn t w W g row ms v) {b : Nat} (hw : w.heap.size ≤ b) (hg : g < w.heap.size) (hv : ∀ k, v.ownBlock = some k → k ≠ b) (x0 x1 x2 x3 x4 x5 x6 x7 x8 : Int) :
    FIn t w (((((((((W.setCell ⟨b, 0, none⟩ (.int .i64 x0)).setCell ⟨b, 1, none⟩ (.int .i64 x1)).setCell ⟨b, 2, none⟩ (.int .i64 x2)).setCell ⟨b, 3, none⟩ (.int .i64 x3)).setCell ⟨b, 4, none⟩ (.int .i64 x4)).setCell ⟨b, 5, none⟩ (.int .i64 x5)).setCell ⟨b, 6, none⟩ (.int .i64 x6)).setCell ⟨b, 7, none⟩ (.int .i64 x7)).setCell ⟨b, 8, none⟩ (.int .i64 x8)) g row ms v := (((((((((h.far hw hg hv (.int .i64 x0)).far hw hg hv (.int .i64 x1)).far hw hg hv (.int .i64 x2)).far hw hg hv (.int .i64 x3)).far hw hg hv (.int .i64 x4)).far hw hg hv (.int .i64 x5)).far hw hg hv (.int .i64 x6)).far hw hg hv (.int .i64 x7)).far hw hg hv (.int .i64 x8))
theorem Box9.set9 {W : World} {b t : Nat} {y0 y1 y2 y3 y4 y5 y6 y7 y8 : Int} (h : Box9 W t b y0 y1 y2 y3 y4 y5 y6 y7 y8) (x0 x1 x2 x3 x4 x5 x6 x7 x8 : Int) : Box9 (((((((((W.setCell ⟨b, 0, none⟩ (.int .i64 x0)).setCell ⟨b, 1, none⟩ (.int .i64 x1)).setCell ⟨b, 2, none⟩ (.int .i64 x2)).setCell ⟨b, 3, none⟩ (.int .i64 x3)).setCell ⟨b, 4, none⟩ (.int .i64 x4)).setCell ⟨b, 5, none⟩ (.int .i64 x5)).setCell ⟨b, 6, none⟩ (.int .i64 x6)).setCell ⟨b, 7, none⟩ (.int .i64 x7)).setCell ⟨b, 8, none⟩ (.int .i64 x8)) t b x0 x1 x2 x3 x4 x5 x6 x7 x8 := (blk_set (blk_set (blk_set (blk_set (blk_set (blk_set (blk_set (blk_set (blk_set h 0 (.int .i64 x0)) 1 (.int .i64 x1)) 2 (.int .i64 x2)) 3 (.int .i64 x3)) 4 (.int .i64 x4)) 5 (.int .i64 x5)) 6 (.int .i64 x6)) 7 (.int .i64 x7)) 8 (.int .i64 x8)).trans (by simp)
theorem Box9.far9 {W : World} {b b' t : Nat} {y0 y1 y2 y3 y4 y5 y6 y7 y8 : Int} (h : Box9 W t b' y0 y1 y2 y3 y4 y5 y6 y7 y8) (hne : b' ≠ b) (x0 x1 x2 x3 x4 x5 x6 x7 x8 : Int) : Box9 (((((((((W.setCell ⟨b, 0, none⟩ (.int .i64 x0)).setCell ⟨b, 1, none⟩ (.int .i64 x1)).setCell ⟨b, 2, none⟩ (.int .i64 x2)).setCell ⟨b, 3, none⟩ (.int .i64 x3)).setCell ⟨b, 4, none⟩ (.int .i64 x4)).setCell ⟨b, 5, none⟩ (.int .i64 x5)).setCell ⟨b, 6, none⟩ (.int .i64 x6)).setCell ⟨b, 7, none⟩ (.int .i64 x7)).setCell ⟨b, 8, none⟩ (.int .i64 x8)) t b' y0 y1 y2 y3 y4 y5 y6 y7 y8 := (box_far (box_far (box_far (box_far (box_far (box_far (box_far (box_far (box_far h hne _) hne _) hne _) hne _) hne _) hne _) hne _) hne _) hne _)
def putMsg (ms : List S29) (t : Int) (m : S29) : S29 := ⟨m.f0, m.f1, (ms.length : Int) + 1, t, m.f4, m.f5, m.f6, m.f7, m.f8⟩
set_option maxRecDepth 100000 in
set_option maxHeartbeats 4000000 in
theorem feed_Put_calls (g : Nat) (row : Option Nat) (ms : List S29) (t : Int) (m : S29) (w : World) (hs : FS 142 w g row ms) (hl : ms.length ≤ 1000000) :
    Calls Try.prog 56 #[.pointer (some ⟨g, 0, none⟩), .int .i64 t, .agg #[.int .i64 m.f0, .int .i64 m.f1, .int .i64 m.f2, .int .i64 m.f3, .int .i64 m.f4, .int .i64 m.f5, .int .i64 m.f6, .int .i64 m.f7, .int .i64 m.f8]] w fun e w' =>
      (msgRight (putMsg ms t m) = true → e = .returned (.tuple #[msgVal (putMsg ms t m), .int .i64 0]) ∧ FPost 142 w g row (ms ++ [putMsg ms t m]) w') ∧
      (msgRight (putMsg ms t m) = false → e = .returned (.tuple #[msgVal z29, .int .i64 1]) ∧ FPost 142 w g row ms w') := by
  have HRC := Aside0.mk (fun w => msgRight_calls (putMsg ms t m) w)
  generalize hRT : msgRight (putMsg ms t m) = rt at HRC
  have HRT := Aside0.mk hRT
  clear hRT
  obtain ⟨f0, f1, f2, f3, f4, f5, f6, f7, f8⟩ := m
  unfold putMsg at *
  dsimp only at *
  have hlast : IntKind.i64.wrap ((ms.length : Int) + 1) = (ms.length : Int) + 1 := IntWalk.i64_in _ (by omega)
  have HL := Aside0.mk hl
  have HS := Aside0.mk hs
  clear hs hl
  obtain ⟨v0, HI0⟩ := FIn.start HS.out
  have HI1 := Aside0.mk ((HI0.alloc (.cells #[.int .i64 f0, .int .i64 f1, .int .i64 f2, .int .i64 f3, .int .i64 f4, .int .i64 f5, .int .i64 f6, .int .i64 f7, .int .i64 f8] 29)).alloc (.cells #[.int .i64 0, .int .i64 0, .int .i64 0, .int .i64 0, .int .i64 0, .int .i64 0, .int .i64 0, .int .i64 0, .int .i64 0] 29))
  have bm : Box9 ((w.alloc (.cells #[.int .i64 f0, .int .i64 f1, .int .i64 f2, .int .i64 f3, .int .i64 f4, .int .i64 f5, .int .i64 f6, .int .i64 f7, .int .i64 f8] 29)).alloc (.cells #[.int .i64 0, .int .i64 0, .int .i64 0, .int .i64 0, .int .i64 0, .int .i64 0, .int .i64 0, .int .i64 0, .int .i64 0] 29)) 29 w.heap.size f0 f1 f2 f3 f4 f5 f6 f7 f8 := blk_alloc (blk_new w _) _
  have br : Box9 ((w.alloc (.cells #[.int .i64 f0, .int .i64 f1, .int .i64 f2, .int .i64 f3, .int .i64 f4, .int .i64 f5, .int .i64 f6, .int .i64 f7, .int .i64 f8] 29)).alloc (.cells #[.int .i64 0, .int .i64 0, .int .i64 0, .int .i64 0, .int .i64 0, .int .i64 0, .int .i64 0, .int .i64 0, .int .i64 0] 29)) 29 (w.heap.size + 1) 0 0 0 0 0 0 0 0 0 := by
    have := blk_new (w.alloc (.cells #[.int .i64 f0, .int .i64 f1, .int .i64 f2, .int .i64 f3, .int .i64 f4, .int .i64 f5, .int .i64 f6, .int .i64 f7, .int .i64 f8] 29)) (.cells #[.int .i64 0, .int .i64 0, .int .i64 0, .int .i64 0, .int .i64 0, .int .i64 0, .int .i64 0, .int .i64 0, .int .i64 0] 29)
    rw [World.size_alloc] at this
    exact this
  have BM := Aside0.mk bm
  have BR := Aside0.mk br
  have hg : g < w.heap.size := blk_lt HI0.hb
  have hv0 : ∀ k, v0.ownBlock = some k → k < w.heap.size := fun k hk => (Kd.R_lt HI0.hR) k hk
  have HG := Aside0.mk hg
  have HV0 := Aside0.mk hv0
  clear HI0 bm br hg hv0 HS
  go_enter Try.func56, Try.ntmps56
  go_wp2_with fail
  generalize ((w.alloc (.cells #[.int .i64 f0, .int .i64 f1, .int .i64 f2, .int .i64 f3, .int .i64 f4, .int .i64 f5, .int .i64 f6, .int .i64 f7, .int .i64 f8] 29)).alloc (.cells #[.int .i64 0, .int .i64 0, .int .i64 0, .int .i64 0, .int .i64 0, .int .i64 0, .int .i64 0, .int .i64 0, .int .i64 0] 29)) = W1 at *
  obtain ⟨row1, hs1, _⟩ := HI1.out.post
  refine (feed_Last_calls g row1 ms W1 hs1).mono ?_
  rintro e w1 ⟨rfl, rfl⟩
  clear hs1
  obtain ⟨d0, d1, d2, d3, d4, d5, d6, d7, d8⟩ := BM.out.cells
  have z2 := blk_frozen BM.out 2
  have z3 := blk_frozen BM.out 3
  go_wp2_with fail
  have hv : ∀ k, v0.ownBlock = some k → k ≠ w.heap.size := fun k hk => by have := HV0.out k hk; omega
  have HI2 := Aside0.mk ((HI1.out.far (b := w.heap.size) (j := 3) (Nat.le_refl _) HG.out hv (.int .i64 t)).far (b := w.heap.size) (j := 2) (Nat.le_refl _) HG.out hv (.int .i64 ((ms.length : Int) + 1)))
  have BM2 : Aside0 (Box9 ((W1.setCell ⟨w.heap.size, 3, none⟩ (.int .i64 t)).setCell ⟨w.heap.size, 2, none⟩ (.int .i64 ((ms.length : Int) + 1))) 29 w.heap.size f0 f1 ((ms.length : Int) + 1) t f4 f5 f6 f7 f8) := ⟨(blk_set (blk_set BM.out 3 (.int .i64 t)) 2 (.int .i64 ((ms.length : Int) + 1))).trans (by simp)⟩
  have BR2 : Aside0 (Box9 ((W1.setCell ⟨w.heap.size, 3, none⟩ (.int .i64 t)).setCell ⟨w.heap.size, 2, none⟩ (.int .i64 ((ms.length : Int) + 1))) 29 (w.heap.size + 1) 0 0 0 0 0 0 0 0 0) := ⟨box_far (box_far BR.out (by omega) _) (by omega) _⟩
  clear hv HI1 BM BR d0 d1 d2 d3 d4 d5 d6 d7 d8 z2 z3
  generalize ((W1.setCell ⟨w.heap.size, 3, none⟩ (.int .i64 t)).setCell ⟨w.heap.size, 2, none⟩ (.int .i64 ((ms.length : Int) + 1))) = W2 at *
  refine (HRC.out W2).mono ?_
  rintro e W3 ⟨rfl, hb⟩
  have HI3 := Aside0.mk (HI2.out.below hb)
  have BM3 : Aside0 (Box9 W3 29 w.heap.size f0 f1 ((ms.length : Int) + 1) t f4 f5 f6 f7 f8) := ⟨(hb.block _ (blk_lt BM2.out)).trans BM2.out⟩
  have BR3 : Aside0 (Box9 W3 29 (w.heap.size + 1) 0 0 0 0 0 0 0 0 0) := ⟨(hb.block _ (blk_lt BR2.out)).trans BR2.out⟩
  clear hb HI2 BM2 BR2 HRC
  obtain ⟨d0, d1, d2, d3, d4, d5, d6, d7, d8⟩ := BM3.out.cells
  obtain ⟨r0, r1, r2, r3, r4, r5, r6, r7, r8⟩ := BR3.out.cells
  have y0 := blk_frozen BR3.out 0
  have y1 := blk_frozen BR3.out 1
  have y2 := blk_frozen BR3.out 2
  have y3 := blk_frozen BR3.out 3
  have y4 := blk_frozen BR3.out 4
  have y5 := blk_frozen BR3.out 5
  have y6 := blk_frozen BR3.out 6
  have y7 := blk_frozen BR3.out 7
  have y8 := blk_frozen BR3.out 8
  cases rt with
  | false =>
    have hv : ∀ k, v0.ownBlock = some k → k ≠ w.heap.size + 1 := fun k hk => by have := HV0.out k hk; omega
    have HI4 := Aside0.mk (HI3.out.far9 (b := w.heap.size + 1) (by omega) HG.out hv 0 0 0 0 0 0 0 0 0)
    have BR4 := Aside0.mk (BR3.out.set9 0 0 0 0 0 0 0 0 0)
    clear hv
    go_wp2
    refine bodyPost_ret (results_ct (fn := Try.f56) (p := 6) (u := 7) (ty := 29) rfl _ _ (w.heap.size + 1) 29 #[.int .i64 0, .int .i64 0, .int .i64 0, .int .i64 0, .int .i64 0, .int .i64 0, .int .i64 0, .int .i64 0, .int .i64 0] (0, 0) _ rfl BR4.out Try.underlying29 rfl (by kernel_rfl)) rfl ?_
    first | exact ⟨fun h => by cases h, fun _ => ⟨rfl, HI4.out.post⟩⟩ | exact ⟨rfl, HI4.out.post⟩
  | true =>
    have hl72 : (ms.length + 1) * 72 ≤ 140737488355328 := by have := HL.out; omega
    have HL72 := Aside0.mk hl72
    clear hl72
    have hc0 := HI3.out.cell
    have hf0 := HI3.out.frozen
    have hca := fun o => (HI3.out.alloc o).cell
    have HFR := Aside0.mk (show ∀ k, v0.ownBlock = some k → k < w.heap.size from HV0.out)
    go_wp2_with fail
    go_region_law (first | (refine HI3.out.drew.append_step (by decide) rfl (.tmp 25) (.tmp 27) ⟨f0, f1, (ms.length : Int) + 1, t, f4, f5, f6, f7, f8⟩ rfl rfl rfl HL72.out ?_; intro A1 n1 c1 w1 HS hc1 hf1 hfr hat; have hc1 := hc1.out))
    all_goals
      have BM5 : Aside0 (Box9 (w1.setCell ⟨g, 0, none⟩ (.slice A1 n1 c1)) 29 w.heap.size f0 f1 ((ms.length : Int) + 1) t f4 f5 f6 f7 f8) := ⟨hfr.out.blk BM3.out (fun hS => hS.elim (fun hS => by have := HG.out; omega) (fun hS => by have := HV0.out _ hS; omega))⟩
      have BR5 : Aside0 (Box9 (w1.setCell ⟨g, 0, none⟩ (.slice A1 n1 c1)) 29 (w.heap.size + 1) 0 0 0 0 0 0 0 0 0) := ⟨hfr.out.blk BR3.out (fun hS => hS.elim (fun hS => by have := HG.out; omega) (fun hS => by have := HV0.out _ hS; omega))⟩
      have hsz : w.heap.size + 1 < W3.heap.size := blk_lt BR3.out
      have hv : ∀ k, (Value.slice A1 n1 c1).ownBlock = some k → k ≠ w.heap.size + 1 := fun k hk => by
        rcases hat.out with h | ⟨b, h, hb⟩
        · have := HV0.out k (by rw [← h]; exact hk); omega
        · rw [h] at hk
          injection hk with hk
          have hb' : W3.heap.size ≤ b := hb
          omega
      have HS6 := Aside0.mk (HS.far9 (b := w.heap.size + 1) (by omega) HG.out hv f0 f1 ((ms.length : Int) + 1) t f4 f5 f6 f7 f8)
      have BR6 := Aside0.mk (BR5.out.set9 f0 f1 ((ms.length : Int) + 1) t f4 f5 f6 f7 f8)
      clear hsz hv hfr hat HI3 BM3 BR3 d0 d1 d2 d3 d4 d5 d6 d7 d8 r0 r1 r2 r3 r4 r5 r6 r7 r8 y0 y1 y2 y3 y4 y5 y6 y7 y8
      clear hc0 hf0 hca
      obtain ⟨d0, d1, d2, d3, d4, d5, d6, d7, d8⟩ := BM5.out.cells
      obtain ⟨r0, r1, r2, r3, r4, r5, r6, r7, r8⟩ := BR5.out.cells
      have y0 := blk_frozen BR5.out 0
      have y1 := blk_frozen BR5.out 1
      have y2 := blk_frozen BR5.out 2
      have y3 := blk_frozen BR5.out 3
      have y4 := blk_frozen BR5.out 4
      have y5 := blk_frozen BR5.out 5
      have y6 := blk_frozen BR5.out 6
      have y7 := blk_frozen BR5.out 7
      have y8 := blk_frozen BR5.out 8
      clear HS
      generalize (w1.setCell ⟨g, 0, none⟩ (.slice A1 n1 c1)) = W6 at *
      go_wp2
      refine bodyPost_ret (results_ct (fn := Try.f56) (p := 6) (u := 7) (ty := 29) rfl _ _ (w.heap.size + 1) 29 #[.int .i64 f0, .int .i64 f1, .int .i64 ((ms.length : Int) + 1), .int .i64 t, .int .i64 f4, .int .i64 f5, .int .i64 f6, .int .i64 f7, .int .i64 f8] (0, 0) _ rfl BR6.out Try.underlying29 rfl (by kernel_rfl)) rfl ?_
      first | exact ⟨fun _ => ⟨rfl, HS6.out.post⟩, fun h => by cases h⟩ | exact ⟨rfl, HS6.out.post⟩
end Go.Proofs.Ytalpemoodollpaa.P
