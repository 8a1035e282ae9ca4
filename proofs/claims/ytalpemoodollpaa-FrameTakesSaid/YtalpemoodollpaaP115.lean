-- Printed by hookprint.py (the session's own program, over the kit's print.py): checked by Lean like any text.
import Derived.Test.YtalpemoodollpaaP0
namespace Go.Proofs.Ytalpemoodollpaa.P
open Go.RowKit Go.Proofs.YtalpemoodollpaaW.PrintWords Go.Proofs.YtalpemoodollpaaW.PrintLast Go.Proofs.YtalpemoodollpaaW.PrintMore
attribute [local go_sem] max2_int min2_int max_two min_two max_three min_three max_four min_four   -- for this text's walks alone
set_option linter.unusedVariables false
set_option linter.unusedSimpArgs false

/-! ### damperref03_ReadNum: function 115 -/
mutual
def damperref03_ReadNum.l0 : Nat → List Int → Int → Int → Int → Option (Int × Int × List Int × Int × Int)
  | 0, _, _, _, _ => none
  | k + 1, x0, x3, x4, x5 => if x5 < 10 then (if x5 ≥ (x0.length : Int) then (some (0, 0, ([] : List Int), 0, 3)) else (if 0 ≤ x5 then (if x5 < (x0.length : Int) then (if x5 = 9 then (damperref03_ReadNum.j1 k x0 x3 x4 x5 (IntKind.u64.wrap (Int.tmod (rd x0 x5) 128)) (decide ((IntKind.u64.wrap (Int.tmod (rd x0 x5) 128)) > 1))) else (damperref03_ReadNum.j1 k x0 x3 x4 x5 (IntKind.u64.wrap (Int.tmod (rd x0 x5) 128)) false)) else (none)) else (none))) else (some (0, 0, ([] : List Int), 0, 4))
def damperref03_ReadNum.j1 : Nat → List Int → Int → Int → Int → Int → Bool → Option (Int × Int × List Int × Int × Int)
  | 0, _, _, _, _, _, _ => none
  | k + 1, x0, x3, x4, x5, x6, x27 => if x27 = true then (some (0, 0, ([] : List Int), 0, 4)) else (if 0 ≤ x5 then (if x5 < (x0.length : Int) then (if (rd x0 x5) < 128 then (if x6 = 0 then (if x5 > 0 then (some (0, 0, ([] : List Int), 0, 4)) else (some (IntKind.u64.wrap (x3 + (IntKind.u64.wrap (x6 * x4))), 0, ([] : List Int), wrap64 (x5 + 1), 0))) else (some (IntKind.u64.wrap (x3 + (IntKind.u64.wrap (x6 * x4))), 0, ([] : List Int), wrap64 (x5 + 1), 0))) else (damperref03_ReadNum.l0 k x0 (IntKind.u64.wrap (x3 + (IntKind.u64.wrap (x6 * x4)))) (IntKind.u64.wrap (x4 * 128)) (wrap64 (x5 + 1)))) else (none)) else (none))
end
def damperref03_ReadNum.f (k : Nat) (l0 : List Int) : Option (Int × Int × List Int × Int × Int) := damperref03_ReadNum.l0 k l0 0 1 0
theorem damperref03_ReadNum.mono_l : ∀ k, (∀ y0 y1 y2 y3, LeO (damperref03_ReadNum.l0 k y0 y1 y2 y3) (damperref03_ReadNum.l0 (k + 1) y0 y1 y2 y3)) ∧ (∀ y0 y1 y2 y3 y4 y5, LeO (damperref03_ReadNum.j1 k y0 y1 y2 y3 y4 y5) (damperref03_ReadNum.j1 (k + 1) y0 y1 y2 y3 y4 y5))
  | 0 => ⟨fun _ _ _ _ r h => by simp [damperref03_ReadNum.l0] at h, fun _ _ _ _ _ _ r h => by simp [damperref03_ReadNum.j1] at h⟩
  | k + 1 => by
    obtain ⟨ih0, ih1⟩ := damperref03_ReadNum.mono_l k
    refine ⟨?_, ?_⟩
    · intro y0 y1 y2 y3
      unfold damperref03_ReadNum.l0
      repeat' first
      | (with_reducible exact ih0 _ _ _ _)
      | (with_reducible exact ih1 _ _ _ _ _ _)
      | (with_reducible exact LeO.refl _)
      | (with_reducible exact LeO.none _)
      | (with_reducible refine LeO.ite ?_ ?_)
      | (with_reducible refine LeO.bind ?_ (fun _ => ?_))
      | exact ih0 _ _ _ _
      | exact ih1 _ _ _ _ _ _
      | exact LeO.none _
      | refine LeO.ite ?_ ?_
      | refine LeO.bind ?_ (fun _ => ?_)
    · intro y0 y1 y2 y3 y4 y5
      unfold damperref03_ReadNum.j1
      repeat' first
      | (with_reducible exact ih0 _ _ _ _)
      | (with_reducible exact ih1 _ _ _ _ _ _)
      | (with_reducible exact LeO.refl _)
      | (with_reducible exact LeO.none _)
      | (with_reducible refine LeO.ite ?_ ?_)
      | (with_reducible refine LeO.bind ?_ (fun _ => ?_))
      | exact ih0 _ _ _ _
      | exact ih1 _ _ _ _ _ _
      | exact LeO.none _
      | refine LeO.ite ?_ ?_
      | refine LeO.bind ?_ (fun _ => ?_)
theorem damperref03_ReadNum.mono : ∀ a0 k, LeO (damperref03_ReadNum.f k a0) (damperref03_ReadNum.f (k + 1) a0) := by
  intro a0 k
  obtain ⟨ih0, ih1⟩ := damperref03_ReadNum.mono_l k
  unfold damperref03_ReadNum.f
  repeat' first
      | (with_reducible exact ih0 _ _ _ _)
      | (with_reducible exact ih1 _ _ _ _ _ _)
      | (with_reducible exact LeO.refl _)
      | (with_reducible exact LeO.none _)
      | (with_reducible refine LeO.ite ?_ ?_)
      | (with_reducible refine LeO.bind ?_ (fun _ => ?_))
      | exact ih0 _ _ _ _
      | exact ih1 _ _ _ _ _ _
      | exact LeO.none _
      | refine LeO.ite ?_ ?_
      | refine LeO.bind ?_ (fun _ => ?_)
set_option maxHeartbeats 8000000 in
set_option maxRecDepth 100000 in
theorem damperref03_ReadNum.calls (k : Nat) (A0 : Option Addr) (c0 : Nat) (l0 : List Int) (r1 : Int) (r2 : Int) (r3 : List Int) (r4 : Int) (r5 : Int) (w : World) (hr0 : Kd.C (Kd.int .u8) w A0 l0.length l0) (hc0 : l0.length ≤ c0) (h : damperref03_ReadNum.f k l0 = some (r1, r2, r3, r4, r5)) :
    Calls Try.prog 115 #[.slice A0 l0.length c0] w fun e w' => ∃ v2_ : Value, e = .returned (.agg #[.int .u64 r1, .int .i64 r2, v2_, .int .i64 r4, .int .i64 r5]) ∧ Kd.R (Kd.int .u8) 5 w' w.heap.size (fun _ => True) v2_ r3 ∧ Below w.heap.size w w' := by
  have hu81 := Try.underlying81
  have HR0 := Aside0.mk hr0
  have HC0 := Aside0.mk hc0
  clear hr0 hc0
  have HB := Aside0.mk (Below.refl w.heap.size w)
  have H : (damperref03_ReadNum.l0 k l0 0 1 0) = some (r1, r2, r3, r4, r5) := h
  clear h
  have H' := Aside0.mk H
  clear H
  go_enter Try.func115, Try.ntmps115
  go_wp2_with (first | ((with_reducible refine gate_dst (N := 2) rfl ?_); refine box_event ?hg (N := 2) ?hd (cs := #[.int .u64 0, .int .i64 0, .slice none 0 0, .int .i64 0, .int .i64 0]) (t := 81) ?hr ?_; (case hd => rfl); (case hg => rfl); (case hr => first | (go_simp; done) | (go_simp; rfl)); intro gb383 hg w2 hbox hb; have n0_ := Aside0.mk (below_step (by repeat (first | (with_reducible first | exact HB.out | apply below_alloc | apply pw_below_drewN | apply below_drew1) | exact HB.out)) hb); have n1_ := Aside0.mk (hbox); have n2_ := Aside0.mk ((by rw [hg]; exact (below_size (by repeat (first | (with_reducible first | exact HB.out | apply below_alloc | apply pw_below_drewN | apply below_drew1) | exact HB.out))) : w.heap.size ≤ gb383)); have n3_ := Aside0.mk ((by rw [hg]; exact (below_size (by repeat (first | (with_reducible first | exact HB.out | apply below_alloc | apply pw_below_drewN | apply below_drew1) | exact HB.out))) : w.heap.size ≤ gb383)); clear HB; have HB := n0_; have BK383 := n1_; have GW383 := n2_; have GE383 := n3_; clear n0_ n1_ n2_ n3_; clear hb hbox hg))
  go_loopg [3, 4, 5] k (fun kq v3 v4 v5 w' => ∃ (x3_1 : Int) (x4_1 : Int) (x5_1 : Int) (x384000_1 : Int) (x384001_1 : Int) (x384003_1 : Int) (x384004_1 : Int), v3 = .int .u64 x3_1 ∧ v4 = .int .u64 x4_1 ∧ v5 = .int .i64 x5_1 ∧ Aside0 (damperref03_ReadNum.l0 kq l0 x3_1 x4_1 x5_1 = some (r1, r2, r3, r4, r5)) ∧ Aside0 (kq ≤ k) ∧ Aside0 (w'.heap[gb383]? = some (.cells #[.int .u64 x384000_1, .int .i64 x384001_1, (.slice none 0 0), .int .i64 x384003_1, .int .i64 x384004_1] 81 (0, 0))) ∧ Aside0 (Below w.heap.size w w'))
  case atStart => exact ⟨(0), (1), (0), (0), (0), (0), (0), (by first | rfl | (simp; done) | (simp [*]; done)), (by first | rfl | (simp; done) | (simp [*]; done)), (by first | rfl | (simp; done) | (simp [*]; done)), H', ⟨Nat.le_refl _⟩, ⟨by (with_reducible repeat (first | refine blk_drewN ?_ _ | refine blk_drew ?_ | refine blk_alloc ?_ _)); exact BK383.out⟩, ⟨by repeat (first | (with_reducible first | exact HB.out | apply below_alloc | apply pw_below_drewN | apply below_drew1 | refine below_set ?_ GE383.out) | exact HB.out)⟩⟩
  case round =>
    clear H'
    try clear c1
    try clear p2
    obtain ⟨x3_1, x4_1, x5_1, x384000_1, x384001_1, x384003_1, x384004_1, rfl, rfl, rfl, HA, HK1, BK383, HB⟩ := hrel
    cases gk with
    | zero => exact absurd HA.out (by simp [damperref03_ReadNum.l0])
    | succ k1 =>
      have H := HA.out
      clear HA
      simp only [damperref03_ReadNum.l0] at H
      by_cases c3 : x5_1 < 10
      · rw [if_pos c3] at H
        have c3b0 : decide (x5_1 < 10) = true := decide_eq_true c3
        clear c3
        by_cases c4 : x5_1 ≥ (l0.length : Int)
        · rw [if_pos c4] at H
          have c4b0 : decide ((l0.length : Int) ≤ x5_1) = true := decide_eq_true c4
          clear c4
          simp only [Option.some.injEq, Prod.mk.injEq] at H
          obtain ⟨rfl, rfl, rfl, rfl, rfl⟩ := H
          have hcz5_0 : wr.cell? ⟨gb383, 0, none⟩ = some (.int .u64 x384000_1) := (blk_cell BK383.out 0).trans rfl
          have hcz5_1 : wr.cell? ⟨gb383, 1, none⟩ = some (.int .i64 x384001_1) := (blk_cell BK383.out 1).trans rfl
          have hcz5_2 : wr.cell? ⟨gb383, 2, none⟩ = some (.slice none 0 0) := (blk_cell BK383.out 2).trans rfl
          have hcz5_3 : wr.cell? ⟨gb383, 3, none⟩ = some (.int .i64 x384003_1) := (blk_cell BK383.out 3).trans rfl
          have hcz5_4 : wr.cell? ⟨gb383, 4, none⟩ = some (.int .i64 x384004_1) := (blk_cell BK383.out 4).trans rfl
          have hfz5_0 := blk_frozen BK383.out 0
          have hfz5_1 := blk_frozen BK383.out 1
          have hfz5_2 := blk_frozen BK383.out 2
          have hfz5_3 := blk_frozen BK383.out 3
          have hfz5_4 := blk_frozen BK383.out 4
          go_wp2
          refine bodyPost_ret (results_cell_row rfl _ _ gb383 81 #[.int .u64 0, .int .i64 0, .slice none 0 0, .int .i64 0, .int .i64 3] (0, 0) _ rfl (by (with_reducible repeat (first | refine blk_drewN ?_ _ | refine blk_drew ?_ | refine blk_alloc ?_ _)); refine blk_put (cs := #[.int .u64 0, .int .i64 0, .slice none 0 0, .int .i64 0, .int .i64 x384004_1]) ?_ 4 _ rfl; (with_reducible repeat (first | refine blk_drewN ?_ _ | refine blk_drew ?_ | refine blk_alloc ?_ _)); refine blk_put (cs := #[.int .u64 0, .int .i64 0, .slice none 0 0, .int .i64 x384003_1, .int .i64 x384004_1]) ?_ 3 _ rfl; (with_reducible repeat (first | refine blk_drewN ?_ _ | refine blk_drew ?_ | refine blk_alloc ?_ _)); refine blk_put (cs := #[.int .u64 0, .int .i64 0, .slice none 0 0, .int .i64 x384003_1, .int .i64 x384004_1]) ?_ 2 _ rfl; (with_reducible repeat (first | refine blk_drewN ?_ _ | refine blk_drew ?_ | refine blk_alloc ?_ _)); refine blk_put (cs := #[.int .u64 0, .int .i64 x384001_1, .slice none 0 0, .int .i64 x384003_1, .int .i64 x384004_1]) ?_ 1 _ rfl; (with_reducible repeat (first | refine blk_drewN ?_ _ | refine blk_drew ?_ | refine blk_alloc ?_ _)); refine blk_put (cs := #[.int .u64 x384000_1, .int .i64 x384001_1, .slice none 0 0, .int .i64 x384003_1, .int .i64 x384004_1]) ?_ 0 _ rfl; (with_reducible repeat (first | refine blk_drewN ?_ _ | refine blk_drew ?_ | refine blk_alloc ?_ _)); exact BK383.out) Try.underlying81 rfl (by kernel_rfl)) rfl ?_
          exact ⟨_, by first | rfl | (simp [errW_none, errW_some] <;> rfl) | (simp [*, errW_none, errW_some] <;> rfl), by first | exact Kd.R_nil _ _ _ _ _ | exact Kd.N_nil _ _ _ _ _ | exact Kd.V_nil _ _ _ _ _ | exact Kd.Q_nil _ _ _ _ _ | exact Kd.S_nil _ _ _ _ _, by repeat (first | (with_reducible first | exact HB.out | apply below_alloc | apply pw_below_drewN | apply below_drew1 | refine below_set ?_ GE383.out) | exact HB.out)⟩
        · rw [if_neg c4] at H
          have c4b0 : decide ((l0.length : Int) ≤ x5_1) = false := decide_eq_false c4
          clear c4
          by_cases c6 : 0 ≤ x5_1
          · rw [if_pos c6] at H
            have c6b0 : decide (0 ≤ x5_1) = true := decide_eq_true c6
            clear c6
            by_cases c7 : x5_1 < (l0.length : Int)
            · rw [if_pos c7] at H
              have c7b0 : decide (x5_1 < (l0.length : Int)) = true := decide_eq_true c7
              clear c7
              have HC8 := Aside0.mk H
              clear H
              have p384 : 0 ≤ (x5_1 : Int) := of_decide_eq_true (by first | (with_reducible assumption) | assumption)
              have q384 : x5_1 < (l0.length : Int) := of_decide_eq_true (by first | (with_reducible assumption) | assumption)
              obtain ⟨ad384, e384, hx384_0⟩ := Kd.at_int HR0.out x5_1 p384 q384
              cases e384
              replace hx384_0 := (HB.out.cell (World.block_lt_of_cell? w _ hx384_0)).trans hx384_0
              replace p384 := eq_true p384
              replace q384 := eq_true q384
              go_upto_region 8 with (fail)
              go_cut [27] (fun v27 wc => ∃ (kq : Nat) (x27_7 : Bool), v27 = .bool x27_7 ∧ Aside0 (damperref03_ReadNum.j1 kq l0 x3_1 x4_1 x5_1 (IntKind.u64.wrap (Int.tmod (rd l0 x5_1) 128)) x27_7 = some (r1, r2, r3, r4, r5)) ∧ Aside0 (kq ≤ k1) ∧ Aside0 (wc.heap[gb383]? = some (.cells #[.int .u64 x384000_1, .int .i64 x384001_1, (.slice none 0 0), .int .i64 x384003_1, .int .i64 x384004_1] 81 (0, 0))) ∧ Aside0 (Below w.heap.size w wc))
              case first =>
                have H := HC8.out
                clear HC8
                by_cases c9 : x5_1 = 9
                · rw [if_pos c9] at H
                  have c9b0 : (x5_1 == 9) = true := beq_iff_eq.mpr c9
                  have c9b1 : (x5_1 != 9) = false := bne_eq_false_iff_eq.mpr c9
                  clear c9
                  (first | rw [c9b0] | (simp only [i64_w, i32_w]; rw [c9b0]) | skip)
                  have H' := Aside0.mk H
                  clear H
                  go_wp2
                  go_meet
                  case rel => exact ⟨_, (decide ((IntKind.u64.wrap (Int.tmod (rd l0 x5_1) 128)) > 1)), (by first | rfl | (simp; done) | (simp [*]; done)), H', ⟨by have := HK1.out; first | omega | exact Nat.le_refl _⟩, ⟨by (with_reducible repeat (first | refine blk_drewN ?_ _ | refine blk_drew ?_ | refine blk_alloc ?_ _)); exact BK383.out⟩, ⟨by repeat (first | (with_reducible first | exact HB.out | apply below_alloc | apply pw_below_drewN | apply below_drew1 | refine below_set ?_ GE383.out) | exact HB.out)⟩⟩
                · rw [if_neg c9] at H
                  have c9b0 : (x5_1 == 9) = false := beq_eq_false_iff_ne.mpr c9
                  have c9b1 : (x5_1 != 9) = true := bne_iff_ne.mpr c9
                  (first | rw [c9b0] | (simp only [i64_w, i32_w]; rw [c9b0]) | skip)
                  have H' := Aside0.mk H
                  clear H
                  go_wp2
                  go_meet
                  case rel => exact ⟨_, (false), (by first | rfl | (simp; done) | (simp [*]; done)), H', ⟨by have := HK1.out; first | omega | exact Nat.le_refl _⟩, ⟨by (with_reducible repeat (first | refine blk_drewN ?_ _ | refine blk_drew ?_ | refine blk_alloc ?_ _)); exact BK383.out⟩, ⟨by repeat (first | (with_reducible first | exact HB.out | apply below_alloc | apply pw_below_drewN | apply below_drew1 | refine below_set ?_ GE383.out) | exact HB.out)⟩⟩
              case rest =>
                clear HC8
                try clear c1
                try clear p2
                try clear c3
                try clear c3b0
                try clear p3
                try clear q3
                try clear hx3
                try clear c4
                try clear c4b0
                try clear c6
                try clear c6b0
                try clear c7
                try clear c7b0
                try clear c9
                try clear c9b0
                try clear c9b1
                try clear hcz5_0
                try clear hcz5_1
                try clear hcz5_2
                try clear hcz5_3
                try clear hcz5_4
                try clear hfz5_0
                try clear hfz5_1
                try clear hfz5_2
                try clear hfz5_3
                try clear hfz5_4
                try clear hx384_0
                try clear p2
                try clear p384
                try clear q384
                obtain ⟨kq, x27_7, rfl, HA, HJ7, BK383, HB⟩ := hcut
                cases kq with
                | zero => exact absurd HA.out (by simp [damperref03_ReadNum.j1])
                | succ kj7 =>
                  have H := HA.out
                  clear HA
                  simp only [damperref03_ReadNum.j1] at H
                  by_cases c10 : x27_7 = true
                  · subst c10
                    have H1 : (some (0, 0, ([] : List Int), 0, 4)) = some (r1, r2, r3, r4, r5) := by rw [if_pos rfl] at H; exact H
                    clear H
                    have H := H1
                    clear H1
                    simp only [Option.some.injEq, Prod.mk.injEq] at H
                    obtain ⟨rfl, rfl, rfl, rfl, rfl⟩ := H
                    have hcz11_0 : wc.cell? ⟨gb383, 0, none⟩ = some (.int .u64 x384000_1) := (blk_cell BK383.out 0).trans rfl
                    have hcz11_1 : wc.cell? ⟨gb383, 1, none⟩ = some (.int .i64 x384001_1) := (blk_cell BK383.out 1).trans rfl
                    have hcz11_2 : wc.cell? ⟨gb383, 2, none⟩ = some (.slice none 0 0) := (blk_cell BK383.out 2).trans rfl
                    have hcz11_3 : wc.cell? ⟨gb383, 3, none⟩ = some (.int .i64 x384003_1) := (blk_cell BK383.out 3).trans rfl
                    have hcz11_4 : wc.cell? ⟨gb383, 4, none⟩ = some (.int .i64 x384004_1) := (blk_cell BK383.out 4).trans rfl
                    have hfz11_0 := blk_frozen BK383.out 0
                    have hfz11_1 := blk_frozen BK383.out 1
                    have hfz11_2 := blk_frozen BK383.out 2
                    have hfz11_3 := blk_frozen BK383.out 3
                    have hfz11_4 := blk_frozen BK383.out 4
                    go_wp2
                    refine bodyPost_ret (results_cell_row rfl _ _ gb383 81 #[.int .u64 0, .int .i64 0, .slice none 0 0, .int .i64 0, .int .i64 4] (0, 0) _ rfl (by (with_reducible repeat (first | refine blk_drewN ?_ _ | refine blk_drew ?_ | refine blk_alloc ?_ _)); refine blk_put (cs := #[.int .u64 0, .int .i64 0, .slice none 0 0, .int .i64 0, .int .i64 x384004_1]) ?_ 4 _ rfl; (with_reducible repeat (first | refine blk_drewN ?_ _ | refine blk_drew ?_ | refine blk_alloc ?_ _)); refine blk_put (cs := #[.int .u64 0, .int .i64 0, .slice none 0 0, .int .i64 x384003_1, .int .i64 x384004_1]) ?_ 3 _ rfl; (with_reducible repeat (first | refine blk_drewN ?_ _ | refine blk_drew ?_ | refine blk_alloc ?_ _)); refine blk_put (cs := #[.int .u64 0, .int .i64 0, .slice none 0 0, .int .i64 x384003_1, .int .i64 x384004_1]) ?_ 2 _ rfl; (with_reducible repeat (first | refine blk_drewN ?_ _ | refine blk_drew ?_ | refine blk_alloc ?_ _)); refine blk_put (cs := #[.int .u64 0, .int .i64 x384001_1, .slice none 0 0, .int .i64 x384003_1, .int .i64 x384004_1]) ?_ 1 _ rfl; (with_reducible repeat (first | refine blk_drewN ?_ _ | refine blk_drew ?_ | refine blk_alloc ?_ _)); refine blk_put (cs := #[.int .u64 x384000_1, .int .i64 x384001_1, .slice none 0 0, .int .i64 x384003_1, .int .i64 x384004_1]) ?_ 0 _ rfl; (with_reducible repeat (first | refine blk_drewN ?_ _ | refine blk_drew ?_ | refine blk_alloc ?_ _)); exact BK383.out) Try.underlying81 rfl (by kernel_rfl)) rfl ?_
                    exact ⟨_, by first | rfl | (simp [errW_none, errW_some] <;> rfl) | (simp [*, errW_none, errW_some] <;> rfl), by first | exact Kd.R_nil _ _ _ _ _ | exact Kd.N_nil _ _ _ _ _ | exact Kd.V_nil _ _ _ _ _ | exact Kd.Q_nil _ _ _ _ _ | exact Kd.S_nil _ _ _ _ _, by repeat (first | (with_reducible first | exact HB.out | apply below_alloc | apply pw_below_drewN | apply below_drew1 | refine below_set ?_ GE383.out) | exact HB.out)⟩
                  · replace c10 := Bool.eq_false_iff.mpr c10
                    subst c10
                    have H1 : (if 0 ≤ x5_1 then (if x5_1 < (l0.length : Int) then (if (rd l0 x5_1) < 128 then (if (IntKind.u64.wrap (Int.tmod (rd l0 x5_1) 128)) = 0 then (if x5_1 > 0 then (some (0, 0, ([] : List Int), 0, 4)) else (some (IntKind.u64.wrap (x3_1 + (IntKind.u64.wrap ((IntKind.u64.wrap (Int.tmod (rd l0 x5_1) 128)) * x4_1))), 0, ([] : List Int), wrap64 (x5_1 + 1), 0))) else (some (IntKind.u64.wrap (x3_1 + (IntKind.u64.wrap ((IntKind.u64.wrap (Int.tmod (rd l0 x5_1) 128)) * x4_1))), 0, ([] : List Int), wrap64 (x5_1 + 1), 0))) else (damperref03_ReadNum.l0 kj7 l0 (IntKind.u64.wrap (x3_1 + (IntKind.u64.wrap ((IntKind.u64.wrap (Int.tmod (rd l0 x5_1) 128)) * x4_1)))) (IntKind.u64.wrap (x4_1 * 128)) (wrap64 (x5_1 + 1)))) else (none)) else (none)) = some (r1, r2, r3, r4, r5) := by rw [if_neg (show ¬ (false = true) by decide)] at H; exact H
                    clear H
                    have H := H1
                    clear H1
                    by_cases c12 : 0 ≤ x5_1
                    · rw [if_pos c12] at H
                      have c12b0 : decide (0 ≤ x5_1) = true := decide_eq_true c12
                      clear c12
                      by_cases c13 : x5_1 < (l0.length : Int)
                      · rw [if_pos c13] at H
                        have c13b0 : decide (x5_1 < (l0.length : Int)) = true := decide_eq_true c13
                        clear c13
                        by_cases c14 : (rd l0 x5_1) < 128
                        · rw [if_pos c14] at H
                          have c14b0 : decide ((rd l0 x5_1) < 128) = true := decide_eq_true c14
                          clear c14
                          by_cases c15 : (IntKind.u64.wrap (Int.tmod (rd l0 x5_1) 128)) = 0
                          · rw [if_pos c15] at H
                            have c15b0 : ((IntKind.u64.wrap (Int.tmod (rd l0 x5_1) 128)) == 0) = true := beq_iff_eq.mpr c15
                            have c15b1 : ((IntKind.u64.wrap (Int.tmod (rd l0 x5_1) 128)) != 0) = false := bne_eq_false_iff_eq.mpr c15
                            clear c15
                            by_cases c16 : x5_1 > 0
                            · rw [if_pos c16] at H
                              have c16b0 : decide (0 < x5_1) = true := decide_eq_true c16
                              clear c16
                              simp only [Option.some.injEq, Prod.mk.injEq] at H
                              obtain ⟨rfl, rfl, rfl, rfl, rfl⟩ := H
                              have p385 : 0 ≤ (x5_1 : Int) := of_decide_eq_true (by first | (with_reducible assumption) | assumption)
                              have q385 : x5_1 < (l0.length : Int) := of_decide_eq_true (by first | (with_reducible assumption) | assumption)
                              obtain ⟨ad385, e385, hx385_0⟩ := Kd.at_int HR0.out x5_1 p385 q385
                              obtain rfl : ad384 = ad385 := (by injection e385)
                              replace hx385_0 := (HB.out.cell (World.block_lt_of_cell? w _ hx385_0)).trans hx385_0
                              replace p385 := eq_true p385
                              replace q385 := eq_true q385
                              have hcz17_0 : wc.cell? ⟨gb383, 0, none⟩ = some (.int .u64 x384000_1) := (blk_cell BK383.out 0).trans rfl
                              have hcz17_1 : wc.cell? ⟨gb383, 1, none⟩ = some (.int .i64 x384001_1) := (blk_cell BK383.out 1).trans rfl
                              have hcz17_2 : wc.cell? ⟨gb383, 2, none⟩ = some (.slice none 0 0) := (blk_cell BK383.out 2).trans rfl
                              have hcz17_3 : wc.cell? ⟨gb383, 3, none⟩ = some (.int .i64 x384003_1) := (blk_cell BK383.out 3).trans rfl
                              have hcz17_4 : wc.cell? ⟨gb383, 4, none⟩ = some (.int .i64 x384004_1) := (blk_cell BK383.out 4).trans rfl
                              have hfz17_0 := blk_frozen BK383.out 0
                              have hfz17_1 := blk_frozen BK383.out 1
                              have hfz17_2 := blk_frozen BK383.out 2
                              have hfz17_3 := blk_frozen BK383.out 3
                              have hfz17_4 := blk_frozen BK383.out 4
                              go_wp2
                              refine bodyPost_ret (results_cell_row rfl _ _ gb383 81 #[.int .u64 0, .int .i64 0, .slice none 0 0, .int .i64 0, .int .i64 4] (0, 0) _ rfl (by (with_reducible repeat (first | refine blk_drewN ?_ _ | refine blk_drew ?_ | refine blk_alloc ?_ _)); refine blk_put (cs := #[.int .u64 0, .int .i64 0, .slice none 0 0, .int .i64 0, .int .i64 x384004_1]) ?_ 4 _ rfl; (with_reducible repeat (first | refine blk_drewN ?_ _ | refine blk_drew ?_ | refine blk_alloc ?_ _)); refine blk_put (cs := #[.int .u64 0, .int .i64 0, .slice none 0 0, .int .i64 x384003_1, .int .i64 x384004_1]) ?_ 3 _ rfl; (with_reducible repeat (first | refine blk_drewN ?_ _ | refine blk_drew ?_ | refine blk_alloc ?_ _)); refine blk_put (cs := #[.int .u64 0, .int .i64 0, .slice none 0 0, .int .i64 x384003_1, .int .i64 x384004_1]) ?_ 2 _ rfl; (with_reducible repeat (first | refine blk_drewN ?_ _ | refine blk_drew ?_ | refine blk_alloc ?_ _)); refine blk_put (cs := #[.int .u64 0, .int .i64 x384001_1, .slice none 0 0, .int .i64 x384003_1, .int .i64 x384004_1]) ?_ 1 _ rfl; (with_reducible repeat (first | refine blk_drewN ?_ _ | refine blk_drew ?_ | refine blk_alloc ?_ _)); refine blk_put (cs := #[.int .u64 x384000_1, .int .i64 x384001_1, .slice none 0 0, .int .i64 x384003_1, .int .i64 x384004_1]) ?_ 0 _ rfl; (with_reducible repeat (first | refine blk_drewN ?_ _ | refine blk_drew ?_ | refine blk_alloc ?_ _)); exact BK383.out) Try.underlying81 rfl (by kernel_rfl)) rfl ?_
                              exact ⟨_, by first | rfl | (simp [errW_none, errW_some] <;> rfl) | (simp [*, errW_none, errW_some] <;> rfl), by first | exact Kd.R_nil _ _ _ _ _ | exact Kd.N_nil _ _ _ _ _ | exact Kd.V_nil _ _ _ _ _ | exact Kd.Q_nil _ _ _ _ _ | exact Kd.S_nil _ _ _ _ _, by repeat (first | (with_reducible first | exact HB.out | apply below_alloc | apply pw_below_drewN | apply below_drew1 | refine below_set ?_ GE383.out) | exact HB.out)⟩
                            · rw [if_neg c16] at H
                              have c16b0 : decide (0 < x5_1) = false := decide_eq_false c16
                              clear c16
                              simp only [Option.some.injEq, Prod.mk.injEq] at H
                              obtain ⟨rfl, rfl, rfl, rfl, rfl⟩ := H
                              have p385 : 0 ≤ (x5_1 : Int) := of_decide_eq_true (by first | (with_reducible assumption) | assumption)
                              have q385 : x5_1 < (l0.length : Int) := of_decide_eq_true (by first | (with_reducible assumption) | assumption)
                              obtain ⟨ad385, e385, hx385_0⟩ := Kd.at_int HR0.out x5_1 p385 q385
                              obtain rfl : ad384 = ad385 := (by injection e385)
                              replace hx385_0 := (HB.out.cell (World.block_lt_of_cell? w _ hx385_0)).trans hx385_0
                              replace p385 := eq_true p385
                              replace q385 := eq_true q385
                              have hcz18_0 : wc.cell? ⟨gb383, 0, none⟩ = some (.int .u64 x384000_1) := (blk_cell BK383.out 0).trans rfl
                              have hcz18_1 : wc.cell? ⟨gb383, 1, none⟩ = some (.int .i64 x384001_1) := (blk_cell BK383.out 1).trans rfl
                              have hcz18_2 : wc.cell? ⟨gb383, 2, none⟩ = some (.slice none 0 0) := (blk_cell BK383.out 2).trans rfl
                              have hcz18_3 : wc.cell? ⟨gb383, 3, none⟩ = some (.int .i64 x384003_1) := (blk_cell BK383.out 3).trans rfl
                              have hcz18_4 : wc.cell? ⟨gb383, 4, none⟩ = some (.int .i64 x384004_1) := (blk_cell BK383.out 4).trans rfl
                              have hfz18_0 := blk_frozen BK383.out 0
                              have hfz18_1 := blk_frozen BK383.out 1
                              have hfz18_2 := blk_frozen BK383.out 2
                              have hfz18_3 := blk_frozen BK383.out 3
                              have hfz18_4 := blk_frozen BK383.out 4
                              go_wp2
                              refine bodyPost_ret (results_cell_row rfl _ _ gb383 81 #[.int .u64 (IntKind.u64.wrap (x3_1 + (IntKind.u64.wrap ((IntKind.u64.wrap (Int.tmod (rd l0 x5_1) 128)) * x4_1)))), .int .i64 0, .slice none 0 0, .int .i64 (wrap64 (x5_1 + 1)), .int .i64 0] (0, 0) _ rfl (by (with_reducible repeat (first | refine blk_drewN ?_ _ | refine blk_drew ?_ | refine blk_alloc ?_ _)); refine blk_put (cs := #[.int .u64 (IntKind.u64.wrap (x3_1 + (IntKind.u64.wrap ((IntKind.u64.wrap (Int.tmod (rd l0 x5_1) 128)) * x4_1)))), .int .i64 0, .slice none 0 0, .int .i64 (wrap64 (x5_1 + 1)), .int .i64 x384004_1]) ?_ 4 _ rfl; (with_reducible repeat (first | refine blk_drewN ?_ _ | refine blk_drew ?_ | refine blk_alloc ?_ _)); refine blk_put (cs := #[.int .u64 (IntKind.u64.wrap (x3_1 + (IntKind.u64.wrap ((IntKind.u64.wrap (Int.tmod (rd l0 x5_1) 128)) * x4_1)))), .int .i64 0, .slice none 0 0, .int .i64 x384003_1, .int .i64 x384004_1]) ?_ 3 _ rfl; (with_reducible repeat (first | refine blk_drewN ?_ _ | refine blk_drew ?_ | refine blk_alloc ?_ _)); refine blk_put (cs := #[.int .u64 (IntKind.u64.wrap (x3_1 + (IntKind.u64.wrap ((IntKind.u64.wrap (Int.tmod (rd l0 x5_1) 128)) * x4_1)))), .int .i64 0, .slice none 0 0, .int .i64 x384003_1, .int .i64 x384004_1]) ?_ 2 _ rfl; (with_reducible repeat (first | refine blk_drewN ?_ _ | refine blk_drew ?_ | refine blk_alloc ?_ _)); refine blk_put (cs := #[.int .u64 (IntKind.u64.wrap (x3_1 + (IntKind.u64.wrap ((IntKind.u64.wrap (Int.tmod (rd l0 x5_1) 128)) * x4_1)))), .int .i64 x384001_1, .slice none 0 0, .int .i64 x384003_1, .int .i64 x384004_1]) ?_ 1 _ rfl; (with_reducible repeat (first | refine blk_drewN ?_ _ | refine blk_drew ?_ | refine blk_alloc ?_ _)); refine blk_put (cs := #[.int .u64 x384000_1, .int .i64 x384001_1, .slice none 0 0, .int .i64 x384003_1, .int .i64 x384004_1]) ?_ 0 _ rfl; (with_reducible repeat (first | refine blk_drewN ?_ _ | refine blk_drew ?_ | refine blk_alloc ?_ _)); exact BK383.out) Try.underlying81 rfl (by kernel_rfl)) rfl ?_
                              exact ⟨_, by first | rfl | (simp [errW_none, errW_some] <;> rfl) | (simp [*, errW_none, errW_some] <;> rfl), by first | exact Kd.R_nil _ _ _ _ _ | exact Kd.N_nil _ _ _ _ _ | exact Kd.V_nil _ _ _ _ _ | exact Kd.Q_nil _ _ _ _ _ | exact Kd.S_nil _ _ _ _ _, by repeat (first | (with_reducible first | exact HB.out | apply below_alloc | apply pw_below_drewN | apply below_drew1 | refine below_set ?_ GE383.out) | exact HB.out)⟩
                          · rw [if_neg c15] at H
                            have c15b0 : ((IntKind.u64.wrap (Int.tmod (rd l0 x5_1) 128)) == 0) = false := beq_eq_false_iff_ne.mpr c15
                            have c15b1 : ((IntKind.u64.wrap (Int.tmod (rd l0 x5_1) 128)) != 0) = true := bne_iff_ne.mpr c15
                            simp only [Option.some.injEq, Prod.mk.injEq] at H
                            obtain ⟨rfl, rfl, rfl, rfl, rfl⟩ := H
                            have p385 : 0 ≤ (x5_1 : Int) := of_decide_eq_true (by first | (with_reducible assumption) | assumption)
                            have q385 : x5_1 < (l0.length : Int) := of_decide_eq_true (by first | (with_reducible assumption) | assumption)
                            obtain ⟨ad385, e385, hx385_0⟩ := Kd.at_int HR0.out x5_1 p385 q385
                            obtain rfl : ad384 = ad385 := (by injection e385)
                            replace hx385_0 := (HB.out.cell (World.block_lt_of_cell? w _ hx385_0)).trans hx385_0
                            replace p385 := eq_true p385
                            replace q385 := eq_true q385
                            have hcz19_0 : wc.cell? ⟨gb383, 0, none⟩ = some (.int .u64 x384000_1) := (blk_cell BK383.out 0).trans rfl
                            have hcz19_1 : wc.cell? ⟨gb383, 1, none⟩ = some (.int .i64 x384001_1) := (blk_cell BK383.out 1).trans rfl
                            have hcz19_2 : wc.cell? ⟨gb383, 2, none⟩ = some (.slice none 0 0) := (blk_cell BK383.out 2).trans rfl
                            have hcz19_3 : wc.cell? ⟨gb383, 3, none⟩ = some (.int .i64 x384003_1) := (blk_cell BK383.out 3).trans rfl
                            have hcz19_4 : wc.cell? ⟨gb383, 4, none⟩ = some (.int .i64 x384004_1) := (blk_cell BK383.out 4).trans rfl
                            have hfz19_0 := blk_frozen BK383.out 0
                            have hfz19_1 := blk_frozen BK383.out 1
                            have hfz19_2 := blk_frozen BK383.out 2
                            have hfz19_3 := blk_frozen BK383.out 3
                            have hfz19_4 := blk_frozen BK383.out 4
                            go_wp2
                            refine bodyPost_ret (results_cell_row rfl _ _ gb383 81 #[.int .u64 (IntKind.u64.wrap (x3_1 + (IntKind.u64.wrap ((IntKind.u64.wrap (Int.tmod (rd l0 x5_1) 128)) * x4_1)))), .int .i64 0, .slice none 0 0, .int .i64 (wrap64 (x5_1 + 1)), .int .i64 0] (0, 0) _ rfl (by (with_reducible repeat (first | refine blk_drewN ?_ _ | refine blk_drew ?_ | refine blk_alloc ?_ _)); refine blk_put (cs := #[.int .u64 (IntKind.u64.wrap (x3_1 + (IntKind.u64.wrap ((IntKind.u64.wrap (Int.tmod (rd l0 x5_1) 128)) * x4_1)))), .int .i64 0, .slice none 0 0, .int .i64 (wrap64 (x5_1 + 1)), .int .i64 x384004_1]) ?_ 4 _ rfl; (with_reducible repeat (first | refine blk_drewN ?_ _ | refine blk_drew ?_ | refine blk_alloc ?_ _)); refine blk_put (cs := #[.int .u64 (IntKind.u64.wrap (x3_1 + (IntKind.u64.wrap ((IntKind.u64.wrap (Int.tmod (rd l0 x5_1) 128)) * x4_1)))), .int .i64 0, .slice none 0 0, .int .i64 x384003_1, .int .i64 x384004_1]) ?_ 3 _ rfl; (with_reducible repeat (first | refine blk_drewN ?_ _ | refine blk_drew ?_ | refine blk_alloc ?_ _)); refine blk_put (cs := #[.int .u64 (IntKind.u64.wrap (x3_1 + (IntKind.u64.wrap ((IntKind.u64.wrap (Int.tmod (rd l0 x5_1) 128)) * x4_1)))), .int .i64 0, .slice none 0 0, .int .i64 x384003_1, .int .i64 x384004_1]) ?_ 2 _ rfl; (with_reducible repeat (first | refine blk_drewN ?_ _ | refine blk_drew ?_ | refine blk_alloc ?_ _)); refine blk_put (cs := #[.int .u64 (IntKind.u64.wrap (x3_1 + (IntKind.u64.wrap ((IntKind.u64.wrap (Int.tmod (rd l0 x5_1) 128)) * x4_1)))), .int .i64 x384001_1, .slice none 0 0, .int .i64 x384003_1, .int .i64 x384004_1]) ?_ 1 _ rfl; (with_reducible repeat (first | refine blk_drewN ?_ _ | refine blk_drew ?_ | refine blk_alloc ?_ _)); refine blk_put (cs := #[.int .u64 x384000_1, .int .i64 x384001_1, .slice none 0 0, .int .i64 x384003_1, .int .i64 x384004_1]) ?_ 0 _ rfl; (with_reducible repeat (first | refine blk_drewN ?_ _ | refine blk_drew ?_ | refine blk_alloc ?_ _)); exact BK383.out) Try.underlying81 rfl (by kernel_rfl)) rfl ?_
                            exact ⟨_, by first | rfl | (simp [errW_none, errW_some] <;> rfl) | (simp [*, errW_none, errW_some] <;> rfl), by first | exact Kd.R_nil _ _ _ _ _ | exact Kd.N_nil _ _ _ _ _ | exact Kd.V_nil _ _ _ _ _ | exact Kd.Q_nil _ _ _ _ _ | exact Kd.S_nil _ _ _ _ _, by repeat (first | (with_reducible first | exact HB.out | apply below_alloc | apply pw_below_drewN | apply below_drew1 | refine below_set ?_ GE383.out) | exact HB.out)⟩
                        · rw [if_neg c14] at H
                          have c14b0 : decide ((rd l0 x5_1) < 128) = false := decide_eq_false c14
                          clear c14
                          have H' := Aside0.mk H
                          clear H
                          have p385 : 0 ≤ (x5_1 : Int) := of_decide_eq_true (by first | (with_reducible assumption) | assumption)
                          have q385 : x5_1 < (l0.length : Int) := of_decide_eq_true (by first | (with_reducible assumption) | assumption)
                          obtain ⟨ad385, e385, hx385_0⟩ := Kd.at_int HR0.out x5_1 p385 q385
                          obtain rfl : ad384 = ad385 := (by injection e385)
                          replace hx385_0 := (HB.out.cell (World.block_lt_of_cell? w _ hx385_0)).trans hx385_0
                          replace p385 := eq_true p385
                          replace q385 := eq_true q385
                          go_wp2
                          go_roundg kj7
                          case measure => have := HK1.out; have := HJ7.out; omega
                          case rel => exact ⟨(IntKind.u64.wrap (x3_1 + (IntKind.u64.wrap ((IntKind.u64.wrap (Int.tmod (rd l0 x5_1) 128)) * x4_1)))), (IntKind.u64.wrap (x4_1 * 128)), (wrap64 (x5_1 + 1)), (x384000_1), (x384001_1), (x384003_1), (x384004_1), (by first | rfl | (simp; done) | (simp [*]; done)), (by first | rfl | (simp; done) | (simp [*]; done)), (by first | rfl | (simp; done) | (simp [*]; done)), H', ⟨by have := HK1.out; have := HJ7.out; omega⟩, ⟨by (with_reducible repeat (first | refine blk_drewN ?_ _ | refine blk_drew ?_ | refine blk_alloc ?_ _)); exact BK383.out⟩, ⟨by repeat (first | (with_reducible first | exact HB.out | apply below_alloc | apply pw_below_drewN | apply below_drew1 | refine below_set ?_ GE383.out) | exact HB.out)⟩⟩
                      · rw [if_neg c13] at H
                        exact absurd H (by simp)
                    · rw [if_neg c12] at H
                      exact absurd H (by simp)
            · rw [if_neg c7] at H
              exact absurd H (by simp)
          · rw [if_neg c6] at H
            exact absurd H (by simp)
      · rw [if_neg c3] at H
        have c3b0 : decide (x5_1 < 10) = false := decide_eq_false c3
        clear c3
        simp only [Option.some.injEq, Prod.mk.injEq] at H
        obtain ⟨rfl, rfl, rfl, rfl, rfl⟩ := H
        have hcz20_0 : wr.cell? ⟨gb383, 0, none⟩ = some (.int .u64 x384000_1) := (blk_cell BK383.out 0).trans rfl
        have hcz20_1 : wr.cell? ⟨gb383, 1, none⟩ = some (.int .i64 x384001_1) := (blk_cell BK383.out 1).trans rfl
        have hcz20_2 : wr.cell? ⟨gb383, 2, none⟩ = some (.slice none 0 0) := (blk_cell BK383.out 2).trans rfl
        have hcz20_3 : wr.cell? ⟨gb383, 3, none⟩ = some (.int .i64 x384003_1) := (blk_cell BK383.out 3).trans rfl
        have hcz20_4 : wr.cell? ⟨gb383, 4, none⟩ = some (.int .i64 x384004_1) := (blk_cell BK383.out 4).trans rfl
        have hfz20_0 := blk_frozen BK383.out 0
        have hfz20_1 := blk_frozen BK383.out 1
        have hfz20_2 := blk_frozen BK383.out 2
        have hfz20_3 := blk_frozen BK383.out 3
        have hfz20_4 := blk_frozen BK383.out 4
        go_wp2
        refine bodyPost_ret (results_cell_row rfl _ _ gb383 81 #[.int .u64 0, .int .i64 0, .slice none 0 0, .int .i64 0, .int .i64 4] (0, 0) _ rfl (by (with_reducible repeat (first | refine blk_drewN ?_ _ | refine blk_drew ?_ | refine blk_alloc ?_ _)); refine blk_put (cs := #[.int .u64 0, .int .i64 0, .slice none 0 0, .int .i64 0, .int .i64 x384004_1]) ?_ 4 _ rfl; (with_reducible repeat (first | refine blk_drewN ?_ _ | refine blk_drew ?_ | refine blk_alloc ?_ _)); refine blk_put (cs := #[.int .u64 0, .int .i64 0, .slice none 0 0, .int .i64 x384003_1, .int .i64 x384004_1]) ?_ 3 _ rfl; (with_reducible repeat (first | refine blk_drewN ?_ _ | refine blk_drew ?_ | refine blk_alloc ?_ _)); refine blk_put (cs := #[.int .u64 0, .int .i64 0, .slice none 0 0, .int .i64 x384003_1, .int .i64 x384004_1]) ?_ 2 _ rfl; (with_reducible repeat (first | refine blk_drewN ?_ _ | refine blk_drew ?_ | refine blk_alloc ?_ _)); refine blk_put (cs := #[.int .u64 0, .int .i64 x384001_1, .slice none 0 0, .int .i64 x384003_1, .int .i64 x384004_1]) ?_ 1 _ rfl; (with_reducible repeat (first | refine blk_drewN ?_ _ | refine blk_drew ?_ | refine blk_alloc ?_ _)); refine blk_put (cs := #[.int .u64 x384000_1, .int .i64 x384001_1, .slice none 0 0, .int .i64 x384003_1, .int .i64 x384004_1]) ?_ 0 _ rfl; (with_reducible repeat (first | refine blk_drewN ?_ _ | refine blk_drew ?_ | refine blk_alloc ?_ _)); exact BK383.out) Try.underlying81 rfl (by kernel_rfl)) rfl ?_
        exact ⟨_, by first | rfl | (simp [errW_none, errW_some] <;> rfl) | (simp [*, errW_none, errW_some] <;> rfl), by first | exact Kd.R_nil _ _ _ _ _ | exact Kd.N_nil _ _ _ _ _ | exact Kd.V_nil _ _ _ _ _ | exact Kd.Q_nil _ _ _ _ _ | exact Kd.S_nil _ _ _ _ _, by repeat (first | (with_reducible first | exact HB.out | apply below_alloc | apply pw_below_drewN | apply below_drew1 | refine below_set ?_ GE383.out) | exact HB.out)⟩

end Go.Proofs.Ytalpemoodollpaa.P
