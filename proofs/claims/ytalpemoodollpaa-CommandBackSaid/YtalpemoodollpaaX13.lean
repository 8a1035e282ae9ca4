/- Contracts and plain laws: P106, P115, HRefRead, HReadInt, HRead, HApart, P40, HPuts, HReads, HBackPure, HrefRd, HTok, P130, P90, HrefRight. -/
import Derived.LaidEqlPtr
import Derived.RegionTactic
import Derived.Test.YtalpemoodollpaaX7
import Derived.Test.YtalpemoodollpaaX8
-- Printed by hookprint.py (the session's own program, over the kit's print.py): checked by Lean like any text.
namespace Go.Proofs.Ytalpemoodollpaa.P
open Go.RowKit Go.Proofs.YtalpemoodollpaaW.PrintWords Go.Proofs.YtalpemoodollpaaW.PrintLast Go.Proofs.YtalpemoodollpaaW.PrintMore
attribute [local go_sem] max2_int min2_int max_two min_two max_three min_three max_four min_four   -- for this text's walks alone
set_option linter.unusedVariables false
set_option linter.unusedSimpArgs false

/-! ### damperref03_ReadUint: function 106 -/
mutual
def damperref03_ReadUint.j0 : Nat → List Int → Int → Bool → Option (Int × Int × List Int × Int × Int)
  | 0, _, _, _ => none
  | k + 1, x0, x1, x12 => if x12 = true then (some (0, 0, ([] : List Int), 0, 0)) else (if (x0.length : Int) < x1 then (some (0, 0, ([] : List Int), 0, 3)) else (damperref03_ReadUint.l0 k x0 x1 0 0))
def damperref03_ReadUint.l0 : Nat → List Int → Int → Int → Int → Option (Int × Int × List Int × Int × Int)
  | 0, _, _, _, _ => none
  | k + 1, x0, x1, x5, x6 => if x6 < x1 then (if 0 ≤ x6 then (if x6 < (x0.length : Int) then (damperref03_ReadUint.l0 k x0 x1 (IntKind.u64.wrap ((IntKind.u64.wrap (x5 * 256)) + (IntKind.u64.wrap (rd x0 x6)))) (wrap64 (x6 + 1))) else (none)) else (none)) else (some (x5, 0, ([] : List Int), x1, 0))
end
def damperref03_ReadUint.f (k : Nat) (l0 : List Int) (a1 : Int) : Option (Int × Int × List Int × Int × Int) := if a1 < 1 then (damperref03_ReadUint.j0 k l0 a1 true) else (damperref03_ReadUint.j0 k l0 a1 (decide (a1 > 8)))
theorem damperref03_ReadUint.mono_l : ∀ k, (∀ y0 y1 y2, LeO (damperref03_ReadUint.j0 k y0 y1 y2) (damperref03_ReadUint.j0 (k + 1) y0 y1 y2)) ∧ (∀ y0 y1 y2 y3, LeO (damperref03_ReadUint.l0 k y0 y1 y2 y3) (damperref03_ReadUint.l0 (k + 1) y0 y1 y2 y3))
  | 0 => ⟨fun _ _ _ r h => by simp [damperref03_ReadUint.j0] at h, fun _ _ _ _ r h => by simp [damperref03_ReadUint.l0] at h⟩
  | k + 1 => by
    obtain ⟨ih0, ih1⟩ := damperref03_ReadUint.mono_l k
    refine ⟨?_, ?_⟩
    · intro y0 y1 y2
      unfold damperref03_ReadUint.j0
      repeat' first
      | (with_reducible exact ih0 _ _ _)
      | (with_reducible exact ih1 _ _ _ _)
      | (with_reducible exact LeO.refl _)
      | (with_reducible exact LeO.none _)
      | (with_reducible refine LeO.ite ?_ ?_)
      | (with_reducible refine LeO.bind ?_ (fun _ => ?_))
      | exact ih0 _ _ _
      | exact ih1 _ _ _ _
      | exact LeO.none _
      | refine LeO.ite ?_ ?_
      | refine LeO.bind ?_ (fun _ => ?_)
    · intro y0 y1 y2 y3
      unfold damperref03_ReadUint.l0
      repeat' first
      | (with_reducible exact ih0 _ _ _)
      | (with_reducible exact ih1 _ _ _ _)
      | (with_reducible exact LeO.refl _)
      | (with_reducible exact LeO.none _)
      | (with_reducible refine LeO.ite ?_ ?_)
      | (with_reducible refine LeO.bind ?_ (fun _ => ?_))
      | exact ih0 _ _ _
      | exact ih1 _ _ _ _
      | exact LeO.none _
      | refine LeO.ite ?_ ?_
      | refine LeO.bind ?_ (fun _ => ?_)
theorem damperref03_ReadUint.mono : ∀ a0 a1 k, LeO (damperref03_ReadUint.f k a0 a1) (damperref03_ReadUint.f (k + 1) a0 a1) := by
  intro a0 a1 k
  obtain ⟨ih0, ih1⟩ := damperref03_ReadUint.mono_l k
  unfold damperref03_ReadUint.f
  repeat' first
      | (with_reducible exact ih0 _ _ _)
      | (with_reducible exact ih1 _ _ _ _)
      | (with_reducible exact LeO.refl _)
      | (with_reducible exact LeO.none _)
      | (with_reducible refine LeO.ite ?_ ?_)
      | (with_reducible refine LeO.bind ?_ (fun _ => ?_))
      | exact ih0 _ _ _
      | exact ih1 _ _ _ _
      | exact LeO.none _
      | refine LeO.ite ?_ ?_
      | refine LeO.bind ?_ (fun _ => ?_)
set_option maxHeartbeats 8000000 in
set_option maxRecDepth 100000 in
theorem damperref03_ReadUint.calls (k : Nat) (A0 : Option Addr) (c0 : Nat) (l0 : List Int) (a1 : Int) (r1 : Int) (r2 : Int) (r3 : List Int) (r4 : Int) (r5 : Int) (w : World) (hr0 : Kd.C (Kd.int .u8) w A0 l0.length l0) (hc0 : l0.length ≤ c0) (h : damperref03_ReadUint.f k l0 a1 = some (r1, r2, r3, r4, r5)) :
    Calls Try.prog 106 #[.slice A0 l0.length c0, .int .i64 a1] w fun e w' => ∃ v2_ : Value, e = .returned (.agg #[.int .u64 r1, .int .i64 r2, v2_, .int .i64 r4, .int .i64 r5]) ∧ Kd.R (Kd.int .u8) 5 w' w.heap.size (fun _ => True) v2_ r3 ∧ Below w.heap.size w w' := by
  have hu81 := Try.underlying81
  have HR0 := Aside0.mk hr0
  have HC0 := Aside0.mk hc0
  clear hr0 hc0
  have HB := Aside0.mk (Below.refl w.heap.size w)
  have H : (if a1 < 1 then (damperref03_ReadUint.j0 k l0 a1 true) else (damperref03_ReadUint.j0 k l0 a1 (decide (a1 > 8)))) = some (r1, r2, r3, r4, r5) := h
  clear h
  have HC3 := Aside0.mk H
  clear H
  go_enter Try.func106, Try.ntmps106
  go_upto_region 1 with (first | ((with_reducible refine gate_dst (N := 4) rfl ?_); refine box_event ?hg (N := 4) ?hd (cs := #[.int .u64 0, .int .i64 0, .slice none 0 0, .int .i64 0, .int .i64 0]) (t := 81) ?hr ?_; (case hd => rfl); (case hg => rfl); (case hr => first | (go_simp; done) | (go_simp; rfl)); intro gb269 hg w4 hbox hb; have n0_ := Aside0.mk (below_step (by repeat (first | (with_reducible first | exact HB.out | apply below_alloc | apply pw_below_drewN | apply below_drew1) | exact HB.out)) hb); have n1_ := Aside0.mk (hbox); have n2_ := Aside0.mk ((by rw [hg]; exact (below_size (by repeat (first | (with_reducible first | exact HB.out | apply below_alloc | apply pw_below_drewN | apply below_drew1) | exact HB.out))) : w.heap.size ≤ gb269)); have n3_ := Aside0.mk ((by rw [hg]; exact (below_size (by repeat (first | (with_reducible first | exact HB.out | apply below_alloc | apply pw_below_drewN | apply below_drew1) | exact HB.out))) : w.heap.size ≤ gb269)); clear HB; have HB := n0_; have BK269 := n1_; have GW269 := n2_; have GE269 := n3_; clear n0_ n1_ n2_ n3_; clear hb hbox hg))
  (try simp only [Act.put, List.setIfInBounds_toArray, List.set_cons_zero, List.set_cons_succ])
  go_cut [12] (fun v12 wc => ∃ (kq : Nat) (x12_2 : Bool), v12 = .bool x12_2 ∧ Aside0 (damperref03_ReadUint.j0 kq l0 a1 x12_2 = some (r1, r2, r3, r4, r5)) ∧ Aside0 (kq ≤ k) ∧ Aside0 (wc.heap[gb269]? = some (.cells #[.int .u64 0, .int .i64 0, (.slice none 0 0), .int .i64 0, .int .i64 0] 81 (0, 0))) ∧ Aside0 (Below w.heap.size w wc))
  case first =>
    have H := HC3.out
    clear HC3
    by_cases c5 : a1 < 1
    · rw [if_pos c5] at H
      have c5b0 : decide (a1 < 1) = true := decide_eq_true c5
      clear c5
      (first | rw [c5b0] | (simp only [i64_w, i32_w]; rw [c5b0]) | skip)
      have H' := Aside0.mk H
      clear H
      go_wp2
      go_meet
      case rel => exact ⟨_, (true), (by first | rfl | (simp; done) | (simp [*]; done)), H', ⟨by first | omega | exact Nat.le_refl _⟩, ⟨by (with_reducible repeat (first | refine blk_drewN ?_ _ | refine blk_drew ?_ | refine blk_alloc ?_ _)); exact BK269.out⟩, ⟨by repeat (first | (with_reducible first | exact HB.out | apply below_alloc | apply pw_below_drewN | apply below_drew1 | refine below_set ?_ GE269.out) | exact HB.out)⟩⟩
    · rw [if_neg c5] at H
      have c5b0 : decide (a1 < 1) = false := decide_eq_false c5
      clear c5
      (first | rw [c5b0] | (simp only [i64_w, i32_w]; rw [c5b0]) | skip)
      have H' := Aside0.mk H
      clear H
      go_wp2
      go_meet
      case rel => exact ⟨_, (decide (a1 > 8)), (by first | rfl | (simp; done) | (simp [*]; done)), H', ⟨by first | omega | exact Nat.le_refl _⟩, ⟨by (with_reducible repeat (first | refine blk_drewN ?_ _ | refine blk_drew ?_ | refine blk_alloc ?_ _)); exact BK269.out⟩, ⟨by repeat (first | (with_reducible first | exact HB.out | apply below_alloc | apply pw_below_drewN | apply below_drew1 | refine below_set ?_ GE269.out) | exact HB.out)⟩⟩
  case rest =>
    clear HC3
    try clear c1
    try clear p2
    try clear c5
    try clear c5b0
    obtain ⟨kq, x12_2, rfl, HA, HJ2, BK269, HB⟩ := hcut
    cases kq with
    | zero => exact absurd HA.out (by simp [damperref03_ReadUint.j0])
    | succ kj2 =>
      have H := HA.out
      clear HA
      simp only [damperref03_ReadUint.j0] at H
      by_cases c6 : x12_2 = true
      · subst c6
        have H1 : (some (0, 0, ([] : List Int), 0, 0)) = some (r1, r2, r3, r4, r5) := by rw [if_pos rfl] at H; exact H
        clear H
        have H := H1
        clear H1
        simp only [Option.some.injEq, Prod.mk.injEq] at H
        obtain ⟨rfl, rfl, rfl, rfl, rfl⟩ := H
        have hcz7_0 : wc.cell? ⟨gb269, 0, none⟩ = some (.int .u64 0) := (blk_cell BK269.out 0).trans rfl
        have hcz7_1 : wc.cell? ⟨gb269, 1, none⟩ = some (.int .i64 0) := (blk_cell BK269.out 1).trans rfl
        have hcz7_2 : wc.cell? ⟨gb269, 2, none⟩ = some (.slice none 0 0) := (blk_cell BK269.out 2).trans rfl
        have hcz7_3 : wc.cell? ⟨gb269, 3, none⟩ = some (.int .i64 0) := (blk_cell BK269.out 3).trans rfl
        have hcz7_4 : wc.cell? ⟨gb269, 4, none⟩ = some (.int .i64 0) := (blk_cell BK269.out 4).trans rfl
        have hfz7_0 := blk_frozen BK269.out 0
        have hfz7_1 := blk_frozen BK269.out 1
        have hfz7_2 := blk_frozen BK269.out 2
        have hfz7_3 := blk_frozen BK269.out 3
        have hfz7_4 := blk_frozen BK269.out 4
        go_wp2
        refine bodyPost_ret (results_cell_row rfl _ _ gb269 81 #[.int .u64 0, .int .i64 0, .slice none 0 0, .int .i64 0, .int .i64 0] (0, 0) _ rfl (by (with_reducible repeat (first | refine blk_drewN ?_ _ | refine blk_drew ?_ | refine blk_alloc ?_ _)); refine blk_put (cs := #[.int .u64 0, .int .i64 0, .slice none 0 0, .int .i64 0, .int .i64 0]) ?_ 4 _ rfl; (with_reducible repeat (first | refine blk_drewN ?_ _ | refine blk_drew ?_ | refine blk_alloc ?_ _)); refine blk_put (cs := #[.int .u64 0, .int .i64 0, .slice none 0 0, .int .i64 0, .int .i64 0]) ?_ 3 _ rfl; (with_reducible repeat (first | refine blk_drewN ?_ _ | refine blk_drew ?_ | refine blk_alloc ?_ _)); refine blk_put (cs := #[.int .u64 0, .int .i64 0, .slice none 0 0, .int .i64 0, .int .i64 0]) ?_ 2 _ rfl; (with_reducible repeat (first | refine blk_drewN ?_ _ | refine blk_drew ?_ | refine blk_alloc ?_ _)); refine blk_put (cs := #[.int .u64 0, .int .i64 0, .slice none 0 0, .int .i64 0, .int .i64 0]) ?_ 1 _ rfl; (with_reducible repeat (first | refine blk_drewN ?_ _ | refine blk_drew ?_ | refine blk_alloc ?_ _)); refine blk_put (cs := #[.int .u64 0, .int .i64 0, .slice none 0 0, .int .i64 0, .int .i64 0]) ?_ 0 _ rfl; (with_reducible repeat (first | refine blk_drewN ?_ _ | refine blk_drew ?_ | refine blk_alloc ?_ _)); exact BK269.out) Try.underlying81 rfl (by kernel_rfl)) rfl ?_
        exact ⟨_, by first | rfl | (simp [errW_none, errW_some] <;> rfl) | (simp [*, errW_none, errW_some] <;> rfl), by first | exact Kd.R_nil _ _ _ _ _ | exact Kd.N_nil _ _ _ _ _ | exact Kd.V_nil _ _ _ _ _ | exact Kd.Q_nil _ _ _ _ _ | exact Kd.S_nil _ _ _ _ _, by repeat (first | (with_reducible first | exact HB.out | apply below_alloc | apply pw_below_drewN | apply below_drew1 | refine below_set ?_ GE269.out) | exact HB.out)⟩
      · replace c6 := Bool.eq_false_iff.mpr c6
        subst c6
        have H1 : (if (l0.length : Int) < a1 then (some (0, 0, ([] : List Int), 0, 3)) else (damperref03_ReadUint.l0 kj2 l0 a1 0 0)) = some (r1, r2, r3, r4, r5) := by rw [if_neg (show ¬ (false = true) by decide)] at H; exact H
        clear H
        have H := H1
        clear H1
        by_cases c8 : (l0.length : Int) < a1
        · rw [if_pos c8] at H
          have c8b0 : decide ((l0.length : Int) < a1) = true := decide_eq_true c8
          clear c8
          simp only [Option.some.injEq, Prod.mk.injEq] at H
          obtain ⟨rfl, rfl, rfl, rfl, rfl⟩ := H
          have hcz9_0 : wc.cell? ⟨gb269, 0, none⟩ = some (.int .u64 0) := (blk_cell BK269.out 0).trans rfl
          have hcz9_1 : wc.cell? ⟨gb269, 1, none⟩ = some (.int .i64 0) := (blk_cell BK269.out 1).trans rfl
          have hcz9_2 : wc.cell? ⟨gb269, 2, none⟩ = some (.slice none 0 0) := (blk_cell BK269.out 2).trans rfl
          have hcz9_3 : wc.cell? ⟨gb269, 3, none⟩ = some (.int .i64 0) := (blk_cell BK269.out 3).trans rfl
          have hcz9_4 : wc.cell? ⟨gb269, 4, none⟩ = some (.int .i64 0) := (blk_cell BK269.out 4).trans rfl
          have hfz9_0 := blk_frozen BK269.out 0
          have hfz9_1 := blk_frozen BK269.out 1
          have hfz9_2 := blk_frozen BK269.out 2
          have hfz9_3 := blk_frozen BK269.out 3
          have hfz9_4 := blk_frozen BK269.out 4
          go_wp2
          refine bodyPost_ret (results_cell_row rfl _ _ gb269 81 #[.int .u64 0, .int .i64 0, .slice none 0 0, .int .i64 0, .int .i64 3] (0, 0) _ rfl (by (with_reducible repeat (first | refine blk_drewN ?_ _ | refine blk_drew ?_ | refine blk_alloc ?_ _)); refine blk_put (cs := #[.int .u64 0, .int .i64 0, .slice none 0 0, .int .i64 0, .int .i64 0]) ?_ 4 _ rfl; (with_reducible repeat (first | refine blk_drewN ?_ _ | refine blk_drew ?_ | refine blk_alloc ?_ _)); refine blk_put (cs := #[.int .u64 0, .int .i64 0, .slice none 0 0, .int .i64 0, .int .i64 0]) ?_ 3 _ rfl; (with_reducible repeat (first | refine blk_drewN ?_ _ | refine blk_drew ?_ | refine blk_alloc ?_ _)); refine blk_put (cs := #[.int .u64 0, .int .i64 0, .slice none 0 0, .int .i64 0, .int .i64 0]) ?_ 2 _ rfl; (with_reducible repeat (first | refine blk_drewN ?_ _ | refine blk_drew ?_ | refine blk_alloc ?_ _)); refine blk_put (cs := #[.int .u64 0, .int .i64 0, .slice none 0 0, .int .i64 0, .int .i64 0]) ?_ 1 _ rfl; (with_reducible repeat (first | refine blk_drewN ?_ _ | refine blk_drew ?_ | refine blk_alloc ?_ _)); refine blk_put (cs := #[.int .u64 0, .int .i64 0, .slice none 0 0, .int .i64 0, .int .i64 0]) ?_ 0 _ rfl; (with_reducible repeat (first | refine blk_drewN ?_ _ | refine blk_drew ?_ | refine blk_alloc ?_ _)); exact BK269.out) Try.underlying81 rfl (by kernel_rfl)) rfl ?_
          exact ⟨_, by first | rfl | (simp [errW_none, errW_some] <;> rfl) | (simp [*, errW_none, errW_some] <;> rfl), by first | exact Kd.R_nil _ _ _ _ _ | exact Kd.N_nil _ _ _ _ _ | exact Kd.V_nil _ _ _ _ _ | exact Kd.Q_nil _ _ _ _ _ | exact Kd.S_nil _ _ _ _ _, by repeat (first | (with_reducible first | exact HB.out | apply below_alloc | apply pw_below_drewN | apply below_drew1 | refine below_set ?_ GE269.out) | exact HB.out)⟩
        · rw [if_neg c8] at H
          have c8b0 : decide ((l0.length : Int) < a1) = false := decide_eq_false c8
          clear c8
          have H' := Aside0.mk H
          clear H
          go_wp2
          go_loopg [5, 6] kj2 (fun kq v5 v6 w' => ∃ (x5_2 : Int) (x6_2 : Int), v5 = .int .u64 x5_2 ∧ v6 = .int .i64 x6_2 ∧ Aside0 (damperref03_ReadUint.l0 kq l0 a1 x5_2 x6_2 = some (r1, r2, r3, r4, r5)) ∧ Aside0 (kq ≤ kj2) ∧ Aside0 (w'.heap[gb269]? = some (.cells #[.int .u64 0, .int .i64 0, (.slice none 0 0), .int .i64 0, .int .i64 0] 81 (0, 0))) ∧ Aside0 (Below w.heap.size w w'))
          case atStart => exact ⟨(0), (0), (by first | rfl | (simp; done) | (simp [*]; done)), (by first | rfl | (simp; done) | (simp [*]; done)), H', ⟨Nat.le_refl _⟩, ⟨by (with_reducible repeat (first | refine blk_drewN ?_ _ | refine blk_drew ?_ | refine blk_alloc ?_ _)); exact BK269.out⟩, ⟨by repeat (first | (with_reducible first | exact HB.out | apply below_alloc | apply pw_below_drewN | apply below_drew1 | refine below_set ?_ GE269.out) | exact HB.out)⟩⟩
          case round =>
            clear H'
            try clear c1
            try clear p2
            try clear c5
            try clear c5b0
            try clear c6
            try clear c8
            try clear c8b0
            try clear hcz7_0
            try clear hcz7_1
            try clear hcz7_2
            try clear hcz7_3
            try clear hcz7_4
            try clear hcz9_0
            try clear hcz9_1
            try clear hcz9_2
            try clear hcz9_3
            try clear hcz9_4
            try clear hfz7_0
            try clear hfz7_1
            try clear hfz7_2
            try clear hfz7_3
            try clear hfz7_4
            try clear hfz9_0
            try clear hfz9_1
            try clear hfz9_2
            try clear hfz9_3
            try clear hfz9_4
            try clear p2
            obtain ⟨x5_2, x6_2, rfl, rfl, HA, HK2, BK269, HB⟩ := hrel
            cases gk with
            | zero => exact absurd HA.out (by simp [damperref03_ReadUint.l0])
            | succ k2 =>
              have H := HA.out
              clear HA
              simp only [damperref03_ReadUint.l0] at H
              by_cases c10 : x6_2 < a1
              · rw [if_pos c10] at H
                have c10b0 : decide (x6_2 < a1) = true := decide_eq_true c10
                clear c10
                by_cases c11 : 0 ≤ x6_2
                · rw [if_pos c11] at H
                  have c11b0 : decide (0 ≤ x6_2) = true := decide_eq_true c11
                  clear c11
                  by_cases c12 : x6_2 < (l0.length : Int)
                  · rw [if_pos c12] at H
                    have c12b0 : decide (x6_2 < (l0.length : Int)) = true := decide_eq_true c12
                    clear c12
                    have H' := Aside0.mk H
                    clear H
                    have p270 : 0 ≤ (x6_2 : Int) := of_decide_eq_true (by first | (with_reducible assumption) | assumption)
                    have q270 : x6_2 < (l0.length : Int) := of_decide_eq_true (by first | (with_reducible assumption) | assumption)
                    obtain ⟨ad270, e270, hx270_0⟩ := Kd.at_int HR0.out x6_2 p270 q270
                    cases e270
                    replace hx270_0 := (HB.out.cell (World.block_lt_of_cell? w _ hx270_0)).trans hx270_0
                    replace p270 := eq_true p270
                    replace q270 := eq_true q270
                    go_wp2
                    go_roundg k2
                    case measure => have := HJ2.out; have := HK2.out; omega
                    case rel => exact ⟨(IntKind.u64.wrap ((IntKind.u64.wrap (x5_2 * 256)) + (IntKind.u64.wrap (rd l0 x6_2)))), (wrap64 (x6_2 + 1)), (by first | rfl | (simp; done) | (simp [*]; done)), (by first | rfl | (simp; done) | (simp [*]; done)), H', ⟨by have := HJ2.out; have := HK2.out; omega⟩, ⟨by (with_reducible repeat (first | refine blk_drewN ?_ _ | refine blk_drew ?_ | refine blk_alloc ?_ _)); exact BK269.out⟩, ⟨by repeat (first | (with_reducible first | exact HB.out | apply below_alloc | apply pw_below_drewN | apply below_drew1 | refine below_set ?_ GE269.out) | exact HB.out)⟩⟩
                  · rw [if_neg c12] at H
                    exact absurd H (by simp)
                · rw [if_neg c11] at H
                  exact absurd H (by simp)
              · rw [if_neg c10] at H
                have c10b0 : decide (x6_2 < a1) = false := decide_eq_false c10
                clear c10
                simp only [Option.some.injEq, Prod.mk.injEq] at H
                obtain ⟨rfl, rfl, rfl, rfl, rfl⟩ := H
                have hcz13_0 : wr.cell? ⟨gb269, 0, none⟩ = some (.int .u64 0) := (blk_cell BK269.out 0).trans rfl
                have hcz13_1 : wr.cell? ⟨gb269, 1, none⟩ = some (.int .i64 0) := (blk_cell BK269.out 1).trans rfl
                have hcz13_2 : wr.cell? ⟨gb269, 2, none⟩ = some (.slice none 0 0) := (blk_cell BK269.out 2).trans rfl
                have hcz13_3 : wr.cell? ⟨gb269, 3, none⟩ = some (.int .i64 0) := (blk_cell BK269.out 3).trans rfl
                have hcz13_4 : wr.cell? ⟨gb269, 4, none⟩ = some (.int .i64 0) := (blk_cell BK269.out 4).trans rfl
                have hfz13_0 := blk_frozen BK269.out 0
                have hfz13_1 := blk_frozen BK269.out 1
                have hfz13_2 := blk_frozen BK269.out 2
                have hfz13_3 := blk_frozen BK269.out 3
                have hfz13_4 := blk_frozen BK269.out 4
                go_wp2
                refine bodyPost_ret (results_cell_row rfl _ _ gb269 81 #[.int .u64 x5_2, .int .i64 0, .slice none 0 0, .int .i64 a1, .int .i64 0] (0, 0) _ rfl (by (with_reducible repeat (first | refine blk_drewN ?_ _ | refine blk_drew ?_ | refine blk_alloc ?_ _)); refine blk_put (cs := #[.int .u64 x5_2, .int .i64 0, .slice none 0 0, .int .i64 a1, .int .i64 0]) ?_ 4 _ rfl; (with_reducible repeat (first | refine blk_drewN ?_ _ | refine blk_drew ?_ | refine blk_alloc ?_ _)); refine blk_put (cs := #[.int .u64 x5_2, .int .i64 0, .slice none 0 0, .int .i64 0, .int .i64 0]) ?_ 3 _ rfl; (with_reducible repeat (first | refine blk_drewN ?_ _ | refine blk_drew ?_ | refine blk_alloc ?_ _)); refine blk_put (cs := #[.int .u64 x5_2, .int .i64 0, .slice none 0 0, .int .i64 0, .int .i64 0]) ?_ 2 _ rfl; (with_reducible repeat (first | refine blk_drewN ?_ _ | refine blk_drew ?_ | refine blk_alloc ?_ _)); refine blk_put (cs := #[.int .u64 x5_2, .int .i64 0, .slice none 0 0, .int .i64 0, .int .i64 0]) ?_ 1 _ rfl; (with_reducible repeat (first | refine blk_drewN ?_ _ | refine blk_drew ?_ | refine blk_alloc ?_ _)); refine blk_put (cs := #[.int .u64 0, .int .i64 0, .slice none 0 0, .int .i64 0, .int .i64 0]) ?_ 0 _ rfl; (with_reducible repeat (first | refine blk_drewN ?_ _ | refine blk_drew ?_ | refine blk_alloc ?_ _)); exact BK269.out) Try.underlying81 rfl (by kernel_rfl)) rfl ?_
                exact ⟨_, by first | rfl | (simp [errW_none, errW_some] <;> rfl) | (simp [*, errW_none, errW_some] <;> rfl), by first | exact Kd.R_nil _ _ _ _ _ | exact Kd.N_nil _ _ _ _ _ | exact Kd.V_nil _ _ _ _ _ | exact Kd.Q_nil _ _ _ _ _ | exact Kd.S_nil _ _ _ _ _, by repeat (first | (with_reducible first | exact HB.out | apply below_alloc | apply pw_below_drewN | apply below_drew1 | refine below_set ?_ GE269.out) | exact HB.out)⟩

end Go.Proofs.Ytalpemoodollpaa.P
-- Printed by hookprint.py (the session's own program, over the kit's print.py): checked by Lean like any text.
namespace Go.Proofs.Ytalpemoodollpaa.P
open Go.RowKit Go.Proofs.YtalpemoodollpaaW.PrintWords Go.Proofs.YtalpemoodollpaaW.PrintLast Go.Proofs.YtalpemoodollpaaW.PrintMore
attribute [local go_sem] max2_int min2_int max_two min_two max_three min_three max_four min_four   -- for this text's walks alone
set_option linter.unusedVariables false
set_option linter.unusedSimpArgs false

/-! ### damperref03_ReadNum: function 115 -/
mutual
def damperref03_ReadNum.l0 : Nat → List Int → Int → Int → Int → Option (Int × Int × List Int × Int × Int)
  | 0, _, _, _, _ => none
  | k + 1, x0, x3, x4, x5 => if x5 < 10 then (if x5 ≥ (x0.length : Int) then (some (0, 0, ([] : List Int), 0, 3)) else (if 0 ≤ x5 then (if x5 < (x0.length : Int) then (if x5 = 9 then (damperref03_ReadNum.j1 k x0 x3 x4 x5 (IntKind.u64.wrap (Int.tmod (rd x0 x5) 128)) (decide ((IntKind.u64.wrap (Int.tmod (rd x0 x5) 128)) > 1))) else (damperref03_ReadNum.j1 k x0 x3 x4 x5 (IntKind.u64.wrap (Int.tmod (rd x0 x5) 128)) false)) else (none)) else (none))) else (some (0, 0, ([] : List Int), 0, 4))
def damperref03_ReadNum.j1 : Nat → List Int → Int → Int → Int → Int → Bool → Option (Int × Int × List Int × Int × Int)
  | 0, _, _, _, _, _, _ => none
  | k + 1, x0, x3, x4, x5, x6, x27 => if x27 = true then (some (0, 0, ([] : List Int), 0, 4)) else (if 0 ≤ x5 then (if x5 < (x0.length : Int) then (if (rd x0 x5) < 128 then (if x6 = 0 then (if x5 > 0 then (some (0, 0, ([] : List Int), 0, 4)) else (some (IntKind.u64.wrap (x3 + (IntKind.u64.wrap (x6 * x4))), 0, ([] : List Int), wrap64 (x5 + 1), 0))) else (some (IntKind.u64.wrap (x3 + (IntKind.u64.wrap (x6 * x4))), 0, ([] : List Int), wrap64 (x5 + 1), 0))) else (damperref03_ReadNum.l0 k x0 (IntKind.u64.wrap (x3 + (IntKind.u64.wrap (x6 * x4)))) (IntKind.u64.wrap (x4 * 128)) (wrap64 (x5 + 1)))) else (none)) else (none))
end
def damperref03_ReadNum.f (k : Nat) (l0 : List Int) : Option (Int × Int × List Int × Int × Int) := damperref03_ReadNum.l0 k l0 0 1 0
theorem damperref03_ReadNum.mono_l : ∀ k, (∀ y0 y1 y2 y3, LeO (damperref03_ReadNum.l0 k y0 y1 y2 y3) (damperref03_ReadNum.l0 (k + 1) y0 y1 y2 y3)) ∧ (∀ y0 y1 y2 y3 y4 y5, LeO (damperref03_ReadNum.j1 k y0 y1 y2 y3 y4 y5) (damperref03_ReadNum.j1 (k + 1) y0 y1 y2 y3 y4 y5))
  | 0 => ⟨fun _ _ _ _ r h => by simp [damperref03_ReadNum.l0] at h, fun _ _ _ _ _ _ r h => by simp [damperref03_ReadNum.j1] at h⟩
  | k + 1 => by
    obtain ⟨ih0, ih1⟩ := damperref03_ReadNum.mono_l k
    refine ⟨?_, ?_⟩
    · intro y0 y1 y2 y3
      unfold damperref03_ReadNum.l0
      repeat' first
      | (with_reducible exact ih0 _ _ _ _)
      | (with_reducible exact ih1 _ _ _ _ _ _)
      | (with_reducible exact LeO.refl _)
      | (with_reducible exact LeO.none _)
      | (with_reducible refine LeO.ite ?_ ?_)
      | (with_reducible refine LeO.bind ?_ (fun _ => ?_))
      | exact ih0 _ _ _ _
      | exact ih1 _ _ _ _ _ _
      | exact LeO.none _
      | refine LeO.ite ?_ ?_
      | refine LeO.bind ?_ (fun _ => ?_)
    · intro y0 y1 y2 y3 y4 y5
      unfold damperref03_ReadNum.j1
      repeat' first
      | (with_reducible exact ih0 _ _ _ _)
      | (with_reducible exact ih1 _ _ _ _ _ _)
      | (with_reducible exact LeO.refl _)
      | (with_reducible exact LeO.none _)
      | (with_reducible refine LeO.ite ?_ ?_)
      | (with_reducible refine LeO.bind ?_ (fun _ => ?_))
      | exact ih0 _ _ _ _
      | exact ih1 _ _ _ _ _ _
      | exact LeO.none _
      | refine LeO.ite ?_ ?_
      | refine LeO.bind ?_ (fun _ => ?_)
theorem damperref03_ReadNum.mono : ∀ a0 k, LeO (damperref03_ReadNum.f k a0) (damperref03_ReadNum.f (k + 1) a0) := by
  intro a0 k
  obtain ⟨ih0, ih1⟩ := damperref03_ReadNum.mono_l k
  unfold damperref03_ReadNum.f
  repeat' first
      | (with_reducible exact ih0 _ _ _ _)
      | (with_reducible exact ih1 _ _ _ _ _ _)
      | (with_reducible exact LeO.refl _)
      | (with_reducible exact LeO.none _)
      | (with_reducible refine LeO.ite ?_ ?_)
      | (with_reducible refine LeO.bind ?_ (fun _ => ?_))
      | exact ih0 _ _ _ _
      | exact ih1 _ _ _ _ _ _
      | exact LeO.none _
      | refine LeO.ite ?_ ?_
      | refine LeO.bind ?_ (fun _ => ?_)
set_option maxHeartbeats 8000000 in
set_option maxRecDepth 100000 in
theorem damperref03_ReadNum.calls (k : Nat) (A0 : Option Addr) (c0 : Nat) (l0 : List Int) (r1 : Int) (r2 : Int) (r3 : List Int) (r4 : Int) (r5 : Int) (w : World) (hr0 : Kd.C (Kd.int .u8) w A0 l0.length l0) (hc0 : l0.length ≤ c0) (h : damperref03_ReadNum.f k l0 = some (r1, r2, r3, r4, r5)) :
    Calls Try.prog 115 #[.slice A0 l0.length c0] w fun e w' => ∃ v2_ : Value, e = .returned (.agg #[.int .u64 r1, .int .i64 r2, v2_, .int .i64 r4, .int .i64 r5]) ∧ Kd.R (Kd.int .u8) 5 w' w.heap.size (fun _ => True) v2_ r3 ∧ Below w.heap.size w w' := by
  have hu81 := Try.underlying81
  have HR0 := Aside0.mk hr0
  have HC0 := Aside0.mk hc0
  clear hr0 hc0
  have HB := Aside0.mk (Below.refl w.heap.size w)
  have H : (damperref03_ReadNum.l0 k l0 0 1 0) = some (r1, r2, r3, r4, r5) := h
  clear h
  have H' := Aside0.mk H
  clear H
  go_enter Try.func115, Try.ntmps115
  go_wp2_with (first | ((with_reducible refine gate_dst (N := 2) rfl ?_); refine box_event ?hg (N := 2) ?hd (cs := #[.int .u64 0, .int .i64 0, .slice none 0 0, .int .i64 0, .int .i64 0]) (t := 81) ?hr ?_; (case hd => rfl); (case hg => rfl); (case hr => first | (go_simp; done) | (go_simp; rfl)); intro gb383 hg w2 hbox hb; have n0_ := Aside0.mk (below_step (by repeat (first | (with_reducible first | exact HB.out | apply below_alloc | apply pw_below_drewN | apply below_drew1) | exact HB.out)) hb); have n1_ := Aside0.mk (hbox); have n2_ := Aside0.mk ((by rw [hg]; exact (below_size (by repeat (first | (with_reducible first | exact HB.out | apply below_alloc | apply pw_below_drewN | apply below_drew1) | exact HB.out))) : w.heap.size ≤ gb383)); have n3_ := Aside0.mk ((by rw [hg]; exact (below_size (by repeat (first | (with_reducible first | exact HB.out | apply below_alloc | apply pw_below_drewN | apply below_drew1) | exact HB.out))) : w.heap.size ≤ gb383)); clear HB; have HB := n0_; have BK383 := n1_; have GW383 := n2_; have GE383 := n3_; clear n0_ n1_ n2_ n3_; clear hb hbox hg))
  go_loopg [3, 4, 5] k (fun kq v3 v4 v5 w' => ∃ (x3_1 : Int) (x4_1 : Int) (x5_1 : Int) (x384000_1 : Int) (x384001_1 : Int) (x384003_1 : Int) (x384004_1 : Int), v3 = .int .u64 x3_1 ∧ v4 = .int .u64 x4_1 ∧ v5 = .int .i64 x5_1 ∧ Aside0 (damperref03_ReadNum.l0 kq l0 x3_1 x4_1 x5_1 = some (r1, r2, r3, r4, r5)) ∧ Aside0 (kq ≤ k) ∧ Aside0 (w'.heap[gb383]? = some (.cells #[.int .u64 x384000_1, .int .i64 x384001_1, (.slice none 0 0), .int .i64 x384003_1, .int .i64 x384004_1] 81 (0, 0))) ∧ Aside0 (Below w.heap.size w w'))
  case atStart => exact ⟨(0), (1), (0), (0), (0), (0), (0), (by first | rfl | (simp; done) | (simp [*]; done)), (by first | rfl | (simp; done) | (simp [*]; done)), (by first | rfl | (simp; done) | (simp [*]; done)), H', ⟨Nat.le_refl _⟩, ⟨by (with_reducible repeat (first | refine blk_drewN ?_ _ | refine blk_drew ?_ | refine blk_alloc ?_ _)); exact BK383.out⟩, ⟨by repeat (first | (with_reducible first | exact HB.out | apply below_alloc | apply pw_below_drewN | apply below_drew1 | refine below_set ?_ GE383.out) | exact HB.out)⟩⟩
  case round =>
    clear H'
    try clear c1
    try clear p2
    obtain ⟨x3_1, x4_1, x5_1, x384000_1, x384001_1, x384003_1, x384004_1, rfl, rfl, rfl, HA, HK1, BK383, HB⟩ := hrel
    cases gk with
    | zero => exact absurd HA.out (by simp [damperref03_ReadNum.l0])
    | succ k1 =>
      have H := HA.out
      clear HA
      simp only [damperref03_ReadNum.l0] at H
      by_cases c3 : x5_1 < 10
      · rw [if_pos c3] at H
        have c3b0 : decide (x5_1 < 10) = true := decide_eq_true c3
        clear c3
        by_cases c4 : x5_1 ≥ (l0.length : Int)
        · rw [if_pos c4] at H
          have c4b0 : decide ((l0.length : Int) ≤ x5_1) = true := decide_eq_true c4
          clear c4
          simp only [Option.some.injEq, Prod.mk.injEq] at H
          obtain ⟨rfl, rfl, rfl, rfl, rfl⟩ := H
          have hcz5_0 : wr.cell? ⟨gb383, 0, none⟩ = some (.int .u64 x384000_1) := (blk_cell BK383.out 0).trans rfl
          have hcz5_1 : wr.cell? ⟨gb383, 1, none⟩ = some (.int .i64 x384001_1) := (blk_cell BK383.out 1).trans rfl
          have hcz5_2 : wr.cell? ⟨gb383, 2, none⟩ = some (.slice none 0 0) := (blk_cell BK383.out 2).trans rfl
          have hcz5_3 : wr.cell? ⟨gb383, 3, none⟩ = some (.int .i64 x384003_1) := (blk_cell BK383.out 3).trans rfl
          have hcz5_4 : wr.cell? ⟨gb383, 4, none⟩ = some (.int .i64 x384004_1) := (blk_cell BK383.out 4).trans rfl
          have hfz5_0 := blk_frozen BK383.out 0
          have hfz5_1 := blk_frozen BK383.out 1
          have hfz5_2 := blk_frozen BK383.out 2
          have hfz5_3 := blk_frozen BK383.out 3
          have hfz5_4 := blk_frozen BK383.out 4
          go_wp2
          refine bodyPost_ret (results_cell_row rfl _ _ gb383 81 #[.int .u64 0, .int .i64 0, .slice none 0 0, .int .i64 0, .int .i64 3] (0, 0) _ rfl (by (with_reducible repeat (first | refine blk_drewN ?_ _ | refine blk_drew ?_ | refine blk_alloc ?_ _)); refine blk_put (cs := #[.int .u64 0, .int .i64 0, .slice none 0 0, .int .i64 0, .int .i64 x384004_1]) ?_ 4 _ rfl; (with_reducible repeat (first | refine blk_drewN ?_ _ | refine blk_drew ?_ | refine blk_alloc ?_ _)); refine blk_put (cs := #[.int .u64 0, .int .i64 0, .slice none 0 0, .int .i64 x384003_1, .int .i64 x384004_1]) ?_ 3 _ rfl; (with_reducible repeat (first | refine blk_drewN ?_ _ | refine blk_drew ?_ | refine blk_alloc ?_ _)); refine blk_put (cs := #[.int .u64 0, .int .i64 0, .slice none 0 0, .int .i64 x384003_1, .int .i64 x384004_1]) ?_ 2 _ rfl; (with_reducible repeat (first | refine blk_drewN ?_ _ | refine blk_drew ?_ | refine blk_alloc ?_ _)); refine blk_put (cs := #[.int .u64 0, .int .i64 x384001_1, .slice none 0 0, .int .i64 x384003_1, .int .i64 x384004_1]) ?_ 1 _ rfl; (with_reducible repeat (first | refine blk_drewN ?_ _ | refine blk_drew ?_ | refine blk_alloc ?_ _)); refine blk_put (cs := #[.int .u64 x384000_1, .int .i64 x384001_1, .slice none 0 0, .int .i64 x384003_1, .int .i64 x384004_1]) ?_ 0 _ rfl; (with_reducible repeat (first | refine blk_drewN ?_ _ | refine blk_drew ?_ | refine blk_alloc ?_ _)); exact BK383.out) Try.underlying81 rfl (by kernel_rfl)) rfl ?_
          exact ⟨_, by first | rfl | (simp [errW_none, errW_some] <;> rfl) | (simp [*, errW_none, errW_some] <;> rfl), by first | exact Kd.R_nil _ _ _ _ _ | exact Kd.N_nil _ _ _ _ _ | exact Kd.V_nil _ _ _ _ _ | exact Kd.Q_nil _ _ _ _ _ | exact Kd.S_nil _ _ _ _ _, by repeat (first | (with_reducible first | exact HB.out | apply below_alloc | apply pw_below_drewN | apply below_drew1 | refine below_set ?_ GE383.out) | exact HB.out)⟩
        · rw [if_neg c4] at H
          have c4b0 : decide ((l0.length : Int) ≤ x5_1) = false := decide_eq_false c4
          clear c4
          by_cases c6 : 0 ≤ x5_1
          · rw [if_pos c6] at H
            have c6b0 : decide (0 ≤ x5_1) = true := decide_eq_true c6
            clear c6
            by_cases c7 : x5_1 < (l0.length : Int)
            · rw [if_pos c7] at H
              have c7b0 : decide (x5_1 < (l0.length : Int)) = true := decide_eq_true c7
              clear c7
              have HC8 := Aside0.mk H
              clear H
              have p384 : 0 ≤ (x5_1 : Int) := of_decide_eq_true (by first | (with_reducible assumption) | assumption)
              have q384 : x5_1 < (l0.length : Int) := of_decide_eq_true (by first | (with_reducible assumption) | assumption)
              obtain ⟨ad384, e384, hx384_0⟩ := Kd.at_int HR0.out x5_1 p384 q384
              cases e384
              replace hx384_0 := (HB.out.cell (World.block_lt_of_cell? w _ hx384_0)).trans hx384_0
              replace p384 := eq_true p384
              replace q384 := eq_true q384
              go_upto_region 8 with (fail)
              go_cut [27] (fun v27 wc => ∃ (kq : Nat) (x27_7 : Bool), v27 = .bool x27_7 ∧ Aside0 (damperref03_ReadNum.j1 kq l0 x3_1 x4_1 x5_1 (IntKind.u64.wrap (Int.tmod (rd l0 x5_1) 128)) x27_7 = some (r1, r2, r3, r4, r5)) ∧ Aside0 (kq ≤ k1) ∧ Aside0 (wc.heap[gb383]? = some (.cells #[.int .u64 x384000_1, .int .i64 x384001_1, (.slice none 0 0), .int .i64 x384003_1, .int .i64 x384004_1] 81 (0, 0))) ∧ Aside0 (Below w.heap.size w wc))
              case first =>
                have H := HC8.out
                clear HC8
                by_cases c9 : x5_1 = 9
                · rw [if_pos c9] at H
                  have c9b0 : (x5_1 == 9) = true := beq_iff_eq.mpr c9
                  have c9b1 : (x5_1 != 9) = false := bne_eq_false_iff_eq.mpr c9
                  clear c9
                  (first | rw [c9b0] | (simp only [i64_w, i32_w]; rw [c9b0]) | skip)
                  have H' := Aside0.mk H
                  clear H
                  go_wp2
                  go_meet
                  case rel => exact ⟨_, (decide ((IntKind.u64.wrap (Int.tmod (rd l0 x5_1) 128)) > 1)), (by first | rfl | (simp; done) | (simp [*]; done)), H', ⟨by have := HK1.out; first | omega | exact Nat.le_refl _⟩, ⟨by (with_reducible repeat (first | refine blk_drewN ?_ _ | refine blk_drew ?_ | refine blk_alloc ?_ _)); exact BK383.out⟩, ⟨by repeat (first | (with_reducible first | exact HB.out | apply below_alloc | apply pw_below_drewN | apply below_drew1 | refine below_set ?_ GE383.out) | exact HB.out)⟩⟩
                · rw [if_neg c9] at H
                  have c9b0 : (x5_1 == 9) = false := beq_eq_false_iff_ne.mpr c9
                  have c9b1 : (x5_1 != 9) = true := bne_iff_ne.mpr c9
                  (first | rw [c9b0] | (simp only [i64_w, i32_w]; rw [c9b0]) | skip)
                  have H' := Aside0.mk H
                  clear H
                  go_wp2
                  go_meet
                  case rel => exact ⟨_, (false), (by first | rfl | (simp; done) | (simp [*]; done)), H', ⟨by have := HK1.out; first | omega | exact Nat.le_refl _⟩, ⟨by (with_reducible repeat (first | refine blk_drewN ?_ _ | refine blk_drew ?_ | refine blk_alloc ?_ _)); exact BK383.out⟩, ⟨by repeat (first | (with_reducible first | exact HB.out | apply below_alloc | apply pw_below_drewN | apply below_drew1 | refine below_set ?_ GE383.out) | exact HB.out)⟩⟩
              case rest =>
                clear HC8
                try clear c1
                try clear p2
                try clear c3
                try clear c3b0
                try clear p3
                try clear q3
                try clear hx3
                try clear c4
                try clear c4b0
                try clear c6
                try clear c6b0
                try clear c7
                try clear c7b0
                try clear c9
                try clear c9b0
                try clear c9b1
                try clear hcz5_0
                try clear hcz5_1
                try clear hcz5_2
                try clear hcz5_3
                try clear hcz5_4
                try clear hfz5_0
                try clear hfz5_1
                try clear hfz5_2
                try clear hfz5_3
                try clear hfz5_4
                try clear hx384_0
                try clear p2
                try clear p384
                try clear q384
                obtain ⟨kq, x27_7, rfl, HA, HJ7, BK383, HB⟩ := hcut
                cases kq with
                | zero => exact absurd HA.out (by simp [damperref03_ReadNum.j1])
                | succ kj7 =>
                  have H := HA.out
                  clear HA
                  simp only [damperref03_ReadNum.j1] at H
                  by_cases c10 : x27_7 = true
                  · subst c10
                    have H1 : (some (0, 0, ([] : List Int), 0, 4)) = some (r1, r2, r3, r4, r5) := by rw [if_pos rfl] at H; exact H
                    clear H
                    have H := H1
                    clear H1
                    simp only [Option.some.injEq, Prod.mk.injEq] at H
                    obtain ⟨rfl, rfl, rfl, rfl, rfl⟩ := H
                    have hcz11_0 : wc.cell? ⟨gb383, 0, none⟩ = some (.int .u64 x384000_1) := (blk_cell BK383.out 0).trans rfl
                    have hcz11_1 : wc.cell? ⟨gb383, 1, none⟩ = some (.int .i64 x384001_1) := (blk_cell BK383.out 1).trans rfl
                    have hcz11_2 : wc.cell? ⟨gb383, 2, none⟩ = some (.slice none 0 0) := (blk_cell BK383.out 2).trans rfl
                    have hcz11_3 : wc.cell? ⟨gb383, 3, none⟩ = some (.int .i64 x384003_1) := (blk_cell BK383.out 3).trans rfl
                    have hcz11_4 : wc.cell? ⟨gb383, 4, none⟩ = some (.int .i64 x384004_1) := (blk_cell BK383.out 4).trans rfl
                    have hfz11_0 := blk_frozen BK383.out 0
                    have hfz11_1 := blk_frozen BK383.out 1
                    have hfz11_2 := blk_frozen BK383.out 2
                    have hfz11_3 := blk_frozen BK383.out 3
                    have hfz11_4 := blk_frozen BK383.out 4
                    go_wp2
                    refine bodyPost_ret (results_cell_row rfl _ _ gb383 81 #[.int .u64 0, .int .i64 0, .slice none 0 0, .int .i64 0, .int .i64 4] (0, 0) _ rfl (by (with_reducible repeat (first | refine blk_drewN ?_ _ | refine blk_drew ?_ | refine blk_alloc ?_ _)); refine blk_put (cs := #[.int .u64 0, .int .i64 0, .slice none 0 0, .int .i64 0, .int .i64 x384004_1]) ?_ 4 _ rfl; (with_reducible repeat (first | refine blk_drewN ?_ _ | refine blk_drew ?_ | refine blk_alloc ?_ _)); refine blk_put (cs := #[.int .u64 0, .int .i64 0, .slice none 0 0, .int .i64 x384003_1, .int .i64 x384004_1]) ?_ 3 _ rfl; (with_reducible repeat (first | refine blk_drewN ?_ _ | refine blk_drew ?_ | refine blk_alloc ?_ _)); refine blk_put (cs := #[.int .u64 0, .int .i64 0, .slice none 0 0, .int .i64 x384003_1, .int .i64 x384004_1]) ?_ 2 _ rfl; (with_reducible repeat (first | refine blk_drewN ?_ _ | refine blk_drew ?_ | refine blk_alloc ?_ _)); refine blk_put (cs := #[.int .u64 0, .int .i64 x384001_1, .slice none 0 0, .int .i64 x384003_1, .int .i64 x384004_1]) ?_ 1 _ rfl; (with_reducible repeat (first | refine blk_drewN ?_ _ | refine blk_drew ?_ | refine blk_alloc ?_ _)); refine blk_put (cs := #[.int .u64 x384000_1, .int .i64 x384001_1, .slice none 0 0, .int .i64 x384003_1, .int .i64 x384004_1]) ?_ 0 _ rfl; (with_reducible repeat (first | refine blk_drewN ?_ _ | refine blk_drew ?_ | refine blk_alloc ?_ _)); exact BK383.out) Try.underlying81 rfl (by kernel_rfl)) rfl ?_
                    exact ⟨_, by first | rfl | (simp [errW_none, errW_some] <;> rfl) | (simp [*, errW_none, errW_some] <;> rfl), by first | exact Kd.R_nil _ _ _ _ _ | exact Kd.N_nil _ _ _ _ _ | exact Kd.V_nil _ _ _ _ _ | exact Kd.Q_nil _ _ _ _ _ | exact Kd.S_nil _ _ _ _ _, by repeat (first | (with_reducible first | exact HB.out | apply below_alloc | apply pw_below_drewN | apply below_drew1 | refine below_set ?_ GE383.out) | exact HB.out)⟩
                  · replace c10 := Bool.eq_false_iff.mpr c10
                    subst c10
                    have H1 : (if 0 ≤ x5_1 then (if x5_1 < (l0.length : Int) then (if (rd l0 x5_1) < 128 then (if (IntKind.u64.wrap (Int.tmod (rd l0 x5_1) 128)) = 0 then (if x5_1 > 0 then (some (0, 0, ([] : List Int), 0, 4)) else (some (IntKind.u64.wrap (x3_1 + (IntKind.u64.wrap ((IntKind.u64.wrap (Int.tmod (rd l0 x5_1) 128)) * x4_1))), 0, ([] : List Int), wrap64 (x5_1 + 1), 0))) else (some (IntKind.u64.wrap (x3_1 + (IntKind.u64.wrap ((IntKind.u64.wrap (Int.tmod (rd l0 x5_1) 128)) * x4_1))), 0, ([] : List Int), wrap64 (x5_1 + 1), 0))) else (damperref03_ReadNum.l0 kj7 l0 (IntKind.u64.wrap (x3_1 + (IntKind.u64.wrap ((IntKind.u64.wrap (Int.tmod (rd l0 x5_1) 128)) * x4_1)))) (IntKind.u64.wrap (x4_1 * 128)) (wrap64 (x5_1 + 1)))) else (none)) else (none)) = some (r1, r2, r3, r4, r5) := by rw [if_neg (show ¬ (false = true) by decide)] at H; exact H
                    clear H
                    have H := H1
                    clear H1
                    by_cases c12 : 0 ≤ x5_1
                    · rw [if_pos c12] at H
                      have c12b0 : decide (0 ≤ x5_1) = true := decide_eq_true c12
                      clear c12
                      by_cases c13 : x5_1 < (l0.length : Int)
                      · rw [if_pos c13] at H
                        have c13b0 : decide (x5_1 < (l0.length : Int)) = true := decide_eq_true c13
                        clear c13
                        by_cases c14 : (rd l0 x5_1) < 128
                        · rw [if_pos c14] at H
                          have c14b0 : decide ((rd l0 x5_1) < 128) = true := decide_eq_true c14
                          clear c14
                          by_cases c15 : (IntKind.u64.wrap (Int.tmod (rd l0 x5_1) 128)) = 0
                          · rw [if_pos c15] at H
                            have c15b0 : ((IntKind.u64.wrap (Int.tmod (rd l0 x5_1) 128)) == 0) = true := beq_iff_eq.mpr c15
                            have c15b1 : ((IntKind.u64.wrap (Int.tmod (rd l0 x5_1) 128)) != 0) = false := bne_eq_false_iff_eq.mpr c15
                            clear c15
                            by_cases c16 : x5_1 > 0
                            · rw [if_pos c16] at H
                              have c16b0 : decide (0 < x5_1) = true := decide_eq_true c16
                              clear c16
                              simp only [Option.some.injEq, Prod.mk.injEq] at H
                              obtain ⟨rfl, rfl, rfl, rfl, rfl⟩ := H
                              have p385 : 0 ≤ (x5_1 : Int) := of_decide_eq_true (by first | (with_reducible assumption) | assumption)
                              have q385 : x5_1 < (l0.length : Int) := of_decide_eq_true (by first | (with_reducible assumption) | assumption)
                              obtain ⟨ad385, e385, hx385_0⟩ := Kd.at_int HR0.out x5_1 p385 q385
                              obtain rfl : ad384 = ad385 := (by injection e385)
                              replace hx385_0 := (HB.out.cell (World.block_lt_of_cell? w _ hx385_0)).trans hx385_0
                              replace p385 := eq_true p385
                              replace q385 := eq_true q385
                              have hcz17_0 : wc.cell? ⟨gb383, 0, none⟩ = some (.int .u64 x384000_1) := (blk_cell BK383.out 0).trans rfl
                              have hcz17_1 : wc.cell? ⟨gb383, 1, none⟩ = some (.int .i64 x384001_1) := (blk_cell BK383.out 1).trans rfl
                              have hcz17_2 : wc.cell? ⟨gb383, 2, none⟩ = some (.slice none 0 0) := (blk_cell BK383.out 2).trans rfl
                              have hcz17_3 : wc.cell? ⟨gb383, 3, none⟩ = some (.int .i64 x384003_1) := (blk_cell BK383.out 3).trans rfl
                              have hcz17_4 : wc.cell? ⟨gb383, 4, none⟩ = some (.int .i64 x384004_1) := (blk_cell BK383.out 4).trans rfl
                              have hfz17_0 := blk_frozen BK383.out 0
                              have hfz17_1 := blk_frozen BK383.out 1
                              have hfz17_2 := blk_frozen BK383.out 2
                              have hfz17_3 := blk_frozen BK383.out 3
                              have hfz17_4 := blk_frozen BK383.out 4
                              go_wp2
                              refine bodyPost_ret (results_cell_row rfl _ _ gb383 81 #[.int .u64 0, .int .i64 0, .slice none 0 0, .int .i64 0, .int .i64 4] (0, 0) _ rfl (by (with_reducible repeat (first | refine blk_drewN ?_ _ | refine blk_drew ?_ | refine blk_alloc ?_ _)); refine blk_put (cs := #[.int .u64 0, .int .i64 0, .slice none 0 0, .int .i64 0, .int .i64 x384004_1]) ?_ 4 _ rfl; (with_reducible repeat (first | refine blk_drewN ?_ _ | refine blk_drew ?_ | refine blk_alloc ?_ _)); refine blk_put (cs := #[.int .u64 0, .int .i64 0, .slice none 0 0, .int .i64 x384003_1, .int .i64 x384004_1]) ?_ 3 _ rfl; (with_reducible repeat (first | refine blk_drewN ?_ _ | refine blk_drew ?_ | refine blk_alloc ?_ _)); refine blk_put (cs := #[.int .u64 0, .int .i64 0, .slice none 0 0, .int .i64 x384003_1, .int .i64 x384004_1]) ?_ 2 _ rfl; (with_reducible repeat (first | refine blk_drewN ?_ _ | refine blk_drew ?_ | refine blk_alloc ?_ _)); refine blk_put (cs := #[.int .u64 0, .int .i64 x384001_1, .slice none 0 0, .int .i64 x384003_1, .int .i64 x384004_1]) ?_ 1 _ rfl; (with_reducible repeat (first | refine blk_drewN ?_ _ | refine blk_drew ?_ | refine blk_alloc ?_ _)); refine blk_put (cs := #[.int .u64 x384000_1, .int .i64 x384001_1, .slice none 0 0, .int .i64 x384003_1, .int .i64 x384004_1]) ?_ 0 _ rfl; (with_reducible repeat (first | refine blk_drewN ?_ _ | refine blk_drew ?_ | refine blk_alloc ?_ _)); exact BK383.out) Try.underlying81 rfl (by kernel_rfl)) rfl ?_
                              exact ⟨_, by first | rfl | (simp [errW_none, errW_some] <;> rfl) | (simp [*, errW_none, errW_some] <;> rfl), by first | exact Kd.R_nil _ _ _ _ _ | exact Kd.N_nil _ _ _ _ _ | exact Kd.V_nil _ _ _ _ _ | exact Kd.Q_nil _ _ _ _ _ | exact Kd.S_nil _ _ _ _ _, by repeat (first | (with_reducible first | exact HB.out | apply below_alloc | apply pw_below_drewN | apply below_drew1 | refine below_set ?_ GE383.out) | exact HB.out)⟩
                            · rw [if_neg c16] at H
                              have c16b0 : decide (0 < x5_1) = false := decide_eq_false c16
                              clear c16
                              simp only [Option.some.injEq, Prod.mk.injEq] at H
                              obtain ⟨rfl, rfl, rfl, rfl, rfl⟩ := H
                              have p385 : 0 ≤ (x5_1 : Int) := of_decide_eq_true (by first | (with_reducible assumption) | assumption)
                              have q385 : x5_1 < (l0.length : Int) := of_decide_eq_true (by first | (with_reducible assumption) | assumption)
                              obtain ⟨ad385, e385, hx385_0⟩ := Kd.at_int HR0.out x5_1 p385 q385
                              obtain rfl : ad384 = ad385 := (by injection e385)
                              replace hx385_0 := (HB.out.cell (World.block_lt_of_cell? w _ hx385_0)).trans hx385_0
                              replace p385 := eq_true p385
                              replace q385 := eq_true q385
                              have hcz18_0 : wc.cell? ⟨gb383, 0, none⟩ = some (.int .u64 x384000_1) := (blk_cell BK383.out 0).trans rfl
                              have hcz18_1 : wc.cell? ⟨gb383, 1, none⟩ = some (.int .i64 x384001_1) := (blk_cell BK383.out 1).trans rfl
                              have hcz18_2 : wc.cell? ⟨gb383, 2, none⟩ = some (.slice none 0 0) := (blk_cell BK383.out 2).trans rfl
                              have hcz18_3 : wc.cell? ⟨gb383, 3, none⟩ = some (.int .i64 x384003_1) := (blk_cell BK383.out 3).trans rfl
                              have hcz18_4 : wc.cell? ⟨gb383, 4, none⟩ = some (.int .i64 x384004_1) := (blk_cell BK383.out 4).trans rfl
                              have hfz18_0 := blk_frozen BK383.out 0
                              have hfz18_1 := blk_frozen BK383.out 1
                              have hfz18_2 := blk_frozen BK383.out 2
                              have hfz18_3 := blk_frozen BK383.out 3
                              have hfz18_4 := blk_frozen BK383.out 4
                              go_wp2
                              refine bodyPost_ret (results_cell_row rfl _ _ gb383 81 #[.int .u64 (IntKind.u64.wrap (x3_1 + (IntKind.u64.wrap ((IntKind.u64.wrap (Int.tmod (rd l0 x5_1) 128)) * x4_1)))), .int .i64 0, .slice none 0 0, .int .i64 (wrap64 (x5_1 + 1)), .int .i64 0] (0, 0) _ rfl (by (with_reducible repeat (first | refine blk_drewN ?_ _ | refine blk_drew ?_ | refine blk_alloc ?_ _)); refine blk_put (cs := #[.int .u64 (IntKind.u64.wrap (x3_1 + (IntKind.u64.wrap ((IntKind.u64.wrap (Int.tmod (rd l0 x5_1) 128)) * x4_1)))), .int .i64 0, .slice none 0 0, .int .i64 (wrap64 (x5_1 + 1)), .int .i64 x384004_1]) ?_ 4 _ rfl; (with_reducible repeat (first | refine blk_drewN ?_ _ | refine blk_drew ?_ | refine blk_alloc ?_ _)); refine blk_put (cs := #[.int .u64 (IntKind.u64.wrap (x3_1 + (IntKind.u64.wrap ((IntKind.u64.wrap (Int.tmod (rd l0 x5_1) 128)) * x4_1)))), .int .i64 0, .slice none 0 0, .int .i64 x384003_1, .int .i64 x384004_1]) ?_ 3 _ rfl; (with_reducible repeat (first | refine blk_drewN ?_ _ | refine blk_drew ?_ | refine blk_alloc ?_ _)); refine blk_put (cs := #[.int .u64 (IntKind.u64.wrap (x3_1 + (IntKind.u64.wrap ((IntKind.u64.wrap (Int.tmod (rd l0 x5_1) 128)) * x4_1)))), .int .i64 0, .slice none 0 0, .int .i64 x384003_1, .int .i64 x384004_1]) ?_ 2 _ rfl; (with_reducible repeat (first | refine blk_drewN ?_ _ | refine blk_drew ?_ | refine blk_alloc ?_ _)); refine blk_put (cs := #[.int .u64 (IntKind.u64.wrap (x3_1 + (IntKind.u64.wrap ((IntKind.u64.wrap (Int.tmod (rd l0 x5_1) 128)) * x4_1)))), .int .i64 x384001_1, .slice none 0 0, .int .i64 x384003_1, .int .i64 x384004_1]) ?_ 1 _ rfl; (with_reducible repeat (first | refine blk_drewN ?_ _ | refine blk_drew ?_ | refine blk_alloc ?_ _)); refine blk_put (cs := #[.int .u64 x384000_1, .int .i64 x384001_1, .slice none 0 0, .int .i64 x384003_1, .int .i64 x384004_1]) ?_ 0 _ rfl; (with_reducible repeat (first | refine blk_drewN ?_ _ | refine blk_drew ?_ | refine blk_alloc ?_ _)); exact BK383.out) Try.underlying81 rfl (by kernel_rfl)) rfl ?_
                              exact ⟨_, by first | rfl | (simp [errW_none, errW_some] <;> rfl) | (simp [*, errW_none, errW_some] <;> rfl), by first | exact Kd.R_nil _ _ _ _ _ | exact Kd.N_nil _ _ _ _ _ | exact Kd.V_nil _ _ _ _ _ | exact Kd.Q_nil _ _ _ _ _ | exact Kd.S_nil _ _ _ _ _, by repeat (first | (with_reducible first | exact HB.out | apply below_alloc | apply pw_below_drewN | apply below_drew1 | refine below_set ?_ GE383.out) | exact HB.out)⟩
                          · rw [if_neg c15] at H
                            have c15b0 : ((IntKind.u64.wrap (Int.tmod (rd l0 x5_1) 128)) == 0) = false := beq_eq_false_iff_ne.mpr c15
                            have c15b1 : ((IntKind.u64.wrap (Int.tmod (rd l0 x5_1) 128)) != 0) = true := bne_iff_ne.mpr c15
                            simp only [Option.some.injEq, Prod.mk.injEq] at H
                            obtain ⟨rfl, rfl, rfl, rfl, rfl⟩ := H
                            have p385 : 0 ≤ (x5_1 : Int) := of_decide_eq_true (by first | (with_reducible assumption) | assumption)
                            have q385 : x5_1 < (l0.length : Int) := of_decide_eq_true (by first | (with_reducible assumption) | assumption)
                            obtain ⟨ad385, e385, hx385_0⟩ := Kd.at_int HR0.out x5_1 p385 q385
                            obtain rfl : ad384 = ad385 := (by injection e385)
                            replace hx385_0 := (HB.out.cell (World.block_lt_of_cell? w _ hx385_0)).trans hx385_0
                            replace p385 := eq_true p385
                            replace q385 := eq_true q385
                            have hcz19_0 : wc.cell? ⟨gb383, 0, none⟩ = some (.int .u64 x384000_1) := (blk_cell BK383.out 0).trans rfl
                            have hcz19_1 : wc.cell? ⟨gb383, 1, none⟩ = some (.int .i64 x384001_1) := (blk_cell BK383.out 1).trans rfl
                            have hcz19_2 : wc.cell? ⟨gb383, 2, none⟩ = some (.slice none 0 0) := (blk_cell BK383.out 2).trans rfl
                            have hcz19_3 : wc.cell? ⟨gb383, 3, none⟩ = some (.int .i64 x384003_1) := (blk_cell BK383.out 3).trans rfl
                            have hcz19_4 : wc.cell? ⟨gb383, 4, none⟩ = some (.int .i64 x384004_1) := (blk_cell BK383.out 4).trans rfl
                            have hfz19_0 := blk_frozen BK383.out 0
                            have hfz19_1 := blk_frozen BK383.out 1
                            have hfz19_2 := blk_frozen BK383.out 2
                            have hfz19_3 := blk_frozen BK383.out 3
                            have hfz19_4 := blk_frozen BK383.out 4
                            go_wp2
                            refine bodyPost_ret (results_cell_row rfl _ _ gb383 81 #[.int .u64 (IntKind.u64.wrap (x3_1 + (IntKind.u64.wrap ((IntKind.u64.wrap (Int.tmod (rd l0 x5_1) 128)) * x4_1)))), .int .i64 0, .slice none 0 0, .int .i64 (wrap64 (x5_1 + 1)), .int .i64 0] (0, 0) _ rfl (by (with_reducible repeat (first | refine blk_drewN ?_ _ | refine blk_drew ?_ | refine blk_alloc ?_ _)); refine blk_put (cs := #[.int .u64 (IntKind.u64.wrap (x3_1 + (IntKind.u64.wrap ((IntKind.u64.wrap (Int.tmod (rd l0 x5_1) 128)) * x4_1)))), .int .i64 0, .slice none 0 0, .int .i64 (wrap64 (x5_1 + 1)), .int .i64 x384004_1]) ?_ 4 _ rfl; (with_reducible repeat (first | refine blk_drewN ?_ _ | refine blk_drew ?_ | refine blk_alloc ?_ _)); refine blk_put (cs := #[.int .u64 (IntKind.u64.wrap (x3_1 + (IntKind.u64.wrap ((IntKind.u64.wrap (Int.tmod (rd l0 x5_1) 128)) * x4_1)))), .int .i64 0, .slice none 0 0, .int .i64 x384003_1, .int .i64 x384004_1]) ?_ 3 _ rfl; (with_reducible repeat (first | refine blk_drewN ?_ _ | refine blk_drew ?_ | refine blk_alloc ?_ _)); refine blk_put (cs := #[.int .u64 (IntKind.u64.wrap (x3_1 + (IntKind.u64.wrap ((IntKind.u64.wrap (Int.tmod (rd l0 x5_1) 128)) * x4_1)))), .int .i64 0, .slice none 0 0, .int .i64 x384003_1, .int .i64 x384004_1]) ?_ 2 _ rfl; (with_reducible repeat (first | refine blk_drewN ?_ _ | refine blk_drew ?_ | refine blk_alloc ?_ _)); refine blk_put (cs := #[.int .u64 (IntKind.u64.wrap (x3_1 + (IntKind.u64.wrap ((IntKind.u64.wrap (Int.tmod (rd l0 x5_1) 128)) * x4_1)))), .int .i64 x384001_1, .slice none 0 0, .int .i64 x384003_1, .int .i64 x384004_1]) ?_ 1 _ rfl; (with_reducible repeat (first | refine blk_drewN ?_ _ | refine blk_drew ?_ | refine blk_alloc ?_ _)); refine blk_put (cs := #[.int .u64 x384000_1, .int .i64 x384001_1, .slice none 0 0, .int .i64 x384003_1, .int .i64 x384004_1]) ?_ 0 _ rfl; (with_reducible repeat (first | refine blk_drewN ?_ _ | refine blk_drew ?_ | refine blk_alloc ?_ _)); exact BK383.out) Try.underlying81 rfl (by kernel_rfl)) rfl ?_
                            exact ⟨_, by first | rfl | (simp [errW_none, errW_some] <;> rfl) | (simp [*, errW_none, errW_some] <;> rfl), by first | exact Kd.R_nil _ _ _ _ _ | exact Kd.N_nil _ _ _ _ _ | exact Kd.V_nil _ _ _ _ _ | exact Kd.Q_nil _ _ _ _ _ | exact Kd.S_nil _ _ _ _ _, by repeat (first | (with_reducible first | exact HB.out | apply below_alloc | apply pw_below_drewN | apply below_drew1 | refine below_set ?_ GE383.out) | exact HB.out)⟩
                        · rw [if_neg c14] at H
                          have c14b0 : decide ((rd l0 x5_1) < 128) = false := decide_eq_false c14
                          clear c14
                          have H' := Aside0.mk H
                          clear H
                          have p385 : 0 ≤ (x5_1 : Int) := of_decide_eq_true (by first | (with_reducible assumption) | assumption)
                          have q385 : x5_1 < (l0.length : Int) := of_decide_eq_true (by first | (with_reducible assumption) | assumption)
                          obtain ⟨ad385, e385, hx385_0⟩ := Kd.at_int HR0.out x5_1 p385 q385
                          obtain rfl : ad384 = ad385 := (by injection e385)
                          replace hx385_0 := (HB.out.cell (World.block_lt_of_cell? w _ hx385_0)).trans hx385_0
                          replace p385 := eq_true p385
                          replace q385 := eq_true q385
                          go_wp2
                          go_roundg kj7
                          case measure => have := HK1.out; have := HJ7.out; omega
                          case rel => exact ⟨(IntKind.u64.wrap (x3_1 + (IntKind.u64.wrap ((IntKind.u64.wrap (Int.tmod (rd l0 x5_1) 128)) * x4_1)))), (IntKind.u64.wrap (x4_1 * 128)), (wrap64 (x5_1 + 1)), (x384000_1), (x384001_1), (x384003_1), (x384004_1), (by first | rfl | (simp; done) | (simp [*]; done)), (by first | rfl | (simp; done) | (simp [*]; done)), (by first | rfl | (simp; done) | (simp [*]; done)), H', ⟨by have := HK1.out; have := HJ7.out; omega⟩, ⟨by (with_reducible repeat (first | refine blk_drewN ?_ _ | refine blk_drew ?_ | refine blk_alloc ?_ _)); exact BK383.out⟩, ⟨by repeat (first | (with_reducible first | exact HB.out | apply below_alloc | apply pw_below_drewN | apply below_drew1 | refine below_set ?_ GE383.out) | exact HB.out)⟩⟩
                      · rw [if_neg c13] at H
                        exact absurd H (by simp)
                    · rw [if_neg c12] at H
                      exact absurd H (by simp)
            · rw [if_neg c7] at H
              exact absurd H (by simp)
          · rw [if_neg c6] at H
            exact absurd H (by simp)
      · rw [if_neg c3] at H
        have c3b0 : decide (x5_1 < 10) = false := decide_eq_false c3
        clear c3
        simp only [Option.some.injEq, Prod.mk.injEq] at H
        obtain ⟨rfl, rfl, rfl, rfl, rfl⟩ := H
        have hcz20_0 : wr.cell? ⟨gb383, 0, none⟩ = some (.int .u64 x384000_1) := (blk_cell BK383.out 0).trans rfl
        have hcz20_1 : wr.cell? ⟨gb383, 1, none⟩ = some (.int .i64 x384001_1) := (blk_cell BK383.out 1).trans rfl
        have hcz20_2 : wr.cell? ⟨gb383, 2, none⟩ = some (.slice none 0 0) := (blk_cell BK383.out 2).trans rfl
        have hcz20_3 : wr.cell? ⟨gb383, 3, none⟩ = some (.int .i64 x384003_1) := (blk_cell BK383.out 3).trans rfl
        have hcz20_4 : wr.cell? ⟨gb383, 4, none⟩ = some (.int .i64 x384004_1) := (blk_cell BK383.out 4).trans rfl
        have hfz20_0 := blk_frozen BK383.out 0
        have hfz20_1 := blk_frozen BK383.out 1
        have hfz20_2 := blk_frozen BK383.out 2
        have hfz20_3 := blk_frozen BK383.out 3
        have hfz20_4 := blk_frozen BK383.out 4
        go_wp2
        refine bodyPost_ret (results_cell_row rfl _ _ gb383 81 #[.int .u64 0, .int .i64 0, .slice none 0 0, .int .i64 0, .int .i64 4] (0, 0) _ rfl (by (with_reducible repeat (first | refine blk_drewN ?_ _ | refine blk_drew ?_ | refine blk_alloc ?_ _)); refine blk_put (cs := #[.int .u64 0, .int .i64 0, .slice none 0 0, .int .i64 0, .int .i64 x384004_1]) ?_ 4 _ rfl; (with_reducible repeat (first | refine blk_drewN ?_ _ | refine blk_drew ?_ | refine blk_alloc ?_ _)); refine blk_put (cs := #[.int .u64 0, .int .i64 0, .slice none 0 0, .int .i64 x384003_1, .int .i64 x384004_1]) ?_ 3 _ rfl; (with_reducible repeat (first | refine blk_drewN ?_ _ | refine blk_drew ?_ | refine blk_alloc ?_ _)); refine blk_put (cs := #[.int .u64 0, .int .i64 0, .slice none 0 0, .int .i64 x384003_1, .int .i64 x384004_1]) ?_ 2 _ rfl; (with_reducible repeat (first | refine blk_drewN ?_ _ | refine blk_drew ?_ | refine blk_alloc ?_ _)); refine blk_put (cs := #[.int .u64 0, .int .i64 x384001_1, .slice none 0 0, .int .i64 x384003_1, .int .i64 x384004_1]) ?_ 1 _ rfl; (with_reducible repeat (first | refine blk_drewN ?_ _ | refine blk_drew ?_ | refine blk_alloc ?_ _)); refine blk_put (cs := #[.int .u64 x384000_1, .int .i64 x384001_1, .slice none 0 0, .int .i64 x384003_1, .int .i64 x384004_1]) ?_ 0 _ rfl; (with_reducible repeat (first | refine blk_drewN ?_ _ | refine blk_drew ?_ | refine blk_alloc ?_ _)); exact BK383.out) Try.underlying81 rfl (by kernel_rfl)) rfl ?_
        exact ⟨_, by first | rfl | (simp [errW_none, errW_some] <;> rfl) | (simp [*, errW_none, errW_some] <;> rfl), by first | exact Kd.R_nil _ _ _ _ _ | exact Kd.N_nil _ _ _ _ _ | exact Kd.V_nil _ _ _ _ _ | exact Kd.Q_nil _ _ _ _ _ | exact Kd.S_nil _ _ _ _ _, by repeat (first | (with_reducible first | exact HB.out | apply below_alloc | apply pw_below_drewN | apply below_drew1 | refine below_set ?_ GE383.out) | exact HB.out)⟩

end Go.Proofs.Ytalpemoodollpaa.P
/- What the document says is read: in the program's words. -/
namespace Go.Proofs.Ytalpemoodollpaa.P
open Go.RowKit Go.Proofs.YtalpemoodollpaaW.PrintWords Go.Proofs.YtalpemoodollpaaW.PrintLast Go.Proofs.YtalpemoodollpaaW.PrintMore
set_option linter.unusedVariables false
set_option linter.unusedSimpArgs false

theorem rd_eq (l : List Int) (i : Nat) (h : i < l.length) : rd l (i : Int) = l[i] := by
  simp [rd, List.getD_eq_getElem?_getD, h]
theorem beNum_take_succ (l : List Int) (i : Nat) (h : i < l.length) : beNum (l.take (i + 1)) = beNum (l.take i) * 256 + l[i] := by
  rw [List.take_succ_eq_append_getElem h, beNum_snoc]
theorem refReadUint_go (l : List Int) (s : Nat) (hs : s ≤ 8) (hl : s ≤ l.length) (hb : Byt l) : ∀ (j i : Nat), i + j = s →
    damperref03_ReadUint.l0 (j + 1) l (s : Int) (beNum (l.take i)) (i : Int) = some (beNum (l.take s), 0, [], (s : Int), 0) := by
  intro j
  induction j with
  | zero =>
    intro i hi
    obtain rfl : i = s := by omega
    unfold damperref03_ReadUint.l0
    rw [if_neg (by omega)]
  | succ j ih =>
    intro i hi
    have ih1 := ih (i + 1) (by omega)
    have hil : i < l.length := by omega
    have hr := beNum_range (l.take i) (hb.take i)
    have hle : (l.take i).length = i := by rw [List.length_take]; omega
    rw [hle] at hr
    have hp : 256 ^ i ≤ 256 ^ 7 := Nat.pow_le_pow_right (by decide) (by omega)
    have hbi := hb l[i] (List.getElem_mem hil)
    rw [beNum_take_succ l i hil] at ih1
    have hr2 : beNum (l.take i) < 72057594037927936 := by
      have : ((256 ^ i : Nat) : Int) ≤ ((256 ^ 7 : Nat) : Int) := by omega
      have h7 : ((256 ^ 7 : Nat) : Int) = 72057594037927936 := by decide
      omega
    have hr0 := hr.1
    clear hr hp
    unfold damperref03_ReadUint.l0
    rw [if_pos (by omega), if_pos (by omega), if_pos (by omega), rd_eq l i hil]
    generalize beNum (l.take i) = n at *
    generalize l[i] = b at *
    have e1 : IntKind.u64.wrap (IntKind.u64.wrap (n * 256) + IntKind.u64.wrap b) = n * 256 + b := by
      rw [wrap_u64, wrap_u64, wrap_u64]
      omega
    have e2 : wrap64 ((i : Int) + 1) = ((i + 1 : Nat) : Int) := by rw [wrap64_eq]; omega
    rw [e1, e2]
    exact ih1
/-- What ReadUint tells. -/
def rdUint (l : List Int) (s : Int) : Int × Int × List Int × Int × Int :=
  if s < 1 ∨ 8 < s then (0, 0, [], 0, 0) else if (l.length : Int) < s then (0, 0, [], 0, 3) else (beNum (l.take s.toNat), 0, [], s, 0)
theorem refReadUint (l : List Int) (s : Int) (hb : Byt l) (m : Nat) (hm : 12 ≤ m) : damperref03_ReadUint.f m l s = some (rdUint l s) := by
  unfold rdUint
  by_cases h1 : s < 1 ∨ 8 < s
  · rw [if_pos h1]
    refine up_ (f := fun k => damperref03_ReadUint.f k l s) (k := 1) (fun k => damperref03_ReadUint.mono l s k) ?_ m (by omega)
    show damperref03_ReadUint.f 1 l s = _
    unfold damperref03_ReadUint.f
    split
    · simp [damperref03_ReadUint.j0]
    · simp [damperref03_ReadUint.j0, show s > 8 by omega]
  · rw [if_neg h1]
    refine up_ (f := fun k => damperref03_ReadUint.f k l s) (k := s.toNat + 2) (fun k => damperref03_ReadUint.mono l s k) ?_ m (by omega)
    show damperref03_ReadUint.f (s.toNat + 2) l s = _
    unfold damperref03_ReadUint.f
    rw [if_neg (by omega), show s.toNat + 2 = (s.toNat + 1) + 1 from rfl, damperref03_ReadUint.j0, if_neg (by simp; omega)]
    by_cases h2 : (l.length : Int) < s
    · rw [if_pos h2, if_pos h2]
    · rw [if_neg h2, if_neg h2]
      have := refReadUint_go l s.toNat (by omega) (by omega) hb s.toNat 0 (by omega)
      simpa [beNum, Int.toNat_of_nonneg (show 0 ≤ s by omega)] using this

/-- What ReadNum tells, by what a reader reads. -/
def fin3 (l : List Int) (r : Int × (List Int × Int)) : Int × Int × List Int × Int × Int :=
  if r.2.2 = 0 then (r.1, 0, [], (l.length : Int) - (r.2.1.length : Int), 0) else (0, 0, [], 0, r.2.2)
set_option maxHeartbeats 1000000 in
theorem refReadNum_go (l : List Int) (hb : Byt l) (hlen : l.length ≤ 140737488355328) : ∀ (j i : Nat), i + j = 10 → i ≤ l.length → ∀ n : Int, 0 ≤ n → n < ((128 ^ i : Nat) : Int) →
    damperref03_ReadNum.l0 (2 * j + 1) l n (IntKind.u64.wrap ((128 ^ i : Nat) : Int)) (i : Int) = some (fin3 l (numGo j i n (l.drop i))) := by
  intro j
  induction j with
  | zero =>
    intro i hi hil n h0 h1
    obtain rfl : i = 10 := by omega
    unfold damperref03_ReadNum.l0 numGo
    rw [if_neg (by omega)]
    rfl
  | succ j ih =>
    intro i hi hil n h0 h1
    rw [show 2 * (j + 1) + 1 = (2 * j + 1) + 1 + 1 from by omega]
    unfold damperref03_ReadNum.l0
    rw [if_pos (by omega)]
    by_cases hll : i = l.length
    · rw [if_pos (by omega), List.drop_eq_nil_of_le (by omega)]
      rfl
    · have hi2 : i < l.length := by omega
      have hd : l.drop i = l[i] :: l.drop (i + 1) := List.drop_eq_getElem_cons hi2
      have hbi := hb l[i] (List.getElem_mem hi2)
      have ih1 := ih (i + 1) (by omega) (by omega)
      rw [if_neg (by omega), if_pos (by omega), if_pos (by omega), rd_eq l i hi2, hd]
      have hln : (l.drop (i + 1)).length = l.length - (i + 1) := by rw [List.length_drop]
      have hrd := rd_eq l i hi2
      clear ih hd hb
      generalize hrest : l.drop (i + 1) = rest at *
      generalize l[i] = b at *
      have e1 : IntKind.u64.wrap (Int.tmod b 128) = b % 128 := by
        rw [wrap_u64, Int.tmod_eq_emod_of_nonneg (by omega)]
        omega
      rw [e1]
      have hif : (if (i : Int) = 9 then damperref03_ReadNum.j1 (2 * j + 1 + 1) l n (IntKind.u64.wrap ((128 ^ i : Nat) : Int)) (i : Int) (b % 128) (decide (b % 128 > 1)) else damperref03_ReadNum.j1 (2 * j + 1 + 1) l n (IntKind.u64.wrap ((128 ^ i : Nat) : Int)) (i : Int) (b % 128) false)
          = damperref03_ReadNum.j1 (2 * j + 1 + 1) l n (IntKind.u64.wrap ((128 ^ i : Nat) : Int)) (i : Int) (b % 128) (decide (i = 9 ∧ 1 < b % 128)) := by
        by_cases h9 : i = 9
        · rw [if_pos (by omega)]
          congr 1
          simp [h9]
        · rw [if_neg (by omega)]
          congr 1
          simp [h9]
      rw [hif]
      clear hif
      rw [damperref03_ReadNum.j1, numGo]
      by_cases hc1 : i = 9 ∧ 1 < b % 128
      · rw [if_pos (by simp [hc1]), if_pos hc1]
        rfl
      · rw [if_neg (by simpa using hc1), if_neg hc1, if_pos (by omega), if_pos (by omega), hrd]
        have hp9 : 128 ^ i ≤ 9223372036854775808 := Nat.le_trans (Nat.pow_le_pow_right (by decide) (by omega : i ≤ 9)) (by decide)
        have hp8 : i ≤ 8 → 128 ^ i ≤ 72057594037927936 := fun h => Nat.le_trans (Nat.pow_le_pow_right (by decide) h) (by decide)
        have hps : ((128 ^ (i + 1) : Nat) : Int) = ((128 ^ i : Nat) : Int) * 128 := by rw [Nat.pow_succ]; simp
        rw [hps] at ih1
        have hpp : 1 ≤ 128 ^ i := Nat.pow_pos (by decide)
        generalize 128 ^ i = q at *
        have hd0 : 0 ≤ b % 128 * (q : Int) := Int.mul_nonneg (by omega) (by omega)
        have hd1 : b % 128 * (q : Int) ≤ 127 * (q : Int) := Int.mul_le_mul_of_nonneg_right (by omega) (by omega)
        have hd9 : i = 9 → b % 128 * (q : Int) ≤ 1 * (q : Int) := fun h => Int.mul_le_mul_of_nonneg_right (by omega) (by omega)
        have ew : IntKind.u64.wrap (q : Int) = (q : Int) := by rw [wrap_u64]; omega
        have ew2 : IntKind.u64.wrap ((q : Int) * 128) = IntKind.u64.wrap (IntKind.u64.wrap (q : Int) * 128) := by rw [ew]
        rw [← ew2, ew]
        generalize b % 128 * (q : Int) = t at *
        have en : IntKind.u64.wrap (n + IntKind.u64.wrap t) = n + t := by
          rw [wrap_u64, wrap_u64]
          by_cases h9 : i = 9
          · have := hd9 h9; omega
          · have := hp8 (by omega); omega
        have ei : wrap64 ((i : Int) + 1) = ((i + 1 : Nat) : Int) := by rw [wrap64_eq]; omega
        rw [en, ei]
        have hnt0 : 0 ≤ n + t := by omega
        have hnt1 : n + t < (q : Int) * 128 := by omega
        clear en ei ew ew2 hd0 hd1 hd9 hp8 hp9 hpp hps h0 h1 hrd e1 hc1
        by_cases h128 : 128 ≤ b
        · have hb2 : ¬ b < 128 := by omega
          rw [if_neg hb2, if_pos h128]
          exact ih1 (n + t) hnt0 hnt1
        · have hb2 : b < 128 := by omega
          have hfin : (l.length : Int) - (rest.length : Int) = ((i + 1 : Nat) : Int) := by omega
          rw [if_pos hb2, if_neg h128]
          clear ih1 hnt0 hnt1 hlen hln hi2 hll hil hi hbi
          by_cases hz : b % 128 = 0
          · by_cases hz2 : 0 < i
            · have hi0 : (i : Int) > 0 := by omega
              rw [if_pos hz, if_pos hi0, if_pos ⟨hz, hz2⟩]
              rfl
            · have hi0 : ¬ (i : Int) > 0 := by omega
              rw [if_pos hz, if_neg hi0, if_neg (fun h => hz2 h.2)]
              show _ = some (n + t, 0, [], (l.length : Int) - (rest.length : Int), 0)
              rw [hfin]
          · rw [if_neg hz, if_neg (fun h => hz h.1)]
            show _ = some (n + t, 0, [], (l.length : Int) - (rest.length : Int), 0)
            rw [hfin]
theorem refReadNum (l : List Int) (hb : Byt l) (hlen : l.length ≤ 140737488355328) (m : Nat) (hm : 21 ≤ m) : damperref03_ReadNum.f m l = some (fin3 l (numGo 10 0 0 l)) := by
  refine up_ (f := fun k => damperref03_ReadNum.f k l) (k := 21) (fun k => damperref03_ReadNum.mono l k) ?_ m hm
  have := refReadNum_go l hb hlen 10 0 (by omega) (by omega) 0 (by omega) (by simp)
  exact this
end Go.Proofs.Ytalpemoodollpaa.P
/- damperref03.ReadInt. -/
namespace Go.Proofs.Ytalpemoodollpaa.P
open Go.RowKit Go.Proofs.YtalpemoodollpaaW.PrintWords Go.Proofs.YtalpemoodollpaaW.PrintLast Go.Proofs.YtalpemoodollpaaW.PrintMore
set_option linter.unusedVariables false
set_option linter.unusedSimpArgs false
theorem R_far5 {W : World} {base b : Nat} {v : Value} {xs : List Int} (h : Kd.R (Kd.int .u8) 5 W base (fun _ => True) v xs) (hb : b < base) (n s z f : Int) (u : Value) : Kd.R (Kd.int .u8) 5 (((((W.setCell ⟨b, 0, none⟩ (.int .u64 n)).setCell ⟨b, 1, none⟩ (.int .i64 s)).setCell ⟨b, 2, none⟩ u).setCell ⟨b, 3, none⟩ (.int .i64 z)).setCell ⟨b, 4, none⟩ (.int .i64 f)) base (fun _ => True) v xs := by
  have h1 : Kd.R (Kd.int .u8) 5 W base (fun k => base ≤ k) v xs := Kd.R_mono (Kd.R_bound h) (fun k hk => hk.2.1)
  exact Kd.R_mono (Kd.R_far (Kd.R_far (Kd.R_far (Kd.R_far (Kd.R_far h1 (p := ⟨b, 0, none⟩) (fun k hk => by show k ≠ b; omega) (.int .u64 n)) (p := ⟨b, 1, none⟩) (fun k hk => by show k ≠ b; omega) (.int .i64 s)) (p := ⟨b, 2, none⟩) (fun k hk => by show k ≠ b; omega) u) (p := ⟨b, 3, none⟩) (fun k hk => by show k ≠ b; omega) (.int .i64 z)) (p := ⟨b, 4, none⟩) (fun k hk => by show k ≠ b; omega) (.int .i64 f)) (fun _ _ => trivial)
theorem below_far5 {w W : World} {b : Nat} (h : Below w.heap.size w W) (hb : w.heap.size ≤ b) (n s z f : Int) (u : Value) : Below w.heap.size w (((((W.setCell ⟨b, 0, none⟩ (.int .u64 n)).setCell ⟨b, 1, none⟩ (.int .i64 s)).setCell ⟨b, 2, none⟩ u).setCell ⟨b, 3, none⟩ (.int .i64 z)).setCell ⟨b, 4, none⟩ (.int .i64 f)) := (below_set (j := 4) (v := (.int .i64 f)) (below_set (j := 3) (v := (.int .i64 z)) (below_set (j := 2) (v := u) (below_set (j := 1) (v := (.int .i64 s)) (below_set (j := 0) (v := (.int .u64 n)) h hb) hb) hb) hb) hb)
def rdInt (l : List Int) : Int × Int × List Int × Int × Int := if l.length < 8 then (0, 0, [], 0, 3) else (0, unzig (beNum (l.take 8)), [], 8, 0)
set_option maxRecDepth 100000 in
set_option maxHeartbeats 2000000 in
theorem refReadInt_calls (A0 : Option Addr) (c0 : Nat) (l0 : List Int) (w : World) (hr0 : Kd.C (Kd.int .u8) w A0 l0.length l0) (hc0 : l0.length ≤ c0) (hb : Byt l0) :
    Calls Try.prog 114 #[.slice A0 l0.length c0] w fun e w' => ∃ v : Value, e = .returned (.agg #[.int .u64 0, .int .i64 (rdInt l0).2.1, v, .int .i64 (rdInt l0).2.2.2.1, .int .i64 (rdInt l0).2.2.2.2]) ∧ Kd.R (Kd.int .u8) 5 w' w.heap.size (fun _ => True) v [] ∧ Below w.heap.size w w' := by
  have hU := refReadUint l0 8 hb 12 (by omega)
  have HU : Aside0 (∃ n S z f : Int, rdInt l0 = (0, S, [], z, f) ∧ rdUint l0 8 = (n, 0, [], z, f) ∧ 0 ≤ n ∧ n < 18446744073709551616 ∧ S = unzig n) := ⟨by
    unfold rdInt rdUint
    rw [if_neg (show ¬ ((8 : Int) < 1 ∨ (8 : Int) < 8) by decide)]
    by_cases h : l0.length < 8
    · rw [if_pos h, if_pos (show (l0.length : Int) < 8 by omega)]
      exact ⟨0, 0, 0, 3, rfl, rfl, by omega, by omega, by decide⟩
    · rw [if_neg h, if_neg (show ¬ (l0.length : Int) < 8 by omega)]
      have hrg := beNum_range (l0.take 8) (hb.take 8)
      rw [show (l0.take 8).length = 8 by rw [List.length_take]; omega] at hrg
      have h2 : ((256 ^ 8 : Nat) : Int) = 18446744073709551616 := by decide
      rw [h2] at hrg
      exact ⟨_, _, _, _, rfl, rfl, hrg.1, hrg.2, rfl⟩⟩
  obtain ⟨n, S, z, f, hI, hN, h0, h1, hS⟩ := HU.out
  rw [hN] at hU
  rw [hI]
  have HX := Aside0.mk hU
  have HR := Aside0.mk hr0
  have HC := Aside0.mk hc0
  have HNN := Aside0.mk (And.intro h0 h1)
  have HS := Aside0.mk hS
  clear hU hI hN HU hr0 hc0 hb h0 h1 hS
  have HB0 := Aside0.mk (show Box5 (w.alloc (.cells #[.int .u64 0, .int .i64 0, .slice none 0 0, .int .i64 0, .int .i64 0] 81)) w.heap.size 0 0 (.slice none 0 0) 0 0 from blk_new w _)
  have HR1 := Aside0.mk (Kd.C_alloc HR.out (.cells #[.int .u64 0, .int .i64 0, .slice none 0 0, .int .i64 0, .int .i64 0] 81))
  have HL0 := Aside0.mk (below_alloc (Below.refl w.heap.size w) (.cells #[.int .u64 0, .int .i64 0, .slice none 0 0, .int .i64 0, .int .i64 0] 81))
  have hX := damperref03_ReadUint.calls 12 A0 c0 l0 8 n 0 [] z f _ HR1.out HC.out HX.out
  go_enter Try.func114, Try.ntmps114
  go_wp2_with fail
  refine hX.mono ?_
  rintro e w1 ⟨v, rfl, hR, hbl⟩
  obtain ⟨A, c, rfl⟩ := Kd.R_slice hR
  have HB1 : Aside0 (Box5 w1 w.heap.size 0 0 (.slice none 0 0) 0 0) := ⟨(hbl.block _ (blk_lt HB0.out)).trans HB0.out⟩
  have HRR := Aside0.mk hR
  have HL1 := Aside0.mk (Below.trans HL0.out (Below.mono hbl HL0.out.size))
  clear hR hbl hX HB0 HR1 HL0
  have hb1 := fun o => (show Box5 (w1.alloc o) w.heap.size 0 0 (.slice none 0 0) 0 0 from blk_alloc HB1.out o)
  have d0 := fun o => (hb1 o).cells.1
  have d1 := fun o => (hb1 o).cells.2.1
  have d2 := fun o => (hb1 o).cells.2.2.1
  have d3 := fun o => (hb1 o).cells.2.2.2.1
  have d4 := fun o => (hb1 o).cells.2.2.2.2
  have y0 := fun o => blk_frozen (hb1 o) 0
  have y1 := fun o => blk_frozen (hb1 o) 1
  have y2 := fun o => blk_frozen (hb1 o) 2
  have y3 := fun o => blk_frozen (hb1 o) 3
  have y4 := fun o => blk_frozen (hb1 o) 4
  clear hb1
  have ht : Int.tmod n 2 = n % 2 := Int.tmod_eq_emod_of_nonneg HNN.out.1
  have hd : Int.tdiv n 2 = n / 2 := Int.tdiv_eq_ediv_of_nonneg HNN.out.1
  by_cases hev : n % 2 = 0
  · skip
    have hS : S = wrap64 (IntKind.u64.wrap (n / 2)) := by
      have h := HS.out
      unfold unzig at h
      rw [h]
      rw [if_pos hev, wrap_u64, wrap64_eq]
      have := HNN.out
      omega
    have hsz : (w.alloc (.cells #[.int .u64 0, .int .i64 0, .slice none 0 0, .int .i64 0, .int .i64 0] 81)).heap.size = w.heap.size + 1 := World.size_alloc _ _
    have HBX := Aside0.mk (show Box5 (w1.alloc (.cells #[.int .u64 0, .int .i64 (wrap64 (IntKind.u64.wrap (n / 2))), .slice A ([] : List Int).length c, .int .i64 z, .int .i64 f] 81)) w.heap.size 0 0 (.slice none 0 0) 0 0 from blk_alloc HB1.out _)
    have HBY := Aside0.mk (HBX.out.set5 0 (wrap64 (IntKind.u64.wrap (n / 2))) z f (.slice A ([] : List Int).length c))
    have HRY := Aside0.mk (R_far5 (Kd.R_alloc HRR.out (.cells #[.int .u64 0, .int .i64 (wrap64 (IntKind.u64.wrap (n / 2))), .slice A ([] : List Int).length c, .int .i64 z, .int .i64 f] 81)) (b := w.heap.size) (by omega) 0 (wrap64 (IntKind.u64.wrap (n / 2))) z f (.slice A ([] : List Int).length c))
    have HLY := Aside0.mk (below_far5 (below_alloc HL1.out (.cells #[.int .u64 0, .int .i64 (wrap64 (IntKind.u64.wrap (n / 2))), .slice A ([] : List Int).length c, .int .i64 z, .int .i64 f] 81)) (Nat.le_refl w.heap.size) 0 (wrap64 (IntKind.u64.wrap (n / 2))) z f (.slice A ([] : List Int).length c))
    have HSS := Aside0.mk hS
    clear hS hsz
    go_wp2
    refine bodyPost_ret (results_cell_row (fn := Try.f114) (p := 2) (ty := 81) rfl _ _ w.heap.size 81 #[.int .u64 0, .int .i64 (wrap64 (IntKind.u64.wrap (n / 2))), .slice A ([] : List Int).length c, .int .i64 z, .int .i64 f] (0, 0) _ rfl HBY.out Try.underlying81 rfl (by kernel_rfl)) rfl ?_
    refine ⟨_, by rw [HSS.out], Kd.R_lower HRY.out (by rw [World.size_alloc]; omega), HLY.out⟩
  · skip
    have hS : S = wrap64 (wrap64 (-wrap64 (IntKind.u64.wrap (n / 2))) - 1) := by
      have h := HS.out
      unfold unzig at h
      rw [h]
      rw [if_neg hev, wrap_u64, wrap64_eq, wrap64_eq, wrap64_eq]
      have := HNN.out
      omega
    have hsz : (w.alloc (.cells #[.int .u64 0, .int .i64 0, .slice none 0 0, .int .i64 0, .int .i64 0] 81)).heap.size = w.heap.size + 1 := World.size_alloc _ _
    have HBX := Aside0.mk (show Box5 (w1.alloc (.cells #[.int .u64 0, .int .i64 (wrap64 (wrap64 (-wrap64 (IntKind.u64.wrap (n / 2))) - 1)), .slice A ([] : List Int).length c, .int .i64 z, .int .i64 f] 81)) w.heap.size 0 0 (.slice none 0 0) 0 0 from blk_alloc HB1.out _)
    have HBY := Aside0.mk (HBX.out.set5 0 (wrap64 (wrap64 (-wrap64 (IntKind.u64.wrap (n / 2))) - 1)) z f (.slice A ([] : List Int).length c))
    have HRY := Aside0.mk (R_far5 (Kd.R_alloc HRR.out (.cells #[.int .u64 0, .int .i64 (wrap64 (wrap64 (-wrap64 (IntKind.u64.wrap (n / 2))) - 1)), .slice A ([] : List Int).length c, .int .i64 z, .int .i64 f] 81)) (b := w.heap.size) (by omega) 0 (wrap64 (wrap64 (-wrap64 (IntKind.u64.wrap (n / 2))) - 1)) z f (.slice A ([] : List Int).length c))
    have HLY := Aside0.mk (below_far5 (below_alloc HL1.out (.cells #[.int .u64 0, .int .i64 (wrap64 (wrap64 (-wrap64 (IntKind.u64.wrap (n / 2))) - 1)), .slice A ([] : List Int).length c, .int .i64 z, .int .i64 f] 81)) (Nat.le_refl w.heap.size) 0 (wrap64 (wrap64 (-wrap64 (IntKind.u64.wrap (n / 2))) - 1)) z f (.slice A ([] : List Int).length c))
    have HSS := Aside0.mk hS
    clear hS hsz
    go_wp2
    refine bodyPost_ret (results_cell_row (fn := Try.f114) (p := 2) (ty := 81) rfl _ _ w.heap.size 81 #[.int .u64 0, .int .i64 (wrap64 (wrap64 (-wrap64 (IntKind.u64.wrap (n / 2))) - 1)), .slice A ([] : List Int).length c, .int .i64 z, .int .i64 f] (0, 0) _ rfl HBY.out Try.underlying81 rfl (by kernel_rfl)) rfl ?_
    refine ⟨_, by rw [HSS.out], Kd.R_lower HRY.out (by rw [World.size_alloc]; omega), HLY.out⟩
end Go.Proofs.Ytalpemoodollpaa.P
/- damperref03.ReadRaw, damperlaw03.read. -/
namespace Go.Proofs.Ytalpemoodollpaa.P
open Go.RowKit Go.Proofs.YtalpemoodollpaaW.PrintWords Go.Proofs.YtalpemoodollpaaW.PrintLast Go.Proofs.YtalpemoodollpaaW.PrintMore
set_option linter.unusedVariables false
set_option linter.unusedSimpArgs false
/-- What ReadRaw tells. -/
def rdRaw (l : List Int) (n : Int) : Int × Int × List Int × Int × Int := if n < 0 then (0, 0, [], 0, 0) else if (l.length : Int) < n then (0, 0, [], 0, 3) else (0, 0, l.take n.toNat, n, 0)
set_option maxRecDepth 100000 in
set_option maxHeartbeats 2000000 in
theorem refReadRaw_calls (A0 : Option Addr) (c0 : Nat) (l0 : List Int) (n : Int) (w : World) (hr0 : Kd.C (Kd.int .u8) w A0 l0.length l0) (hc0 : l0.length ≤ c0) :
    Calls Try.prog 116 #[.slice A0 l0.length c0, .int .i64 n] w fun e w' => ∃ A c, e = .returned (.agg #[.int .u64 (rdRaw l0 n).1, .int .i64 (rdRaw l0 n).2.1, .slice A (rdRaw l0 n).2.2.1.length c, .int .i64 (rdRaw l0 n).2.2.2.1, .int .i64 (rdRaw l0 n).2.2.2.2]) ∧
      (rdRaw l0 n).2.2.1.length ≤ c ∧ (A = A0 ∨ (rdRaw l0 n).2.2.1 = []) ∧ Below w.heap.size w w' := by
  generalize hG : rdRaw l0 n = G
  unfold rdRaw at hG
  have HR := Aside0.mk hr0
  have HC := Aside0.mk hc0
  have HG := Aside0.mk hG
  clear hr0 hG
  by_cases h0 : n < 0
  · have HF : Aside0 (G = (0, 0, [], 0, 0)) := ⟨by have h := HG.out; rw [if_pos h0] at h; exact h.symm⟩
    clear HG
    have HBX := Aside0.mk (show Box5 (w.alloc (.cells #[.int .u64 0, .int .i64 0, .slice none 0 0, .int .i64 0, .int .i64 0] 81)) w.heap.size 0 0 (.slice none 0 0) 0 0 from blk_new w _)
    have HLX := Aside0.mk (below_alloc (Below.refl w.heap.size w) (.cells #[.int .u64 0, .int .i64 0, .slice none 0 0, .int .i64 0, .int .i64 0] 81))
    go_enter Try.func116, Try.ntmps116
    go_wp2
    refine bodyPost_ret (results_cell_row (fn := Try.f116) (p := 4) (ty := 81) rfl _ _ w.heap.size 81 #[.int .u64 0, .int .i64 0, .slice none 0 0, .int .i64 0, .int .i64 0] (0, 0) _ rfl HBX.out Try.underlying81 rfl (by kernel_rfl)) rfl ?_
    obtain rfl := HF.out
    exact ⟨none, 0, rfl, Nat.le_refl _, .inr rfl, HLX.out⟩
  · by_cases h1 : (l0.length : Int) < n
    · have HF : Aside0 (G = (0, 0, [], 0, 3)) := ⟨by have h := HG.out; rw [if_neg h0, if_pos h1] at h; exact h.symm⟩
      clear HG
      have HBX := Aside0.mk (show Box5 (w.alloc (.cells #[.int .u64 0, .int .i64 0, .slice none 0 0, .int .i64 0, .int .i64 3] 81)) w.heap.size 0 0 (.slice none 0 0) 0 3 from blk_new w _)
      have HLX := Aside0.mk (below_alloc (Below.refl w.heap.size w) (.cells #[.int .u64 0, .int .i64 0, .slice none 0 0, .int .i64 0, .int .i64 3] 81))
      go_enter Try.func116, Try.ntmps116
      go_wp2
      refine bodyPost_ret (results_cell_row (fn := Try.f116) (p := 4) (ty := 81) rfl _ _ w.heap.size 81 #[.int .u64 0, .int .i64 0, .slice none 0 0, .int .i64 0, .int .i64 3] (0, 0) _ rfl HBX.out Try.underlying81 rfl (by kernel_rfl)) rfl ?_
      obtain rfl := HF.out
      exact ⟨none, 0, rfl, Nat.le_refl _, .inr rfl, HLX.out⟩
    · obtain ⟨m, rfl⟩ := Int.eq_ofNat_of_zero_le (show 0 ≤ n by omega)
      have HF : Aside0 (G = (0, 0, l0.take m, (m : Int), 0)) := ⟨by have h := HG.out; rw [if_neg h0, if_neg h1] at h; exact h.symm⟩
      have hml : m ≤ l0.length := by omega
      have HML := Aside0.mk hml
      clear HG h0
      have HBX := Aside0.mk (show Box5 (w.alloc (.cells #[.int .u64 0, .int .i64 0, .slice A0 m c0, .int .i64 (m : Int), .int .i64 0] 81)) w.heap.size 0 0 (.slice A0 m c0) (m : Int) 0 from blk_new w _)
      have HLX := Aside0.mk (below_alloc (Below.refl w.heap.size w) (.cells #[.int .u64 0, .int .i64 0, .slice A0 m c0, .int .i64 (m : Int), .int .i64 0] 81))
      have HCC := Aside0.mk (Kd.C_take (Kd.C_alloc HR.out (.cells #[.int .u64 0, .int .i64 0, .slice A0 m c0, .int .i64 (m : Int), .int .i64 0] 81)) hml)
      go_enter Try.func116, Try.ntmps116
      go_wp2
      refine bodyPost_ret (results_cell_row (fn := Try.f116) (p := 4) (ty := 81) rfl _ _ w.heap.size 81 #[.int .u64 0, .int .i64 0, .slice A0 m c0, .int .i64 (m : Int), .int .i64 0] (0, 0) _ rfl HBX.out Try.underlying81 rfl (by kernel_rfl)) rfl ?_
      obtain rfl := HF.out
      have hlen : (l0.take m).length = m := by rw [List.length_take]; have := HML.out; omega
      refine ⟨A0, c0, by rw [hlen], by rw [hlen]; have := HML.out; have := HC.out; omega, .inl rfl, HLX.out⟩
theorem C_empty (W : World) (A : Option Addr) : Kd.C (Kd.int .u8) W A ([] : List Int).length [] := ⟨rfl, by simp, fun h => absurd h (Nat.lt_irrefl 0)⟩
/-- What law03.read tells. -/
def readF (l : List Int) (p : S49) : Int × Int × List Int × Int × Int :=
  if p.f0 = 1 then rdUint l p.f1 else if p.f0 = 2 then rdInt l else if p.f0 = 3 then fin3 l (numGo 10 0 0 l) else if p.f0 = 4 then rdRaw l p.f1 else (0, 0, [], 0, 0)
def RD (fn : Nat) (args : Array Value) (W : World) (A0 : Option Addr) (T : Int × Int × List Int × Int × Int) : Prop :=
  Calls Try.prog fn args W fun e w' => ∃ A c, e = .returned (.agg #[.int .u64 T.1, .int .i64 T.2.1, .slice A T.2.2.1.length c, .int .i64 T.2.2.2.1, .int .i64 T.2.2.2.2]) ∧ T.2.2.1.length ≤ c ∧ (A = A0 ∨ T.2.2.1 = []) ∧ Below W.heap.size W w'
theorem rdUint_raw (l : List Int) (s : Int) : (rdUint l s).2.2.1 = [] := by unfold rdUint; split; rfl; split <;> rfl
theorem fin3_raw (l : List Int) (r : Int × (List Int × Int)) : (fin3 l r).2.2.1 = [] := by unfold fin3; split <;> rfl
theorem rdInt_raw (l : List Int) : (rdInt l).2.2.1 = [] ∧ (rdInt l).1 = 0 := by unfold rdInt; split <;> exact ⟨rfl, rfl⟩
theorem RD.uint (A0 : Option Addr) (c0 : Nat) (l : List Int) (s : Int) (w : World) (hr : Kd.C (Kd.int .u8) w A0 l.length l) (hc : l.length ≤ c0) (hb : Byt l) : RD 106 #[.slice A0 l.length c0, .int .i64 s] w A0 (rdUint l s) := by
  refine (damperref03_ReadUint.calls 12 A0 c0 l s _ _ _ _ _ w hr hc (refReadUint l s hb 12 (by omega))).mono ?_
  rintro e w' ⟨v, rfl, hR, hbl⟩
  obtain ⟨A, c, rfl, hq, _⟩ := Kd.R_reads hR
  exact ⟨A, c, rfl, hq, .inr (rdUint_raw l s), hbl⟩
theorem RD.num (A0 : Option Addr) (c0 : Nat) (l : List Int) (w : World) (hr : Kd.C (Kd.int .u8) w A0 l.length l) (hc : l.length ≤ c0) (hb : Byt l) (hl : l.length ≤ 140737488355328) : RD 115 #[.slice A0 l.length c0] w A0 (fin3 l (numGo 10 0 0 l)) := by
  refine (damperref03_ReadNum.calls 21 A0 c0 l _ _ _ _ _ w hr hc (refReadNum l hb hl 21 (by omega))).mono ?_
  rintro e w' ⟨v, rfl, hR, hbl⟩
  obtain ⟨A, c, rfl, hq, _⟩ := Kd.R_reads hR
  exact ⟨A, c, rfl, hq, .inr (fin3_raw l _), hbl⟩
theorem RD.int (A0 : Option Addr) (c0 : Nat) (l : List Int) (w : World) (hr : Kd.C (Kd.int .u8) w A0 l.length l) (hc : l.length ≤ c0) (hb : Byt l) : RD 114 #[.slice A0 l.length c0] w A0 (rdInt l) := by
  refine (refReadInt_calls A0 c0 l w hr hc hb).mono ?_
  rintro e w' ⟨v, rfl, hR, hbl⟩
  obtain ⟨A, c, rfl, hq, _⟩ := Kd.R_reads hR
  exact ⟨A, c, by rw [(rdInt_raw l).1, (rdInt_raw l).2], by rw [(rdInt_raw l).1]; exact hq, .inr (rdInt_raw l).1, hbl⟩
set_option maxRecDepth 100000 in
set_option maxHeartbeats 4000000 in
theorem law03_read_calls (B : Option Addr) (m : Nat) (l : List Int) (p : S49) (A : Option Addr) (c : Nat) (w : World) (hr : Kd.C (Kd.int .u8) w B l.length l) (hm : l.length ≤ m) (hb : Byt l) (hl : l.length ≤ 140737488355328) :
    RD 61 #[.slice B l.length m, .agg #[.int .i64 p.f0, .int .i64 p.f1, .int .u64 p.f2, .int .i64 p.f3, .slice A p.f4.length c]] w B (readF l p) := by
  unfold RD
  obtain ⟨f0, f1, f2, f3, f4⟩ := p
  generalize hG : readF l ⟨f0, f1, f2, f3, f4⟩ = G
  unfold readF at hG
  dsimp only at *
  by_cases h1 : f0 = 1
  · rw [if_pos h1] at hG
    subst h1
    have hx : RD 106 #[.slice B l.length m, .int .i64 f1] ((w.alloc (.cells #[.int .i64 1, .int .i64 f1, .int .u64 f2, .int .i64 f3, .slice A f4.length c] 49)).alloc (.cells #[.int .u64 0, .int .i64 0, .slice none 0 0, .int .i64 0, .int .i64 0] 81)) B (rdUint l f1) := RD.uint B m l f1 _ (Kd.C_alloc (Kd.C_alloc hr _) _) hm hb
    rw [hG] at hx
    have HX := Aside0.mk hx
    have HB := Aside0.mk (show Box5 ((w.alloc (.cells #[.int .i64 1, .int .i64 f1, .int .u64 f2, .int .i64 f3, .slice A f4.length c] 49)).alloc (.cells #[.int .u64 0, .int .i64 0, .slice none 0 0, .int .i64 0, .int .i64 0] 81)) (w.heap.size + 1) 0 0 (.slice none 0 0) 0 0 from by
      have := blk_new (w.alloc (.cells #[.int .i64 1, .int .i64 f1, .int .u64 f2, .int .i64 f3, .slice A f4.length c] 49)) (.cells #[.int .u64 0, .int .i64 0, .slice none 0 0, .int .i64 0, .int .i64 0] 81)
      rw [World.size_alloc] at this
      exact this)
    have HL := Aside0.mk (below_alloc (below_alloc (Below.refl w.heap.size w) (.cells #[.int .i64 1, .int .i64 f1, .int .u64 f2, .int .i64 f3, .slice A f4.length c] 49)) (.cells #[.int .u64 0, .int .i64 0, .slice none 0 0, .int .i64 0, .int .i64 0] 81))
    clear hG hr hm hb hl hx
    go_enter Try.func61, Try.ntmps61
    go_wp2_with fail
    refine HX.out.mono ?_
    rintro e w1 ⟨X, x, rfl, hq, hX, hbl⟩
    obtain ⟨tn, ts, tr, tz, tf⟩ := G
    have HB1 : Aside0 (Box5 w1 (w.heap.size + 1) 0 0 (.slice none 0 0) 0 0) := ⟨(hbl.block _ (blk_lt HB.out)).trans HB.out⟩
    have HL1 := Aside0.mk (Below.trans HL.out (Below.mono hbl HL.out.size))
    have HB2 := Aside0.mk (HB1.out.set5 tn ts tz tf (.slice X tr.length x))
    have HL2 := Aside0.mk (below_far5 HL1.out (b := w.heap.size + 1) (by omega) tn ts tz tf (.slice X tr.length x))
    have HQ := Aside0.mk hq
    have HXX := Aside0.mk hX
    clear hbl hq hX HX HB HL
    obtain ⟨d0, d1, d2, d3, d4⟩ := HB1.out.cells
    have y0 := blk_frozen HB1.out 0
    have y1 := blk_frozen HB1.out 1
    have y2 := blk_frozen HB1.out 2
    have y3 := blk_frozen HB1.out 3
    have y4 := blk_frozen HB1.out 4
    go_wp2
    refine bodyPost_ret (results_cell_row (fn := Try.f61) (p := 4) (ty := 81) rfl _ _ (w.heap.size + 1) 81 #[.int .u64 tn, .int .i64 ts, .slice X tr.length x, .int .i64 tz, .int .i64 tf] (0, 0) _ rfl HB2.out Try.underlying81 rfl (by kernel_rfl)) rfl ?_
    exact ⟨X, x, rfl, HQ.out, HXX.out, HL2.out⟩
  · by_cases h2 : f0 = 2
    · rw [if_neg h1, if_pos h2] at hG
      clear h1
      subst h2
      have hx : RD 114 #[.slice B l.length m] ((w.alloc (.cells #[.int .i64 2, .int .i64 f1, .int .u64 f2, .int .i64 f3, .slice A f4.length c] 49)).alloc (.cells #[.int .u64 0, .int .i64 0, .slice none 0 0, .int .i64 0, .int .i64 0] 81)) B (rdInt l) := RD.int B m l _ (Kd.C_alloc (Kd.C_alloc hr _) _) hm hb
      rw [hG] at hx
      have HX := Aside0.mk hx
      have HB := Aside0.mk (show Box5 ((w.alloc (.cells #[.int .i64 2, .int .i64 f1, .int .u64 f2, .int .i64 f3, .slice A f4.length c] 49)).alloc (.cells #[.int .u64 0, .int .i64 0, .slice none 0 0, .int .i64 0, .int .i64 0] 81)) (w.heap.size + 1) 0 0 (.slice none 0 0) 0 0 from by
        have := blk_new (w.alloc (.cells #[.int .i64 2, .int .i64 f1, .int .u64 f2, .int .i64 f3, .slice A f4.length c] 49)) (.cells #[.int .u64 0, .int .i64 0, .slice none 0 0, .int .i64 0, .int .i64 0] 81)
        rw [World.size_alloc] at this
        exact this)
      have HL := Aside0.mk (below_alloc (below_alloc (Below.refl w.heap.size w) (.cells #[.int .i64 2, .int .i64 f1, .int .u64 f2, .int .i64 f3, .slice A f4.length c] 49)) (.cells #[.int .u64 0, .int .i64 0, .slice none 0 0, .int .i64 0, .int .i64 0] 81))
      clear hG hr hm hb hl hx
      go_enter Try.func61, Try.ntmps61
      go_wp2_with fail
      refine HX.out.mono ?_
      rintro e w1 ⟨X, x, rfl, hq, hX, hbl⟩
      obtain ⟨tn, ts, tr, tz, tf⟩ := G
      have HB1 : Aside0 (Box5 w1 (w.heap.size + 1) 0 0 (.slice none 0 0) 0 0) := ⟨(hbl.block _ (blk_lt HB.out)).trans HB.out⟩
      have HL1 := Aside0.mk (Below.trans HL.out (Below.mono hbl HL.out.size))
      have HB2 := Aside0.mk (HB1.out.set5 tn ts tz tf (.slice X tr.length x))
      have HL2 := Aside0.mk (below_far5 HL1.out (b := w.heap.size + 1) (by omega) tn ts tz tf (.slice X tr.length x))
      have HQ := Aside0.mk hq
      have HXX := Aside0.mk hX
      clear hbl hq hX HX HB HL
      obtain ⟨d0, d1, d2, d3, d4⟩ := HB1.out.cells
      have y0 := blk_frozen HB1.out 0
      have y1 := blk_frozen HB1.out 1
      have y2 := blk_frozen HB1.out 2
      have y3 := blk_frozen HB1.out 3
      have y4 := blk_frozen HB1.out 4
      go_wp2
      refine bodyPost_ret (results_cell_row (fn := Try.f61) (p := 4) (ty := 81) rfl _ _ (w.heap.size + 1) 81 #[.int .u64 tn, .int .i64 ts, .slice X tr.length x, .int .i64 tz, .int .i64 tf] (0, 0) _ rfl HB2.out Try.underlying81 rfl (by kernel_rfl)) rfl ?_
      exact ⟨X, x, rfl, HQ.out, HXX.out, HL2.out⟩
    · by_cases h3 : f0 = 3
      · rw [if_neg h1, if_neg h2, if_pos h3] at hG
        clear h1 h2
        subst h3
        have hx : RD 115 #[.slice B l.length m] ((w.alloc (.cells #[.int .i64 3, .int .i64 f1, .int .u64 f2, .int .i64 f3, .slice A f4.length c] 49)).alloc (.cells #[.int .u64 0, .int .i64 0, .slice none 0 0, .int .i64 0, .int .i64 0] 81)) B (fin3 l (numGo 10 0 0 l)) := RD.num B m l _ (Kd.C_alloc (Kd.C_alloc hr _) _) hm hb hl
        rw [hG] at hx
        have HX := Aside0.mk hx
        have HB := Aside0.mk (show Box5 ((w.alloc (.cells #[.int .i64 3, .int .i64 f1, .int .u64 f2, .int .i64 f3, .slice A f4.length c] 49)).alloc (.cells #[.int .u64 0, .int .i64 0, .slice none 0 0, .int .i64 0, .int .i64 0] 81)) (w.heap.size + 1) 0 0 (.slice none 0 0) 0 0 from by
          have := blk_new (w.alloc (.cells #[.int .i64 3, .int .i64 f1, .int .u64 f2, .int .i64 f3, .slice A f4.length c] 49)) (.cells #[.int .u64 0, .int .i64 0, .slice none 0 0, .int .i64 0, .int .i64 0] 81)
          rw [World.size_alloc] at this
          exact this)
        have HL := Aside0.mk (below_alloc (below_alloc (Below.refl w.heap.size w) (.cells #[.int .i64 3, .int .i64 f1, .int .u64 f2, .int .i64 f3, .slice A f4.length c] 49)) (.cells #[.int .u64 0, .int .i64 0, .slice none 0 0, .int .i64 0, .int .i64 0] 81))
        clear hG hr hm hb hl hx
        go_enter Try.func61, Try.ntmps61
        go_wp2_with fail
        refine HX.out.mono ?_
        rintro e w1 ⟨X, x, rfl, hq, hX, hbl⟩
        obtain ⟨tn, ts, tr, tz, tf⟩ := G
        have HB1 : Aside0 (Box5 w1 (w.heap.size + 1) 0 0 (.slice none 0 0) 0 0) := ⟨(hbl.block _ (blk_lt HB.out)).trans HB.out⟩
        have HL1 := Aside0.mk (Below.trans HL.out (Below.mono hbl HL.out.size))
        have HB2 := Aside0.mk (HB1.out.set5 tn ts tz tf (.slice X tr.length x))
        have HL2 := Aside0.mk (below_far5 HL1.out (b := w.heap.size + 1) (by omega) tn ts tz tf (.slice X tr.length x))
        have HQ := Aside0.mk hq
        have HXX := Aside0.mk hX
        clear hbl hq hX HX HB HL
        obtain ⟨d0, d1, d2, d3, d4⟩ := HB1.out.cells
        have y0 := blk_frozen HB1.out 0
        have y1 := blk_frozen HB1.out 1
        have y2 := blk_frozen HB1.out 2
        have y3 := blk_frozen HB1.out 3
        have y4 := blk_frozen HB1.out 4
        go_wp2
        refine bodyPost_ret (results_cell_row (fn := Try.f61) (p := 4) (ty := 81) rfl _ _ (w.heap.size + 1) 81 #[.int .u64 tn, .int .i64 ts, .slice X tr.length x, .int .i64 tz, .int .i64 tf] (0, 0) _ rfl HB2.out Try.underlying81 rfl (by kernel_rfl)) rfl ?_
        exact ⟨X, x, rfl, HQ.out, HXX.out, HL2.out⟩
      · by_cases h4 : f0 = 4
        · rw [if_neg h1, if_neg h2, if_neg h3, if_pos h4] at hG
          clear h1 h2 h3
          subst h4
          have hx : RD 116 #[.slice B l.length m, .int .i64 f1] ((w.alloc (.cells #[.int .i64 4, .int .i64 f1, .int .u64 f2, .int .i64 f3, .slice A f4.length c] 49)).alloc (.cells #[.int .u64 0, .int .i64 0, .slice none 0 0, .int .i64 0, .int .i64 0] 81)) B (rdRaw l f1) := refReadRaw_calls B m l f1 _ (Kd.C_alloc (Kd.C_alloc hr _) _) hm
          rw [hG] at hx
          have HX := Aside0.mk hx
          have HB := Aside0.mk (show Box5 ((w.alloc (.cells #[.int .i64 4, .int .i64 f1, .int .u64 f2, .int .i64 f3, .slice A f4.length c] 49)).alloc (.cells #[.int .u64 0, .int .i64 0, .slice none 0 0, .int .i64 0, .int .i64 0] 81)) (w.heap.size + 1) 0 0 (.slice none 0 0) 0 0 from by
            have := blk_new (w.alloc (.cells #[.int .i64 4, .int .i64 f1, .int .u64 f2, .int .i64 f3, .slice A f4.length c] 49)) (.cells #[.int .u64 0, .int .i64 0, .slice none 0 0, .int .i64 0, .int .i64 0] 81)
            rw [World.size_alloc] at this
            exact this)
          have HL := Aside0.mk (below_alloc (below_alloc (Below.refl w.heap.size w) (.cells #[.int .i64 4, .int .i64 f1, .int .u64 f2, .int .i64 f3, .slice A f4.length c] 49)) (.cells #[.int .u64 0, .int .i64 0, .slice none 0 0, .int .i64 0, .int .i64 0] 81))
          clear hG hr hm hb hl hx
          go_enter Try.func61, Try.ntmps61
          go_wp2_with fail
          refine HX.out.mono ?_
          rintro e w1 ⟨X, x, rfl, hq, hX, hbl⟩
          obtain ⟨tn, ts, tr, tz, tf⟩ := G
          have HB1 : Aside0 (Box5 w1 (w.heap.size + 1) 0 0 (.slice none 0 0) 0 0) := ⟨(hbl.block _ (blk_lt HB.out)).trans HB.out⟩
          have HL1 := Aside0.mk (Below.trans HL.out (Below.mono hbl HL.out.size))
          have HB2 := Aside0.mk (HB1.out.set5 tn ts tz tf (.slice X tr.length x))
          have HL2 := Aside0.mk (below_far5 HL1.out (b := w.heap.size + 1) (by omega) tn ts tz tf (.slice X tr.length x))
          have HQ := Aside0.mk hq
          have HXX := Aside0.mk hX
          clear hbl hq hX HX HB HL
          obtain ⟨d0, d1, d2, d3, d4⟩ := HB1.out.cells
          have y0 := blk_frozen HB1.out 0
          have y1 := blk_frozen HB1.out 1
          have y2 := blk_frozen HB1.out 2
          have y3 := blk_frozen HB1.out 3
          have y4 := blk_frozen HB1.out 4
          go_wp2
          refine bodyPost_ret (results_cell_row (fn := Try.f61) (p := 4) (ty := 81) rfl _ _ (w.heap.size + 1) 81 #[.int .u64 tn, .int .i64 ts, .slice X tr.length x, .int .i64 tz, .int .i64 tf] (0, 0) _ rfl HB2.out Try.underlying81 rfl (by kernel_rfl)) rfl ?_
          exact ⟨X, x, rfl, HQ.out, HXX.out, HL2.out⟩
        · rw [if_neg h1, if_neg h2, if_neg h3, if_neg h4] at hG
          subst hG
          have HB := Aside0.mk (show Box5 ((w.alloc (.cells #[.int .i64 f0, .int .i64 f1, .int .u64 f2, .int .i64 f3, .slice A f4.length c] 49)).alloc (.cells #[.int .u64 0, .int .i64 0, .slice none 0 0, .int .i64 0, .int .i64 0] 81)) (w.heap.size + 1) 0 0 (.slice none 0 0) 0 0 from by
            have := blk_new (w.alloc (.cells #[.int .i64 f0, .int .i64 f1, .int .u64 f2, .int .i64 f3, .slice A f4.length c] 49)) (.cells #[.int .u64 0, .int .i64 0, .slice none 0 0, .int .i64 0, .int .i64 0] 81)
            rw [World.size_alloc] at this
            exact this)
          have HL := Aside0.mk (below_alloc (below_alloc (Below.refl w.heap.size w) (.cells #[.int .i64 f0, .int .i64 f1, .int .u64 f2, .int .i64 f3, .slice A f4.length c] 49)) (.cells #[.int .u64 0, .int .i64 0, .slice none 0 0, .int .i64 0, .int .i64 0] 81))
          clear hr hm hb hl
          go_enter Try.func61, Try.ntmps61
          go_wp2
          refine bodyPost_ret (results_cell_row (fn := Try.f61) (p := 4) (ty := 81) rfl _ _ (w.heap.size + 1) 81 #[.int .u64 0, .int .i64 0, .slice none 0 0, .int .i64 0, .int .i64 0] (0, 0) _ rfl HB.out Try.underlying81 rfl (by kernel_rfl)) rfl ?_
          first | exact ⟨none, 0, rfl, Nat.le_refl _, .inr rfl, HL.out⟩ | exact ⟨none, 0, rfl, Nat.le_refl _, .inr trivial, HL.out⟩ | exact ⟨none, 0, by simp, by simp, by simp, HL.out⟩
end Go.Proofs.Ytalpemoodollpaa.P
/- The walk of OctetsApart. -/
namespace Go.Proofs.Ytalpemoodollpaa.P
open Go.RowKit Go.Proofs.YtalpemoodollpaaW.PrintWords Go.Proofs.YtalpemoodollpaaW.PrintLast Go.Proofs.YtalpemoodollpaaW.PrintMore
set_option linter.unusedVariables false
set_option linter.unusedSimpArgs false

/-- What stays told of a slice that is read while a writer is written. -/
theorem WPost.C {w w1 : World} {g : Nat} {row : Option Nat} {ys : List Int} (h : WPost w g row ys w1) {A : Option Addr} {xs : List Int} (hc : Kd.C (Kd.int .u8) w A xs.length xs) (hg : ∀ k, A.map (·.block) = some k → k ≠ g ∧ row ≠ some k) : Kd.C (Kd.int .u8) w1 A xs.length xs := by
  obtain ⟨_, _, _, hf⟩ := h
  exact hf.C hc (fun k hk hS => hS.elim (hg k hk).1 (hg k hk).2)
theorem WPost.ws_other {w w1 : World} {g g' : Nat} {row row' : Option Nat} {xs ys : List Int} (h : WPost w g row ys w1) (hs : WS w g' row' xs) (hne : g' ≠ g) (h1 : row ≠ some g') (h2 : ∀ k, row' = some k → k ≠ g ∧ row ≠ some k) : WS w1 g' row' xs := by
  obtain ⟨_, _, _, hf⟩ := h
  exact hs.fr hf (fun hS => hS.elim hne h1) (fun k hk hS => hS.elim (h2 k hk).1 (h2 k hk).2)

set_option maxRecDepth 100000 in
set_option maxHeartbeats 2000000 in
theorem octetsApart_calls (a b c d : Int) (w : World) (ha0 : 0 ≤ a) (ha1 : a < 18446744073709551616) (hb0 : 0 ≤ b) (hb1 : b < 18446744073709551616)
    (hc0 : -9223372036854775808 ≤ c) (hc1 : c ≤ 9223372036854775807) (hd0 : -9223372036854775808 ≤ d) (hd1 : d ≤ 9223372036854775807) :
    Calls Try.prog 5 #[.int .u64 a, .int .u64 b, .int .i64 c, .int .i64 d] w fun e w' => e = .returned (.bool true) ∧ Below w.heap.size w w' := by
  have HA := Aside0.mk ha1
  have HB := Aside0.mk hb1
  have HC := Aside0.mk (And.intro hc0 hc1)
  have HD := Aside0.mk (And.intro hd0 hd1)
  clear ha1 hb1 hc0 hc1 hd0 hd1
  have HX := Aside0.mk (And.intro ha0 hb0)
  clear ha0 hb0
  have s1 := (((WS.new w).alloc (.cells #[.slice none 0 0] 39)).alloc (.cells #[.slice none 0 0] 39)).alloc (.cells #[.slice none 0 0] 39)
  have s2 := ((WS.new (w.alloc (.cells #[.slice none 0 0] 39))).alloc (.cells #[.slice none 0 0] 39)).alloc (.cells #[.slice none 0 0] 39)
  have s3 := (WS.new ((w.alloc (.cells #[.slice none 0 0] 39)).alloc (.cells #[.slice none 0 0] 39))).alloc (.cells #[.slice none 0 0] 39)
  have s4 := WS.new (((w.alloc (.cells #[.slice none 0 0] 39)).alloc (.cells #[.slice none 0 0] 39)).alloc (.cells #[.slice none 0 0] 39))
  simp only [World.size_alloc] at s2 s3 s4
  have b0 := below_alloc (below_alloc (below_alloc (below_alloc (Below.refl w.heap.size w) (.cells #[.slice none 0 0] 39)) (.cells #[.slice none 0 0] 39)) (.cells #[.slice none 0 0] 39)) (.cells #[.slice none 0 0] 39)
  have S1 := Aside0.mk s1
  have S2 := Aside0.mk s2
  have S3 := Aside0.mk s3
  have S4 := Aside0.mk s4
  have B0 := Aside0.mk b0
  clear s1 s2 s3 s4 b0
  go_enter Try.func5, Try.ntmps5
  go_wp2_with fail
  have hsz : w.heap.size + 4 = ((((w.alloc (.cells #[.slice none 0 0] 39)).alloc (.cells #[.slice none 0 0] 39)).alloc (.cells #[.slice none 0 0] 39)).alloc (.cells #[.slice none 0 0] 39)).heap.size := by simp
  have HZ := Aside0.mk hsz
  clear hsz
  generalize ((((w.alloc (.cells #[.slice none 0 0] 39)).alloc (.cells #[.slice none 0 0] 39)).alloc (.cells #[.slice none 0 0] 39)).alloc (.cells #[.slice none 0 0] 39)) = W0 at *
  -- u
  refine (octets_Writer_Num.calls w.heap.size none [] a W0 HX.out.1 S1.out (by have := numForm_ten a HA.out; simp; omega)).mono ?_
  rintro e W1 ⟨rfl, hp⟩
  obtain ⟨row1, hs1, hb1, hr1⟩ := WPost.below B0.out (Nat.le_refl _) (fun k hk => by cases hk) hp
  have s2 := hp.ws_other S2.out (by omega) (by simp) (by simp)
  have s3 := hp.ws_other S3.out (by omega) (by simp) (by simp)
  have s4 := hp.ws_other S4.out (by omega) (by simp) (by simp)
  have T1 := Aside0.mk hs1
  have T2 := Aside0.mk s2
  have T3 := Aside0.mk s3
  have T4 := Aside0.mk s4
  have B1 := Aside0.mk hb1
  have Z1 := Aside0.mk (Nat.le_trans (Nat.le_of_eq HZ.out) hp.choose_spec.2.2.size)
  clear hp hs1 hb1 hr1 s2 s3 s4 S1 S2 S3 S4 B0 HZ
  go_wp2_with fail
  refine (octets_Writer_Bytes.calls w.heap.size row1 _ W1 T1.out (by have := numForm_ten a HA.out; simp; omega)).mono ?_
  rintro e W2 ⟨v, rfl, hR, hB⟩
  obtain ⟨Ap, cp, rfl, hlp, hCp, hkp⟩ := R_open hR
  have S2 := Aside0.mk (T2.out.below hB)
  have S3 := Aside0.mk (T3.out.below hB)
  have S4 := Aside0.mk (T4.out.below hB)
  have B2 := Aside0.mk (below_then B1.out B1.out.size hB)
  have KP := Aside0.mk (fun k hk => Nat.le_trans Z1.out (hkp k hk).1)
  have CP := Aside0.mk hCp
  have Z2 := Aside0.mk (Nat.le_trans Z1.out hB.size)
  clear hR hB hCp hkp T1 T2 T3 T4 B1 Z1
  rw [List.nil_append] at CP
  -- v
  go_wp2_with fail
  refine (octets_Writer_Num.calls (w.heap.size + 1) none [] b W2 HX.out.2 S2.out (by have := numForm_ten b HB.out; simp; omega)).mono ?_
  rintro e W3 ⟨rfl, hp⟩
  obtain ⟨row2, hs1, hb1, hr1⟩ := WPost.below B2.out (Nat.le_succ _) (fun k hk => by cases hk) hp
  have s3 := hp.ws_other S3.out (by omega) (by simp) (by simp)
  have s4 := hp.ws_other S4.out (by omega) (by simp) (by simp)
  have cp1 := hp.C CP.out (fun k hk => ⟨by have := KP.out k hk; omega, by simp⟩)
  have T1 := Aside0.mk hs1
  have T3 := Aside0.mk s3
  have T4 := Aside0.mk s4
  have B3 := Aside0.mk hb1
  have CP3 := Aside0.mk cp1
  have Z3 := Aside0.mk (Nat.le_trans Z2.out hp.choose_spec.2.2.size)
  clear hp hs1 hb1 hr1 s3 s4 cp1 S2 S3 S4 B2 CP Z2
  go_wp2_with fail
  refine (octets_Writer_Bytes.calls (w.heap.size + 1) row2 _ W3 T1.out (by have := numForm_ten b HB.out; simp; omega)).mono ?_
  rintro e W4 ⟨v, rfl, hR, hB⟩
  obtain ⟨Aq, cq, rfl, hlq, hCq, hkq⟩ := R_open hR
  have S3 := Aside0.mk (T3.out.below hB)
  have S4 := Aside0.mk (T4.out.below hB)
  have B4 := Aside0.mk (below_then B3.out B3.out.size hB)
  have KQ := Aside0.mk (fun k hk => Nat.le_trans Z3.out (hkq k hk).1)
  have CQ := Aside0.mk hCq
  have CP := Aside0.mk (Kd.C_below CP3.out hB)
  have Z4 := Aside0.mk (Nat.le_trans Z3.out hB.size)
  clear hR hB hCq hkq T1 T3 T4 B3 CP3 Z3
  rw [List.nil_append] at CQ
  -- w
  go_wp2_with fail
  refine (octets_Writer_Int.calls (w.heap.size + 1 + 1) none [] c W4 HC.out.1 HC.out.2 S3.out (by simp)).mono ?_
  rintro e W5 ⟨rfl, hp⟩
  obtain ⟨row3, hs1, hb1, hr1⟩ := WPost.below B4.out (by omega) (fun k hk => by cases hk) hp
  have s4 := hp.ws_other S4.out (by omega) (by simp) (by simp)
  have cp1 := hp.C CP.out (fun k hk => ⟨by have := KP.out k hk; omega, by simp⟩)
  have cq1 := hp.C CQ.out (fun k hk => ⟨by have := KQ.out k hk; omega, by simp⟩)
  have T1 := Aside0.mk hs1
  have T4 := Aside0.mk s4
  have B5 := Aside0.mk hb1
  have CP5 := Aside0.mk cp1
  have CQ5 := Aside0.mk cq1
  have Z5 := Aside0.mk (Nat.le_trans Z4.out hp.choose_spec.2.2.size)
  clear hp hs1 hb1 hr1 s4 cp1 cq1 S3 S4 B4 CP CQ Z4
  go_wp2_with fail
  refine (octets_Writer_Bytes.calls (w.heap.size + 1 + 1) row3 _ W5 T1.out (by simp [intForm_length])).mono ?_
  rintro e W6 ⟨v, rfl, hR, hB⟩
  obtain ⟨As, cs, rfl, hls, hCs, hks⟩ := R_open hR
  have S4 := Aside0.mk (T4.out.below hB)
  have B6 := Aside0.mk (below_then B5.out B5.out.size hB)
  have KS := Aside0.mk (fun k hk => Nat.le_trans Z5.out (hks k hk).1)
  have CS := Aside0.mk hCs
  have CP := Aside0.mk (Kd.C_below CP5.out hB)
  have CQ := Aside0.mk (Kd.C_below CQ5.out hB)
  have Z6 := Aside0.mk (Nat.le_trans Z5.out hB.size)
  clear hR hB hCs hks T1 T4 B5 CP5 CQ5 Z5
  rw [List.nil_append] at CS
  -- x
  go_wp2_with fail
  refine (octets_Writer_Int.calls (w.heap.size + 1 + 1 + 1) none [] d W6 HD.out.1 HD.out.2 S4.out (by simp)).mono ?_
  rintro e W7 ⟨rfl, hp⟩
  obtain ⟨row4, hs1, hb1, hr1⟩ := WPost.below B6.out (by omega) (fun k hk => by cases hk) hp
  have cp1 := hp.C CP.out (fun k hk => ⟨by have := KP.out k hk; omega, by simp⟩)
  have cq1 := hp.C CQ.out (fun k hk => ⟨by have := KQ.out k hk; omega, by simp⟩)
  have cs1 := hp.C CS.out (fun k hk => ⟨by have := KS.out k hk; omega, by simp⟩)
  have T1 := Aside0.mk hs1
  have B7 := Aside0.mk hb1
  have CP7 := Aside0.mk cp1
  have CQ7 := Aside0.mk cq1
  have CS7 := Aside0.mk cs1
  clear hp hs1 hb1 hr1 cp1 cq1 cs1 S4 B6 CP CQ CS Z6 KP KQ KS
  go_wp2_with fail
  refine (octets_Writer_Bytes.calls (w.heap.size + 1 + 1 + 1) row4 _ W7 T1.out (by simp [intForm_length])).mono ?_
  rintro e W8 ⟨v, rfl, hR, hB⟩
  obtain ⟨At, ct, rfl, hlt, hCt, hkt⟩ := R_open hR
  have B8 := Aside0.mk (below_then B7.out B7.out.size hB)
  have CT := Aside0.mk hCt
  have CP := Aside0.mk (Kd.C_below CP7.out hB)
  have CQ := Aside0.mk (Kd.C_below CQ7.out hB)
  have CS := Aside0.mk (Kd.C_below CS7.out hB)
  clear hR hB hCt hkt T1 B7 CP7 CQ7 CS7
  rw [List.nil_append] at CT hlp hlq hls hlt
  simp only [List.nil_append]
  -- the tests
  have hbeg := begins_iff a.toNat b.toNat
  have YP := Aside0.mk (numForm_byt a.toNat)
  have YQ := Aside0.mk (numForm_byt b.toNat)
  have YS := Aside0.mk (intForm_byt c)
  have YT := Aside0.mk (intForm_byt d)
  have hab : a.toNat = b.toNat ↔ a = b := by have := HX.out; omega
  have hcd : intForm c = intForm d ↔ c = d := ⟨intForm_inj HC.out.1 HC.out.2 HD.out.1 HD.out.2, fun h => by rw [h]⟩
  have hlc : (intForm c).length = 8 := intForm_length c
  have hld : (intForm d).length = 8 := intForm_length d
  rw [hab] at hbeg
  have LP := Aside0.mk (numForm_ten a HA.out)
  have LQ := Aside0.mk (numForm_ten b HB.out)
  generalize numForm a.toNat = p at *
  generalize numForm b.toNat = q at *
  generalize intForm c = sc at *
  generalize intForm d = td at *
  have HBEG := Aside0.mk hbeg
  have HCD := Aside0.mk hcd
  have HLC := Aside0.mk hlc
  have HLD := Aside0.mk hld
  clear hbeg hcd hlc hld hab HA HB HC HD HX
  by_cases hle : p.length ≤ q.length
  · have lq := LQ.out
    have lp := LP.out
    go_wp2_with fail
    have hlq : (q.take p.length).length = p.length := by rw [List.length_take]; omega
    have hS := same_calls Ap cp p Aq cq (q.take p.length) W8 CP.out (by assumption) (by rw [hlq]; exact C_take CQ.out _ hle) (by rw [hlq]; omega) YP.out (YQ.out.take _)
    rw [hlq] at hS
    refine hS.mono ?_
    rintro e W9 ⟨rfl, hd⟩
    have B9 := Aside0.mk (below_then B8.out B8.out.size hd.below)
    have CS2 := Aside0.mk (Kd.C_below CS.out hd.below)
    have CT2 := Aside0.mk (Kd.C_below CT.out hd.below)
    have HLS := Aside0.mk hls
    have HLT := Aside0.mk hlt
    rw [show decide (p = q.take p.length) = (a == b) from by
      have h := HBEG.out
      rw [Nat.min_eq_left hle] at h
      rw [Bool.eq_iff_iff]
      simp only [decide_eq_true_eq, beq_iff_eq, ← h, hle, true_and]]
    clear hd hlq hS hls hlt
    go_wp2_with fail
    refine (same_calls As cs sc At ct td _ CS2.out HLS.out CT2.out HLT.out YS.out YT.out).mono ?_
    rintro e W10 ⟨rfl, hd⟩
    have B10 := Aside0.mk (below_then B9.out B9.out.size hd.below)
    rw [show decide (sc = td) = (c == d) from by rw [Bool.eq_iff_iff]; simp [HCD.out]]
    clear hd
    go_wp2_with fail
    refine (damperlaw03_alive.calls true W10 rfl).mono ?_
    rintro e W11 ⟨rfl, hd⟩
    have B11 := Aside0.mk (below_then B10.out B10.out.size hd)
    clear hd
    go_wp2
    go_ret
    exact ⟨rfl, B11.out⟩
  · have hnab : (a == b) = false := by
      have h := HBEG.out
      simp only [beq_eq_false_iff_ne]
      exact fun e => hle (h.2 e).1
    have hle' : q.length < p.length := by omega
    have B9 := B8
    have CS2 := CS
    have CT2 := CT
    have HLS := Aside0.mk hls
    have HLT := Aside0.mk hlt
    clear hls hlt
    go_wp2_with fail
    refine (same_calls As cs sc At ct td _ CS2.out HLS.out CT2.out HLT.out YS.out YT.out).mono ?_
    rintro e W10 ⟨rfl, hd⟩
    have B10 := Aside0.mk (below_then B9.out B9.out.size hd.below)
    rw [show decide (sc = td) = (c == d) from by rw [Bool.eq_iff_iff]; simp [HCD.out]]
    clear hd
    go_wp2_with fail
    refine (damperlaw03_alive.calls true W10 rfl).mono ?_
    rintro e W11 ⟨rfl, hd⟩
    have B11 := Aside0.mk (below_then B10.out B10.out.size hd)
    clear hd
    go_wp2
    go_ret
    exact ⟨rfl, B11.out⟩
end Go.Proofs.Ytalpemoodollpaa.P
-- Printed by hookprint.py (the session's own program, over the kit's print.py): checked by Lean like any text.
namespace Go.Proofs.Ytalpemoodollpaa.P
open Go.RowKit Go.Proofs.YtalpemoodollpaaW.PrintWords Go.Proofs.YtalpemoodollpaaW.PrintLast Go.Proofs.YtalpemoodollpaaW.PrintMore
attribute [local go_sem] max2_int min2_int max_two min_two max_three min_three max_four min_four   -- for this text's walks alone
set_option linter.unusedVariables false
set_option linter.unusedSimpArgs false

/-! ### damperlaw03_light: function 40 -/
def damperlaw03_light.l0 : Nat → List (S49) → Int → Option (Bool)
  | 0, _, _ => none
  | k + 1, x0, x3 => if x3 < (x0.length : Int) then (if 0 ≤ x3 then (if (((rd_T49 x0 x3).f4).length : Int) > 60 then (some false) else (damperlaw03_light.l0 k x0 (wrap64 (x3 + 1)))) else (none)) else (some true)
def damperlaw03_light.f (k : Nat) (l0 : List (S49)) : Option (Bool) := if (l0.length : Int) > 40 then (some false) else (damperlaw03_light.l0 k l0 0)
theorem damperlaw03_light.mono_l : ∀ k, (∀ y0 y1, LeO (damperlaw03_light.l0 k y0 y1) (damperlaw03_light.l0 (k + 1) y0 y1))
  | 0 => fun _ _ r h => by simp [damperlaw03_light.l0] at h
  | k + 1 => by
    have ih0 := damperlaw03_light.mono_l k
    · intro y0 y1
      unfold damperlaw03_light.l0
      repeat' first
      | (with_reducible exact ih0 _ _)
      | (with_reducible exact LeO.refl _)
      | (with_reducible exact LeO.none _)
      | (with_reducible refine LeO.ite ?_ ?_)
      | (with_reducible refine LeO.bind ?_ (fun _ => ?_))
      | exact ih0 _ _
      | exact LeO.none _
      | refine LeO.ite ?_ ?_
      | refine LeO.bind ?_ (fun _ => ?_)
theorem damperlaw03_light.mono : ∀ a0 k, LeO (damperlaw03_light.f k a0) (damperlaw03_light.f (k + 1) a0) := by
  intro a0 k
  have ih0 := damperlaw03_light.mono_l k
  unfold damperlaw03_light.f
  repeat' first
      | (with_reducible exact ih0 _ _)
      | (with_reducible exact LeO.refl _)
      | (with_reducible exact LeO.none _)
      | (with_reducible refine LeO.ite ?_ ?_)
      | (with_reducible refine LeO.bind ?_ (fun _ => ?_))
      | exact ih0 _ _
      | exact LeO.none _
      | refine LeO.ite ?_ ?_
      | refine LeO.bind ?_ (fun _ => ?_)
set_option maxHeartbeats 8000000 in
set_option maxRecDepth 100000 in
theorem damperlaw03_light.calls (k : Nat) (A0 : Option Addr) (c0 : Nat) (l0 : List (S49)) (r : Bool) (w : World) (hr0 : Kd.C k49 w A0 l0.length l0) (hc0 : l0.length ≤ c0) (h : damperlaw03_light.f k l0 = some r) :
    Calls Try.prog 40 #[.slice A0 l0.length c0] w fun e w' => e = .returned (.bool r) ∧ Drawn0 w w' := by
  have HR0 := Aside0.mk hr0
  have HC0 := Aside0.mk hc0
  clear hr0 hc0
  have H : (if (l0.length : Int) > 40 then (some false) else (damperlaw03_light.l0 k l0 0)) = some r := h
  clear h
  by_cases c2 : (l0.length : Int) > 40
  · rw [if_pos c2] at H
    have c2b0 : decide (40 < (l0.length : Int)) = true := decide_eq_true c2
    have c2b1 : decide (40 < l0.length) = true := decide_eq_true (by omega)
    clear c2
    obtain rfl := Option.some.inj H
    go_enter Try.func40, Try.ntmps40
    go_wp2
    go_ret
    exact ⟨by first | rfl | (simp; done) | (simp [*]; done), by repeat (first | exact Drawn0.refl _ | apply Drawn0.step)⟩
  · rw [if_neg c2] at H
    have c2b0 : decide (40 < (l0.length : Int)) = false := decide_eq_false c2
    have c2b1 : decide (40 < l0.length) = false := decide_eq_false (by omega)
    clear c2
    have H' := Aside0.mk H
    clear H
    go_enter Try.func40, Try.ntmps40
    go_wp2
    go_loopg [3] k (fun kq v3 w' => ∃ (x3_1 : Int), v3 = .int .i64 x3_1 ∧ Aside0 (damperlaw03_light.l0 kq l0 x3_1 = some r) ∧ Aside0 (kq ≤ k) ∧ Drawn0 w w')
    case atStart => exact ⟨(0), (by first | rfl | (simp; done) | (simp [*]; done)), H', ⟨Nat.le_refl _⟩, by repeat (first | exact Drawn0.refl _ | apply Drawn0.step)⟩
    case round =>
      clear H'
      try clear c2
      try clear c2b0
      try clear c2b1
      try clear p2
      obtain ⟨x3_1, rfl, HA, HK1, ⟨m1, rfl⟩⟩ := hrel
      cases gk with
      | zero => exact absurd HA.out (by simp [damperlaw03_light.l0])
      | succ k1 =>
        have H := HA.out
        clear HA
        simp only [damperlaw03_light.l0] at H
        by_cases c3 : x3_1 < (l0.length : Int)
        · rw [if_pos c3] at H
          have c3b0 : decide (x3_1 < (l0.length : Int)) = true := decide_eq_true c3
          clear c3
          by_cases c4 : 0 ≤ x3_1
          · rw [if_pos c4] at H
            have c4b0 : decide (0 ≤ x3_1) = true := decide_eq_true c4
            clear c4
            by_cases c5 : (((rd_T49 l0 x3_1).f4).length : Int) > 60
            · rw [if_pos c5] at H
              have c5b0 : decide (60 < (((rd_T49 l0 x3_1).f4).length : Int)) = true := decide_eq_true c5
              have c5b1 : decide (60 < ((rd_T49 l0 x3_1).f4).length) = true := decide_eq_true (by omega)
              clear c5
              obtain rfl := Option.some.inj H
              have p235 : 0 ≤ (x3_1 : Int) := of_decide_eq_true (by first | (with_reducible assumption) | assumption)
              have q235 : x3_1 < (l0.length : Int) := of_decide_eq_true (by first | (with_reducible assumption) | assumption)
              obtain ⟨ad235, A235_4, c235_4, e235, hx235_0, hx235_1, hx235_2, hx235_3, hx235_4, hl235_4, hi235_4⟩ := at_T49 HR0.out x3_1 p235 q235
              cases e235
              have HR235_4 := Aside0.mk hi235_4
              have HC235_4 := Aside0.mk hl235_4
              clear hi235_4 hl235_4
              replace p235 := eq_true p235
              replace q235 := eq_true q235
              go_wp2
              go_ret
              exact ⟨by first | rfl | (simp; done) | (simp [*]; done), by repeat (first | exact Drawn0.refl _ | apply Drawn0.step)⟩
            · rw [if_neg c5] at H
              have c5b0 : decide (60 < (((rd_T49 l0 x3_1).f4).length : Int)) = false := decide_eq_false c5
              have c5b1 : decide (60 < ((rd_T49 l0 x3_1).f4).length) = false := decide_eq_false (by omega)
              clear c5
              have H' := Aside0.mk H
              clear H
              have p235 : 0 ≤ (x3_1 : Int) := of_decide_eq_true (by first | (with_reducible assumption) | assumption)
              have q235 : x3_1 < (l0.length : Int) := of_decide_eq_true (by first | (with_reducible assumption) | assumption)
              obtain ⟨ad235, A235_4, c235_4, e235, hx235_0, hx235_1, hx235_2, hx235_3, hx235_4, hl235_4, hi235_4⟩ := at_T49 HR0.out x3_1 p235 q235
              cases e235
              have HR235_4 := Aside0.mk hi235_4
              have HC235_4 := Aside0.mk hl235_4
              clear hi235_4 hl235_4
              replace p235 := eq_true p235
              replace q235 := eq_true q235
              go_wp2
              go_roundg k1
              case measure => have := HK1.out; omega
              case rel => exact ⟨(wrap64 (x3_1 + 1)), (by first | rfl | (simp; done) | (simp [*]; done)), H', ⟨by have := HK1.out; omega⟩, by repeat (first | exact Drawn0.refl _ | apply Drawn0.step)⟩
          · rw [if_neg c4] at H
            exact absurd H (by simp)
        · rw [if_neg c3] at H
          have c3b0 : decide (x3_1 < (l0.length : Int)) = false := decide_eq_false c3
          clear c3
          obtain rfl := Option.some.inj H
          go_wp2
          go_ret
          exact ⟨by first | rfl | (simp; done) | (simp [*]; done), by repeat (first | exact Drawn0.refl _ | apply Drawn0.step)⟩

end Go.Proofs.Ytalpemoodollpaa.P
/- The walk of OctetsPuts. -/
namespace Go.Proofs.Ytalpemoodollpaa.P
open Go.RowKit Go.Proofs.YtalpemoodollpaaW.PrintWords Go.Proofs.YtalpemoodollpaaW.PrintLast Go.Proofs.YtalpemoodollpaaW.PrintMore
set_option linter.unusedVariables false
set_option linter.unusedSimpArgs false

theorem info39_ : (Try.prog.info? 39).isSome = true := by kernel_rfl
theorem info39 : ∃ j, Try.prog.info? 39 = some j := Option.isSome_iff_exists.1 info39_
theorem neq_ptr_same (w : World) (a : Addr) : (binOp .neq 40 (.pointer (some a)) (.pointer (some a))).run Try.prog w = .ok (.bool false) w := by
  obtain ⟨j, hj⟩ := info39
  have h : ∀ d : Nat, (Op.equalIn (d + 1) 40 (.pointer (some a)) (.pointer (some a))).run Try.prog w = .ok true w := fun d => by
    simp [Op.equalIn, run_underlying Try.underlying40, sizeOf, typeInfo, hj, run_sameAddr_same]
  simp only [binOp]
  simp [Op.equal, Op.maxDepth, h 9999]
theorem rdT49_eq (l : List S49) (i : Nat) (h : i < l.length) : rd_T49 l (i : Int) = l[i] := by
  simp [rd_T49, List.getD_eq_getElem?_getD, h]
theorem light_go (ps : List S49) (hl : ps.length ≤ 40) : ∀ (j i : Nat), i + j = ps.length →
    ∃ b, damperlaw03_light.l0 (j + 1) ps (i : Int) = some b ∧ (b = true → ∀ n (h : n < ps.length), i ≤ n → (ps[n]).f4.length ≤ 60) := by
  intro j
  induction j with
  | zero =>
    intro i hi
    unfold damperlaw03_light.l0
    rw [if_neg (by omega)]
    exact ⟨true, rfl, fun _ n h hn => by omega⟩
  | succ j ih =>
    intro i hi
    obtain ⟨b, hb, hall⟩ := ih (i + 1) (by omega)
    unfold damperlaw03_light.l0
    rw [if_pos (by omega), if_pos (by omega), rdT49_eq ps i (by omega)]
    by_cases h6 : ((ps[i]'(by omega)).f4.length : Int) > 60
    · rw [if_pos h6]
      exact ⟨false, rfl, fun h => by cases h⟩
    · rw [if_neg h6, show wrap64 ((i : Int) + 1) = ((i + 1 : Nat) : Int) by rw [wrap64_eq]; omega]
      refine ⟨b, hb, fun ht n hn hin => ?_⟩
      by_cases he : n = i
      · subst he; omega
      · exact hall ht n hn (by omega)
theorem light_f (ps : List S49) : ∃ b, damperlaw03_light.f 64 ps = some b ∧ (b = true → ps.length ≤ 40 ∧ ∀ n (h : n < ps.length), (ps[n]).f4.length ≤ 60) := by
  show ∃ b, damperlaw03_light.f 64 ps = some b ∧ _
  by_cases h : (ps.length : Int) > 40
  · refine ⟨false, ?_, fun h => by cases h⟩
    unfold damperlaw03_light.f
    rw [if_pos h]
  · obtain ⟨b, hb, hall⟩ := light_go ps (by omega) ps.length 0 (by omega)
    refine ⟨b, ?_, fun ht => ⟨by omega, fun n hn => hall ht n hn (by omega)⟩⟩
    have hup := up_ (f := fun k => damperlaw03_light.f k ps) (k := ps.length + 1) (r := b) (fun k => damperlaw03_light.mono ps k) (by
      show damperlaw03_light.f (ps.length + 1) ps = some b
      unfold damperlaw03_light.f
      rw [if_neg h]
      exact hb) 64 (by omega)
    exact hup
/-- A writer, and a list of bytes of one's own beside it. -/
structure PW (w W : World) (g : Nat) (want : Value) (xs ys : List Int) : Prop where
  ex : ∃ row, WS W g row xs ∧ (∀ k, row = some k → w.heap.size ≤ k) ∧ (∀ k, want.ownBlock = some k → k ≠ g ∧ row ≠ some k)
  own : W.ownsRow w.heap.size 5 1 want ys.length (nums .u8 ys)
  bel : Below w.heap.size w W
  hg : w.heap.size ≤ g
namespace PW
variable {w W W1 : World} {g : Nat} {want v1 : Value} {xs ys F : List Int}
theorem new (hB : Below w.heap.size w W) : PW w (W.alloc (.cells #[.slice none 0 0] 39)) W.heap.size (.slice none 0 0) [] [] :=
  ⟨⟨none, WS.new W, (fun k hk => by cases hk), (fun k hk => by simp [Value.ownBlock] at hk)⟩, own_nil _ _ _ _, below_alloc hB _, hB.size⟩
theorem below (h : PW w W g want xs ys) (hb : Below W.heap.size W W1) : PW w W1 g want xs ys := by
  obtain ⟨⟨row, hs, hr, hne⟩, ho, hB, hg⟩ := h
  exact ⟨⟨row, hs.below hb, hr, hne⟩, (Fr.of_below hb (fun _ => False)).own ho (fun _ _ h => h), below_then hB hB.size hb, hg⟩
theorem append (h : PW w W g want xs ys) (hown : W1.ownsRow w.heap.size 5 1 v1 (ys ++ F).length (nums .u8 (ys ++ F))) (hB : Below w.heap.size w W1) (hg : W.grownBy W1 want.ownBlock)
    (hat : v1.ownBlock = want.ownBlock ∨ ∃ b, v1.ownBlock = some b ∧ W.heap.size ≤ b) : PW w W1 g v1 xs (ys ++ F) := by
  obtain ⟨⟨row, hs, hr, hne⟩, ho, _, hgg⟩ := h
  have hf : Fr W W1 (fun k => want.ownBlock = some k) := (Fr.refl W _).grown hg (fun k _ hk => hk)
  have hlt := hs.lt
  have hrlt : ∀ k, row = some k → k < W.heap.size := fun k hk => by
    obtain ⟨v, hb2, hr2, ho2⟩ := hs
    exact own_lt ho2 k (by rw [hr2, hk])
  refine ⟨⟨row, hs.fr hf (fun hS => (hne g hS).1 rfl) (fun k hk hS => (hne k hS).2 hk), hr, fun k hk => ?_⟩, hown, hB, hgg⟩
  rcases hat with hat | ⟨b, hb, hbl⟩
  · rw [hat] at hk
    exact hne k hk
  · rw [hb] at hk
    injection hk with hk
    subst hk
    exact ⟨by omega, fun hrb => by have := hrlt b hrb; omega⟩
theorem post {row : Option Nat} (hs : WS W g row xs) (hr : ∀ k, row = some k → w.heap.size ≤ k) (hne : ∀ k, want.ownBlock = some k → k ≠ g ∧ row ≠ some k) (ho : W.ownsRow w.heap.size 5 1 want ys.length (nums .u8 ys))
    (hB : Below w.heap.size w W) (hg : w.heap.size ≤ g) {zs : List Int} (hp : WPost W g row zs W1) : PW w W1 g want zs ys := by
  obtain ⟨row', hs', hr', hf⟩ := hp
  refine ⟨⟨row', hs', fun k hk => ?_, fun k hk => ⟨(hne k hk).1, ?_⟩⟩, hf.own ho (fun k hk hS => hS.elim (hne k hk).1 (hne k hk).2), ?_, hg⟩
  · rcases hr' with rfl | ⟨b, rfl, hb⟩
    · exact hr k hk
    · injection hk with hk
      have := hB.size
      omega
  · rcases hr' with rfl | ⟨b, rfl, hb⟩
    · exact (hne k hk).2
    · intro e
      injection e with e
      have := own_lt ho k hk
      omega
  · exact Below.trans hB (hf.below hB.size (fun k hS => hS.elim (fun e => by omega) (fun e => hr k e)))
theorem put (h : PW w W g want xs ys) (p : S49) (A : Option Addr) (c : Nat) (hf : WF49 p) (hC : Kd.C (Kd.int .u8) W A p.f4.length p.f4) (hl : xs.length + p.f4.length + 100 ≤ 140737488355328) :
    Calls Try.prog 42 #[.pointer (some ⟨g, 0, none⟩), .agg #[.int .i64 p.f0, .int .i64 p.f1, .int .u64 p.f2, .int .i64 p.f3, .slice A p.f4.length c]] W fun e w' => e = .returned (.pointer (some ⟨g, 0, none⟩)) ∧ PW w w' g want (xs ++ partForm p) ys := by
  obtain ⟨⟨row, hs, hr, hne⟩, ho, hB, hg⟩ := h
  exact (law03_put_calls g row xs p A c W hs hf hC hl).mono fun e w' ⟨he, hp⟩ => ⟨he, post hs hr hne ho hB hg hp⟩
theorem bytes (h : PW w W g want xs ys) (hl : xs.length ≤ 140737488355328) :
    Calls Try.prog 37 #[.pointer (some ⟨g, 0, none⟩)] W fun e w' => ∃ A c, e = .returned (.slice A xs.length c) ∧ xs.length ≤ c ∧ Kd.C (Kd.int .u8) w' A xs.length xs ∧ Below W.heap.size W w' := by
  obtain ⟨⟨row, hs, hr, hne⟩, ho, hB, hg⟩ := h
  refine (octets_Writer_Bytes.calls g row xs W hs hl).mono ?_
  rintro e w' ⟨v, rfl, hR, hb⟩
  obtain ⟨A, c, rfl, hq, hC⟩ := Kd.R_reads hR
  exact ⟨A, c, rfl, hq, hC, hb⟩
theorem want_C (h : PW w W g want xs ys) : ∃ A c, want = .slice A ys.length c ∧ ys.length ≤ c ∧ Kd.C (Kd.int .u8) W A ys.length ys := by
  obtain ⟨A, c, e, hq, hR⟩ := own_reads_of_le (enc := Value.int .u8) (d := (0 : Int)) h.own
  exact ⟨A, c, e, hq, Kd.C_of_reads hR⟩
end PW
theorem partForm_le (p : S49) (hf : WF49 p) (h : p.f4.length ≤ 60) : (partForm p).length ≤ 70 := by
  unfold partForm
  have := numForm_ten p.f2 hf.n.2
  split
  · split
    · simp
    · rw [uintForm_length]; omega
  · split
    · rw [intForm_length]; omega
    · split
      · omega
      · split <;> simp <;> omega
/-- The cells of an element, in a world that has kept what was. -/
theorem at_part {w W : World} {ad : Addr} {ps : List S49} {p : S49} {n : Nat} (h : Kd.C k49 w (some ad) ps.length ps) (hb : Below w.heap.size w W) (hlt : n < ps.length) (hp : ps[n] = p) :
    ∃ A4 c4, W.cell? (ad.add (n * 5)) = some (.int .i64 p.f0) ∧ W.cell? ⟨(ad.add (n * 5)).block, (ad.add (n * 5)).off + 1, none⟩ = some (.int .i64 p.f1) ∧ W.cell? ⟨(ad.add (n * 5)).block, (ad.add (n * 5)).off + 2, none⟩ = some (.int .u64 p.f2) ∧
      W.cell? ⟨(ad.add (n * 5)).block, (ad.add (n * 5)).off + 3, none⟩ = some (.int .i64 p.f3) ∧ W.cell? ⟨(ad.add (n * 5)).block, (ad.add (n * 5)).off + 4, none⟩ = some (.slice A4 p.f4.length c4) ∧ p.f4.length ≤ c4 ∧ Kd.C (Kd.int .u8) W A4 p.f4.length p.f4 := by
  obtain ⟨ad', A4, c4, hA0, e0, e1, e2, e3, e4, hl4, hC4⟩ := at_T49 (Kd.C_below h hb) (n : Int) (by omega) (by omega)
  injection hA0 with hA0
  subst hA0
  rw [rdT49_eq ps n hlt, hp] at e0 e1 e2 e3 e4 hl4 hC4
  rw [Int.toNat_natCast] at e0 e1 e2 e3 e4
  exact ⟨A4, c4, e0, e1, e2, e3, e4, hl4, hC4⟩
set_option maxRecDepth 100000 in
set_option maxHeartbeats 4000000 in
theorem octetsPuts_calls (A0 : Option Addr) (c0 : Nat) (ps : List S49) (w : World) (hr0 : Kd.C k49 w A0 ps.length ps) (hc0 : ps.length ≤ c0) (hwf : ∀ p ∈ ps, WF49 p) :
    Calls Try.prog 6 #[.slice A0 ps.length c0] w fun e w' => e = .returned (.bool true) ∧ Below w.heap.size w w' := by
  obtain ⟨b, hb, hlight⟩ := light_f ps
  have HR := Aside0.mk hr0
  have HC0 := Aside0.mk hc0
  have HB := Aside0.mk hb
  clear hr0 hc0 hb
  go_enter Try.func6, Try.ntmps6
  go_wp2_with fail
  refine (damperlaw03_light.calls 64 A0 c0 ps b w HR.out HC0.out HB.out).mono ?_
  rintro e w1 ⟨rfl, hd⟩
  have B1 := Aside0.mk hd.below
  have HR1 := Aside0.mk (Kd.C_below HR.out hd.below)
  clear hd
  cases b with
  | false =>
    go_wp2_with fail
    refine (damperlaw03_alive.calls true w1 rfl).mono ?_
    rintro e w2 ⟨rfl, hd⟩
    have B2 := Aside0.mk (Below.trans B1.out (Below.mono hd B1.out.size))
    clear hd
    go_wp2
    go_ret
    exact ⟨rfl, B2.out⟩
  | true =>
    obtain ⟨hlen, hraw⟩ := hlight rfl
    have HRAW := Aside0.mk hraw
    clear hlight hraw
    go_wp2_with fail
    have P0 := Aside0.mk (PW.new B1.out)
    have HC := Aside0.mk HR.out
    clear HB HR1 HR B1
    go_loopw [5, 6] (fun u5 u6 wr => ∃ (n : Nat) (xs : List Int), u6 = .int .i64 (n : Int) ∧ n ≤ ps.length ∧ Aside0 (xs.length ≤ n * 70) ∧ Aside0 (PW w wr w1.heap.size u5 xs xs)) (fun _ u6 _ => (ps.length - intOf u6).toNat)
    case atStart => exact ⟨0, [], rfl, by omega, ⟨by simp⟩, P0⟩
    case round =>
      obtain ⟨n, xs, rfl, hn, HXL, HP⟩ := hrel
      by_cases hlt : n < ps.length
      · obtain ⟨ad, hA0⟩ : ∃ ad, A0 = some ad := by obtain ⟨ad, e, _⟩ := HC.out.2.2 (by omega); exact ⟨ad, e⟩
        subst hA0
        have hraw := HRAW.out n hlt
        have hpf := hwf ps[n] (List.getElem_mem hlt)
        have hat := fun W hb => at_part (W := W) (p := ps[n]) HC.out hb hlt rfl
        generalize ps[n] = p at *
        have HAT := Aside0.mk hat
        have HPF := Aside0.mk hpf
        have HFL := Aside0.mk (partForm_le p hpf hraw)
        have HRW := Aside0.mk hraw
        clear hat hpf hraw
        obtain ⟨A4, c4, e0, e1, e2, e3, e4, hl4, hC4⟩ := HAT.out wr HP.out.bel
        have HQ4 := Aside0.mk hl4
        have HC4 := Aside0.mk hC4
        clear hl4 hC4
        go_wp2_with fail
        refine (law03_form_calls p A4 c4 wr HPF.out HQ4.out HC4.out).mono ?_
        rintro e w2 ⟨B2, m2, rfl, hq, hC2, hb⟩
        have HP2 := Aside0.mk (HP.out.below hb)
        have HF2 := Aside0.mk (Kd.reads_of_C (d := (0 : Int)) hC2)
        have hlen2 : (xs.length + (partForm p).length) * 1 ≤ 140737488355328 := by have := HFL.out; have := HXL.out; omega
        have HL2 := Aside0.mk hlen2
        clear hq hC2 hb HQ4 HC4 e0 e1 e2 e3 e4 HP hlen2
        go_wp2_with (at_builtin; refine print_append_row (w0 := w) w.heap.size rfl (.tmp 17) (.tmp 22) 30 5 .u8 1 rfl Try.underlying30 info5 (by decide) u5 xs (partForm p) B2 (partForm p).length m2 rfl rfl HP2.out.own HF2.out HP2.out.bel HP2.out.bel.size HL2.out ?_; intro v3 w3 hown hb hg hat; have HP3 := Aside0.mk (HP2.out.append hown hb hg hat); clear hown hb hg hat HP2 HF2; obtain ⟨A4, c4, e0, e1, e2, e3, e4, hl4, hC4⟩ := HAT.out w3 HP3.out.bel; have HQ4 := Aside0.mk hl4; have HC4 := Aside0.mk hC4; clear hl4 hC4)
        refine (HP3.out.put p A4 c4 HPF.out HC4.out (by have := HFL.out; have := HXL.out; have := HRW.out; omega)).mono ?_
        rintro e w4 ⟨rfl, hp4⟩
        have HP4 := Aside0.mk hp4
        clear hp4 HP3 HQ4 HC4 e0 e1 e2 e3 e4
        have kp := fun w => neq_ptr_same w ⟨w1.heap.size, 0, none⟩
        obtain ⟨A5, c5, e0, e1, e2, e3, e4, hl4, hC4⟩ := HAT.out w4 HP4.out.bel
        clear hl4 hC4
        go_wp2_with fail
        refine (law03_put_nil p.f0 p.f1 p.f2 p.f3 p.f4.length c5 A5 w4).mono ?_
        rintro e w5 ⟨rfl, hb⟩
        have HP5 := Aside0.mk (HP4.out.below hb)
        clear hb HP4 e0 e1 e2 e3 e4
        have HXF : Aside0 ((xs ++ partForm p).length ≤ (n + 1) * 70) := ⟨by have := HFL.out; have := HXL.out; rw [List.length_append]; omega⟩
        generalize xs ++ partForm p = ys at *
        go_wp2_with fail
        refine (HP5.out.bytes (by have := HXF.out; omega)).mono ?_
        rintro e w6 ⟨B6, m6, rfl, hq6, hC6, hb⟩
        have HP6 := Aside0.mk (HP5.out.below hb)
        obtain ⟨B7, m7, hv, hq7, hC7⟩ := HP6.out.want_C
        subst hv
        have HQ6 := Aside0.mk hq6
        have HQ7 := Aside0.mk hq7
        have HC6 := Aside0.mk hC6
        have HC7 := Aside0.mk hC7
        clear hb HP5 hq6 hC6 hq7 hC7
        go_wp2_with fail
        refine (damperref03_Same.calls B6 m6 ys B7 m7 ys true w6 HC6.out HQ6.out HC7.out HQ7.out (same_of_eq ys)).mono ?_
        rintro e w7 ⟨rfl, hd⟩
        have HP7 := Aside0.mk (HP6.out.below hd.below)
        clear hd HP6 HC6 HC7 HQ6 HQ7
        go_wp2
        go_roundw
        case rel => exact ⟨n + 1, ys, rfl, by omega, HXF, HP7⟩
        case measure => simp [intOf]; omega
      · have hB := HP.out.bel
        have HB := Aside0.mk hB
        clear hB HP
        go_wp2_with fail
        refine (octets_Writer_Bytes.nil wr).mono ?_
        rintro e w2 ⟨rfl, rfl⟩
        go_wp2_with fail
        refine (damperlaw03_alive.calls true wr rfl).mono ?_
        rintro e w3 ⟨rfl, hd⟩
        have B3 := Aside0.mk (Below.trans HB.out (Below.mono hd HB.out.size))
        clear hd
        go_wp2
        go_ret
        exact ⟨rfl, B3.out⟩
end Go.Proofs.Ytalpemoodollpaa.P
/- What is got is what the document reads. -/
namespace Go.Proofs.Ytalpemoodollpaa.P
open Go.RowKit Go.Proofs.YtalpemoodollpaaW.PrintWords Go.Proofs.YtalpemoodollpaaW.PrintLast Go.Proofs.YtalpemoodollpaaW.PrintMore
set_option linter.unusedVariables false
set_option linter.unusedSimpArgs false
theorem rTake_0 (l : List Int) (n : Nat) : rTake (l, 0) n = if l.length < n then ([], false, (l, 3)) else (l.take n, true, (l.drop n, 0)) := by
  unfold rTake
  rw [if_neg (by simp)]
theorem rTake_f (l : List Int) (f : Int) (hf : f ≠ 0) (n : Nat) : rTake (l, f) n = ([], false, (l, f)) := by
  unfold rTake
  rw [if_pos hf]
theorem numGo_fin (k : Nat) : ∀ (i : Nat) (n : Int) (l : List Int), ((numGo k i n l).2.2 ≠ 0 → (numGo k i n l).1 = 0) ∧ ((numGo k i n l).2.2 = 0 → ∃ m, m ≤ l.length ∧ (numGo k i n l).2.1 = l.drop m) := by
  induction k with
  | zero => intro i n l; exact ⟨fun _ => rfl, fun h => absurd h (by simp [numGo])⟩
  | succ k ih =>
    intro i n l
    cases l with
    | nil => exact ⟨fun _ => rfl, fun h => absurd h (by simp [numGo])⟩
    | cons b bs =>
      rw [numGo]
      split
      · exact ⟨fun _ => rfl, fun h => absurd h (by simp)⟩
      · split
        · obtain ⟨h1, h2⟩ := ih (i + 1) (n + b % 128 * ((128 ^ i : Nat) : Int)) bs
          refine ⟨h1, fun h => ?_⟩
          obtain ⟨m, hm, he⟩ := h2 h
          exact ⟨m + 1, by simp; omega, by rw [he]; rfl⟩
        · split
          · exact ⟨fun _ => rfl, fun h => absurd h (by simp)⟩
          · exact ⟨fun h => absurd rfl h, fun _ => ⟨1, by simp, rfl⟩⟩
theorem got_read (l : List Int) (p : S49) : (gotF (l, 0) p).1 = (readF l p).1 ∧ (gotF (l, 0) p).2.1 = (readF l p).2.1 ∧ (gotF (l, 0) p).2.2.1 = (readF l p).2.2.1 ∧ (gotF (l, 0) p).2.2.2.2 = (readF l p).2.2.2.2 ∧
    0 ≤ (readF l p).2.2.2.1 ∧ (readF l p).2.2.2.1 ≤ l.length ∧ ((readF l p).2.2.2.2 = 0 → (gotF (l, 0) p).2.2.2.1 = l.drop (readF l p).2.2.2.1.toNat) := by
  unfold gotF readF
  by_cases h1 : p.f0 = 1
  · rw [if_pos h1, if_pos h1]
    unfold rUint rdUint
    by_cases hk : p.f1 < 1 ∨ 8 < p.f1
    · rw [if_pos hk, if_pos hk]
      exact ⟨rfl, rfl, rfl, rfl, by simp, by simp, fun _ => rfl⟩
    · rw [if_neg hk, if_neg hk, rTake_0]
      by_cases hl : l.length < p.f1.toNat
      · rw [if_pos hl, if_pos (show (l.length : Int) < p.f1 by omega)]
        exact ⟨rfl, rfl, rfl, rfl, by simp, by simp, fun h => absurd h (by simp)⟩
      · rw [if_neg hl, if_neg (show ¬ (l.length : Int) < p.f1 by omega)]
        exact ⟨rfl, rfl, rfl, rfl, by show 0 ≤ p.f1; omega, by show p.f1 ≤ (l.length : Int); omega, fun _ => rfl⟩
  · rw [if_neg h1, if_neg h1]
    by_cases h2 : p.f0 = 2
    · rw [if_pos h2, if_pos h2]
      unfold rUint rdInt
      rw [if_neg (show ¬ ((8 : Int) < 1 ∨ (8 : Int) < 8) by decide), show (8 : Int).toNat = 8 from rfl, rTake_0]
      by_cases hl : l.length < 8
      · rw [if_pos hl, if_pos hl]
        exact ⟨rfl, by show unzig 0 = 0; decide, rfl, rfl, by simp, by simp, fun h => absurd h (by simp)⟩
      · rw [if_neg hl, if_neg hl]
        exact ⟨rfl, rfl, rfl, rfl, by simp, by show (8 : Int) ≤ (l.length : Int); omega, fun _ => rfl⟩
    · rw [if_neg h2, if_neg h2]
      by_cases h3 : p.f0 = 3
      · rw [if_pos h3, if_pos h3]
        unfold rNum fin3
        rw [if_neg (by simp)]
        obtain ⟨hz, hd⟩ := numGo_fin 10 0 0 l
        by_cases hf : (numGo 10 0 0 l).2.2 = 0
        · rw [if_pos hf]
          obtain ⟨m, hm, he⟩ := hd hf
          refine ⟨rfl, rfl, rfl, hf, ?_, ?_, fun _ => ?_⟩
          · show 0 ≤ (l.length : Int) - ((numGo 10 0 0 l).2.1.length : Int)
            rw [he, List.length_drop]; omega
          · show (l.length : Int) - ((numGo 10 0 0 l).2.1.length : Int) ≤ _
            omega
          · show (numGo 10 0 0 l).2.1 = l.drop ((l.length : Int) - ((numGo 10 0 0 l).2.1.length : Int)).toNat
            rw [he, List.length_drop]
            congr 1
            omega
        · rw [if_neg hf]
          exact ⟨hz hf, rfl, rfl, rfl, by simp, by simp, fun h => absurd h hf⟩
      · rw [if_neg h3, if_neg h3]
        by_cases h4 : p.f0 = 4
        · rw [if_pos h4, if_pos h4]
          unfold rdRaw
          by_cases hn : p.f1 < 0
          · rw [if_pos hn, if_pos hn]
            exact ⟨rfl, rfl, rfl, rfl, by simp, by simp, fun _ => rfl⟩
          · rw [if_neg hn, if_neg hn, rTake_0]
            by_cases hl : l.length < p.f1.toNat
            · rw [if_pos hl, if_pos (show (l.length : Int) < p.f1 by omega)]
              exact ⟨rfl, rfl, rfl, rfl, by simp, by simp, fun h => absurd h (by simp)⟩
            · rw [if_neg hl, if_neg (show ¬ (l.length : Int) < p.f1 by omega)]
              exact ⟨rfl, rfl, rfl, rfl, by show 0 ≤ p.f1; omega, by show p.f1 ≤ (l.length : Int); omega, fun _ => rfl⟩
        · rw [if_neg h4, if_neg h4]
          exact ⟨rfl, rfl, rfl, rfl, by simp, by simp, fun _ => rfl⟩
theorem got_fault (l : List Int) (f : Int) (hf : f ≠ 0) (p : S49) : gotF (l, f) p = (0, 0, [], (l, f)) := by
  unfold gotF rUint rNum
  have e := rTake_f l f hf
  split
  · split
    · rfl
    · rw [e]; rfl
  · split
    · rw [if_neg (by decide), e]; rfl
    · split
      · rfl
      · split
        · split
          · rfl
          · rw [e]
        · rfl
end Go.Proofs.Ytalpemoodollpaa.P
/- What is put is read as it was; of fewer bytes it is not; what is read has just those bytes. -/
namespace Go.Proofs.Ytalpemoodollpaa.P
open Go.RowKit Go.Proofs.YtalpemoodollpaaW.PrintWords Go.Proofs.YtalpemoodollpaaW.PrintLast Go.Proofs.YtalpemoodollpaaW.PrintMore
set_option linter.unusedVariables false
set_option linter.unusedSimpArgs false
theorem numGo_form (j : Nat) : ∀ (i : Nat) (a : Int) (n : Nat) (rest : List Int), i + j = 9 → n < 2 * 128 ^ j → (0 < i → 1 ≤ n) →
    numGo (j + 1) i a (numForm n ++ rest) = (a + (n : Int) * ((128 ^ i : Nat) : Int), (rest, 0)) := by
  induction j with
  | zero =>
    intro i a n rest hi hn hp
    obtain rfl : i = 9 := by omega
    have hn2 : n < 2 := by simpa using hn
    have h1 := hp (by omega)
    obtain rfl : n = 1 := by omega
    rw [numForm_lt (by omega)]
    simp [numGo]
  | succ j ih =>
    intro i a n rest hi hn hp
    by_cases h : n < 128
    · rw [numForm_lt h, List.cons_append, List.nil_append, numGo, if_neg (by omega), if_neg (by omega), if_neg (by omega)]
      have : (n : Int) % 128 = n := by omega
      rw [this]
    · rw [numForm_ge h, List.cons_append, numGo, if_neg (by omega), if_pos (by omega)]
      rw [ih (i + 1) _ (n / 128) rest (by omega) (by rw [Nat.pow_succ] at hn; omega) (by omega)]
      congr 1
      rw [Nat.pow_succ]
      have e : (((n % 128 + 128 : Nat) : Int) % 128) = ((n % 128 : Nat) : Int) := by omega
      rw [e]
      have e2 : (n : Int) = ((n % 128 : Nat) : Int) + ((n / 128 : Nat) : Int) * 128 := by omega
      generalize ((n % 128 : Nat) : Int) = x at *
      generalize ((n / 128 : Nat) : Int) = y at *
      rw [e2]
      push_cast
      generalize ((128 : Int) ^ i) = P
      rw [Int.add_mul, Int.mul_assoc y 128 P, Int.mul_comm 128 P]
      omega
theorem rNum_form (n : Nat) (hn : n < 18446744073709551616) (rest : List Int) : rNum (numForm n ++ rest, 0) = ((n : Int), (rest, 0)) := by
  unfold rNum
  rw [if_neg (by simp)]
  have := numGo_form 9 0 0 n rest (by omega) (by have : (2 * 128 ^ 9 : Nat) = 18446744073709551616 := by decide
                                                 omega) (by omega)
  simpa using this
theorem numGo_short (j : Nat) : ∀ (i : Nat) (a : Int) (n m : Nat), i + j = 9 → n < 2 * 128 ^ j → m < (numForm n).length → (numGo (j + 1) i a ((numForm n).take m)).2.2 = 3 := by
  induction j with
  | zero =>
    intro i a n m hi hn hm
    have hn2 : n < 2 := by simpa using hn
    rw [numForm_lt (by omega)] at hm ⊢
    obtain rfl : m = 0 := by simp at hm; omega
    rfl
  | succ j ih =>
    intro i a n m hi hn hm
    cases m with
    | zero => rfl
    | succ m =>
      by_cases h : n < 128
      · rw [numForm_lt h] at hm
        simp at hm
      · rw [numForm_ge h] at hm ⊢
        rw [List.take_succ_cons, numGo, if_neg (by omega), if_pos (by omega)]
        exact ih (i + 1) _ (n / 128) m (by omega) (by rw [Nat.pow_succ] at hn; omega) (by simpa using hm)
theorem rNum_short (n m : Nat) (hn : n < 18446744073709551616) (hm : m < (numForm n).length) : (rNum ((numForm n).take m, 0)).2.2 = 3 := by
  unfold rNum
  rw [if_neg (by simp)]
  exact numGo_short 9 0 0 n m (by omega) (by have : (2 * 128 ^ 9 : Nat) = 18446744073709551616 := by decide
                                             omega) hm
theorem numGo_back (j : Nat) : ∀ (i : Nat) (a : Int) (l : List Int), Byt l → i + j = 9 → (numGo (j + 1) i a l).2.2 = 0 →
    ∃ n : Nat, l = numForm n ++ (numGo (j + 1) i a l).2.1 ∧ (numGo (j + 1) i a l).1 = a + (n : Int) * ((128 ^ i : Nat) : Int) ∧ n < 2 * 128 ^ j ∧ (0 < i → 1 ≤ n) := by
  induction j with
  | zero =>
    intro i a l hb hi h
    obtain rfl : i = 9 := by omega
    cases l with
    | nil => simp [numGo] at h
    | cons b bs =>
      have hbb := hb.cons.1
      rw [numGo] at h ⊢
      by_cases h1 : (9 : Nat) = 9 ∧ 1 < b % 128
      · rw [if_pos h1] at h; simp at h
      · rw [if_neg h1] at h ⊢
        by_cases h2 : 128 ≤ b
        · rw [if_pos h2] at h; simp [numGo] at h
        · rw [if_neg h2] at h ⊢
          by_cases h3 : b % 128 = 0 ∧ 0 < 9
          · rw [if_pos h3] at h; simp at h
          · rw [if_neg h3]
            have e : b = 1 := by omega
            subst e
            exact ⟨1, by rw [numForm_lt (by omega)]; rfl, by simp, by simp, by omega⟩
  | succ j ih =>
    intro i a l hb hi h
    cases l with
    | nil => simp [numGo] at h
    | cons b bs =>
      obtain ⟨hbb, hbs⟩ := hb.cons
      rw [numGo] at h ⊢
      rw [if_neg (by omega)] at h ⊢
      by_cases h2 : 128 ≤ b
      · rw [if_pos h2] at h ⊢
        obtain ⟨n, e1, e2, e3, e4⟩ := ih (i + 1) _ bs hbs (by omega) h
        have hn1 := e4 (by omega)
        refine ⟨(b % 128).toNat + 128 * n, ?_, ?_, ?_, by omega⟩
        · rw [numForm_ge (by omega), show ((b % 128).toNat + 128 * n) / 128 = n by omega, List.cons_append, ← e1]
          congr 1
          omega
        · rw [e2, Nat.pow_succ]
          have : (((b % 128).toNat + 128 * n : Nat) : Int) = b % 128 + 128 * (n : Int) := by omega
          rw [this]
          push_cast
          generalize ((128 : Int) ^ i) = P
          generalize b % 128 = x
          rw [Int.add_mul, Int.mul_comm P 128, ← Int.mul_assoc, Int.mul_comm (n : Int) 128]
          omega
        · rw [Nat.pow_succ]; omega
      · rw [if_neg h2] at h ⊢
        by_cases h3 : b % 128 = 0 ∧ 0 < i
        · rw [if_pos h3] at h; simp at h
        · rw [if_neg h3]
          refine ⟨b.toNat, ?_, ?_, ?_, by omega⟩
          · rw [numForm_lt (by omega)]
            simp only [List.cons_append, List.nil_append]
            congr 1
            omega
          · show a + b % 128 * _ = _
            rw [show ((b.toNat : Nat) : Int) = b % 128 by omega]
          · have : 0 < 128 ^ j := Nat.pos_of_ne_zero (by simp)
            rw [Nat.pow_succ]; omega
theorem rNum_back (l : List Int) (hb : Byt l) (h : (rNum (l, 0)).2.2 = 0) : ∃ n : Nat, l = numForm n ++ (rNum (l, 0)).2.1 ∧ (rNum (l, 0)).1 = (n : Int) ∧ n < 18446744073709551616 := by
  unfold rNum at h ⊢
  rw [if_neg (by simp)] at h ⊢
  obtain ⟨n, e1, e2, e3, _⟩ := numGo_back 9 0 0 l hb (by omega) h
  refine ⟨n, e1, by simpa using e2, ?_⟩
  have : (2 * 128 ^ 9 : Nat) = 18446744073709551616 := by decide
  omega
theorem rUint_form (n k : Nat) (h1 : 1 ≤ k) (h8 : k ≤ 8) (rest : List Int) : rUint (uintForm n k ++ rest, 0) (k : Int) = (((n % 256 ^ k : Nat) : Int), (rest, 0)) := by
  unfold rUint
  rw [if_neg (by omega), Int.toNat_natCast, rTake_ok _ _ (by rw [List.length_append, uintForm_length]; omega)]
  simp only
  rw [List.take_left' (uintForm_length n k), List.drop_left' (uintForm_length n k), beNum_uintForm]
theorem rUint_short (l : List Int) (k : Int) (h1 : 1 ≤ k) (h8 : k ≤ 8) (h : (l.length : Int) < k) : rUint (l, 0) k = (0, (l, 3)) := by
  unfold rUint
  rw [if_neg (by omega), rTake_few _ _ (by omega)]
  rfl
theorem uintForm_beNum (l : List Int) (hb : Byt l) : uintForm (beNum l).toNat l.length = l := by
  induction l with
  | nil => rfl
  | cons b bs ih =>
    obtain ⟨hbb, hbs⟩ := hb.cons
    have hr := beNum_range bs hbs
    obtain ⟨m, hm⟩ := Int.eq_ofNat_of_zero_le hr.1
    obtain ⟨c, hc⟩ := Int.eq_ofNat_of_zero_le hbb.1
    have hml : m < 256 ^ bs.length := by rw [hm] at hr; exact_mod_cast hr.2
    have hpos : 0 < 256 ^ bs.length := Nat.pos_of_ne_zero (by simp)
    rw [beNum_cons, hm, hc]
    have e : ((c : Int) * ((256 ^ bs.length : Nat) : Int) + (m : Int)).toNat = c * 256 ^ bs.length + m := by
      have : ((c : Int) * ((256 ^ bs.length : Nat) : Int) + (m : Int)) = ((c * 256 ^ bs.length + m : Nat) : Int) := by rw [Int.natCast_add, Int.natCast_mul]
      rw [this, Int.toNat_natCast]
    rw [e, List.length_cons, uintForm]
    have hd : (c * 256 ^ bs.length + m) / 256 ^ bs.length = c := by
      rw [Nat.mul_comm, Nat.mul_add_div hpos, Nat.div_eq_of_lt hml, Nat.add_zero]
    rw [hd]
    have hc2 : c % 256 = c := by omega
    rw [hc2]
    congr 1
    have hmod : ∀ k, k ≤ bs.length → uintForm (c * 256 ^ bs.length + m) k = uintForm m k := by
      intro k hk
      induction k with
      | zero => rfl
      | succ k ihk =>
        rw [uintForm, uintForm, ihk (by omega)]
        congr 2
        obtain ⟨d, hd⟩ : ∃ d, bs.length = k + 1 + d := ⟨bs.length - (k + 1), by omega⟩
        rw [hd, Nat.pow_add, Nat.pow_succ]
        have : c * (256 ^ k * 256 * 256 ^ d) + m = 256 ^ k * (c * 256 ^ d * 256) + m := by
          congr 1
          rw [Nat.mul_assoc (256 ^ k), Nat.mul_left_comm, Nat.mul_comm 256 (256 ^ d), Nat.mul_assoc c]
        have hp : 0 < 256 ^ k := Nat.pos_of_ne_zero (by simp)
        rw [this, Nat.mul_add_div hp, Nat.add_comm, Nat.add_mul_mod_self_right]
    rw [hmod _ (Nat.le_refl _)]
    have := ih hbs
    rw [hm] at this
    simpa using this
theorem rUint_back (l : List Int) (k : Nat) (h1 : 1 ≤ k) (h8 : k ≤ 8) (hb : Byt l) (h : (rUint (l, 0) (k : Int)).2.2 = 0) :
    ∃ n : Nat, l = uintForm n k ++ (rUint (l, 0) (k : Int)).2.1 ∧ (rUint (l, 0) (k : Int)).1 = (n : Int) ∧ n < 256 ^ k := by
  by_cases hl : l.length < k
  · rw [rUint_short l k (by omega) (by omega) (by omega)] at h
    simp at h
  · unfold rUint
    rw [if_neg (by omega), Int.toNat_natCast, rTake_ok _ _ (by omega)]
    simp only
    have hlen : (l.take k).length = k := by rw [List.length_take]; omega
    have hr := beNum_range (l.take k) (hb.take k)
    rw [hlen] at hr
    refine ⟨(beNum (l.take k)).toNat, ?_, by omega, by have := hr.2; omega⟩
    have := uintForm_beNum (l.take k) (hb.take k)
    rw [hlen] at this
    rw [this, List.take_append_drop]
theorem intForm_read (n : Int) (h0 : -9223372036854775808 ≤ n) (h1 : n ≤ 9223372036854775807) (rest : List Int) : unzig (rUint (intForm n ++ rest, 0) 8).1 = n ∧ (rUint (intForm n ++ rest, 0) 8).2 = (rest, 0) := by
  have := rUint_form (zig n).toNat 8 (by omega) (by omega) rest
  have hz := zig_range n h0 h1
  unfold intForm
  rw [show (8 : Int) = ((8 : Nat) : Int) from rfl, this]
  have h256 : (256 ^ 8 : Nat) = 18446744073709551616 := by decide
  have e : (zig n).toNat % 256 ^ 8 = (zig n).toNat := Nat.mod_eq_of_lt (by omega)
  rw [e]
  refine ⟨?_, rfl⟩
  show unzig (((zig n).toNat : Nat) : Int) = n
  rw [Int.toNat_of_nonneg hz.1, unzig_zig]
theorem intForm_back (l : List Int) (hb : Byt l) (h : (rUint (l, 0) 8).2.2 = 0) : l = intForm (unzig (rUint (l, 0) 8).1) ++ (rUint (l, 0) 8).2.1 ∧ -9223372036854775808 ≤ unzig (rUint (l, 0) 8).1 ∧ unzig (rUint (l, 0) 8).1 ≤ 9223372036854775807 := by
  obtain ⟨n, e1, e2, e3⟩ := rUint_back l 8 (by omega) (by omega) hb h
  have e2' : (rUint (l, 0) 8).1 = (n : Int) := e2
  have e1' : l = uintForm n 8 ++ (rUint (l, 0) 8).2.1 := e1
  have h256 : (256 ^ 8 : Nat) = 18446744073709551616 := by decide
  rw [e2']
  refine ⟨?_, ?_, ?_⟩
  · unfold intForm
    rw [zig_unzig _ (by omega), Int.toNat_natCast]
    exact e1'
  · unfold unzig; split <;> omega
  · unfold unzig; split <;> omega
end Go.Proofs.Ytalpemoodollpaa.P
/- The reader of damperref05. -/
namespace Go.Proofs.Ytalpemoodollpaa.P
open Go.RowKit Go.Proofs.YtalpemoodollpaaW.PrintWords Go.Proofs.YtalpemoodollpaaW.PrintLast Go.Proofs.YtalpemoodollpaaW.PrintMore
set_option linter.unusedVariables false
set_option linter.unusedSimpArgs false
/-- The document's reader at g: up to the first fault it reads as s. -/
structure RR (w0 W : World) (g : Nat) (s : List Int × Int) : Prop where
  ex : ∃ (l : List Int) (A : Option Addr) (c : Nat), W.heap[g]? = some (.cells #[.slice A l.length c, .int .i64 s.2] 152 (0, 0)) ∧ l.length ≤ c ∧ Kd.C (Kd.int .u8) w0 A l.length l ∧ Byt l ∧ l.length ≤ 140737488355328 ∧ (s.2 = 0 → l = s.1)
  bel : Below w0.heap.size w0 W
  hg : w0.heap.size ≤ g
theorem RR.below {w0 W W1 : World} {g : Nat} {s : List Int × Int} (h : RR w0 W g s) (hb : Below W.heap.size W W1) : RR w0 W1 g s := by
  obtain ⟨⟨l, A, c, h1, h2⟩, hB, hg⟩ := h
  exact ⟨⟨l, A, c, (hb.block _ (blk_lt h1)).trans h1, h2⟩, below_then hB hB.size hb, hg⟩
theorem RR.set {w0 W : World} {g : Nat} {s : List Int × Int} (h : RR w0 W g s) {b j : Nat} (h0 : w0.heap.size ≤ b) (hb : b ≠ g) (u : Value) : RR w0 (W.setCell ⟨b, j, none⟩ u) g s := by
  obtain ⟨⟨l, A, c, h1, h2⟩, hB, hg⟩ := h
  exact ⟨⟨l, A, c, (Below.heap_setCell W ⟨b, j, none⟩ u g (by show g ≠ b; omega)).trans h1, h2⟩, hB.setCell (p := ⟨b, j, none⟩) h0 u, hg⟩
/-- take, behind a fault. -/
theorem take_fault (g : Nat) (l : List Int) (A : Option Addr) (c : Nat) (f : Int) (W : World) (hb : W.heap[g]? = some (.cells #[.slice A l.length c, .int .i64 f] 152 (0, 0))) (hf : f ≠ 0) (n s z k : Int) (B : Option Addr) (m q : Nat) :
    Calls Try.prog 140 #[.pointer (some ⟨g, 0, none⟩), .agg #[.int .u64 n, .int .i64 s, .slice B m q, .int .i64 z, .int .i64 k]] W fun e w' => e = .returned (.agg #[.int .u64 0, .int .i64 0, .slice none 0 0, .int .i64 0, .int .i64 0]) ∧ Below W.heap.size W w' := by
  have hlt := blk_lt hb
  have hb1 := blk_alloc (blk_alloc hb (.cells #[.int .u64 n, .int .i64 s, .slice B m q, .int .i64 z, .int .i64 k] 81)) (.cells #[.int .u64 0, .int .i64 0, .slice none 0 0, .int .i64 0, .int .i64 0] 81)
  have c1 := (blk_cell hb1 1).trans rfl
  have HX := Aside0.mk (blk_new (W.alloc (.cells #[.int .u64 n, .int .i64 s, .slice B m q, .int .i64 z, .int .i64 k] 81)) (.cells #[.int .u64 0, .int .i64 0, .slice none 0 0, .int .i64 0, .int .i64 0] 81))
  have HB := Aside0.mk (below_alloc (below_alloc (Below.refl W.heap.size W) (.cells #[.int .u64 n, .int .i64 s, .slice B m q, .int .i64 z, .int .i64 k] 81)) (.cells #[.int .u64 0, .int .i64 0, .slice none 0 0, .int .i64 0, .int .i64 0] 81))
  have hff : (f != 0) = true := by simpa using hf
  clear hb hb1 hf
  go_enter Try.func140, Try.ntmps140
  go_wp2
  refine bodyPost_ret (results_cell_row (fn := Try.f140) (p := 4) (ty := 81) rfl _ _ (W.heap.size + 1) 81 #[.int .u64 0, .int .i64 0, .slice none 0 0, .int .i64 0, .int .i64 0] (0, 0) _ rfl ?_ Try.underlying81 rfl (by kernel_rfl)) rfl ?_
  · have := HX.out
    rw [World.size_alloc] at this
    exact this
  · exact ⟨rfl, HB.out⟩
theorem take_ok (g : Nat) (l : List Int) (A : Option Addr) (c : Nat) (W : World) (hb : W.heap[g]? = some (.cells #[.slice A l.length c, .int .i64 0] 152 (0, 0))) (n s k : Int) (z : Nat) (hz : z ≤ l.length) (hl : l.length ≤ 140737488355328) (B : Option Addr) (m q : Nat) :
    Calls Try.prog 140 #[.pointer (some ⟨g, 0, none⟩), .agg #[.int .u64 n, .int .i64 s, .slice B m q, .int .i64 (z : Int), .int .i64 k]] W fun e w' => e = .returned (.agg #[.int .u64 n, .int .i64 s, .slice B m q, .int .i64 (z : Int), .int .i64 k]) ∧
      ∃ A', A'.map (·.block) = A.map (·.block) ∧ w'.heap[g]? = some (.cells #[.slice A' (l.drop z).length (c - z), .int .i64 k] 152 (0, 0)) ∧ Fr W w' (fun k => k = g) ∧
        ∀ (w : World) (xs : List Int), l.length ≤ c → Kd.C (Kd.int .u8) w A l.length xs → Kd.C (Kd.int .u8) w A' (l.drop z).length (xs.drop z) := by
  have hlt := blk_lt hb
  have hu := Try.underlying81
  have hb0 := blk_alloc (blk_alloc hb (.cells #[.int .u64 n, .int .i64 s, .slice B m q, .int .i64 (z : Int), .int .i64 k] 81)) (.cells #[.int .u64 0, .int .i64 0, .slice none 0 0, .int .i64 0, .int .i64 0] 81)
  have c0 := (blk_cell hb0 0).trans rfl
  have c1 := (blk_cell hb0 1).trans rfl
  have z0 := blk_frozen hb0 0
  have z1 := blk_frozen hb0 1
  have hsz : (W.setCell ⟨g, 1, none⟩ (.int .i64 k)).heap.size = W.heap.size := by simp [World.setCell]
  have HB2 : Aside0 ((((W.setCell ⟨g, 1, none⟩ (.int .i64 k)).alloc (.cells #[.int .u64 n, .int .i64 s, .slice B m q, .int .i64 (z : Int), .int .i64 k] 81)).alloc (.cells #[.int .u64 0, .int .i64 0, .slice none 0 0, .int .i64 0, .int .i64 0] 81)).heap[g]? = some (.cells #[.slice A l.length c, .int .i64 k] 152 (0, 0))) := ⟨blk_alloc (blk_alloc (by simpa using blk_set hb 1 (.int .i64 k)) _) _⟩
  have HX2 : Aside0 (Box5 (((W.setCell ⟨g, 1, none⟩ (.int .i64 k)).alloc (.cells #[.int .u64 n, .int .i64 s, .slice B m q, .int .i64 (z : Int), .int .i64 k] 81)).alloc (.cells #[.int .u64 0, .int .i64 0, .slice none 0 0, .int .i64 0, .int .i64 0] 81)) W.heap.size n s (.slice B m q) z k) := ⟨blk_alloc (by have := blk_new (W.setCell ⟨g, 1, none⟩ (.int .i64 k)) (.cells #[.int .u64 n, .int .i64 s, .slice B m q, .int .i64 (z : Int), .int .i64 k] 81); rw [hsz] at this; exact this) _⟩
  have HY2 : Aside0 (Box5 (((W.setCell ⟨g, 1, none⟩ (.int .i64 k)).alloc (.cells #[.int .u64 n, .int .i64 s, .slice B m q, .int .i64 (z : Int), .int .i64 k] 81)).alloc (.cells #[.int .u64 0, .int .i64 0, .slice none 0 0, .int .i64 0, .int .i64 0] 81)) (W.heap.size + 1) 0 0 (.slice none 0 0) 0 0) := ⟨by have := blk_new ((W.setCell ⟨g, 1, none⟩ (.int .i64 k)).alloc (.cells #[.int .u64 n, .int .i64 s, .slice B m q, .int .i64 (z : Int), .int .i64 k] 81)) (.cells #[.int .u64 0, .int .i64 0, .slice none 0 0, .int .i64 0, .int .i64 0] 81); rw [World.size_alloc, hsz] at this; exact this⟩
  have HF2 : Aside0 (Fr W (((W.setCell ⟨g, 1, none⟩ (.int .i64 k)).alloc (.cells #[.int .u64 n, .int .i64 s, .slice B m q, .int .i64 (z : Int), .int .i64 k] 81)).alloc (.cells #[.int .u64 0, .int .i64 0, .slice none 0 0, .int .i64 0, .int .i64 0] 81)) (fun k => k = g)) := ⟨(((Fr.refl W (fun k => k = g)).setCell ⟨g, 1, none⟩ (.int .i64 k) (fun _ => rfl)).alloc _).alloc _⟩
  have hg : g < W.heap.size := hlt
  obtain ⟨A', hcut, hA', hR'⟩ := cut_ A l.length c z hz
  rw [← List.length_drop] at hR'
  have HCUT := Aside0.mk hR'
  have HA' := Aside0.mk hA'
  clear hA' hR' hb hb0 hsz
  go_enter Try.func140, Try.ntmps140
  go_wp2
  generalize (((W.setCell ⟨g, 1, none⟩ (.int .i64 k)).alloc (.cells #[.int .u64 n, .int .i64 s, .slice B m q, .int .i64 (z : Int), .int .i64 k] 81)).alloc (.cells #[.int .u64 0, .int .i64 0, .slice none 0 0, .int .i64 0, .int .i64 0] 81)) = W2 at *
  clear c0 c1 z0 z1
  have c0 := (blk_cell HB2.out 0).trans rfl
  have z0 := blk_frozen HB2.out 0
  obtain ⟨x0, x1, x2, x3, x4⟩ := HX2.out.cells
  obtain ⟨y0, y1, y2, y3, y4⟩ := HY2.out.cells
  have HB3 : Aside0 ((W2.setCell ⟨g, 0, none⟩ (.slice A' (l.length - z) (c - z))).drew.heap[g]? = some (.cells #[.slice A' (l.length - z) (c - z), .int .i64 k] 152 (0, 0))) := ⟨(blk_set HB2.out 0 (.slice A' (l.length - z) (c - z))).trans (by simp)⟩
  have HX3 := Aside0.mk (show Box5 (W2.setCell ⟨g, 0, none⟩ (.slice A' (l.length - z) (c - z))).drew W.heap.size n s (.slice B m q) z k from blk_far HX2.out (by show W.heap.size ≠ g; omega) _)
  have HY3 := Aside0.mk (show Box5 (W2.setCell ⟨g, 0, none⟩ (.slice A' (l.length - z) (c - z))).drew (W.heap.size + 1) 0 0 (.slice none 0 0) 0 0 from blk_far HY2.out (by show W.heap.size + 1 ≠ g; omega) _)
  have HF3 := Aside0.mk (HF2.out.setCell ⟨g, 0, none⟩ (.slice A' (l.length - z) (c - z)) (fun _ => rfl)).drew
  go_region
  generalize (W2.setCell ⟨g, 0, none⟩ (.slice A' (l.length - z) (c - z))).drew = W3 at *
  clear c0 z0 x0 x1 x2 x3 x4 y0 y1 y2 y3 y4
  obtain ⟨x0, x1, x2, x3, x4⟩ := HX3.out.cells
  obtain ⟨y0, y1, y2, y3, y4⟩ := HY3.out.cells
  have u0 := blk_frozen HY3.out 0
  have u1 := blk_frozen HY3.out 1
  have u2 := blk_frozen HY3.out 2
  have u3 := blk_frozen HY3.out 3
  have u4 := blk_frozen HY3.out 4
  have HY4 := Aside0.mk (HY3.out.set5 n s (z : Int) k (.slice B m q))
  have HF4 := Aside0.mk (HF3.out.far5 (b := W.heap.size + 1) (by omega) n s (z : Int) k (.slice B m q))
  have HB4 := Aside0.mk (blk_far (blk_far (blk_far (blk_far (blk_far HB3.out (p := ⟨W.heap.size + 1, 0, none⟩) (by show g ≠ W.heap.size + 1; omega) (.int .u64 n)) (p := ⟨W.heap.size + 1, 1, none⟩) (by show g ≠ W.heap.size + 1; omega) (.int .i64 s)) (p := ⟨W.heap.size + 1, 2, none⟩) (by show g ≠ W.heap.size + 1; omega) (.slice B m q)) (p := ⟨W.heap.size + 1, 3, none⟩) (by show g ≠ W.heap.size + 1; omega) (.int .i64 (z : Int))) (p := ⟨W.heap.size + 1, 4, none⟩) (by show g ≠ W.heap.size + 1; omega) (.int .i64 k))
  go_wp2
  refine bodyPost_ret (results_cell_row (fn := Try.f140) (p := 4) (ty := 81) rfl _ _ (W.heap.size + 1) 81 #[.int .u64 n, .int .i64 s, .slice B m q, .int .i64 (z : Int), .int .i64 k] (0, 0) _ rfl HY4.out Try.underlying81 rfl (by kernel_rfl)) rfl ?_
  refine ⟨rfl, A', HA'.out, ?_, HF4.out, HCUT.out⟩
  rw [List.length_drop]
  exact HB4.out
/-- RR: the calls. -/
theorem rUint_f (l : List Int) (f : Int) (hf : f ≠ 0) (k : Int) : rUint (l, f) k = (0, (l, f)) := by
  unfold rUint
  rw [rTake_f l f hf]
  split <;> rfl
theorem rNum_f (l : List Int) (f : Int) (hf : f ≠ 0) : rNum (l, f) = (0, (l, f)) := by
  unfold rNum
  rw [if_pos hf]
set_option maxRecDepth 100000 in
set_option maxHeartbeats 1000000 in
theorem RR.one {w0 W : World} {g : Nat} {s : List Int × Int} (h : RR w0 W g s) :
    Calls Try.prog 122 #[.pointer (some ⟨g, 0, none⟩)] W fun e w' => e = .returned (.int .i64 (rUint s 1).1) ∧ RR w0 w' g (rUint s 1).2 ∧ KeepG W w' g := by
  obtain ⟨s1, f⟩ := s
  obtain ⟨⟨l, A, c, hb, hlc, hC, hby, hl, hs⟩, hB, hg⟩ := h
  dsimp only at hb hs
  have c0 : W.cell? ⟨g, 0, none⟩ = some (.slice A l.length c) := (blk_cell hb 0).trans rfl
  have HRD := Aside0.mk (RD.uint A c l 1 W (Kd.C_below hC hB) hlc hby)
  have HB0 := Aside0.mk hb
  have HC := Aside0.mk hC
  have HBY := Aside0.mk hby
  have HB := Aside0.mk hB
  have HLC := Aside0.mk hlc
  have HG := Aside0.mk hg
  have HL := Aside0.mk hl
  by_cases hf : f = 0
  · subst hf
    obtain rfl := hs rfl
    have HG0 := got_read l ⟨1, 1, 0, 0, []⟩
    rw [show gotF (l, 0) ⟨1, 1, 0, 0, []⟩ = ((rUint (l, 0) 1).1, 0, [], (rUint (l, 0) 1).2) from rfl, show readF l ⟨1, 1, 0, 0, []⟩ = rdUint l 1 from rfl] at HG0
    obtain ⟨hv, hw, _, hfe, hz0, hz1, hd⟩ := HG0
    have HRG := rUint1_range (l, 0) hby
    have HRS := Aside0.mk HRG
    clear HRG hb hC hby hB hlc hg hl
    try dsimp only at *
    generalize rUint (l, 0) 1 = P at *
    generalize rdUint l 1 = T at *
    obtain ⟨pn, pl, pf⟩ := P
    obtain ⟨n, sg, raw, z, k⟩ := T
    try dsimp only at *
    obtain ⟨z, rfl⟩ := Int.eq_ofNat_of_zero_le hz0
    have HZ := Aside0.mk (show z ≤ l.length by omega)
    have HD := Aside0.mk hd
    obtain rfl := hv
    obtain rfl := hfe
    have hr0 := HRS.out.1
    have hr1 := HRS.out.2
    clear hd hz0 hz1
    go_enter Try.func122, Try.ntmps122
    go_wp2_with fail
    refine HRD.out.mono ?_
    rintro e w1 ⟨B, m, rfl, hq, hBA, hb1⟩
    have HB1 := Aside0.mk (show w1.heap[g]? = some (.cells #[.slice A l.length c, .int .i64 0] 152 (0, 0)) from (hb1.block _ (blk_lt HB0.out)).trans HB0.out)
    have HL1 := Aside0.mk hb1
    clear hq hBA hb1 c0
    have hfd : ∀ w : World, (Instr.field 81 (.agg #[.int .u64 pn, .int .i64 sg, .slice B raw.length m, .int .i64 (z : Int), .int .i64 pf]) 0).run Try.prog w = .ok (.int .u64 pn) w := fun _ => by kernel_rfl
    dsimp only
    go_wp2_with fail
    refine (take_ok g l A c w1 HB1.out _ _ _ z HZ.out HL.out B _ m).mono ?_
    rintro e w2 ⟨rfl, A', hA', hb2, hf2, hC2⟩
    have HB2 := Aside0.mk hb2
    have HF2 := Aside0.mk hf2
    have HC2 := Aside0.mk (hC2 w0 l HLC.out HC.out)
    clear hb2 hf2 hC2 hA'
    go_wp2
    go_ret
    refine ⟨rfl, ⟨⟨l.drop z, A', c - z, HB2.out, by have := HLC.out; rw [List.length_drop]; omega, HC2.out, HBY.out.drop z, by have := HL.out; rw [List.length_drop]; omega, fun h => (HD.out h).symm⟩, (below_then HB.out HB.out.size HL1.out).trans (HF2.out.below (Nat.le_trans HB.out.size HL1.out.size) (fun k hk => by rw [hk]; exact HG.out)), HG.out⟩, fun b o h hne => HF2.out.blk ((HL1.out.block _ (blk_lt h)).trans h) hne⟩
  · have hr : rUint (s1, f) 1 = (0, (s1, f)) := rUint_f s1 f hf 1
    rw [hr]
    have HF := Aside0.mk hf
    have HSS := Aside0.mk hs
    clear hr hb hC hby hB hlc hg hl hf hs
    generalize rdUint l 1 = T at *
    obtain ⟨n, sg, raw, z, k⟩ := T
    go_enter Try.func122, Try.ntmps122
    go_wp2_with fail
    refine HRD.out.mono ?_
    rintro e w1 ⟨B, m, rfl, hq, hBA, hb1⟩
    have HB1 := Aside0.mk (show w1.heap[g]? = some (.cells #[.slice A l.length c, .int .i64 f] 152 (0, 0)) from (hb1.block _ (blk_lt HB0.out)).trans HB0.out)
    have HL1 := Aside0.mk hb1
    clear hq hBA hb1 c0
    have hfd : ∀ w : World, (Instr.field 81 (.agg #[.int .u64 0, .int .i64 0, .slice none 0 0, .int .i64 0, .int .i64 0]) 0).run Try.prog w = .ok (.int .u64 0) w := fun _ => by kernel_rfl
    dsimp only
    go_wp2_with fail
    refine (take_fault g l A c f w1 HB1.out HF.out _ _ _ _ B _ m).mono ?_
    rintro e w2 ⟨rfl, hb2⟩
    have HL2 := Aside0.mk (Below.trans HL1.out (Below.mono hb2 HL1.out.size))
    clear hb2
    go_wp2
    go_ret
    exact ⟨rfl, ⟨⟨l, A, c, (HL2.out.block _ (blk_lt HB0.out)).trans HB0.out, HLC.out, HC.out, HBY.out, HL.out, HSS.out⟩, below_then HB.out HB.out.size HL2.out, HG.out⟩, fun b o h hne => (HL2.out.block _ (blk_lt h)).trans h⟩
set_option maxRecDepth 100000 in
set_option maxHeartbeats 1000000 in
theorem RR.num {w0 W : World} {g : Nat} {s : List Int × Int} (h : RR w0 W g s) :
    Calls Try.prog 123 #[.pointer (some ⟨g, 0, none⟩)] W fun e w' => e = .returned (.int .u64 (rNum s).1) ∧ RR w0 w' g (rNum s).2 ∧ KeepG W w' g := by
  obtain ⟨s1, f⟩ := s
  obtain ⟨⟨l, A, c, hb, hlc, hC, hby, hl, hs⟩, hB, hg⟩ := h
  dsimp only at hb hs
  have c0 : W.cell? ⟨g, 0, none⟩ = some (.slice A l.length c) := (blk_cell hb 0).trans rfl
  have HRD := Aside0.mk (RD.num A c l W (Kd.C_below hC hB) hlc hby hl)
  have HB0 := Aside0.mk hb
  have HC := Aside0.mk hC
  have HBY := Aside0.mk hby
  have HB := Aside0.mk hB
  have HLC := Aside0.mk hlc
  have HG := Aside0.mk hg
  have HL := Aside0.mk hl
  by_cases hf : f = 0
  · subst hf
    obtain rfl := hs rfl
    have HG0 := got_read l ⟨3, 0, 0, 0, []⟩
    rw [show gotF (l, 0) ⟨3, 0, 0, 0, []⟩ = ((rNum (l, 0)).1, 0, [], (rNum (l, 0)).2) from rfl, show readF l ⟨3, 0, 0, 0, []⟩ = fin3 l (numGo 10 0 0 l) from rfl] at HG0
    obtain ⟨hv, hw, _, hfe, hz0, hz1, hd⟩ := HG0
    have HRG := rNum_range (l, 0) hby
    have HRS := Aside0.mk HRG
    clear HRG hb hC hby hB hlc hg hl
    try dsimp only at *
    generalize rNum (l, 0) = P at *
    generalize fin3 l (numGo 10 0 0 l) = T at *
    obtain ⟨pn, pl, pf⟩ := P
    obtain ⟨n, sg, raw, z, k⟩ := T
    try dsimp only at *
    obtain ⟨z, rfl⟩ := Int.eq_ofNat_of_zero_le hz0
    have HZ := Aside0.mk (show z ≤ l.length by omega)
    have HD := Aside0.mk hd
    obtain rfl := hv
    obtain rfl := hfe
    clear hd hz0 hz1
    go_enter Try.func123, Try.ntmps123
    go_wp2_with fail
    refine HRD.out.mono ?_
    rintro e w1 ⟨B, m, rfl, hq, hBA, hb1⟩
    have HB1 := Aside0.mk (show w1.heap[g]? = some (.cells #[.slice A l.length c, .int .i64 0] 152 (0, 0)) from (hb1.block _ (blk_lt HB0.out)).trans HB0.out)
    have HL1 := Aside0.mk hb1
    clear hq hBA hb1 c0
    have hfd : ∀ w : World, (Instr.field 81 (.agg #[.int .u64 pn, .int .i64 sg, .slice B raw.length m, .int .i64 (z : Int), .int .i64 pf]) 0).run Try.prog w = .ok (.int .u64 pn) w := fun _ => by kernel_rfl
    dsimp only
    go_wp2_with fail
    refine (take_ok g l A c w1 HB1.out _ _ _ z HZ.out HL.out B _ m).mono ?_
    rintro e w2 ⟨rfl, A', hA', hb2, hf2, hC2⟩
    have HB2 := Aside0.mk hb2
    have HF2 := Aside0.mk hf2
    have HC2 := Aside0.mk (hC2 w0 l HLC.out HC.out)
    clear hb2 hf2 hC2 hA'
    go_wp2
    go_ret
    refine ⟨rfl, ⟨⟨l.drop z, A', c - z, HB2.out, by have := HLC.out; rw [List.length_drop]; omega, HC2.out, HBY.out.drop z, by have := HL.out; rw [List.length_drop]; omega, fun h => (HD.out h).symm⟩, (below_then HB.out HB.out.size HL1.out).trans (HF2.out.below (Nat.le_trans HB.out.size HL1.out.size) (fun k hk => by rw [hk]; exact HG.out)), HG.out⟩, fun b o h hne => HF2.out.blk ((HL1.out.block _ (blk_lt h)).trans h) hne⟩
  · have hr : rNum (s1, f) = (0, (s1, f)) := rNum_f s1 f hf
    rw [hr]
    have HF := Aside0.mk hf
    have HSS := Aside0.mk hs
    clear hr hb hC hby hB hlc hg hl hf hs
    generalize fin3 l (numGo 10 0 0 l) = T at *
    obtain ⟨n, sg, raw, z, k⟩ := T
    go_enter Try.func123, Try.ntmps123
    go_wp2_with fail
    refine HRD.out.mono ?_
    rintro e w1 ⟨B, m, rfl, hq, hBA, hb1⟩
    have HB1 := Aside0.mk (show w1.heap[g]? = some (.cells #[.slice A l.length c, .int .i64 f] 152 (0, 0)) from (hb1.block _ (blk_lt HB0.out)).trans HB0.out)
    have HL1 := Aside0.mk hb1
    clear hq hBA hb1 c0
    have hfd : ∀ w : World, (Instr.field 81 (.agg #[.int .u64 0, .int .i64 0, .slice none 0 0, .int .i64 0, .int .i64 0]) 0).run Try.prog w = .ok (.int .u64 0) w := fun _ => by kernel_rfl
    dsimp only
    go_wp2_with fail
    refine (take_fault g l A c f w1 HB1.out HF.out _ _ _ _ B _ m).mono ?_
    rintro e w2 ⟨rfl, hb2⟩
    have HL2 := Aside0.mk (Below.trans HL1.out (Below.mono hb2 HL1.out.size))
    clear hb2
    go_wp2
    go_ret
    exact ⟨rfl, ⟨⟨l, A, c, (HL2.out.block _ (blk_lt HB0.out)).trans HB0.out, HLC.out, HC.out, HBY.out, HL.out, HSS.out⟩, below_then HB.out HB.out.size HL2.out, HG.out⟩, fun b o h hne => (HL2.out.block _ (blk_lt h)).trans h⟩
set_option maxRecDepth 100000 in
set_option maxHeartbeats 1000000 in
theorem RR.int {w0 W : World} {g : Nat} {s : List Int × Int} (h : RR w0 W g s) :
    Calls Try.prog 124 #[.pointer (some ⟨g, 0, none⟩)] W fun e w' => e = .returned (.int .i64 (unzig (rUint s 8).1)) ∧ RR w0 w' g (rUint s 8).2 ∧ KeepG W w' g := by
  obtain ⟨s1, f⟩ := s
  obtain ⟨⟨l, A, c, hb, hlc, hC, hby, hl, hs⟩, hB, hg⟩ := h
  dsimp only at hb hs
  have c0 : W.cell? ⟨g, 0, none⟩ = some (.slice A l.length c) := (blk_cell hb 0).trans rfl
  have HRD := Aside0.mk (RD.int A c l W (Kd.C_below hC hB) hlc hby)
  have HB0 := Aside0.mk hb
  have HC := Aside0.mk hC
  have HBY := Aside0.mk hby
  have HB := Aside0.mk hB
  have HLC := Aside0.mk hlc
  have HG := Aside0.mk hg
  have HL := Aside0.mk hl
  by_cases hf : f = 0
  · subst hf
    obtain rfl := hs rfl
    have HG0 := got_read l ⟨2, 0, 0, 0, []⟩
    rw [show gotF (l, 0) ⟨2, 0, 0, 0, []⟩ = (0, unzig (rUint (l, 0) 8).1, [], (rUint (l, 0) 8).2) from rfl, show readF l ⟨2, 0, 0, 0, []⟩ = rdInt l from rfl] at HG0
    obtain ⟨hv, hw, _, hfe, hz0, hz1, hd⟩ := HG0
    have HRG := rUint_range (l, 0) 8 hby
    have HRS := Aside0.mk HRG
    clear HRG hb hC hby hB hlc hg hl
    try dsimp only at *
    generalize rUint (l, 0) 8 = P at *
    generalize rdInt l = T at *
    obtain ⟨pn, pl, pf⟩ := P
    obtain ⟨n, sg, raw, z, k⟩ := T
    try dsimp only at *
    obtain ⟨z, rfl⟩ := Int.eq_ofNat_of_zero_le hz0
    have HZ := Aside0.mk (show z ≤ l.length by omega)
    have HD := Aside0.mk hd
    obtain rfl := hw
    obtain rfl := hfe
    clear hd hz0 hz1
    go_enter Try.func124, Try.ntmps124
    go_wp2_with fail
    refine HRD.out.mono ?_
    rintro e w1 ⟨B, m, rfl, hq, hBA, hb1⟩
    have HB1 := Aside0.mk (show w1.heap[g]? = some (.cells #[.slice A l.length c, .int .i64 0] 152 (0, 0)) from (hb1.block _ (blk_lt HB0.out)).trans HB0.out)
    have HL1 := Aside0.mk hb1
    clear hq hBA hb1 c0
    have hfd : ∀ w : World, (Instr.field 81 (.agg #[.int .u64 n, .int .i64 (unzig pn), .slice B raw.length m, .int .i64 (z : Int), .int .i64 pf]) 1).run Try.prog w = .ok (.int .i64 (unzig pn)) w := fun _ => by kernel_rfl
    dsimp only
    go_wp2_with fail
    refine (take_ok g l A c w1 HB1.out _ _ _ z HZ.out HL.out B _ m).mono ?_
    rintro e w2 ⟨rfl, A', hA', hb2, hf2, hC2⟩
    have HB2 := Aside0.mk hb2
    have HF2 := Aside0.mk hf2
    have HC2 := Aside0.mk (hC2 w0 l HLC.out HC.out)
    clear hb2 hf2 hC2 hA'
    go_wp2
    go_ret
    refine ⟨rfl, ⟨⟨l.drop z, A', c - z, HB2.out, by have := HLC.out; rw [List.length_drop]; omega, HC2.out, HBY.out.drop z, by have := HL.out; rw [List.length_drop]; omega, fun h => (HD.out h).symm⟩, (below_then HB.out HB.out.size HL1.out).trans (HF2.out.below (Nat.le_trans HB.out.size HL1.out.size) (fun k hk => by rw [hk]; exact HG.out)), HG.out⟩, fun b o h hne => HF2.out.blk ((HL1.out.block _ (blk_lt h)).trans h) hne⟩
  · have hr : rUint (s1, f) 8 = (0, (s1, f)) := rUint_f s1 f hf 8
    rw [hr]
    have HF := Aside0.mk hf
    have HSS := Aside0.mk hs
    clear hr hb hC hby hB hlc hg hl hf hs
    generalize rdInt l = T at *
    obtain ⟨n, sg, raw, z, k⟩ := T
    go_enter Try.func124, Try.ntmps124
    go_wp2_with fail
    refine HRD.out.mono ?_
    rintro e w1 ⟨B, m, rfl, hq, hBA, hb1⟩
    have HB1 := Aside0.mk (show w1.heap[g]? = some (.cells #[.slice A l.length c, .int .i64 f] 152 (0, 0)) from (hb1.block _ (blk_lt HB0.out)).trans HB0.out)
    have HL1 := Aside0.mk hb1
    clear hq hBA hb1 c0
    have hfd : ∀ w : World, (Instr.field 81 (.agg #[.int .u64 0, .int .i64 0, .slice none 0 0, .int .i64 0, .int .i64 0]) 1).run Try.prog w = .ok (.int .i64 0) w := fun _ => by kernel_rfl
    dsimp only
    go_wp2_with fail
    refine (take_fault g l A c f w1 HB1.out HF.out _ _ _ _ B _ m).mono ?_
    rintro e w2 ⟨rfl, hb2⟩
    have HL2 := Aside0.mk (Below.trans HL1.out (Below.mono hb2 HL1.out.size))
    clear hb2
    go_wp2
    go_ret
    exact ⟨by show Ending.returned (.int .i64 0) = Ending.returned (.int .i64 (unzig 0)); rw [show unzig 0 = 0 by decide], ⟨⟨l, A, c, (HL2.out.block _ (blk_lt HB0.out)).trans HB0.out, HLC.out, HC.out, HBY.out, HL.out, HSS.out⟩, below_then HB.out HB.out.size HL2.out, HG.out⟩, fun b o h hne => (HL2.out.block _ (blk_lt h)).trans h⟩
end Go.Proofs.Ytalpemoodollpaa.P
/- Tokens: what is put, one behind the other, and read again. -/
namespace Go.Proofs.Ytalpemoodollpaa.P
open Go.RowKit Go.Proofs.YtalpemoodollpaaW.PrintWords Go.Proofs.YtalpemoodollpaaW.PrintLast Go.Proofs.YtalpemoodollpaaW.PrintMore
set_option linter.unusedVariables false
set_option linter.unusedSimpArgs false
inductive Tok where
  | one (x : Int)
  | num (n : Int)
  | int (n : Int)
namespace Tok
def form : Tok → List Int
  | one x => [x]
  | num n => numForm n.toNat
  | int n => intForm n
def next : Tok → List Int × Int → List Int × Int
  | one _, s => (rUint s 1).2
  | num _, s => (rNum s).2
  | int _, s => (rUint s 8).2
def ok : Tok → Prop
  | one _ => True
  | num n => 0 ≤ n ∧ n < 18446744073709551616
  | int n => -9223372036854775808 ≤ n ∧ n ≤ 9223372036854775807
end Tok
def flat (ts : List Tok) : List Int := ts.flatMap Tok.form
theorem flat_cons (t : Tok) (ts : List Tok) : flat (t :: ts) = t.form ++ flat ts := rfl
/-- A state that has too few bytes for these. -/
def Sh (ts : List Tok) (s : List Int × Int) : Prop := s.2 = 3 ∨ (s.2 = 0 ∧ ∃ m, m < (flat ts).length ∧ s.1 = (flat ts).take m)
theorem rUint_f' (s : List Int × Int) (hf : s.2 ≠ 0) (k : Int) : rUint s k = (0, s) := rUint_f s.1 s.2 hf k
theorem rNum_f' (s : List Int × Int) (hf : s.2 ≠ 0) : rNum s = (0, s) := rNum_f s.1 s.2 hf
theorem next_f (t : Tok) (s : List Int × Int) (hf : s.2 ≠ 0) : t.next s = s := by
  cases t
  · show (rUint s 1).2 = s; rw [rUint_f' s hf]
  · show (rNum s).2 = s; rw [rNum_f' s hf]
  · show (rUint s 8).2 = s; rw [rUint_f' s hf]
theorem rUint_byte (x : Int) (t : List Int) : rUint (x :: t, 0) 1 = (x, (t, 0)) := by
  unfold rUint
  rw [if_neg (by decide), show (1 : Int).toNat = 1 from rfl, rTake_one]
  simp [beNum]
theorem next_full (t : Tok) (h : t.ok) (rest : List Int) : t.next (t.form ++ rest, 0) = (rest, 0) := by
  cases t with
  | one x => show (rUint (x :: rest, 0) 1).2 = _; rw [rUint_byte]
  | num n =>
    show (rNum (numForm n.toNat ++ rest, 0)).2 = _
    have h1 := h.1
    have h2 := h.2
    rw [rNum_form n.toNat (by omega)]
  | int n => exact (intForm_read n h.1 h.2 rest).2
theorem next_short (t : Tok) (h : t.ok) (l : List Int) (m : Nat) (hm : m < t.form.length) (hl : l = t.form.take m) : (t.next (l, 0)).2 = 3 := by
  subst hl
  cases t with
  | one x =>
    have : m = 0 := by simp [Tok.form] at hm; omega
    subst this
    rfl
  | num n =>
    have h1 := h.1
    have h2 := h.2
    exact rNum_short n.toNat m (by omega) hm
  | int n =>
    show (rUint _ 8).2.2 = 3
    have hlen : ((intForm n).take m).length < 8 := by rw [List.length_take, intForm_length]; have : m < (intForm n).length := hm; rw [intForm_length] at this; omega
    rw [rUint_short _ 8 (by decide) (by decide) (by show (((intForm n).take m).length : Int) < 8; omega)]
theorem Sh.step {t : Tok} {ts : List Tok} {s : List Int × Int} (h : Sh (t :: ts) s) (hok : t.ok) : Sh ts (t.next s) := by
  obtain ⟨l, f⟩ := s
  rcases h with h | ⟨h, m, hm, hl⟩
  · have h' : f = 3 := h
    left
    rw [next_f t (l, f) (by show f ≠ 0; omega)]
    exact h'
  · have h' : f = 0 := h
    subst h'
    have hl : l = (flat (t :: ts)).take m := hl
    rw [flat_cons] at hm hl
    by_cases hmt : m < t.form.length
    · left
      refine next_short t hok l m hmt ?_
      rw [hl, List.take_append_of_le_length (by omega)]
    · right
      have e : l = t.form ++ (flat ts).take (m - t.form.length) := by
        rw [hl, List.take_append, List.take_of_length_le (by omega)]
      rw [e, next_full t hok]
      exact ⟨rfl, m - t.form.length, by rw [List.length_append] at hm; omega, rfl⟩
theorem Sh.nil {s : List Int × Int} (h : Sh [] s) : s.2 = 3 := by
  rcases h with h | ⟨_, m, hm, _⟩
  · exact h
  · simp [flat] at hm
theorem Sh.start (ts : List Tok) (m : Nat) (hm : m < (flat ts).length) : Sh ts ((flat ts).take m, 0) := .inr ⟨rfl, m, hm, rfl⟩
/-- A fault stays. -/
theorem keep_uint {s : List Int × Int} {k : Int} (h : (rUint s k).2.2 = 0) : s.2 = 0 := by
  apply Classical.byContradiction
  intro hf
  rw [rUint_f' s hf] at h
  exact hf h
theorem keep_num {s : List Int × Int} (h : (rNum s).2.2 = 0) : s.2 = 0 := by
  apply Classical.byContradiction
  intro hf
  rw [rNum_f' s hf] at h
  exact hf h
theorem byte_back {s : List Int × Int} (hb : Byt s.1) (h : (rUint s 1).2.2 = 0) : s.1 = (rUint s 1).1 :: (rUint s 1).2.1 := by
  obtain ⟨l, f⟩ := s
  obtain rfl : f = 0 := keep_uint h
  cases l with
  | nil => exact absurd h (by decide)
  | cons x t => rw [rUint_byte]
theorem num_back {s : List Int × Int} (hb : Byt s.1) (h : (rNum s).2.2 = 0) : s.1 = numForm (rNum s).1.toNat ++ (rNum s).2.1 := by
  obtain ⟨l, f⟩ := s
  obtain rfl : f = 0 := keep_num h
  obtain ⟨n, e1, e2, e3⟩ := rNum_back l hb h
  rw [e2, Int.toNat_natCast]
  exact e1
theorem int_back {s : List Int × Int} (hb : Byt s.1) (h : (rUint s 8).2.2 = 0) : s.1 = intForm (unzig (rUint s 8).1) ++ (rUint s 8).2.1 := by
  obtain ⟨l, f⟩ := s
  obtain rfl : f = 0 := keep_uint h
  exact (intForm_back l hb h).1
end Go.Proofs.Ytalpemoodollpaa.P
-- Printed by hookprint.py (the session's own program, over the kit's print.py): checked by Lean like any text.
namespace Go.Proofs.Ytalpemoodollpaa.P
open Go.RowKit Go.Proofs.YtalpemoodollpaaW.PrintWords Go.Proofs.YtalpemoodollpaaW.PrintLast Go.Proofs.YtalpemoodollpaaW.PrintMore
attribute [local go_sem] max2_int min2_int max_two min_two max_three min_three max_four min_four   -- for this text's walks alone
set_option linter.unusedVariables false
set_option linter.unusedSimpArgs false

/-! ### damperref05_in: function 130 -/
def damperref05_in.f (a0 : Int) (a1 : Int) (a2 : Int) : Option (Bool) := if a0 ≥ a1 then (some (decide (a0 ≤ a2))) else (some false)
set_option maxHeartbeats 8000000 in
set_option maxRecDepth 100000 in
theorem damperref05_in.calls (a0 : Int) (a1 : Int) (a2 : Int) (r : Bool) (w : World) (h : damperref05_in.f a0 a1 a2 = some r) :
    Calls Try.prog 130 #[.int .i64 a0, .int .i64 a1, .int .i64 a2] w fun e w' => e = .returned (.bool r) ∧ Drawn0 w w' := by
  have H : (if a0 ≥ a1 then (some (decide (a0 ≤ a2))) else (some false)) = some r := h
  clear h
  by_cases c4 : a0 ≥ a1
  · rw [if_pos c4] at H
    have c4b0 : decide (a1 ≤ a0) = true := decide_eq_true c4
    clear c4
    obtain rfl := Option.some.inj H
    go_enter Try.func130, Try.ntmps130
    go_wp2
    go_ret
    exact ⟨by first | rfl | (simp; done) | (simp [*]; done), by repeat (first | exact Drawn0.refl _ | apply Drawn0.step)⟩
  · rw [if_neg c4] at H
    have c4b0 : decide (a1 ≤ a0) = false := decide_eq_false c4
    clear c4
    obtain rfl := Option.some.inj H
    go_enter Try.func130, Try.ntmps130
    go_wp2
    go_ret
    exact ⟨by first | rfl | (simp; done) | (simp [*]; done), by repeat (first | exact Drawn0.refl _ | apply Drawn0.step)⟩

end Go.Proofs.Ytalpemoodollpaa.P
-- Printed by hookprint.py (the session's own program, over the kit's print.py): checked by Lean like any text.
namespace Go.Proofs.Ytalpemoodollpaa.P
open Go.RowKit Go.Proofs.YtalpemoodollpaaW.PrintWords Go.Proofs.YtalpemoodollpaaW.PrintLast Go.Proofs.YtalpemoodollpaaW.PrintMore
attribute [local go_sem] max2_int min2_int max_two min_two max_three min_three max_four min_four   -- for this text's walks alone
set_option linter.unusedVariables false
set_option linter.unusedSimpArgs false

attribute [local go_sem high] eqA95
/-! ### damperref05_Right: function 90 -/
def damperref05_Right.j0 : Nat → Bool → Int → Int → Int → Int → Int → Int → Int → Int → Int → Option (Bool)
  | 0, _, _, _, _, _, _, _, _, _, _ => none
  | k + 1, x12, x521000, x521001, x521002, x521003, x521004, x521005, x521006, x521007, x521008 => if x12 = true then (some false) else (if x521000 = 1 then ((damperref05_in.f x521003 0 1073741824).bind fun t523 => (if t523 = true then ((damperref05_in.f x521004 0 1).bind fun t524 => (if t524 = true then ((damperref05_in.f x521005 1 5).bind fun t525 => (if t525 = true then ((damperref05_in.f x521008 0 7).bind fun t526 => (some t526)) else (some false))) else (some false))) else (some false))) else (if x521000 = 2 then (some (x521000 == 2 && (x521003 == 0 && (x521004 == 0 && (x521005 == 0 && (x521006 == 0 && (x521007 == 0 && (x521008 == 0)))))))) else (if x521000 = 3 then (some (x521000 == 3 && (x521003 == 0 && (x521004 == 0 && (x521005 == 0 && (x521008 == 0)))))) else (some false))))
def damperref05_Right.f (k : Nat) (a0_0 : Int) (a0_1 : Int) (a0_2 : Int) (a0_3 : Int) (a0_4 : Int) (a0_5 : Int) (a0_6 : Int) (a0_7 : Int) (a0_8 : Int) : Option (Bool) := (damperref05_in.f a0_1 0 255).bind fun t521 => (if t521 = true then ((damperref05_in.f a0_2 0 4611686018427387904).bind fun t522 => (damperref05_Right.j0 k (!t522) a0_0 a0_1 a0_2 a0_3 a0_4 a0_5 a0_6 a0_7 a0_8)) else (damperref05_Right.j0 k true a0_0 a0_1 a0_2 a0_3 a0_4 a0_5 a0_6 a0_7 a0_8))
theorem damperref05_Right.mono_l : ∀ k, (∀ y0 y1 y2 y3 y4 y5 y6 y7 y8 y9, LeO (damperref05_Right.j0 k y0 y1 y2 y3 y4 y5 y6 y7 y8 y9) (damperref05_Right.j0 (k + 1) y0 y1 y2 y3 y4 y5 y6 y7 y8 y9))
  | 0 => fun _ _ _ _ _ _ _ _ _ _ r h => by simp [damperref05_Right.j0] at h
  | k + 1 => by
    have ih0 := damperref05_Right.mono_l k
    · intro y0 y1 y2 y3 y4 y5 y6 y7 y8 y9
      unfold damperref05_Right.j0
      repeat' first
      | (with_reducible exact ih0 _ _ _ _ _ _ _ _ _ _)
      | (with_reducible exact LeO.refl _)
      | (with_reducible exact LeO.none _)
      | (with_reducible refine LeO.ite ?_ ?_)
      | (with_reducible refine LeO.bind ?_ (fun _ => ?_))
      | exact ih0 _ _ _ _ _ _ _ _ _ _
      | exact LeO.none _
      | refine LeO.ite ?_ ?_
      | refine LeO.bind ?_ (fun _ => ?_)
theorem damperref05_Right.mono : ∀ a0 a1 a2 a3 a4 a5 a6 a7 a8 k, LeO (damperref05_Right.f k a0 a1 a2 a3 a4 a5 a6 a7 a8) (damperref05_Right.f (k + 1) a0 a1 a2 a3 a4 a5 a6 a7 a8) := by
  intro a0 a1 a2 a3 a4 a5 a6 a7 a8 k
  have ih0 := damperref05_Right.mono_l k
  unfold damperref05_Right.f
  repeat' first
      | (with_reducible exact ih0 _ _ _ _ _ _ _ _ _ _)
      | (with_reducible exact LeO.refl _)
      | (with_reducible exact LeO.none _)
      | (with_reducible refine LeO.ite ?_ ?_)
      | (with_reducible refine LeO.bind ?_ (fun _ => ?_))
      | exact ih0 _ _ _ _ _ _ _ _ _ _
      | exact LeO.none _
      | refine LeO.ite ?_ ?_
      | refine LeO.bind ?_ (fun _ => ?_)
set_option maxHeartbeats 8000000 in
set_option maxRecDepth 100000 in
theorem damperref05_Right.calls (k : Nat) (a0_0 : Int) (a0_1 : Int) (a0_2 : Int) (a0_3 : Int) (a0_4 : Int) (a0_5 : Int) (a0_6 : Int) (a0_7 : Int) (a0_8 : Int) (r : Bool) (w : World) (h : damperref05_Right.f k a0_0 a0_1 a0_2 a0_3 a0_4 a0_5 a0_6 a0_7 a0_8 = some r) :
    Calls Try.prog 90 #[.agg #[.int .i64 a0_0, .int .i64 a0_1, .int .i64 a0_2, .int .i64 a0_3, .int .i64 a0_4, .int .i64 a0_5, .int .i64 a0_6, .int .i64 a0_7, .int .i64 a0_8]] w fun e w' => e = .returned (.bool r) ∧ Below w.heap.size w w' := by
  have hu95 := Try.underlying95
  have HB := Aside0.mk (Below.refl w.heap.size w)
  have H : ((damperref05_in.f a0_1 0 255).bind fun t521 => (if t521 = true then ((damperref05_in.f a0_2 0 4611686018427387904).bind fun t522 => (damperref05_Right.j0 k (!t522) a0_0 a0_1 a0_2 a0_3 a0_4 a0_5 a0_6 a0_7 a0_8)) else (damperref05_Right.j0 k true a0_0 a0_1 a0_2 a0_3 a0_4 a0_5 a0_6 a0_7 a0_8))) = some r := h
  clear h
  have HC2 := Aside0.mk H
  clear H
  go_enter Try.func90, Try.ntmps90
  go_upto_region 1 with (first | ((with_reducible refine gate_dst (N := 1) rfl ?_); refine box_event ?hg (N := 1) ?hd (cs := #[.int .i64 a0_0, .int .i64 a0_1, .int .i64 a0_2, .int .i64 a0_3, .int .i64 a0_4, .int .i64 a0_5, .int .i64 a0_6, .int .i64 a0_7, .int .i64 a0_8]) (t := 95) ?hr ?_; (case hd => rfl); (case hg => rfl); (case hr => first | (go_simp; done) | (go_simp; rfl)); intro gb520 hg w3 hbox hb; have n0_ := Aside0.mk (below_step (by repeat (first | (with_reducible first | exact HB.out | apply below_alloc | apply pw_below_drewN | apply below_drew1) | exact HB.out)) hb); have n1_ := Aside0.mk (hbox); have n2_ := Aside0.mk ((by rw [hg]; exact (below_size (by repeat (first | (with_reducible first | exact HB.out | apply below_alloc | apply pw_below_drewN | apply below_drew1) | exact HB.out))) : w.heap.size ≤ gb520)); have n3_ := Aside0.mk ((by rw [hg]; exact (below_size (by repeat (first | (with_reducible first | exact HB.out | apply below_alloc | apply pw_below_drewN | apply below_drew1) | exact HB.out))) : w.heap.size ≤ gb520)); clear HB; have HB := n0_; have BK520 := n1_; have GW520 := n2_; have GE520 := n3_; clear n0_ n1_ n2_ n3_; clear hb hbox hg))
  (try simp only [Act.put, List.setIfInBounds_toArray, List.set_cons_zero, List.set_cons_succ])
  go_cut [12] (fun v12 wc => ∃ (kq : Nat) (x12_1 : Bool), v12 = .bool x12_1 ∧ Aside0 (damperref05_Right.j0 kq x12_1 a0_0 a0_1 a0_2 a0_3 a0_4 a0_5 a0_6 a0_7 a0_8 = some r) ∧ Aside0 (kq ≤ k) ∧ Aside0 (wc.heap[gb520]? = some (.cells #[.int .i64 a0_0, .int .i64 a0_1, .int .i64 a0_2, .int .i64 a0_3, .int .i64 a0_4, .int .i64 a0_5, .int .i64 a0_6, .int .i64 a0_7, .int .i64 a0_8] 95 (0, 0))) ∧ Aside0 (Below w.heap.size w wc))
  case first =>
    have H := HC2.out
    clear HC2
    replace H := Option.bind_eq_some_iff.mp H
    obtain ⟨t521, A40, H⟩ := H
    replace H : (if t521 = true then ((damperref05_in.f a0_2 0 4611686018427387904).bind fun t522 => (damperref05_Right.j0 k (!t522) a0_0 a0_1 a0_2 a0_3 a0_4 a0_5 a0_6 a0_7 a0_8)) else (damperref05_Right.j0 k true a0_0 a0_1 a0_2 a0_3 a0_4 a0_5 a0_6 a0_7 a0_8)) = some r := H
    have A4 := Aside0.mk A40
    clear A40
    by_cases c5 : t521 = true
    · subst c5
      have H1 : ((damperref05_in.f a0_2 0 4611686018427387904).bind fun t522 => (damperref05_Right.j0 k (!t522) a0_0 a0_1 a0_2 a0_3 a0_4 a0_5 a0_6 a0_7 a0_8)) = some r := by rw [if_pos rfl] at H; exact H
      clear H
      have H := H1
      clear H1
      replace H := Option.bind_eq_some_iff.mp H
      obtain ⟨t522, A60, H⟩ := H
      replace H : (damperref05_Right.j0 k (!t522) a0_0 a0_1 a0_2 a0_3 a0_4 a0_5 a0_6 a0_7 a0_8) = some r := H
      have A6 := Aside0.mk A60
      clear A60
      have H' := Aside0.mk H
      clear H
      have hcz7_0 : w3.cell? ⟨gb520, 0, none⟩ = some (.int .i64 a0_0) := (blk_cell BK520.out 0).trans rfl
      have hcz7_1 : w3.cell? ⟨gb520, 1, none⟩ = some (.int .i64 a0_1) := (blk_cell BK520.out 1).trans rfl
      have hcz7_2 : w3.cell? ⟨gb520, 2, none⟩ = some (.int .i64 a0_2) := (blk_cell BK520.out 2).trans rfl
      have hcz7_3 : w3.cell? ⟨gb520, 3, none⟩ = some (.int .i64 a0_3) := (blk_cell BK520.out 3).trans rfl
      have hcz7_4 : w3.cell? ⟨gb520, 4, none⟩ = some (.int .i64 a0_4) := (blk_cell BK520.out 4).trans rfl
      have hcz7_5 : w3.cell? ⟨gb520, 5, none⟩ = some (.int .i64 a0_5) := (blk_cell BK520.out 5).trans rfl
      have hcz7_6 : w3.cell? ⟨gb520, 6, none⟩ = some (.int .i64 a0_6) := (blk_cell BK520.out 6).trans rfl
      have hcz7_7 : w3.cell? ⟨gb520, 7, none⟩ = some (.int .i64 a0_7) := (blk_cell BK520.out 7).trans rfl
      have hcz7_8 : w3.cell? ⟨gb520, 8, none⟩ = some (.int .i64 a0_8) := (blk_cell BK520.out 8).trans rfl
      have hfz7_0 := blk_frozen BK520.out 0
      have hfz7_1 := blk_frozen BK520.out 1
      have hfz7_2 := blk_frozen BK520.out 2
      have hfz7_3 := blk_frozen BK520.out 3
      have hfz7_4 := blk_frozen BK520.out 4
      have hfz7_5 := blk_frozen BK520.out 5
      have hfz7_6 := blk_frozen BK520.out 6
      have hfz7_7 := blk_frozen BK520.out 7
      have hfz7_8 := blk_frozen BK520.out 8
      go_wp2_with (first | ((with_reducible refine gate_callee (f := 130) rfl ?_); refine goesL_ (some 5) rfl rfl Try.func130 (by kernel_rfl) rfl #[.int .i64 a0_1, .int .i64 0, .int .i64 255] rfl (by (try simp only [List.map_toArray, List.map_cons, List.map_nil]); first | done | rfl | (simp only [List.length_drop, List.length_take]; rfl)) ?_; (with_reducible refine (damperref05_in.calls a0_1 0 255 true _ A4.out).mono ?_); rintro e w' ⟨rfl, ⟨nd, rfl⟩⟩; refine ⟨_, rfl, ?_⟩) | (go_at_call 130; (with_reducible refine (damperref05_in.calls a0_2 0 4611686018427387904 t522 _ A6.out).mono ?_); rintro e w' ⟨rfl, ⟨nd, rfl⟩⟩))
      go_meet
      case rel => exact ⟨_, (!t522), (by first | rfl | (simp; done) | (simp [*]; done)), H', ⟨by first | omega | exact Nat.le_refl _⟩, ⟨by (with_reducible repeat (first | refine blk_drewN ?_ _ | refine blk_drew ?_ | refine blk_alloc ?_ _)); exact BK520.out⟩, ⟨by repeat (first | (with_reducible first | exact HB.out | apply below_alloc | apply pw_below_drewN | apply below_drew1 | refine below_set ?_ GE520.out) | exact HB.out)⟩⟩
    · replace c5 := Bool.eq_false_iff.mpr c5
      subst c5
      have H1 : (damperref05_Right.j0 k true a0_0 a0_1 a0_2 a0_3 a0_4 a0_5 a0_6 a0_7 a0_8) = some r := by rw [if_neg (show ¬ (false = true) by decide)] at H; exact H
      clear H
      have H := H1
      clear H1
      have H' := Aside0.mk H
      clear H
      have hcz8_0 : w3.cell? ⟨gb520, 0, none⟩ = some (.int .i64 a0_0) := (blk_cell BK520.out 0).trans rfl
      have hcz8_1 : w3.cell? ⟨gb520, 1, none⟩ = some (.int .i64 a0_1) := (blk_cell BK520.out 1).trans rfl
      have hcz8_2 : w3.cell? ⟨gb520, 2, none⟩ = some (.int .i64 a0_2) := (blk_cell BK520.out 2).trans rfl
      have hcz8_3 : w3.cell? ⟨gb520, 3, none⟩ = some (.int .i64 a0_3) := (blk_cell BK520.out 3).trans rfl
      have hcz8_4 : w3.cell? ⟨gb520, 4, none⟩ = some (.int .i64 a0_4) := (blk_cell BK520.out 4).trans rfl
      have hcz8_5 : w3.cell? ⟨gb520, 5, none⟩ = some (.int .i64 a0_5) := (blk_cell BK520.out 5).trans rfl
      have hcz8_6 : w3.cell? ⟨gb520, 6, none⟩ = some (.int .i64 a0_6) := (blk_cell BK520.out 6).trans rfl
      have hcz8_7 : w3.cell? ⟨gb520, 7, none⟩ = some (.int .i64 a0_7) := (blk_cell BK520.out 7).trans rfl
      have hcz8_8 : w3.cell? ⟨gb520, 8, none⟩ = some (.int .i64 a0_8) := (blk_cell BK520.out 8).trans rfl
      have hfz8_0 := blk_frozen BK520.out 0
      have hfz8_1 := blk_frozen BK520.out 1
      have hfz8_2 := blk_frozen BK520.out 2
      have hfz8_3 := blk_frozen BK520.out 3
      have hfz8_4 := blk_frozen BK520.out 4
      have hfz8_5 := blk_frozen BK520.out 5
      have hfz8_6 := blk_frozen BK520.out 6
      have hfz8_7 := blk_frozen BK520.out 7
      have hfz8_8 := blk_frozen BK520.out 8
      go_wp2_with (first | ((with_reducible refine gate_callee (f := 130) rfl ?_); refine goesL_ (some 5) rfl rfl Try.func130 (by kernel_rfl) rfl #[.int .i64 a0_1, .int .i64 0, .int .i64 255] rfl (by (try simp only [List.map_toArray, List.map_cons, List.map_nil]); first | done | rfl | (simp only [List.length_drop, List.length_take]; rfl)) ?_; (with_reducible refine (damperref05_in.calls a0_1 0 255 false _ A4.out).mono ?_); rintro e w' ⟨rfl, ⟨nd, rfl⟩⟩; refine ⟨_, rfl, ?_⟩))
      go_meet
      case rel => exact ⟨_, (true), (by first | rfl | (simp; done) | (simp [*]; done)), H', ⟨by first | omega | exact Nat.le_refl _⟩, ⟨by (with_reducible repeat (first | refine blk_drewN ?_ _ | refine blk_drew ?_ | refine blk_alloc ?_ _)); exact BK520.out⟩, ⟨by repeat (first | (with_reducible first | exact HB.out | apply below_alloc | apply pw_below_drewN | apply below_drew1 | refine below_set ?_ GE520.out) | exact HB.out)⟩⟩
  case rest =>
    clear HC2
    try clear c1
    try clear p2
    try clear c5
    try clear hcz7_0
    try clear hcz7_1
    try clear hcz7_2
    try clear hcz7_3
    try clear hcz7_4
    try clear hcz7_5
    try clear hcz7_6
    try clear hcz7_7
    try clear hcz7_8
    try clear hcz8_0
    try clear hcz8_1
    try clear hcz8_2
    try clear hcz8_3
    try clear hcz8_4
    try clear hcz8_5
    try clear hcz8_6
    try clear hcz8_7
    try clear hcz8_8
    try clear hfz7_0
    try clear hfz7_1
    try clear hfz7_2
    try clear hfz7_3
    try clear hfz7_4
    try clear hfz7_5
    try clear hfz7_6
    try clear hfz7_7
    try clear hfz7_8
    try clear hfz8_0
    try clear hfz8_1
    try clear hfz8_2
    try clear hfz8_3
    try clear hfz8_4
    try clear hfz8_5
    try clear hfz8_6
    try clear hfz8_7
    try clear hfz8_8
    obtain ⟨kq, x12_1, rfl, HA, HJ1, BK520, HB⟩ := hcut
    cases kq with
    | zero => exact absurd HA.out (by simp [damperref05_Right.j0])
    | succ kj1 =>
      have H := HA.out
      clear HA
      simp only [damperref05_Right.j0] at H
      by_cases c9 : x12_1 = true
      · subst c9
        have H1 : (some false) = some r := by rw [if_pos rfl] at H; exact H
        clear H
        have H := H1
        clear H1
        obtain rfl := Option.some.inj H
        go_wp2
        go_ret
        exact ⟨by first | rfl | (simp [errW_none, errW_some] <;> rfl) | (simp [*, errW_none, errW_some] <;> rfl), by repeat (first | (with_reducible first | exact HB.out | apply below_alloc | apply pw_below_drewN | apply below_drew1 | refine below_set ?_ GE520.out) | exact HB.out)⟩
      · replace c9 := Bool.eq_false_iff.mpr c9
        subst c9
        have H1 : (if a0_0 = 1 then ((damperref05_in.f a0_3 0 1073741824).bind fun t523 => (if t523 = true then ((damperref05_in.f a0_4 0 1).bind fun t524 => (if t524 = true then ((damperref05_in.f a0_5 1 5).bind fun t525 => (if t525 = true then ((damperref05_in.f a0_8 0 7).bind fun t526 => (some t526)) else (some false))) else (some false))) else (some false))) else (if a0_0 = 2 then (some (a0_0 == 2 && (a0_3 == 0 && (a0_4 == 0 && (a0_5 == 0 && (a0_6 == 0 && (a0_7 == 0 && (a0_8 == 0)))))))) else (if a0_0 = 3 then (some (a0_0 == 3 && (a0_3 == 0 && (a0_4 == 0 && (a0_5 == 0 && (a0_8 == 0)))))) else (some false)))) = some r := by rw [if_neg (show ¬ (false = true) by decide)] at H; exact H
        clear H
        have H := H1
        clear H1
        by_cases c10 : a0_0 = 1
        · rw [if_pos c10] at H
          have c10b0 : (a0_0 == 1) = true := beq_iff_eq.mpr c10
          have c10b1 : (a0_0 != 1) = false := bne_eq_false_iff_eq.mpr c10
          clear c10
          replace H := Option.bind_eq_some_iff.mp H
          obtain ⟨t523, A110, H⟩ := H
          replace H : (if t523 = true then ((damperref05_in.f a0_4 0 1).bind fun t524 => (if t524 = true then ((damperref05_in.f a0_5 1 5).bind fun t525 => (if t525 = true then ((damperref05_in.f a0_8 0 7).bind fun t526 => (some t526)) else (some false))) else (some false))) else (some false)) = some r := H
          have A11 := Aside0.mk A110
          clear A110
          by_cases c12 : t523 = true
          · subst c12
            have H1 : ((damperref05_in.f a0_4 0 1).bind fun t524 => (if t524 = true then ((damperref05_in.f a0_5 1 5).bind fun t525 => (if t525 = true then ((damperref05_in.f a0_8 0 7).bind fun t526 => (some t526)) else (some false))) else (some false))) = some r := by rw [if_pos rfl] at H; exact H
            clear H
            have H := H1
            clear H1
            replace H := Option.bind_eq_some_iff.mp H
            obtain ⟨t524, A130, H⟩ := H
            replace H : (if t524 = true then ((damperref05_in.f a0_5 1 5).bind fun t525 => (if t525 = true then ((damperref05_in.f a0_8 0 7).bind fun t526 => (some t526)) else (some false))) else (some false)) = some r := H
            have A13 := Aside0.mk A130
            clear A130
            by_cases c14 : t524 = true
            · subst c14
              have H1 : ((damperref05_in.f a0_5 1 5).bind fun t525 => (if t525 = true then ((damperref05_in.f a0_8 0 7).bind fun t526 => (some t526)) else (some false))) = some r := by rw [if_pos rfl] at H; exact H
              clear H
              have H := H1
              clear H1
              replace H := Option.bind_eq_some_iff.mp H
              obtain ⟨t525, A150, H⟩ := H
              replace H : (if t525 = true then ((damperref05_in.f a0_8 0 7).bind fun t526 => (some t526)) else (some false)) = some r := H
              have A15 := Aside0.mk A150
              clear A150
              by_cases c16 : t525 = true
              · subst c16
                have H1 : ((damperref05_in.f a0_8 0 7).bind fun t526 => (some t526)) = some r := by rw [if_pos rfl] at H; exact H
                clear H
                have H := H1
                clear H1
                replace H := Option.bind_eq_some_iff.mp H
                obtain ⟨t526, A170, H⟩ := H
                replace H : (some t526) = some r := H
                have A17 := Aside0.mk A170
                clear A170
                obtain rfl := Option.some.inj H
                have hcz18_0 : wc.cell? ⟨gb520, 0, none⟩ = some (.int .i64 a0_0) := (blk_cell BK520.out 0).trans rfl
                have hcz18_1 : wc.cell? ⟨gb520, 1, none⟩ = some (.int .i64 a0_1) := (blk_cell BK520.out 1).trans rfl
                have hcz18_2 : wc.cell? ⟨gb520, 2, none⟩ = some (.int .i64 a0_2) := (blk_cell BK520.out 2).trans rfl
                have hcz18_3 : wc.cell? ⟨gb520, 3, none⟩ = some (.int .i64 a0_3) := (blk_cell BK520.out 3).trans rfl
                have hcz18_4 : wc.cell? ⟨gb520, 4, none⟩ = some (.int .i64 a0_4) := (blk_cell BK520.out 4).trans rfl
                have hcz18_5 : wc.cell? ⟨gb520, 5, none⟩ = some (.int .i64 a0_5) := (blk_cell BK520.out 5).trans rfl
                have hcz18_6 : wc.cell? ⟨gb520, 6, none⟩ = some (.int .i64 a0_6) := (blk_cell BK520.out 6).trans rfl
                have hcz18_7 : wc.cell? ⟨gb520, 7, none⟩ = some (.int .i64 a0_7) := (blk_cell BK520.out 7).trans rfl
                have hcz18_8 : wc.cell? ⟨gb520, 8, none⟩ = some (.int .i64 a0_8) := (blk_cell BK520.out 8).trans rfl
                have hfz18_0 := blk_frozen BK520.out 0
                have hfz18_1 := blk_frozen BK520.out 1
                have hfz18_2 := blk_frozen BK520.out 2
                have hfz18_3 := blk_frozen BK520.out 3
                have hfz18_4 := blk_frozen BK520.out 4
                have hfz18_5 := blk_frozen BK520.out 5
                have hfz18_6 := blk_frozen BK520.out 6
                have hfz18_7 := blk_frozen BK520.out 7
                have hfz18_8 := blk_frozen BK520.out 8
                go_wp2_with (first | ((with_reducible refine gate_callee (f := 130) rfl ?_); refine goesL_ (some 19) rfl rfl Try.func130 (by kernel_rfl) rfl #[.int .i64 a0_3, .int .i64 0, .int .i64 1073741824] rfl (by (try simp only [List.map_toArray, List.map_cons, List.map_nil]); first | done | rfl | (simp only [List.length_drop, List.length_take]; rfl)) ?_; (with_reducible refine (damperref05_in.calls a0_3 0 1073741824 true _ A11.out).mono ?_); rintro e w' ⟨rfl, ⟨nd, rfl⟩⟩; refine ⟨_, rfl, ?_⟩) | (go_at_call 130; (with_reducible refine (damperref05_in.calls a0_4 0 1 true _ A13.out).mono ?_); rintro e w' ⟨rfl, ⟨nd, rfl⟩⟩) | (go_at_call 130; (with_reducible refine (damperref05_in.calls a0_5 1 5 true _ A15.out).mono ?_); rintro e w' ⟨rfl, ⟨nd, rfl⟩⟩) | (go_at_call 130; (with_reducible refine (damperref05_in.calls a0_8 0 7 t526 _ A17.out).mono ?_); rintro e w' ⟨rfl, ⟨nd, rfl⟩⟩))
                go_ret
                exact ⟨by first | rfl | (simp [errW_none, errW_some] <;> rfl) | (simp [*, errW_none, errW_some] <;> rfl), by repeat (first | (with_reducible first | exact HB.out | apply below_alloc | apply pw_below_drewN | apply below_drew1 | refine below_set ?_ GE520.out) | exact HB.out)⟩
              · replace c16 := Bool.eq_false_iff.mpr c16
                subst c16
                have H1 : (some false) = some r := by rw [if_neg (show ¬ (false = true) by decide)] at H; exact H
                clear H
                have H := H1
                clear H1
                obtain rfl := Option.some.inj H
                have hcz19_0 : wc.cell? ⟨gb520, 0, none⟩ = some (.int .i64 a0_0) := (blk_cell BK520.out 0).trans rfl
                have hcz19_1 : wc.cell? ⟨gb520, 1, none⟩ = some (.int .i64 a0_1) := (blk_cell BK520.out 1).trans rfl
                have hcz19_2 : wc.cell? ⟨gb520, 2, none⟩ = some (.int .i64 a0_2) := (blk_cell BK520.out 2).trans rfl
                have hcz19_3 : wc.cell? ⟨gb520, 3, none⟩ = some (.int .i64 a0_3) := (blk_cell BK520.out 3).trans rfl
                have hcz19_4 : wc.cell? ⟨gb520, 4, none⟩ = some (.int .i64 a0_4) := (blk_cell BK520.out 4).trans rfl
                have hcz19_5 : wc.cell? ⟨gb520, 5, none⟩ = some (.int .i64 a0_5) := (blk_cell BK520.out 5).trans rfl
                have hcz19_6 : wc.cell? ⟨gb520, 6, none⟩ = some (.int .i64 a0_6) := (blk_cell BK520.out 6).trans rfl
                have hcz19_7 : wc.cell? ⟨gb520, 7, none⟩ = some (.int .i64 a0_7) := (blk_cell BK520.out 7).trans rfl
                have hcz19_8 : wc.cell? ⟨gb520, 8, none⟩ = some (.int .i64 a0_8) := (blk_cell BK520.out 8).trans rfl
                have hfz19_0 := blk_frozen BK520.out 0
                have hfz19_1 := blk_frozen BK520.out 1
                have hfz19_2 := blk_frozen BK520.out 2
                have hfz19_3 := blk_frozen BK520.out 3
                have hfz19_4 := blk_frozen BK520.out 4
                have hfz19_5 := blk_frozen BK520.out 5
                have hfz19_6 := blk_frozen BK520.out 6
                have hfz19_7 := blk_frozen BK520.out 7
                have hfz19_8 := blk_frozen BK520.out 8
                go_wp2_with (first | ((with_reducible refine gate_callee (f := 130) rfl ?_); refine goesL_ (some 19) rfl rfl Try.func130 (by kernel_rfl) rfl #[.int .i64 a0_3, .int .i64 0, .int .i64 1073741824] rfl (by (try simp only [List.map_toArray, List.map_cons, List.map_nil]); first | done | rfl | (simp only [List.length_drop, List.length_take]; rfl)) ?_; (with_reducible refine (damperref05_in.calls a0_3 0 1073741824 true _ A11.out).mono ?_); rintro e w' ⟨rfl, ⟨nd, rfl⟩⟩; refine ⟨_, rfl, ?_⟩) | (go_at_call 130; (with_reducible refine (damperref05_in.calls a0_4 0 1 true _ A13.out).mono ?_); rintro e w' ⟨rfl, ⟨nd, rfl⟩⟩) | (go_at_call 130; (with_reducible refine (damperref05_in.calls a0_5 1 5 false _ A15.out).mono ?_); rintro e w' ⟨rfl, ⟨nd, rfl⟩⟩))
                go_ret
                exact ⟨by first | rfl | (simp [errW_none, errW_some] <;> rfl) | (simp [*, errW_none, errW_some] <;> rfl), by repeat (first | (with_reducible first | exact HB.out | apply below_alloc | apply pw_below_drewN | apply below_drew1 | refine below_set ?_ GE520.out) | exact HB.out)⟩
            · replace c14 := Bool.eq_false_iff.mpr c14
              subst c14
              have H1 : (some false) = some r := by rw [if_neg (show ¬ (false = true) by decide)] at H; exact H
              clear H
              have H := H1
              clear H1
              obtain rfl := Option.some.inj H
              have hcz20_0 : wc.cell? ⟨gb520, 0, none⟩ = some (.int .i64 a0_0) := (blk_cell BK520.out 0).trans rfl
              have hcz20_1 : wc.cell? ⟨gb520, 1, none⟩ = some (.int .i64 a0_1) := (blk_cell BK520.out 1).trans rfl
              have hcz20_2 : wc.cell? ⟨gb520, 2, none⟩ = some (.int .i64 a0_2) := (blk_cell BK520.out 2).trans rfl
              have hcz20_3 : wc.cell? ⟨gb520, 3, none⟩ = some (.int .i64 a0_3) := (blk_cell BK520.out 3).trans rfl
              have hcz20_4 : wc.cell? ⟨gb520, 4, none⟩ = some (.int .i64 a0_4) := (blk_cell BK520.out 4).trans rfl
              have hcz20_5 : wc.cell? ⟨gb520, 5, none⟩ = some (.int .i64 a0_5) := (blk_cell BK520.out 5).trans rfl
              have hcz20_6 : wc.cell? ⟨gb520, 6, none⟩ = some (.int .i64 a0_6) := (blk_cell BK520.out 6).trans rfl
              have hcz20_7 : wc.cell? ⟨gb520, 7, none⟩ = some (.int .i64 a0_7) := (blk_cell BK520.out 7).trans rfl
              have hcz20_8 : wc.cell? ⟨gb520, 8, none⟩ = some (.int .i64 a0_8) := (blk_cell BK520.out 8).trans rfl
              have hfz20_0 := blk_frozen BK520.out 0
              have hfz20_1 := blk_frozen BK520.out 1
              have hfz20_2 := blk_frozen BK520.out 2
              have hfz20_3 := blk_frozen BK520.out 3
              have hfz20_4 := blk_frozen BK520.out 4
              have hfz20_5 := blk_frozen BK520.out 5
              have hfz20_6 := blk_frozen BK520.out 6
              have hfz20_7 := blk_frozen BK520.out 7
              have hfz20_8 := blk_frozen BK520.out 8
              go_wp2_with (first | ((with_reducible refine gate_callee (f := 130) rfl ?_); refine goesL_ (some 19) rfl rfl Try.func130 (by kernel_rfl) rfl #[.int .i64 a0_3, .int .i64 0, .int .i64 1073741824] rfl (by (try simp only [List.map_toArray, List.map_cons, List.map_nil]); first | done | rfl | (simp only [List.length_drop, List.length_take]; rfl)) ?_; (with_reducible refine (damperref05_in.calls a0_3 0 1073741824 true _ A11.out).mono ?_); rintro e w' ⟨rfl, ⟨nd, rfl⟩⟩; refine ⟨_, rfl, ?_⟩) | (go_at_call 130; (with_reducible refine (damperref05_in.calls a0_4 0 1 false _ A13.out).mono ?_); rintro e w' ⟨rfl, ⟨nd, rfl⟩⟩))
              go_ret
              exact ⟨by first | rfl | (simp [errW_none, errW_some] <;> rfl) | (simp [*, errW_none, errW_some] <;> rfl), by repeat (first | (with_reducible first | exact HB.out | apply below_alloc | apply pw_below_drewN | apply below_drew1 | refine below_set ?_ GE520.out) | exact HB.out)⟩
          · replace c12 := Bool.eq_false_iff.mpr c12
            subst c12
            have H1 : (some false) = some r := by rw [if_neg (show ¬ (false = true) by decide)] at H; exact H
            clear H
            have H := H1
            clear H1
            obtain rfl := Option.some.inj H
            have hcz21_0 : wc.cell? ⟨gb520, 0, none⟩ = some (.int .i64 a0_0) := (blk_cell BK520.out 0).trans rfl
            have hcz21_1 : wc.cell? ⟨gb520, 1, none⟩ = some (.int .i64 a0_1) := (blk_cell BK520.out 1).trans rfl
            have hcz21_2 : wc.cell? ⟨gb520, 2, none⟩ = some (.int .i64 a0_2) := (blk_cell BK520.out 2).trans rfl
            have hcz21_3 : wc.cell? ⟨gb520, 3, none⟩ = some (.int .i64 a0_3) := (blk_cell BK520.out 3).trans rfl
            have hcz21_4 : wc.cell? ⟨gb520, 4, none⟩ = some (.int .i64 a0_4) := (blk_cell BK520.out 4).trans rfl
            have hcz21_5 : wc.cell? ⟨gb520, 5, none⟩ = some (.int .i64 a0_5) := (blk_cell BK520.out 5).trans rfl
            have hcz21_6 : wc.cell? ⟨gb520, 6, none⟩ = some (.int .i64 a0_6) := (blk_cell BK520.out 6).trans rfl
            have hcz21_7 : wc.cell? ⟨gb520, 7, none⟩ = some (.int .i64 a0_7) := (blk_cell BK520.out 7).trans rfl
            have hcz21_8 : wc.cell? ⟨gb520, 8, none⟩ = some (.int .i64 a0_8) := (blk_cell BK520.out 8).trans rfl
            have hfz21_0 := blk_frozen BK520.out 0
            have hfz21_1 := blk_frozen BK520.out 1
            have hfz21_2 := blk_frozen BK520.out 2
            have hfz21_3 := blk_frozen BK520.out 3
            have hfz21_4 := blk_frozen BK520.out 4
            have hfz21_5 := blk_frozen BK520.out 5
            have hfz21_6 := blk_frozen BK520.out 6
            have hfz21_7 := blk_frozen BK520.out 7
            have hfz21_8 := blk_frozen BK520.out 8
            go_wp2_with (first | ((with_reducible refine gate_callee (f := 130) rfl ?_); refine goesL_ (some 19) rfl rfl Try.func130 (by kernel_rfl) rfl #[.int .i64 a0_3, .int .i64 0, .int .i64 1073741824] rfl (by (try simp only [List.map_toArray, List.map_cons, List.map_nil]); first | done | rfl | (simp only [List.length_drop, List.length_take]; rfl)) ?_; (with_reducible refine (damperref05_in.calls a0_3 0 1073741824 false _ A11.out).mono ?_); rintro e w' ⟨rfl, ⟨nd, rfl⟩⟩; refine ⟨_, rfl, ?_⟩))
            go_ret
            exact ⟨by first | rfl | (simp [errW_none, errW_some] <;> rfl) | (simp [*, errW_none, errW_some] <;> rfl), by repeat (first | (with_reducible first | exact HB.out | apply below_alloc | apply pw_below_drewN | apply below_drew1 | refine below_set ?_ GE520.out) | exact HB.out)⟩
        · rw [if_neg c10] at H
          have c10b0 : (a0_0 == 1) = false := beq_eq_false_iff_ne.mpr c10
          have c10b1 : (a0_0 != 1) = true := bne_iff_ne.mpr c10
          by_cases c22 : a0_0 = 2
          · rw [if_pos c22] at H
            have c22b0 : (a0_0 == 2) = true := beq_iff_eq.mpr c22
            have c22b1 : (a0_0 != 2) = false := bne_eq_false_iff_eq.mpr c22
            clear c22
            obtain rfl := Option.some.inj H
            have hcz23_0 : wc.cell? ⟨gb520, 0, none⟩ = some (.int .i64 a0_0) := (blk_cell BK520.out 0).trans rfl
            have hcz23_1 : wc.cell? ⟨gb520, 1, none⟩ = some (.int .i64 a0_1) := (blk_cell BK520.out 1).trans rfl
            have hcz23_2 : wc.cell? ⟨gb520, 2, none⟩ = some (.int .i64 a0_2) := (blk_cell BK520.out 2).trans rfl
            have hcz23_3 : wc.cell? ⟨gb520, 3, none⟩ = some (.int .i64 a0_3) := (blk_cell BK520.out 3).trans rfl
            have hcz23_4 : wc.cell? ⟨gb520, 4, none⟩ = some (.int .i64 a0_4) := (blk_cell BK520.out 4).trans rfl
            have hcz23_5 : wc.cell? ⟨gb520, 5, none⟩ = some (.int .i64 a0_5) := (blk_cell BK520.out 5).trans rfl
            have hcz23_6 : wc.cell? ⟨gb520, 6, none⟩ = some (.int .i64 a0_6) := (blk_cell BK520.out 6).trans rfl
            have hcz23_7 : wc.cell? ⟨gb520, 7, none⟩ = some (.int .i64 a0_7) := (blk_cell BK520.out 7).trans rfl
            have hcz23_8 : wc.cell? ⟨gb520, 8, none⟩ = some (.int .i64 a0_8) := (blk_cell BK520.out 8).trans rfl
            have hfz23_0 := blk_frozen BK520.out 0
            have hfz23_1 := blk_frozen BK520.out 1
            have hfz23_2 := blk_frozen BK520.out 2
            have hfz23_3 := blk_frozen BK520.out 3
            have hfz23_4 := blk_frozen BK520.out 4
            have hfz23_5 := blk_frozen BK520.out 5
            have hfz23_6 := blk_frozen BK520.out 6
            have hfz23_7 := blk_frozen BK520.out 7
            have hfz23_8 := blk_frozen BK520.out 8
            go_wp2
            go_ret
            exact ⟨by first | rfl | (simp [errW_none, errW_some] <;> rfl) | (simp [*, errW_none, errW_some] <;> rfl), by repeat (first | (with_reducible first | exact HB.out | apply below_alloc | apply pw_below_drewN | apply below_drew1 | refine below_set ?_ GE520.out) | exact HB.out)⟩
          · rw [if_neg c22] at H
            have c22b0 : (a0_0 == 2) = false := beq_eq_false_iff_ne.mpr c22
            have c22b1 : (a0_0 != 2) = true := bne_iff_ne.mpr c22
            by_cases c24 : a0_0 = 3
            · rw [if_pos c24] at H
              have c24b0 : (a0_0 == 3) = true := beq_iff_eq.mpr c24
              have c24b1 : (a0_0 != 3) = false := bne_eq_false_iff_eq.mpr c24
              clear c24
              obtain rfl := Option.some.inj H
              have hcz25_0 : wc.cell? ⟨gb520, 0, none⟩ = some (.int .i64 a0_0) := (blk_cell BK520.out 0).trans rfl
              have hcz25_1 : wc.cell? ⟨gb520, 1, none⟩ = some (.int .i64 a0_1) := (blk_cell BK520.out 1).trans rfl
              have hcz25_2 : wc.cell? ⟨gb520, 2, none⟩ = some (.int .i64 a0_2) := (blk_cell BK520.out 2).trans rfl
              have hcz25_3 : wc.cell? ⟨gb520, 3, none⟩ = some (.int .i64 a0_3) := (blk_cell BK520.out 3).trans rfl
              have hcz25_4 : wc.cell? ⟨gb520, 4, none⟩ = some (.int .i64 a0_4) := (blk_cell BK520.out 4).trans rfl
              have hcz25_5 : wc.cell? ⟨gb520, 5, none⟩ = some (.int .i64 a0_5) := (blk_cell BK520.out 5).trans rfl
              have hcz25_6 : wc.cell? ⟨gb520, 6, none⟩ = some (.int .i64 a0_6) := (blk_cell BK520.out 6).trans rfl
              have hcz25_7 : wc.cell? ⟨gb520, 7, none⟩ = some (.int .i64 a0_7) := (blk_cell BK520.out 7).trans rfl
              have hcz25_8 : wc.cell? ⟨gb520, 8, none⟩ = some (.int .i64 a0_8) := (blk_cell BK520.out 8).trans rfl
              have hfz25_0 := blk_frozen BK520.out 0
              have hfz25_1 := blk_frozen BK520.out 1
              have hfz25_2 := blk_frozen BK520.out 2
              have hfz25_3 := blk_frozen BK520.out 3
              have hfz25_4 := blk_frozen BK520.out 4
              have hfz25_5 := blk_frozen BK520.out 5
              have hfz25_6 := blk_frozen BK520.out 6
              have hfz25_7 := blk_frozen BK520.out 7
              have hfz25_8 := blk_frozen BK520.out 8
              go_wp2
              go_ret
              exact ⟨by first | rfl | (simp [errW_none, errW_some] <;> rfl) | (simp [*, errW_none, errW_some] <;> rfl), by repeat (first | (with_reducible first | exact HB.out | apply below_alloc | apply pw_below_drewN | apply below_drew1 | refine below_set ?_ GE520.out) | exact HB.out)⟩
            · rw [if_neg c24] at H
              have c24b0 : (a0_0 == 3) = false := beq_eq_false_iff_ne.mpr c24
              have c24b1 : (a0_0 != 3) = true := bne_iff_ne.mpr c24
              obtain rfl := Option.some.inj H
              have hcz26_0 : wc.cell? ⟨gb520, 0, none⟩ = some (.int .i64 a0_0) := (blk_cell BK520.out 0).trans rfl
              have hcz26_1 : wc.cell? ⟨gb520, 1, none⟩ = some (.int .i64 a0_1) := (blk_cell BK520.out 1).trans rfl
              have hcz26_2 : wc.cell? ⟨gb520, 2, none⟩ = some (.int .i64 a0_2) := (blk_cell BK520.out 2).trans rfl
              have hcz26_3 : wc.cell? ⟨gb520, 3, none⟩ = some (.int .i64 a0_3) := (blk_cell BK520.out 3).trans rfl
              have hcz26_4 : wc.cell? ⟨gb520, 4, none⟩ = some (.int .i64 a0_4) := (blk_cell BK520.out 4).trans rfl
              have hcz26_5 : wc.cell? ⟨gb520, 5, none⟩ = some (.int .i64 a0_5) := (blk_cell BK520.out 5).trans rfl
              have hcz26_6 : wc.cell? ⟨gb520, 6, none⟩ = some (.int .i64 a0_6) := (blk_cell BK520.out 6).trans rfl
              have hcz26_7 : wc.cell? ⟨gb520, 7, none⟩ = some (.int .i64 a0_7) := (blk_cell BK520.out 7).trans rfl
              have hcz26_8 : wc.cell? ⟨gb520, 8, none⟩ = some (.int .i64 a0_8) := (blk_cell BK520.out 8).trans rfl
              have hfz26_0 := blk_frozen BK520.out 0
              have hfz26_1 := blk_frozen BK520.out 1
              have hfz26_2 := blk_frozen BK520.out 2
              have hfz26_3 := blk_frozen BK520.out 3
              have hfz26_4 := blk_frozen BK520.out 4
              have hfz26_5 := blk_frozen BK520.out 5
              have hfz26_6 := blk_frozen BK520.out 6
              have hfz26_7 := blk_frozen BK520.out 7
              have hfz26_8 := blk_frozen BK520.out 8
              go_wp2
              go_ret
              exact ⟨by first | rfl | (simp [errW_none, errW_some] <;> rfl) | (simp [*, errW_none, errW_some] <;> rfl), by repeat (first | (with_reducible first | exact HB.out | apply below_alloc | apply pw_below_drewN | apply below_drew1 | refine below_set ?_ GE520.out) | exact HB.out)⟩

end Go.Proofs.Ytalpemoodollpaa.P
/- The document's right commands are the program's. -/
namespace Go.Proofs.Ytalpemoodollpaa.P
open Go.RowKit Go.Proofs.YtalpemoodollpaaW.PrintWords Go.Proofs.YtalpemoodollpaaW.PrintLast Go.Proofs.YtalpemoodollpaaW.PrintMore
set_option linter.unusedVariables false
set_option linter.unusedSimpArgs false
theorem refIn05 (a lo hi : Int) : damperref05_in.f a lo hi = some (within_ lo hi a) := by
  unfold damperref05_in.f within_
  by_cases h : lo ≤ a
  · rw [if_pos (by omega)]; simp [h]
  · rw [if_neg (by omega)]; simp [h]
theorem refRight (c : Cmd) : damperref05_Right.f 1 c.f0 c.f1 c.f2 c.f3 c.f4 c.f5 c.f6 c.f7 c.f8 = some (cmdRight c) := by
  unfold damperref05_Right.f cmdRight damperref05_Right.j0
  simp only [refIn05, Option.bind_some]
  cases within_ 0 255 c.f1 <;> cases within_ 0 4611686018427387904 c.f2 <;> simp
  by_cases h1 : c.f0 = 1
  · simp only [h1]
    cases within_ 0 1073741824 c.f3 <;> cases within_ 0 1 c.f4 <;> cases within_ 1 5 c.f5 <;> simp
  · rw [if_neg h1, if_neg h1]
    by_cases h2 : c.f0 = 2
    · simp [h2]
    · rw [if_neg h2]
      by_cases h3 : c.f0 = 3
      · rw [if_pos h3, if_pos h3]
        simp [h3]
      · simp [h2, h3]
theorem refRight_calls (c : Cmd) (w : World) : Calls Try.prog 90 #[.agg #[.int .i64 c.f0, .int .i64 c.f1, .int .i64 c.f2, .int .i64 c.f3, .int .i64 c.f4, .int .i64 c.f5, .int .i64 c.f6, .int .i64 c.f7, .int .i64 c.f8]] w fun e w' => e = .returned (.bool (cmdRight c)) ∧ Below w.heap.size w w' :=
  damperref05_Right.calls 1 _ _ _ _ _ _ _ _ _ _ w (refRight c)
end Go.Proofs.Ytalpemoodollpaa.P
