/- Contracts and plain laws: P78, P79, HScrCmd, HOpen. -/
import Derived.Deep.Slices
import Derived.Deep.Fields
import Derived.Test.YtalpemoodollpaaX7
import Derived.Test.YtalpemoodollpaaX15
import Derived.Test.YtalpemoodollpaaX16
import Derived.Test.YtalpemoodollpaaX17
-- Printed by hookprint.py (the session's own program, over the kit's print.py): checked by Lean like any text.
namespace Go.Proofs.Ytalpemoodollpaa.P
open Go.RowKit Go.Proofs.YtalpemoodollpaaW.PrintWords Go.Proofs.YtalpemoodollpaaW.PrintLast Go.Proofs.YtalpemoodollpaaW.PrintMore
attribute [local go_sem] max2_int min2_int max_two min_two max_three min_three max_four min_four   -- for this text's walks alone
set_option linter.unusedVariables false
set_option linter.unusedSimpArgs false

/-! ### script_Of: function 78 -/
def script_Of.f (a0_0 : Int) (a0_1 : Int) (a0_2 : Int) (a0_3 : Int) (a0_4 : Int) (a0_5 : Int) (a0_6 : Int) (a0_7 : Int) (a0_8 : Int) : Option (Int × Int × Int × List Int × Int) := (command_Encode.f a0_0 a0_1 a0_2 a0_3 a0_4 a0_5 a0_6 a0_7 a0_8).bind fun bt592 => (if bt592.2 = 0 then (some (1, 0, 0, bt592.1, bt592.2)) else (some (0, 0, 0, ([] : List Int), bt592.2)))
set_option maxHeartbeats 8000000 in
set_option maxRecDepth 100000 in
theorem script_Of.calls (a0_0 : Int) (a0_1 : Int) (a0_2 : Int) (a0_3 : Int) (a0_4 : Int) (a0_5 : Int) (a0_6 : Int) (a0_7 : Int) (a0_8 : Int) (r1 : Int) (r2 : Int) (r3 : Int) (r4 : List Int) (r5 : Int) (w : World) (h : script_Of.f a0_0 a0_1 a0_2 a0_3 a0_4 a0_5 a0_6 a0_7 a0_8 = some (r1, r2, r3, r4, r5)) :
    Calls Try.prog 78 #[.agg #[.int .i64 a0_0, .int .i64 a0_1, .int .i64 a0_2, .int .i64 a0_3, .int .i64 a0_4, .int .i64 a0_5, .int .i64 a0_6, .int .i64 a0_7, .int .i64 a0_8]] w fun e w' => ∃ v3_ : Value, e = .returned (.tuple #[.agg #[.int .i64 r1, .int .i64 r2, .int .i64 r3, v3_], .int .i64 r5]) ∧ Kd.R (Kd.int .u8) 5 w' w.heap.size (fun _ => True) v3_ r4 ∧ Below w.heap.size w w' := by
  have hu95 := Try.underlying95
  have hu91 := Try.underlying91
  have HB := Aside0.mk (Below.refl w.heap.size w)
  have H : ((command_Encode.f a0_0 a0_1 a0_2 a0_3 a0_4 a0_5 a0_6 a0_7 a0_8).bind fun bt592 => (if bt592.2 = 0 then (some (1, 0, 0, bt592.1, bt592.2)) else (some (0, 0, 0, ([] : List Int), bt592.2)))) = some (r1, r2, r3, r4, r5) := h
  clear h
  replace H := Option.bind_eq_some_iff.mp H
  obtain ⟨⟨t592, t595⟩, A20, H⟩ := H
  replace H : (if t595 = 0 then (some (1, 0, 0, t592, t595)) else (some (0, 0, 0, ([] : List Int), t595))) = some (r1, r2, r3, r4, r5) := H
  have A2 := Aside0.mk A20
  clear A20
  by_cases c3 : t595 = 0
  · rw [if_pos c3] at H
    have c3b0 : (t595 == 0) = true := beq_iff_eq.mpr c3
    have c3b1 : (t595 != 0) = false := bne_eq_false_iff_eq.mpr c3
    clear c3
    simp only [Option.some.injEq, Prod.mk.injEq] at H
    obtain ⟨rfl, rfl, rfl, rfl, rfl⟩ := H
    go_enter Try.func78, Try.ntmps78
    go_wp2_with (first | ((with_reducible refine gate_dst (N := 1) rfl ?_); refine box_event ?hg (N := 1) ?hd (cs := #[.int .i64 a0_0, .int .i64 a0_1, .int .i64 a0_2, .int .i64 a0_3, .int .i64 a0_4, .int .i64 a0_5, .int .i64 a0_6, .int .i64 a0_7, .int .i64 a0_8]) (t := 95) ?hr ?_; (case hd => rfl); (case hg => rfl); (case hr => first | (go_simp; done) | (go_simp; rfl)); intro gb590 hg w4 hbox hb; have n0_ := Aside0.mk (below_step (by repeat (first | (with_reducible first | exact HB.out | apply below_alloc | apply pw_below_drewN | apply below_drew1) | exact HB.out)) hb); have n1_ := Aside0.mk (hbox); have n2_ := Aside0.mk ((by rw [hg]; exact (below_size (by repeat (first | (with_reducible first | exact HB.out | apply below_alloc | apply pw_below_drewN | apply below_drew1) | exact HB.out))) : w.heap.size ≤ gb590)); have n3_ := Aside0.mk ((by rw [hg]; exact (below_size (by repeat (first | (with_reducible first | exact HB.out | apply below_alloc | apply pw_below_drewN | apply below_drew1) | exact HB.out))) : w.heap.size ≤ gb590)); clear HB; have HB := n0_; have BK590 := n1_; have GW590 := n2_; have GE590 := n3_; clear n0_ n1_ n2_ n3_; clear hb hbox hg) | ((with_reducible refine gate_dst (N := 2) rfl ?_); refine box_event ?hg (N := 2) ?hd (cs := #[.int .i64 0, .int .i64 0, .int .i64 0, .slice none 0 0]) (t := 91) ?hr ?_; (case hd => rfl); (case hg => rfl); (case hr => first | (go_simp; done) | (go_simp; rfl)); intro gb591 hg w5 hbox hb; have n0_ := Aside0.mk (blk_below (g := gb590) (o := .cells #[.int .i64 a0_0, .int .i64 a0_1, .int .i64 a0_2, .int .i64 a0_3, .int .i64 a0_4, .int .i64 a0_5, .int .i64 a0_6, .int .i64 a0_7, .int .i64 a0_8] 95 (0, 0)) (by (with_reducible repeat (first | refine blk_drewN ?_ _ | refine blk_drew ?_ | refine blk_alloc ?_ _)); exact BK590.out) hb); have n1_ := Aside0.mk (below_step (by repeat (first | (with_reducible first | exact HB.out | apply below_alloc | apply pw_below_drewN | apply below_drew1 | refine below_set ?_ GE590.out) | exact HB.out)) hb); have n2_ := Aside0.mk (hbox); have n3_ := Aside0.mk ((by rw [hg]; exact (below_size (by repeat (first | (with_reducible first | exact HB.out | apply below_alloc | apply pw_below_drewN | apply below_drew1 | refine below_set ?_ GE590.out) | exact HB.out))) : w.heap.size ≤ gb591)); have n4_ := Aside0.mk ((by rw [hg]; exact (below_size (by repeat (first | (with_reducible first | exact HB.out | apply below_alloc | apply pw_below_drewN | apply below_drew1 | refine below_set ?_ GE590.out) | exact HB.out))) : w.heap.size ≤ gb591)); have n5_ := Aside0.mk ((by rw [hg]; exact Nat.ne_of_lt (blk_lt (g := gb590) (o := .cells #[.int .i64 a0_0, .int .i64 a0_1, .int .i64 a0_2, .int .i64 a0_3, .int .i64 a0_4, .int .i64 a0_5, .int .i64 a0_6, .int .i64 a0_7, .int .i64 a0_8] 95 (0, 0)) (by (with_reducible repeat (first | refine blk_drewN ?_ _ | refine blk_drew ?_ | refine blk_alloc ?_ _)); exact BK590.out)) : gb590 ≠ gb591)); have n6_ := Aside0.mk ((by rw [hg]; exact Nat.ne_of_gt (blk_lt (g := gb590) (o := .cells #[.int .i64 a0_0, .int .i64 a0_1, .int .i64 a0_2, .int .i64 a0_3, .int .i64 a0_4, .int .i64 a0_5, .int .i64 a0_6, .int .i64 a0_7, .int .i64 a0_8] 95 (0, 0)) (by (with_reducible repeat (first | refine blk_drewN ?_ _ | refine blk_drew ?_ | refine blk_alloc ?_ _)); exact BK590.out)) : gb591 ≠ gb590)); clear BK590; clear HB; have BK590 := n0_; have HB := n1_; have BK591 := n2_; have GW591 := n3_; have GE591 := n4_; have NB590_591 := n5_; have NB591_590 := n6_; clear n0_ n1_ n2_ n3_ n4_ n5_ n6_; clear hb hbox hg; have hnb6 := NB590_591.out; have hnc6 := NB591_590.out; have hcz7_0 : w5.cell? ⟨gb590, 0, none⟩ = some (.int .i64 a0_0) := (blk_cell BK590.out 0).trans rfl; have hcz7_1 : w5.cell? ⟨gb590, 1, none⟩ = some (.int .i64 a0_1) := (blk_cell BK590.out 1).trans rfl; have hcz7_2 : w5.cell? ⟨gb590, 2, none⟩ = some (.int .i64 a0_2) := (blk_cell BK590.out 2).trans rfl; have hcz7_3 : w5.cell? ⟨gb590, 3, none⟩ = some (.int .i64 a0_3) := (blk_cell BK590.out 3).trans rfl; have hcz7_4 : w5.cell? ⟨gb590, 4, none⟩ = some (.int .i64 a0_4) := (blk_cell BK590.out 4).trans rfl; have hcz7_5 : w5.cell? ⟨gb590, 5, none⟩ = some (.int .i64 a0_5) := (blk_cell BK590.out 5).trans rfl; have hcz7_6 : w5.cell? ⟨gb590, 6, none⟩ = some (.int .i64 a0_6) := (blk_cell BK590.out 6).trans rfl; have hcz7_7 : w5.cell? ⟨gb590, 7, none⟩ = some (.int .i64 a0_7) := (blk_cell BK590.out 7).trans rfl; have hcz7_8 : w5.cell? ⟨gb590, 8, none⟩ = some (.int .i64 a0_8) := (blk_cell BK590.out 8).trans rfl; have hfz7_0 := blk_frozen BK590.out 0; have hfz7_1 := blk_frozen BK590.out 1; have hfz7_2 := blk_frozen BK590.out 2; have hfz7_3 := blk_frozen BK590.out 3; have hfz7_4 := blk_frozen BK590.out 4; have hfz7_5 := blk_frozen BK590.out 5; have hfz7_6 := blk_frozen BK590.out 6; have hfz7_7 := blk_frozen BK590.out 7; have hfz7_8 := blk_frozen BK590.out 8) | ((with_reducible refine gate_callee (f := 86) rfl ?_); refine goesL_ (some 8) rfl rfl Try.func86 (by kernel_rfl) rfl #[.agg #[.int .i64 a0_0, .int .i64 a0_1, .int .i64 a0_2, .int .i64 a0_3, .int .i64 a0_4, .int .i64 a0_5, .int .i64 a0_6, .int .i64 a0_7, .int .i64 a0_8]] rfl (by (try simp only [List.map_toArray, List.map_cons, List.map_nil]); first | done | rfl | (simp only [List.length_drop, List.length_take]; rfl)) ?_; (with_reducible refine (command_Encode.calls a0_0 a0_1 a0_2 a0_3 a0_4 a0_5 a0_6 a0_7 a0_8 t592 t595 _ A2.out).mono ?_); rintro e w8 ⟨v593, rfl, ho0, hb⟩; refine ⟨_, rfl, ?_⟩; have n0_ := Aside0.mk (Kd.R_lower ho0 (below_size (by repeat (first | (with_reducible first | exact HB.out | apply below_alloc | apply pw_below_drewN | apply below_drew1 | refine below_set ?_ GE590.out | refine below_set ?_ GE591.out) | exact HB.out)))); have n1_ := Aside0.mk (blk_below (g := gb590) (o := .cells #[.int .i64 a0_0, .int .i64 a0_1, .int .i64 a0_2, .int .i64 a0_3, .int .i64 a0_4, .int .i64 a0_5, .int .i64 a0_6, .int .i64 a0_7, .int .i64 a0_8] 95 (0, 0)) (by (with_reducible repeat (first | refine blk_drewN ?_ _ | refine blk_drew ?_ | refine blk_alloc ?_ _)); exact BK590.out) hb); have n2_ := Aside0.mk (blk_below (g := gb591) (o := .cells #[.int .i64 0, .int .i64 0, .int .i64 0, .slice none 0 0] 91 (0, 0)) (by (with_reducible repeat (first | refine blk_drewN ?_ _ | refine blk_drew ?_ | refine blk_alloc ?_ _)); exact BK591.out) hb); have n3_ := Aside0.mk (below_step (by repeat (first | (with_reducible first | exact HB.out | apply below_alloc | apply pw_below_drewN | apply below_drew1 | refine below_set ?_ GE590.out | refine below_set ?_ GE591.out) | exact HB.out)) hb); clear BK590; clear BK591; clear HB; have HO594 := n0_; have BK590 := n1_; have BK591 := n2_; have HB := n3_; clear n0_ n1_ n2_ n3_; (try clear hb); (try clear hb2); (try clear hk); (try clear hi); (try clear ho0); obtain ⟨Ao9, co9, eo9⟩ := Kd.R_slice HO594.out; subst eo9; have hcz10_0 : w8.cell? ⟨gb591, 0, none⟩ = some (.int .i64 0) := (blk_cell BK591.out 0).trans rfl; have hcz10_1 : w8.cell? ⟨gb591, 1, none⟩ = some (.int .i64 0) := (blk_cell BK591.out 1).trans rfl; have hcz10_2 : w8.cell? ⟨gb591, 2, none⟩ = some (.int .i64 0) := (blk_cell BK591.out 2).trans rfl; have hcz10_3 : w8.cell? ⟨gb591, 3, none⟩ = some (.slice none 0 0) := (blk_cell BK591.out 3).trans rfl; have hfz10_0 := blk_frozen BK591.out 0; have hfz10_1 := blk_frozen BK591.out 1; have hfz10_2 := blk_frozen BK591.out 2; have hfz10_3 := blk_frozen BK591.out 3))
    refine bodyPost_ret (results_ct rfl _ _ gb591 91 #[.int .i64 1, .int .i64 0, .int .i64 0, .slice Ao9 t592.length co9] (0, 0) _ rfl (by (with_reducible repeat (first | refine blk_drewN ?_ _ | refine blk_drew ?_ | refine blk_alloc ?_ _)); refine blk_put (cs := #[.int .i64 1, .int .i64 0, .int .i64 0, .slice none 0 0]) ?_ 3 _ rfl; (with_reducible repeat (first | refine blk_drewN ?_ _ | refine blk_drew ?_ | refine blk_alloc ?_ _)); refine blk_put (cs := #[.int .i64 1, .int .i64 0, .int .i64 0, .slice none 0 0]) ?_ 2 _ rfl; (with_reducible repeat (first | refine blk_drewN ?_ _ | refine blk_drew ?_ | refine blk_alloc ?_ _)); refine blk_put (cs := #[.int .i64 1, .int .i64 0, .int .i64 0, .slice none 0 0]) ?_ 1 _ rfl; (with_reducible repeat (first | refine blk_drewN ?_ _ | refine blk_drew ?_ | refine blk_alloc ?_ _)); refine blk_put (cs := #[.int .i64 0, .int .i64 0, .int .i64 0, .slice none 0 0]) ?_ 0 _ rfl; (with_reducible repeat (first | refine blk_drewN ?_ _ | refine blk_drew ?_ | refine blk_alloc ?_ _)); exact BK591.out) Try.underlying91 rfl (by kernel_rfl)) rfl ?_
    exact ⟨_, by first | rfl | (simp [errW_none, errW_some] <;> rfl) | (simp [*, errW_none, errW_some] <;> rfl), by (with_reducible repeat (first | apply Kd.R_alloc | apply Kd.R_drewN | apply Kd.R_drew)); exact Kd.R_mono (Kd.R_far (p := ⟨gb591, 3, none⟩) (Kd.R_far (p := ⟨gb591, 2, none⟩) (Kd.R_far (p := ⟨gb591, 1, none⟩) (Kd.R_far (p := ⟨gb591, 0, none⟩) (Kd.R_types HO594.out BK591.out (by decide)) (fun _ hk => hk.2) (.int .i64 1)) (fun _ hk => hk.2) (.int .i64 0)) (fun _ hk => hk.2) (.int .i64 0)) (fun _ hk => hk.2) (.slice Ao9 t592.length co9)) (fun _ hk => trivial), by repeat (first | (with_reducible first | exact HB.out | apply below_alloc | apply pw_below_drewN | apply below_drew1 | refine below_set ?_ GE590.out | refine below_set ?_ GE591.out) | exact HB.out)⟩
  · rw [if_neg c3] at H
    have c3b0 : (t595 == 0) = false := beq_eq_false_iff_ne.mpr c3
    have c3b1 : (t595 != 0) = true := bne_iff_ne.mpr c3
    simp only [Option.some.injEq, Prod.mk.injEq] at H
    obtain ⟨rfl, rfl, rfl, rfl, rfl⟩ := H
    go_enter Try.func78, Try.ntmps78
    go_wp2_with (first | ((with_reducible refine gate_dst (N := 1) rfl ?_); refine box_event ?hg (N := 1) ?hd (cs := #[.int .i64 a0_0, .int .i64 a0_1, .int .i64 a0_2, .int .i64 a0_3, .int .i64 a0_4, .int .i64 a0_5, .int .i64 a0_6, .int .i64 a0_7, .int .i64 a0_8]) (t := 95) ?hr ?_; (case hd => rfl); (case hg => rfl); (case hr => first | (go_simp; done) | (go_simp; rfl)); intro gb590 hg w11 hbox hb; have n0_ := Aside0.mk (below_step (by repeat (first | (with_reducible first | exact HB.out | apply below_alloc | apply pw_below_drewN | apply below_drew1) | exact HB.out)) hb); have n1_ := Aside0.mk (hbox); have n2_ := Aside0.mk ((by rw [hg]; exact (below_size (by repeat (first | (with_reducible first | exact HB.out | apply below_alloc | apply pw_below_drewN | apply below_drew1) | exact HB.out))) : w.heap.size ≤ gb590)); have n3_ := Aside0.mk ((by rw [hg]; exact (below_size (by repeat (first | (with_reducible first | exact HB.out | apply below_alloc | apply pw_below_drewN | apply below_drew1) | exact HB.out))) : w.heap.size ≤ gb590)); clear HB; have HB := n0_; have BK590 := n1_; have GW590 := n2_; have GE590 := n3_; clear n0_ n1_ n2_ n3_; clear hb hbox hg) | ((with_reducible refine gate_dst (N := 2) rfl ?_); refine box_event ?hg (N := 2) ?hd (cs := #[.int .i64 0, .int .i64 0, .int .i64 0, .slice none 0 0]) (t := 91) ?hr ?_; (case hd => rfl); (case hg => rfl); (case hr => first | (go_simp; done) | (go_simp; rfl)); intro gb591 hg w12 hbox hb; have n0_ := Aside0.mk (blk_below (g := gb590) (o := .cells #[.int .i64 a0_0, .int .i64 a0_1, .int .i64 a0_2, .int .i64 a0_3, .int .i64 a0_4, .int .i64 a0_5, .int .i64 a0_6, .int .i64 a0_7, .int .i64 a0_8] 95 (0, 0)) (by (with_reducible repeat (first | refine blk_drewN ?_ _ | refine blk_drew ?_ | refine blk_alloc ?_ _)); exact BK590.out) hb); have n1_ := Aside0.mk (below_step (by repeat (first | (with_reducible first | exact HB.out | apply below_alloc | apply pw_below_drewN | apply below_drew1 | refine below_set ?_ GE590.out) | exact HB.out)) hb); have n2_ := Aside0.mk (hbox); have n3_ := Aside0.mk ((by rw [hg]; exact (below_size (by repeat (first | (with_reducible first | exact HB.out | apply below_alloc | apply pw_below_drewN | apply below_drew1 | refine below_set ?_ GE590.out) | exact HB.out))) : w.heap.size ≤ gb591)); have n4_ := Aside0.mk ((by rw [hg]; exact (below_size (by repeat (first | (with_reducible first | exact HB.out | apply below_alloc | apply pw_below_drewN | apply below_drew1 | refine below_set ?_ GE590.out) | exact HB.out))) : w.heap.size ≤ gb591)); have n5_ := Aside0.mk ((by rw [hg]; exact Nat.ne_of_lt (blk_lt (g := gb590) (o := .cells #[.int .i64 a0_0, .int .i64 a0_1, .int .i64 a0_2, .int .i64 a0_3, .int .i64 a0_4, .int .i64 a0_5, .int .i64 a0_6, .int .i64 a0_7, .int .i64 a0_8] 95 (0, 0)) (by (with_reducible repeat (first | refine blk_drewN ?_ _ | refine blk_drew ?_ | refine blk_alloc ?_ _)); exact BK590.out)) : gb590 ≠ gb591)); have n6_ := Aside0.mk ((by rw [hg]; exact Nat.ne_of_gt (blk_lt (g := gb590) (o := .cells #[.int .i64 a0_0, .int .i64 a0_1, .int .i64 a0_2, .int .i64 a0_3, .int .i64 a0_4, .int .i64 a0_5, .int .i64 a0_6, .int .i64 a0_7, .int .i64 a0_8] 95 (0, 0)) (by (with_reducible repeat (first | refine blk_drewN ?_ _ | refine blk_drew ?_ | refine blk_alloc ?_ _)); exact BK590.out)) : gb591 ≠ gb590)); clear BK590; clear HB; have BK590 := n0_; have HB := n1_; have BK591 := n2_; have GW591 := n3_; have GE591 := n4_; have NB590_591 := n5_; have NB591_590 := n6_; clear n0_ n1_ n2_ n3_ n4_ n5_ n6_; clear hb hbox hg; have hnb13 := NB590_591.out; have hnc13 := NB591_590.out; have hcz14_0 : w12.cell? ⟨gb590, 0, none⟩ = some (.int .i64 a0_0) := (blk_cell BK590.out 0).trans rfl; have hcz14_1 : w12.cell? ⟨gb590, 1, none⟩ = some (.int .i64 a0_1) := (blk_cell BK590.out 1).trans rfl; have hcz14_2 : w12.cell? ⟨gb590, 2, none⟩ = some (.int .i64 a0_2) := (blk_cell BK590.out 2).trans rfl; have hcz14_3 : w12.cell? ⟨gb590, 3, none⟩ = some (.int .i64 a0_3) := (blk_cell BK590.out 3).trans rfl; have hcz14_4 : w12.cell? ⟨gb590, 4, none⟩ = some (.int .i64 a0_4) := (blk_cell BK590.out 4).trans rfl; have hcz14_5 : w12.cell? ⟨gb590, 5, none⟩ = some (.int .i64 a0_5) := (blk_cell BK590.out 5).trans rfl; have hcz14_6 : w12.cell? ⟨gb590, 6, none⟩ = some (.int .i64 a0_6) := (blk_cell BK590.out 6).trans rfl; have hcz14_7 : w12.cell? ⟨gb590, 7, none⟩ = some (.int .i64 a0_7) := (blk_cell BK590.out 7).trans rfl; have hcz14_8 : w12.cell? ⟨gb590, 8, none⟩ = some (.int .i64 a0_8) := (blk_cell BK590.out 8).trans rfl; have hfz14_0 := blk_frozen BK590.out 0; have hfz14_1 := blk_frozen BK590.out 1; have hfz14_2 := blk_frozen BK590.out 2; have hfz14_3 := blk_frozen BK590.out 3; have hfz14_4 := blk_frozen BK590.out 4; have hfz14_5 := blk_frozen BK590.out 5; have hfz14_6 := blk_frozen BK590.out 6; have hfz14_7 := blk_frozen BK590.out 7; have hfz14_8 := blk_frozen BK590.out 8) | ((with_reducible refine gate_callee (f := 86) rfl ?_); refine goesL_ (some 8) rfl rfl Try.func86 (by kernel_rfl) rfl #[.agg #[.int .i64 a0_0, .int .i64 a0_1, .int .i64 a0_2, .int .i64 a0_3, .int .i64 a0_4, .int .i64 a0_5, .int .i64 a0_6, .int .i64 a0_7, .int .i64 a0_8]] rfl (by (try simp only [List.map_toArray, List.map_cons, List.map_nil]); first | done | rfl | (simp only [List.length_drop, List.length_take]; rfl)) ?_; (with_reducible refine (command_Encode.calls a0_0 a0_1 a0_2 a0_3 a0_4 a0_5 a0_6 a0_7 a0_8 t592 t595 _ A2.out).mono ?_); rintro e w15 ⟨v593, rfl, ho0, hb⟩; refine ⟨_, rfl, ?_⟩; have n0_ := Aside0.mk (Kd.R_lower ho0 (below_size (by repeat (first | (with_reducible first | exact HB.out | apply below_alloc | apply pw_below_drewN | apply below_drew1 | refine below_set ?_ GE590.out | refine below_set ?_ GE591.out) | exact HB.out)))); have n1_ := Aside0.mk (blk_below (g := gb590) (o := .cells #[.int .i64 a0_0, .int .i64 a0_1, .int .i64 a0_2, .int .i64 a0_3, .int .i64 a0_4, .int .i64 a0_5, .int .i64 a0_6, .int .i64 a0_7, .int .i64 a0_8] 95 (0, 0)) (by (with_reducible repeat (first | refine blk_drewN ?_ _ | refine blk_drew ?_ | refine blk_alloc ?_ _)); exact BK590.out) hb); have n2_ := Aside0.mk (blk_below (g := gb591) (o := .cells #[.int .i64 0, .int .i64 0, .int .i64 0, .slice none 0 0] 91 (0, 0)) (by (with_reducible repeat (first | refine blk_drewN ?_ _ | refine blk_drew ?_ | refine blk_alloc ?_ _)); exact BK591.out) hb); have n3_ := Aside0.mk (below_step (by repeat (first | (with_reducible first | exact HB.out | apply below_alloc | apply pw_below_drewN | apply below_drew1 | refine below_set ?_ GE590.out | refine below_set ?_ GE591.out) | exact HB.out)) hb); clear BK590; clear BK591; clear HB; have HO594 := n0_; have BK590 := n1_; have BK591 := n2_; have HB := n3_; clear n0_ n1_ n2_ n3_; (try clear hb); (try clear hb2); (try clear hk); (try clear hi); (try clear ho0); have hcz16_0 : w15.cell? ⟨gb591, 0, none⟩ = some (.int .i64 0) := (blk_cell BK591.out 0).trans rfl; have hcz16_1 : w15.cell? ⟨gb591, 1, none⟩ = some (.int .i64 0) := (blk_cell BK591.out 1).trans rfl; have hcz16_2 : w15.cell? ⟨gb591, 2, none⟩ = some (.int .i64 0) := (blk_cell BK591.out 2).trans rfl; have hcz16_3 : w15.cell? ⟨gb591, 3, none⟩ = some (.slice none 0 0) := (blk_cell BK591.out 3).trans rfl; have hfz16_0 := blk_frozen BK591.out 0; have hfz16_1 := blk_frozen BK591.out 1; have hfz16_2 := blk_frozen BK591.out 2; have hfz16_3 := blk_frozen BK591.out 3))
    refine bodyPost_ret (results_ct rfl _ _ gb591 91 #[.int .i64 0, .int .i64 0, .int .i64 0, .slice none 0 0] (0, 0) _ rfl (by (with_reducible repeat (first | refine blk_drewN ?_ _ | refine blk_drew ?_ | refine blk_alloc ?_ _)); refine blk_put (cs := #[.int .i64 0, .int .i64 0, .int .i64 0, .slice none 0 0]) ?_ 3 _ rfl; (with_reducible repeat (first | refine blk_drewN ?_ _ | refine blk_drew ?_ | refine blk_alloc ?_ _)); refine blk_put (cs := #[.int .i64 0, .int .i64 0, .int .i64 0, .slice none 0 0]) ?_ 2 _ rfl; (with_reducible repeat (first | refine blk_drewN ?_ _ | refine blk_drew ?_ | refine blk_alloc ?_ _)); refine blk_put (cs := #[.int .i64 0, .int .i64 0, .int .i64 0, .slice none 0 0]) ?_ 1 _ rfl; (with_reducible repeat (first | refine blk_drewN ?_ _ | refine blk_drew ?_ | refine blk_alloc ?_ _)); refine blk_put (cs := #[.int .i64 0, .int .i64 0, .int .i64 0, .slice none 0 0]) ?_ 0 _ rfl; (with_reducible repeat (first | refine blk_drewN ?_ _ | refine blk_drew ?_ | refine blk_alloc ?_ _)); exact BK591.out) Try.underlying91 rfl (by kernel_rfl)) rfl ?_
    exact ⟨_, by first | rfl | (simp [errW_none, errW_some] <;> rfl) | (simp [*, errW_none, errW_some] <;> rfl), by first | exact Kd.R_nil _ _ _ _ _ | exact Kd.N_nil _ _ _ _ _ | exact Kd.V_nil _ _ _ _ _ | exact Kd.Q_nil _ _ _ _ _ | exact Kd.S_nil _ _ _ _ _, by repeat (first | (with_reducible first | exact HB.out | apply below_alloc | apply pw_below_drewN | apply below_drew1 | refine below_set ?_ GE590.out | refine below_set ?_ GE591.out) | exact HB.out)⟩

end Go.Proofs.Ytalpemoodollpaa.P
-- Printed by hookprint.py (the session's own program, over the kit's print.py): checked by Lean like any text.
namespace Go.Proofs.Ytalpemoodollpaa.P
open Go.RowKit Go.Proofs.YtalpemoodollpaaW.PrintWords Go.Proofs.YtalpemoodollpaaW.PrintLast Go.Proofs.YtalpemoodollpaaW.PrintMore
attribute [local go_sem] max2_int min2_int max_two min_two max_three min_three max_four min_four   -- for this text's walks alone
set_option linter.unusedVariables false
set_option linter.unusedSimpArgs false

/-! ### damperref29_Of: function 79 -/
def damperref29_Of.f (k : Nat) (a0_0 : Int) (a0_1 : Int) (a0_2 : Int) (a0_3 : Int) (a0_4 : Int) (a0_5 : Int) (a0_6 : Int) (a0_7 : Int) (a0_8 : Int) : Option (Int × Int × Int × List Int × Int) := (damperref05_Encode.f k a0_0 a0_1 a0_2 a0_3 a0_4 a0_5 a0_6 a0_7 a0_8).bind fun bt637 => (if bt637.2 = 0 then (some (1, 0, 0, bt637.1, 0)) else (some (0, 0, 0, ([] : List Int), bt637.2)))
theorem damperref29_Of.mono : ∀ a0 a1 a2 a3 a4 a5 a6 a7 a8 k, LeO (damperref29_Of.f k a0 a1 a2 a3 a4 a5 a6 a7 a8) (damperref29_Of.f (k + 1) a0 a1 a2 a3 a4 a5 a6 a7 a8) := by
  intro a0 a1 a2 a3 a4 a5 a6 a7 a8 k
  unfold damperref29_Of.f
  repeat' first
      | (with_reducible exact damperref05_Encode.mono _ _ _ _ _ _ _ _ _ _)
      | (with_reducible exact LeO.refl _)
      | (with_reducible exact LeO.none _)
      | (with_reducible refine LeO.ite ?_ ?_)
      | (with_reducible refine LeO.bind ?_ (fun _ => ?_))
      | exact damperref05_Encode.mono _ _ _ _ _ _ _ _ _ _
      | exact LeO.none _
      | refine LeO.ite ?_ ?_
      | refine LeO.bind ?_ (fun _ => ?_)
set_option maxHeartbeats 8000000 in
set_option maxRecDepth 100000 in
theorem damperref29_Of.calls (k : Nat) (a0_0 : Int) (a0_1 : Int) (a0_2 : Int) (a0_3 : Int) (a0_4 : Int) (a0_5 : Int) (a0_6 : Int) (a0_7 : Int) (a0_8 : Int) (r1 : Int) (r2 : Int) (r3 : Int) (r4 : List Int) (r5 : Int) (w : World) (h : damperref29_Of.f k a0_0 a0_1 a0_2 a0_3 a0_4 a0_5 a0_6 a0_7 a0_8 = some (r1, r2, r3, r4, r5)) :
    Calls Try.prog 79 #[.agg #[.int .i64 a0_0, .int .i64 a0_1, .int .i64 a0_2, .int .i64 a0_3, .int .i64 a0_4, .int .i64 a0_5, .int .i64 a0_6, .int .i64 a0_7, .int .i64 a0_8]] w fun e w' => ∃ v3_ : Value, e = .returned (.tuple #[.agg #[.int .i64 r1, .int .i64 r2, .int .i64 r3, v3_], .int .i64 r5]) ∧ Kd.R (Kd.int .u8) 5 w' w.heap.size (fun _ => True) v3_ r4 ∧ Below w.heap.size w w' := by
  have hu95 := Try.underlying95
  have hu91 := Try.underlying91
  have HB := Aside0.mk (Below.refl w.heap.size w)
  have H : ((damperref05_Encode.f k a0_0 a0_1 a0_2 a0_3 a0_4 a0_5 a0_6 a0_7 a0_8).bind fun bt637 => (if bt637.2 = 0 then (some (1, 0, 0, bt637.1, 0)) else (some (0, 0, 0, ([] : List Int), bt637.2)))) = some (r1, r2, r3, r4, r5) := h
  clear h
  replace H := Option.bind_eq_some_iff.mp H
  obtain ⟨⟨t637, t640⟩, A20, H⟩ := H
  replace H : (if t640 = 0 then (some (1, 0, 0, t637, 0)) else (some (0, 0, 0, ([] : List Int), t640))) = some (r1, r2, r3, r4, r5) := H
  have A2 := Aside0.mk A20
  clear A20
  by_cases c3 : t640 = 0
  · rw [if_pos c3] at H
    have c3b0 : (t640 == 0) = true := beq_iff_eq.mpr c3
    have c3b1 : (t640 != 0) = false := bne_eq_false_iff_eq.mpr c3
    clear c3
    simp only [Option.some.injEq, Prod.mk.injEq] at H
    obtain ⟨rfl, rfl, rfl, rfl, rfl⟩ := H
    go_enter Try.func79, Try.ntmps79
    go_wp2_with (first | ((with_reducible refine gate_dst (N := 1) rfl ?_); refine box_event ?hg (N := 1) ?hd (cs := #[.int .i64 a0_0, .int .i64 a0_1, .int .i64 a0_2, .int .i64 a0_3, .int .i64 a0_4, .int .i64 a0_5, .int .i64 a0_6, .int .i64 a0_7, .int .i64 a0_8]) (t := 95) ?hr ?_; (case hd => rfl); (case hg => rfl); (case hr => first | (go_simp; done) | (go_simp; rfl)); intro gb635 hg w4 hbox hb; have n0_ := Aside0.mk (below_step (by repeat (first | (with_reducible first | exact HB.out | apply below_alloc | apply pw_below_drewN | apply below_drew1) | exact HB.out)) hb); have n1_ := Aside0.mk (hbox); have n2_ := Aside0.mk ((by rw [hg]; exact (below_size (by repeat (first | (with_reducible first | exact HB.out | apply below_alloc | apply pw_below_drewN | apply below_drew1) | exact HB.out))) : w.heap.size ≤ gb635)); have n3_ := Aside0.mk ((by rw [hg]; exact (below_size (by repeat (first | (with_reducible first | exact HB.out | apply below_alloc | apply pw_below_drewN | apply below_drew1) | exact HB.out))) : w.heap.size ≤ gb635)); clear HB; have HB := n0_; have BK635 := n1_; have GW635 := n2_; have GE635 := n3_; clear n0_ n1_ n2_ n3_; clear hb hbox hg) | ((with_reducible refine gate_dst (N := 2) rfl ?_); refine box_event ?hg (N := 2) ?hd (cs := #[.int .i64 0, .int .i64 0, .int .i64 0, .slice none 0 0]) (t := 91) ?hr ?_; (case hd => rfl); (case hg => rfl); (case hr => first | (go_simp; done) | (go_simp; rfl)); intro gb636 hg w5 hbox hb; have n0_ := Aside0.mk (blk_below (g := gb635) (o := .cells #[.int .i64 a0_0, .int .i64 a0_1, .int .i64 a0_2, .int .i64 a0_3, .int .i64 a0_4, .int .i64 a0_5, .int .i64 a0_6, .int .i64 a0_7, .int .i64 a0_8] 95 (0, 0)) (by (with_reducible repeat (first | refine blk_drewN ?_ _ | refine blk_drew ?_ | refine blk_alloc ?_ _)); exact BK635.out) hb); have n1_ := Aside0.mk (below_step (by repeat (first | (with_reducible first | exact HB.out | apply below_alloc | apply pw_below_drewN | apply below_drew1 | refine below_set ?_ GE635.out) | exact HB.out)) hb); have n2_ := Aside0.mk (hbox); have n3_ := Aside0.mk ((by rw [hg]; exact (below_size (by repeat (first | (with_reducible first | exact HB.out | apply below_alloc | apply pw_below_drewN | apply below_drew1 | refine below_set ?_ GE635.out) | exact HB.out))) : w.heap.size ≤ gb636)); have n4_ := Aside0.mk ((by rw [hg]; exact (below_size (by repeat (first | (with_reducible first | exact HB.out | apply below_alloc | apply pw_below_drewN | apply below_drew1 | refine below_set ?_ GE635.out) | exact HB.out))) : w.heap.size ≤ gb636)); have n5_ := Aside0.mk ((by rw [hg]; exact Nat.ne_of_lt (blk_lt (g := gb635) (o := .cells #[.int .i64 a0_0, .int .i64 a0_1, .int .i64 a0_2, .int .i64 a0_3, .int .i64 a0_4, .int .i64 a0_5, .int .i64 a0_6, .int .i64 a0_7, .int .i64 a0_8] 95 (0, 0)) (by (with_reducible repeat (first | refine blk_drewN ?_ _ | refine blk_drew ?_ | refine blk_alloc ?_ _)); exact BK635.out)) : gb635 ≠ gb636)); have n6_ := Aside0.mk ((by rw [hg]; exact Nat.ne_of_gt (blk_lt (g := gb635) (o := .cells #[.int .i64 a0_0, .int .i64 a0_1, .int .i64 a0_2, .int .i64 a0_3, .int .i64 a0_4, .int .i64 a0_5, .int .i64 a0_6, .int .i64 a0_7, .int .i64 a0_8] 95 (0, 0)) (by (with_reducible repeat (first | refine blk_drewN ?_ _ | refine blk_drew ?_ | refine blk_alloc ?_ _)); exact BK635.out)) : gb636 ≠ gb635)); clear BK635; clear HB; have BK635 := n0_; have HB := n1_; have BK636 := n2_; have GW636 := n3_; have GE636 := n4_; have NB635_636 := n5_; have NB636_635 := n6_; clear n0_ n1_ n2_ n3_ n4_ n5_ n6_; clear hb hbox hg; have hnb6 := NB635_636.out; have hnc6 := NB636_635.out; have hcz7_0 : w5.cell? ⟨gb635, 0, none⟩ = some (.int .i64 a0_0) := (blk_cell BK635.out 0).trans rfl; have hcz7_1 : w5.cell? ⟨gb635, 1, none⟩ = some (.int .i64 a0_1) := (blk_cell BK635.out 1).trans rfl; have hcz7_2 : w5.cell? ⟨gb635, 2, none⟩ = some (.int .i64 a0_2) := (blk_cell BK635.out 2).trans rfl; have hcz7_3 : w5.cell? ⟨gb635, 3, none⟩ = some (.int .i64 a0_3) := (blk_cell BK635.out 3).trans rfl; have hcz7_4 : w5.cell? ⟨gb635, 4, none⟩ = some (.int .i64 a0_4) := (blk_cell BK635.out 4).trans rfl; have hcz7_5 : w5.cell? ⟨gb635, 5, none⟩ = some (.int .i64 a0_5) := (blk_cell BK635.out 5).trans rfl; have hcz7_6 : w5.cell? ⟨gb635, 6, none⟩ = some (.int .i64 a0_6) := (blk_cell BK635.out 6).trans rfl; have hcz7_7 : w5.cell? ⟨gb635, 7, none⟩ = some (.int .i64 a0_7) := (blk_cell BK635.out 7).trans rfl; have hcz7_8 : w5.cell? ⟨gb635, 8, none⟩ = some (.int .i64 a0_8) := (blk_cell BK635.out 8).trans rfl; have hfz7_0 := blk_frozen BK635.out 0; have hfz7_1 := blk_frozen BK635.out 1; have hfz7_2 := blk_frozen BK635.out 2; have hfz7_3 := blk_frozen BK635.out 3; have hfz7_4 := blk_frozen BK635.out 4; have hfz7_5 := blk_frozen BK635.out 5; have hfz7_6 := blk_frozen BK635.out 6; have hfz7_7 := blk_frozen BK635.out 7; have hfz7_8 := blk_frozen BK635.out 8) | ((with_reducible refine gate_callee (f := 88) rfl ?_); refine goesL_ (some 8) rfl rfl Try.func88 (by kernel_rfl) rfl #[.agg #[.int .i64 a0_0, .int .i64 a0_1, .int .i64 a0_2, .int .i64 a0_3, .int .i64 a0_4, .int .i64 a0_5, .int .i64 a0_6, .int .i64 a0_7, .int .i64 a0_8]] rfl (by (try simp only [List.map_toArray, List.map_cons, List.map_nil]); first | done | rfl | (simp only [List.length_drop, List.length_take]; rfl)) ?_; (with_reducible refine (damperref05_Encode.calls k a0_0 a0_1 a0_2 a0_3 a0_4 a0_5 a0_6 a0_7 a0_8 t637 t640 _ A2.out).mono ?_); rintro e w8 ⟨v638, rfl, ho0, hb⟩; refine ⟨_, rfl, ?_⟩; have n0_ := Aside0.mk (Kd.R_lower ho0 (below_size (by repeat (first | (with_reducible first | exact HB.out | apply below_alloc | apply pw_below_drewN | apply below_drew1 | refine below_set ?_ GE635.out | refine below_set ?_ GE636.out) | exact HB.out)))); have n1_ := Aside0.mk (blk_below (g := gb635) (o := .cells #[.int .i64 a0_0, .int .i64 a0_1, .int .i64 a0_2, .int .i64 a0_3, .int .i64 a0_4, .int .i64 a0_5, .int .i64 a0_6, .int .i64 a0_7, .int .i64 a0_8] 95 (0, 0)) (by (with_reducible repeat (first | refine blk_drewN ?_ _ | refine blk_drew ?_ | refine blk_alloc ?_ _)); exact BK635.out) hb); have n2_ := Aside0.mk (blk_below (g := gb636) (o := .cells #[.int .i64 0, .int .i64 0, .int .i64 0, .slice none 0 0] 91 (0, 0)) (by (with_reducible repeat (first | refine blk_drewN ?_ _ | refine blk_drew ?_ | refine blk_alloc ?_ _)); exact BK636.out) hb); have n3_ := Aside0.mk (below_step (by repeat (first | (with_reducible first | exact HB.out | apply below_alloc | apply pw_below_drewN | apply below_drew1 | refine below_set ?_ GE635.out | refine below_set ?_ GE636.out) | exact HB.out)) hb); clear BK635; clear BK636; clear HB; have HO639 := n0_; have BK635 := n1_; have BK636 := n2_; have HB := n3_; clear n0_ n1_ n2_ n3_; (try clear hb); (try clear hb2); (try clear hk); (try clear hi); (try clear ho0); obtain ⟨Ao9, co9, eo9⟩ := Kd.R_slice HO639.out; subst eo9; have hcz10_0 : w8.cell? ⟨gb636, 0, none⟩ = some (.int .i64 0) := (blk_cell BK636.out 0).trans rfl; have hcz10_1 : w8.cell? ⟨gb636, 1, none⟩ = some (.int .i64 0) := (blk_cell BK636.out 1).trans rfl; have hcz10_2 : w8.cell? ⟨gb636, 2, none⟩ = some (.int .i64 0) := (blk_cell BK636.out 2).trans rfl; have hcz10_3 : w8.cell? ⟨gb636, 3, none⟩ = some (.slice none 0 0) := (blk_cell BK636.out 3).trans rfl; have hfz10_0 := blk_frozen BK636.out 0; have hfz10_1 := blk_frozen BK636.out 1; have hfz10_2 := blk_frozen BK636.out 2; have hfz10_3 := blk_frozen BK636.out 3))
    refine bodyPost_ret (results_ct rfl _ _ gb636 91 #[.int .i64 1, .int .i64 0, .int .i64 0, .slice Ao9 t637.length co9] (0, 0) _ rfl (by (with_reducible repeat (first | refine blk_drewN ?_ _ | refine blk_drew ?_ | refine blk_alloc ?_ _)); refine blk_put (cs := #[.int .i64 1, .int .i64 0, .int .i64 0, .slice none 0 0]) ?_ 3 _ rfl; (with_reducible repeat (first | refine blk_drewN ?_ _ | refine blk_drew ?_ | refine blk_alloc ?_ _)); refine blk_put (cs := #[.int .i64 1, .int .i64 0, .int .i64 0, .slice none 0 0]) ?_ 2 _ rfl; (with_reducible repeat (first | refine blk_drewN ?_ _ | refine blk_drew ?_ | refine blk_alloc ?_ _)); refine blk_put (cs := #[.int .i64 1, .int .i64 0, .int .i64 0, .slice none 0 0]) ?_ 1 _ rfl; (with_reducible repeat (first | refine blk_drewN ?_ _ | refine blk_drew ?_ | refine blk_alloc ?_ _)); refine blk_put (cs := #[.int .i64 0, .int .i64 0, .int .i64 0, .slice none 0 0]) ?_ 0 _ rfl; (with_reducible repeat (first | refine blk_drewN ?_ _ | refine blk_drew ?_ | refine blk_alloc ?_ _)); exact BK636.out) Try.underlying91 rfl (by kernel_rfl)) rfl ?_
    exact ⟨_, by first | rfl | (simp [errW_none, errW_some] <;> rfl) | (simp [*, errW_none, errW_some] <;> rfl), by (with_reducible repeat (first | apply Kd.R_alloc | apply Kd.R_drewN | apply Kd.R_drew)); exact Kd.R_mono (Kd.R_far (p := ⟨gb636, 3, none⟩) (Kd.R_far (p := ⟨gb636, 2, none⟩) (Kd.R_far (p := ⟨gb636, 1, none⟩) (Kd.R_far (p := ⟨gb636, 0, none⟩) (Kd.R_types HO639.out BK636.out (by decide)) (fun _ hk => hk.2) (.int .i64 1)) (fun _ hk => hk.2) (.int .i64 0)) (fun _ hk => hk.2) (.int .i64 0)) (fun _ hk => hk.2) (.slice Ao9 t637.length co9)) (fun _ hk => trivial), by repeat (first | (with_reducible first | exact HB.out | apply below_alloc | apply pw_below_drewN | apply below_drew1 | refine below_set ?_ GE635.out | refine below_set ?_ GE636.out) | exact HB.out)⟩
  · rw [if_neg c3] at H
    have c3b0 : (t640 == 0) = false := beq_eq_false_iff_ne.mpr c3
    have c3b1 : (t640 != 0) = true := bne_iff_ne.mpr c3
    simp only [Option.some.injEq, Prod.mk.injEq] at H
    obtain ⟨rfl, rfl, rfl, rfl, rfl⟩ := H
    go_enter Try.func79, Try.ntmps79
    go_wp2_with (first | ((with_reducible refine gate_dst (N := 1) rfl ?_); refine box_event ?hg (N := 1) ?hd (cs := #[.int .i64 a0_0, .int .i64 a0_1, .int .i64 a0_2, .int .i64 a0_3, .int .i64 a0_4, .int .i64 a0_5, .int .i64 a0_6, .int .i64 a0_7, .int .i64 a0_8]) (t := 95) ?hr ?_; (case hd => rfl); (case hg => rfl); (case hr => first | (go_simp; done) | (go_simp; rfl)); intro gb635 hg w11 hbox hb; have n0_ := Aside0.mk (below_step (by repeat (first | (with_reducible first | exact HB.out | apply below_alloc | apply pw_below_drewN | apply below_drew1) | exact HB.out)) hb); have n1_ := Aside0.mk (hbox); have n2_ := Aside0.mk ((by rw [hg]; exact (below_size (by repeat (first | (with_reducible first | exact HB.out | apply below_alloc | apply pw_below_drewN | apply below_drew1) | exact HB.out))) : w.heap.size ≤ gb635)); have n3_ := Aside0.mk ((by rw [hg]; exact (below_size (by repeat (first | (with_reducible first | exact HB.out | apply below_alloc | apply pw_below_drewN | apply below_drew1) | exact HB.out))) : w.heap.size ≤ gb635)); clear HB; have HB := n0_; have BK635 := n1_; have GW635 := n2_; have GE635 := n3_; clear n0_ n1_ n2_ n3_; clear hb hbox hg) | ((with_reducible refine gate_dst (N := 2) rfl ?_); refine box_event ?hg (N := 2) ?hd (cs := #[.int .i64 0, .int .i64 0, .int .i64 0, .slice none 0 0]) (t := 91) ?hr ?_; (case hd => rfl); (case hg => rfl); (case hr => first | (go_simp; done) | (go_simp; rfl)); intro gb636 hg w12 hbox hb; have n0_ := Aside0.mk (blk_below (g := gb635) (o := .cells #[.int .i64 a0_0, .int .i64 a0_1, .int .i64 a0_2, .int .i64 a0_3, .int .i64 a0_4, .int .i64 a0_5, .int .i64 a0_6, .int .i64 a0_7, .int .i64 a0_8] 95 (0, 0)) (by (with_reducible repeat (first | refine blk_drewN ?_ _ | refine blk_drew ?_ | refine blk_alloc ?_ _)); exact BK635.out) hb); have n1_ := Aside0.mk (below_step (by repeat (first | (with_reducible first | exact HB.out | apply below_alloc | apply pw_below_drewN | apply below_drew1 | refine below_set ?_ GE635.out) | exact HB.out)) hb); have n2_ := Aside0.mk (hbox); have n3_ := Aside0.mk ((by rw [hg]; exact (below_size (by repeat (first | (with_reducible first | exact HB.out | apply below_alloc | apply pw_below_drewN | apply below_drew1 | refine below_set ?_ GE635.out) | exact HB.out))) : w.heap.size ≤ gb636)); have n4_ := Aside0.mk ((by rw [hg]; exact (below_size (by repeat (first | (with_reducible first | exact HB.out | apply below_alloc | apply pw_below_drewN | apply below_drew1 | refine below_set ?_ GE635.out) | exact HB.out))) : w.heap.size ≤ gb636)); have n5_ := Aside0.mk ((by rw [hg]; exact Nat.ne_of_lt (blk_lt (g := gb635) (o := .cells #[.int .i64 a0_0, .int .i64 a0_1, .int .i64 a0_2, .int .i64 a0_3, .int .i64 a0_4, .int .i64 a0_5, .int .i64 a0_6, .int .i64 a0_7, .int .i64 a0_8] 95 (0, 0)) (by (with_reducible repeat (first | refine blk_drewN ?_ _ | refine blk_drew ?_ | refine blk_alloc ?_ _)); exact BK635.out)) : gb635 ≠ gb636)); have n6_ := Aside0.mk ((by rw [hg]; exact Nat.ne_of_gt (blk_lt (g := gb635) (o := .cells #[.int .i64 a0_0, .int .i64 a0_1, .int .i64 a0_2, .int .i64 a0_3, .int .i64 a0_4, .int .i64 a0_5, .int .i64 a0_6, .int .i64 a0_7, .int .i64 a0_8] 95 (0, 0)) (by (with_reducible repeat (first | refine blk_drewN ?_ _ | refine blk_drew ?_ | refine blk_alloc ?_ _)); exact BK635.out)) : gb636 ≠ gb635)); clear BK635; clear HB; have BK635 := n0_; have HB := n1_; have BK636 := n2_; have GW636 := n3_; have GE636 := n4_; have NB635_636 := n5_; have NB636_635 := n6_; clear n0_ n1_ n2_ n3_ n4_ n5_ n6_; clear hb hbox hg; have hnb13 := NB635_636.out; have hnc13 := NB636_635.out; have hcz14_0 : w12.cell? ⟨gb635, 0, none⟩ = some (.int .i64 a0_0) := (blk_cell BK635.out 0).trans rfl; have hcz14_1 : w12.cell? ⟨gb635, 1, none⟩ = some (.int .i64 a0_1) := (blk_cell BK635.out 1).trans rfl; have hcz14_2 : w12.cell? ⟨gb635, 2, none⟩ = some (.int .i64 a0_2) := (blk_cell BK635.out 2).trans rfl; have hcz14_3 : w12.cell? ⟨gb635, 3, none⟩ = some (.int .i64 a0_3) := (blk_cell BK635.out 3).trans rfl; have hcz14_4 : w12.cell? ⟨gb635, 4, none⟩ = some (.int .i64 a0_4) := (blk_cell BK635.out 4).trans rfl; have hcz14_5 : w12.cell? ⟨gb635, 5, none⟩ = some (.int .i64 a0_5) := (blk_cell BK635.out 5).trans rfl; have hcz14_6 : w12.cell? ⟨gb635, 6, none⟩ = some (.int .i64 a0_6) := (blk_cell BK635.out 6).trans rfl; have hcz14_7 : w12.cell? ⟨gb635, 7, none⟩ = some (.int .i64 a0_7) := (blk_cell BK635.out 7).trans rfl; have hcz14_8 : w12.cell? ⟨gb635, 8, none⟩ = some (.int .i64 a0_8) := (blk_cell BK635.out 8).trans rfl; have hfz14_0 := blk_frozen BK635.out 0; have hfz14_1 := blk_frozen BK635.out 1; have hfz14_2 := blk_frozen BK635.out 2; have hfz14_3 := blk_frozen BK635.out 3; have hfz14_4 := blk_frozen BK635.out 4; have hfz14_5 := blk_frozen BK635.out 5; have hfz14_6 := blk_frozen BK635.out 6; have hfz14_7 := blk_frozen BK635.out 7; have hfz14_8 := blk_frozen BK635.out 8) | ((with_reducible refine gate_callee (f := 88) rfl ?_); refine goesL_ (some 8) rfl rfl Try.func88 (by kernel_rfl) rfl #[.agg #[.int .i64 a0_0, .int .i64 a0_1, .int .i64 a0_2, .int .i64 a0_3, .int .i64 a0_4, .int .i64 a0_5, .int .i64 a0_6, .int .i64 a0_7, .int .i64 a0_8]] rfl (by (try simp only [List.map_toArray, List.map_cons, List.map_nil]); first | done | rfl | (simp only [List.length_drop, List.length_take]; rfl)) ?_; (with_reducible refine (damperref05_Encode.calls k a0_0 a0_1 a0_2 a0_3 a0_4 a0_5 a0_6 a0_7 a0_8 t637 t640 _ A2.out).mono ?_); rintro e w15 ⟨v638, rfl, ho0, hb⟩; refine ⟨_, rfl, ?_⟩; have n0_ := Aside0.mk (Kd.R_lower ho0 (below_size (by repeat (first | (with_reducible first | exact HB.out | apply below_alloc | apply pw_below_drewN | apply below_drew1 | refine below_set ?_ GE635.out | refine below_set ?_ GE636.out) | exact HB.out)))); have n1_ := Aside0.mk (blk_below (g := gb635) (o := .cells #[.int .i64 a0_0, .int .i64 a0_1, .int .i64 a0_2, .int .i64 a0_3, .int .i64 a0_4, .int .i64 a0_5, .int .i64 a0_6, .int .i64 a0_7, .int .i64 a0_8] 95 (0, 0)) (by (with_reducible repeat (first | refine blk_drewN ?_ _ | refine blk_drew ?_ | refine blk_alloc ?_ _)); exact BK635.out) hb); have n2_ := Aside0.mk (blk_below (g := gb636) (o := .cells #[.int .i64 0, .int .i64 0, .int .i64 0, .slice none 0 0] 91 (0, 0)) (by (with_reducible repeat (first | refine blk_drewN ?_ _ | refine blk_drew ?_ | refine blk_alloc ?_ _)); exact BK636.out) hb); have n3_ := Aside0.mk (below_step (by repeat (first | (with_reducible first | exact HB.out | apply below_alloc | apply pw_below_drewN | apply below_drew1 | refine below_set ?_ GE635.out | refine below_set ?_ GE636.out) | exact HB.out)) hb); clear BK635; clear BK636; clear HB; have HO639 := n0_; have BK635 := n1_; have BK636 := n2_; have HB := n3_; clear n0_ n1_ n2_ n3_; (try clear hb); (try clear hb2); (try clear hk); (try clear hi); (try clear ho0); have hcz16_0 : w15.cell? ⟨gb636, 0, none⟩ = some (.int .i64 0) := (blk_cell BK636.out 0).trans rfl; have hcz16_1 : w15.cell? ⟨gb636, 1, none⟩ = some (.int .i64 0) := (blk_cell BK636.out 1).trans rfl; have hcz16_2 : w15.cell? ⟨gb636, 2, none⟩ = some (.int .i64 0) := (blk_cell BK636.out 2).trans rfl; have hcz16_3 : w15.cell? ⟨gb636, 3, none⟩ = some (.slice none 0 0) := (blk_cell BK636.out 3).trans rfl; have hfz16_0 := blk_frozen BK636.out 0; have hfz16_1 := blk_frozen BK636.out 1; have hfz16_2 := blk_frozen BK636.out 2; have hfz16_3 := blk_frozen BK636.out 3))
    refine bodyPost_ret (results_ct rfl _ _ gb636 91 #[.int .i64 0, .int .i64 0, .int .i64 0, .slice none 0 0] (0, 0) _ rfl (by (with_reducible repeat (first | refine blk_drewN ?_ _ | refine blk_drew ?_ | refine blk_alloc ?_ _)); refine blk_put (cs := #[.int .i64 0, .int .i64 0, .int .i64 0, .slice none 0 0]) ?_ 3 _ rfl; (with_reducible repeat (first | refine blk_drewN ?_ _ | refine blk_drew ?_ | refine blk_alloc ?_ _)); refine blk_put (cs := #[.int .i64 0, .int .i64 0, .int .i64 0, .slice none 0 0]) ?_ 2 _ rfl; (with_reducible repeat (first | refine blk_drewN ?_ _ | refine blk_drew ?_ | refine blk_alloc ?_ _)); refine blk_put (cs := #[.int .i64 0, .int .i64 0, .int .i64 0, .slice none 0 0]) ?_ 1 _ rfl; (with_reducible repeat (first | refine blk_drewN ?_ _ | refine blk_drew ?_ | refine blk_alloc ?_ _)); refine blk_put (cs := #[.int .i64 0, .int .i64 0, .int .i64 0, .slice none 0 0]) ?_ 0 _ rfl; (with_reducible repeat (first | refine blk_drewN ?_ _ | refine blk_drew ?_ | refine blk_alloc ?_ _)); exact BK636.out) Try.underlying91 rfl (by kernel_rfl)) rfl ?_
    exact ⟨_, by first | rfl | (simp [errW_none, errW_some] <;> rfl) | (simp [*, errW_none, errW_some] <;> rfl), by first | exact Kd.R_nil _ _ _ _ _ | exact Kd.N_nil _ _ _ _ _ | exact Kd.V_nil _ _ _ _ _ | exact Kd.Q_nil _ _ _ _ _ | exact Kd.S_nil _ _ _ _ _, by repeat (first | (with_reducible first | exact HB.out | apply below_alloc | apply pw_below_drewN | apply below_drew1 | refine below_set ?_ GE635.out | refine below_set ?_ GE636.out) | exact HB.out)⟩

end Go.Proofs.Ytalpemoodollpaa.P
/- The walk of ScriptCommands. -/
namespace Go.Proofs.Ytalpemoodollpaa.P
open Go.RowKit Go.Proofs.YtalpemoodollpaaW.PrintWords Go.Proofs.YtalpemoodollpaaW.PrintLast Go.Proofs.YtalpemoodollpaaW.PrintMore
set_option linter.unusedVariables false
set_option linter.unusedSimpArgs false
theorem C91_one {W : World} {b : Nat} (x : S91) {X : Option Addr} {m : Nat} (h : W.heap[b]? = some (.cells #[.int .i64 x.f0, .int .i64 x.f1, .int .i64 x.f2, .slice X x.f3.length m] 91 (0, 0))) (hq : x.f3.length ≤ m) (hC : Kd.C (Kd.int .u8) W X x.f3.length x.f3) :
    Kd.C k91 W (some ⟨b, 0, none⟩) 1 [x] := by
  refine ⟨rfl, by decide, fun _ => ⟨_, rfl, fun j p hj => ?_⟩⟩
  cases j with
  | zero =>
    simp only [List.getElem?_cons_zero, Option.some.injEq] at hj
    subst hj
    refine ⟨_, rfl, k91_mk W x hq hC, fun i u hi => ?_⟩
    have e : (0 * k91.sz + i) = i := by omega
    rw [e, add_plain, blk_cell h i]
    exact (List.getElem?_toArray ..).trans hi
  | succ j => simp at hj
theorem same91 (x : S91) (k : Nat) (hk : 2 ≤ k) : damperref29_Same.f k [x] [x] = some true := by
  obtain ⟨k, rfl⟩ : ∃ m, k = m + 2 := ⟨k - 2, by omega⟩
  unfold damperref29_Same.f
  rw [if_pos rfl, damperref29_Same.l0.eq_2, if_pos (by simp), if_pos (by omega), if_pos (by simp), if_pos rfl, if_pos rfl, if_pos rfl, same_of_eq]
  simp only [Option.bind_some]
  rw [if_pos trivial, show wrap64 (0 + 1) = 1 by unfold wrap64; omega, damperref29_Same.l0.eq_2, if_neg (by simp)]
set_option maxRecDepth 100000 in
set_option maxHeartbeats 1000000 in
theorem scriptCommands_calls (a0 a1 a2 a3 a4 a5 a6 a7 a8 : Int) (w : World) (h6 : (Lit.int .i64 a6).wf = true) (h7 : (Lit.int .i64 a7).wf = true) :
    Calls Try.prog 17 #[.agg #[.int .i64 a0, .int .i64 a1, .int .i64 a2, .int .i64 a3, .int .i64 a4, .int .i64 a5, .int .i64 a6, .int .i64 a7, .int .i64 a8]] w fun e w' => e = .returned (.bool true) ∧ Below w.heap.size w w' := by
  have hu95 := Try.underlying95
  have hu91 := Try.underlying91
  have i6 : i64B a6 = true := by have := row.wf_i64 h6; simp [i64B, within_]; omega
  have i7 : i64B a7 = true := by have := row.wf_i64 h7; simp [i64B, within_]; omega
  obtain ⟨x, r5, hE, hO, hrO⟩ : ∃ (x : S91) (r5 : Int), (r5 = 0 ∨ r5 ≠ 0) ∧ script_Of.f a0 a1 a2 a3 a4 a5 a6 a7 a8 = some (x.f0, x.f1, x.f2, x.f3, r5) ∧ damperref29_Of.f 20 a0 a1 a2 a3 a4 a5 a6 a7 a8 = some (x.f0, x.f1, x.f2, x.f3, r5) := by
    have e1 : command_Encode.f a0 a1 a2 a3 a4 a5 a6 a7 a8 = some (if cmdRight ⟨a0, a1, a2, a3, a4, a5, a6, a7, a8⟩ = true then (cmdForm ⟨a0, a1, a2, a3, a4, a5, a6, a7, a8⟩, 0) else ([], 1)) := by unfold command_Encode.f; rw [if_pos ⟨i6, i7⟩]
    have e2 := refCmdEncode ⟨a0, a1, a2, a3, a4, a5, a6, a7, a8⟩ i6 i7 20 (by omega)
    unfold script_Of.f damperref29_Of.f
    dsimp only at e2
    rw [e1, e2]
    by_cases hc : cmdRight ⟨a0, a1, a2, a3, a4, a5, a6, a7, a8⟩ = true
    · rw [if_pos hc]
      exact ⟨⟨1, 0, 0, cmdForm ⟨a0, a1, a2, a3, a4, a5, a6, a7, a8⟩⟩, 0, .inl rfl, rfl, rfl⟩
    · rw [if_neg hc]
      exact ⟨⟨0, 0, 0, []⟩, 1, .inr (by decide), rfl, rfl⟩
  have HO := Aside0.mk hO
  have HRO := Aside0.mk hrO
  clear hE hO hrO h6 h7 i6 i7
  obtain ⟨f0, f1, f2, f3⟩ := x
  dsimp only at HO HRO
  have BX0 := Aside0.mk (show Box9 (w.alloc (.cells #[.int .i64 a0, .int .i64 a1, .int .i64 a2, .int .i64 a3, .int .i64 a4, .int .i64 a5, .int .i64 a6, .int .i64 a7, .int .i64 a8] 95)) 95 w.heap.size a0 a1 a2 a3 a4 a5 a6 a7 a8 from blk_new w _)
  have B0 := Aside0.mk (below_alloc (Below.refl w.heap.size w) (.cells #[.int .i64 a0, .int .i64 a1, .int .i64 a2, .int .i64 a3, .int .i64 a4, .int .i64 a5, .int .i64 a6, .int .i64 a7, .int .i64 a8] 95))
  go_enter Try.func17, Try.ntmps17
  go_wp2_with fail
  refine (script_Of.calls a0 a1 a2 a3 a4 a5 a6 a7 a8 f0 f1 f2 f3 r5 _ HO.out).mono ?_
  rintro e w1 ⟨v, rfl, hR, hd⟩
  obtain ⟨X, m, rfl, hq, hC⟩ := Kd.R_reads hR
  have B1 := Aside0.mk (below_alloc (Below.trans B0.out (Below.mono hd B0.out.size)) (.cells #[.int .i64 f0, .int .i64 f1, .int .i64 f2, .slice X f3.length m] 91))
  have BX1 := Aside0.mk (show Box9 (w1.alloc (.cells #[.int .i64 f0, .int .i64 f1, .int .i64 f2, .slice X f3.length m] 91)) 95 w.heap.size a0 a1 a2 a3 a4 a5 a6 a7 a8 from blk_alloc ((hd.block _ (by simp)).trans BX0.out) _)
  have BS1 := Aside0.mk (blk_new w1 (.cells #[.int .i64 f0, .int .i64 f1, .int .i64 f2, .slice X f3.length m] 91))
  have HQ := Aside0.mk hq
  have CX1 := Aside0.mk (Kd.C_below hC (below_alloc (Below.refl _ _) (.cells #[.int .i64 f0, .int .i64 f1, .int .i64 f2, .slice X f3.length m] 91)))
  clear hR hd hq hC
  obtain ⟨c0, c1, c2, c3, c4, c5, c6, c7, c8⟩ := BX1.out.cells
  go_wp2_with fail
  refine (damperref29_Of.calls 20 a0 a1 a2 a3 a4 a5 a6 a7 a8 f0 f1 f2 f3 r5 _ HRO.out).mono ?_
  rintro e w2 ⟨v, rfl, hR, hd⟩
  obtain ⟨Y, n, rfl, hq, hC⟩ := Kd.R_reads hR
  have B2 := Aside0.mk (below_alloc (Below.trans B1.out (Below.mono hd B1.out.size)) (.cells #[.int .i64 f0, .int .i64 f1, .int .i64 f2, .slice Y f3.length n] 91))
  have BS2 := Aside0.mk (show (w2.alloc (.cells #[.int .i64 f0, .int .i64 f1, .int .i64 f2, .slice Y f3.length n] 91)).heap[w1.heap.size]? = some (.cells #[.int .i64 f0, .int .i64 f1, .int .i64 f2, .slice X f3.length m] 91 (0, 0)) from blk_alloc ((hd.block _ (by simp)).trans BS1.out) _)
  have BT2 := Aside0.mk (blk_new w2 (.cells #[.int .i64 f0, .int .i64 f1, .int .i64 f2, .slice Y f3.length n] 91))
  have HQ2 := Aside0.mk hq
  have CX2 := Aside0.mk (Kd.C_below (Kd.C_below CX1.out hd) (below_alloc (Below.refl _ _) (.cells #[.int .i64 f0, .int .i64 f1, .int .i64 f2, .slice Y f3.length n] 91)))
  have CY2 := Aside0.mk (Kd.C_below hC (below_alloc (Below.refl _ _) (.cells #[.int .i64 f0, .int .i64 f1, .int .i64 f2, .slice Y f3.length n] 91)))
  clear hR hd hq hC c0 c1 c2 c3 c4 c5 c6 c7 c8 BX0 BX1 B0 B1 BS1 CX1
  have c0 := (blk_cell BS2.out 0).trans rfl
  have c1 := (blk_cell BS2.out 1).trans rfl
  have c2 := (blk_cell BS2.out 2).trans rfl
  have c3 := (blk_cell BS2.out 3).trans rfl
  have d0 := (blk_cell BT2.out 0).trans rfl
  have d1 := (blk_cell BT2.out 1).trans rfl
  have d2 := (blk_cell BT2.out 2).trans rfl
  have d3 := (blk_cell BT2.out 3).trans rfl
  have LA := Aside0.mk (show ((w2.alloc (.cells #[.int .i64 f0, .int .i64 f1, .int .i64 f2, .slice Y f3.length n] 91)).alloc (.cells #[.int .i64 f0, .int .i64 f1, .int .i64 f2, .slice X f3.length m] 91)).heap[w2.heap.size + 1]? = some (.cells #[.int .i64 f0, .int .i64 f1, .int .i64 f2, .slice X f3.length m] 91 (0, 0)) from by have := blk_new (w2.alloc (.cells #[.int .i64 f0, .int .i64 f1, .int .i64 f2, .slice Y f3.length n] 91)) (.cells #[.int .i64 f0, .int .i64 f1, .int .i64 f2, .slice X f3.length m] 91); rw [World.size_alloc] at this; exact this)
  have LB := Aside0.mk (show (((w2.alloc (.cells #[.int .i64 f0, .int .i64 f1, .int .i64 f2, .slice Y f3.length n] 91)).alloc (.cells #[.int .i64 f0, .int .i64 f1, .int .i64 f2, .slice X f3.length m] 91)).alloc (.cells #[.int .i64 f0, .int .i64 f1, .int .i64 f2, .slice Y f3.length n] 91)).heap[w2.heap.size + 1 + 1]? = some (.cells #[.int .i64 f0, .int .i64 f1, .int .i64 f2, .slice Y f3.length n] 91 (0, 0)) from by have := blk_new ((w2.alloc (.cells #[.int .i64 f0, .int .i64 f1, .int .i64 f2, .slice Y f3.length n] 91)).alloc (.cells #[.int .i64 f0, .int .i64 f1, .int .i64 f2, .slice X f3.length m] 91)) (.cells #[.int .i64 f0, .int .i64 f1, .int .i64 f2, .slice Y f3.length n] 91); rw [World.size_alloc, World.size_alloc] at this; exact this)
  have KA := Aside0.mk (C91_one ⟨f0, f1, f2, f3⟩ (blk_alloc LA.out (.cells #[.int .i64 f0, .int .i64 f1, .int .i64 f2, .slice Y f3.length n] 91)) HQ.out (Kd.C_below (Kd.C_below CX2.out (below_alloc (Below.refl _ _) (.cells #[.int .i64 f0, .int .i64 f1, .int .i64 f2, .slice X f3.length m] 91))) (below_alloc (Below.refl _ _) (.cells #[.int .i64 f0, .int .i64 f1, .int .i64 f2, .slice Y f3.length n] 91))))
  have KB := Aside0.mk (C91_one ⟨f0, f1, f2, f3⟩ LB.out HQ2.out (Kd.C_below (Kd.C_below CY2.out (below_alloc (Below.refl _ _) (.cells #[.int .i64 f0, .int .i64 f1, .int .i64 f2, .slice X f3.length m] 91))) (below_alloc (Below.refl _ _) (.cells #[.int .i64 f0, .int .i64 f1, .int .i64 f2, .slice Y f3.length n] 91))))
  have B3 := Aside0.mk (below_alloc (below_alloc B2.out (.cells #[.int .i64 f0, .int .i64 f1, .int .i64 f2, .slice X f3.length m] 91)) (.cells #[.int .i64 f0, .int .i64 f1, .int .i64 f2, .slice Y f3.length n] 91))
  go_wp2_with fail
  refine (damperref29_Same.calls 20 (some ⟨w2.heap.size + 1, 0, none⟩) 1 [⟨f0, f1, f2, f3⟩] (some ⟨w2.heap.size + 1 + 1, 0, none⟩) 1 [⟨f0, f1, f2, f3⟩] true _ KA.out (by simp) KB.out (by simp) (same91 _ 20 (by omega))).mono ?_
  rintro e w3 ⟨rfl, hd⟩
  have B4 := Aside0.mk (Below.trans B3.out (Below.mono hd B3.out.size))
  clear hd
  go_wp2_with fail
  refine (alive29_calls _).mono ?_
  rintro e w4 ⟨rfl, hd⟩
  have B5 := Aside0.mk (Below.trans B4.out (Below.mono hd B4.out.size))
  clear hd
  go_wp2
  go_ret
  exact ⟨rfl, B5.out⟩
end Go.Proofs.Ytalpemoodollpaa.P
/- What an input reads as: from a row's data down to the print's readings. -/
namespace Go.Proofs.Ytalpemoodollpaa.P
open Go.RowKit Go.ChangeShapes Go.WideShapes Go.Deep Go.Proofs.YtalpemoodollpaaW.PrintWords Go.Proofs.YtalpemoodollpaaW.PrintLast Go.Proofs.YtalpemoodollpaaW.PrintMore
set_option linter.unusedVariables false
set_option linter.unusedSimpArgs false

/-- What reads as data of type t reads as the kind K, and has R. -/
def Opens {α : Type} (t : TypeId) (K : Kd α) (R : α → Prop) : Prop :=
  ∀ {H : Type} {enc : TypeId × Value → H} {w : World} {fuel : Nat} {cs : List Value} {x : DataW H × List MemPlace}, DataW.trod enc Try.prog w 0 (fun _ => true) true fuel t cs = some x → ∃ a, K.K w a cs ∧ R a

theorem opens_int {t : TypeId} {k : IntKind} (ht : Try.prog.underlying t = some (.int k)) : Opens t (Kd.int k) (fun n => (Lit.int k n).wf = true) := by
  intro H enc w fuel cs x h
  obtain ⟨n, rfl, _, hw⟩ := DataW.trod_int ht h
  exact ⟨n, rfl, hw⟩

theorem addr_add_add (a : Addr) (i j : Nat) : (a.add i).add j = a.add (i + j) := by
  unfold Addr.add
  by_cases hi : i = 0
  · subst hi; simp
  · by_cases hj : j = 0
    · subst hj; simp [hi]
    · simp [hi, hj, Nat.add_assoc]
theorem opens_slice {α : Type} [Inhabited α] {t e e' : TypeId} {K : Kd α} {R : α → Prop} (ht : Try.prog.underlying t = some (.slice e)) (hc : Try.prog.cellsOf e = K.sz) (he : Opens e K R) :
    Opens t (Kd.slice e' K) (fun xs => ∀ x ∈ xs, R x) := by
  intro H enc w fuel cs x h
  rcases open_slice ht h with ⟨rfl, _⟩ | ⟨a, len, cap, m, n, D, Pl, rfl, hb, hl, hm, hmm, rfl, hx⟩
  · exact ⟨[], ⟨none, 0, rfl, Nat.le_refl _, rfl, by simp, fun h => absurd h (by simp)⟩, by simp⟩
  · have hmm : m = cap := by simpa using hmm
    subst hmm
    have hall : ∀ i, i < len → ∃ v : α, R v ∧ ∃ c : List Value, c.length = K.sz ∧ K.K w v c ∧ ∀ j u, c[j]? = some u → w.cell? (a.add (i * K.sz + j)) = some u := by
      intro i hi
      obtain ⟨cs', h1, h2⟩ := hx i (by omega)
      obtain ⟨v, hv, hr⟩ := he h2
      rw [hc] at h1
      obtain ⟨_, hlen, hcell⟩ := World.cells?_some h1
      refine ⟨v, hr, cs', hlen, hv, fun j u hu => ?_⟩
      have hj : j < K.sz := by
        obtain ⟨hl, _⟩ := List.getElem?_eq_some_iff.1 hu
        omega
      have := hcell j hj
      rw [hu] at this
      rw [← this, addr_add_add]
    have : ∃ f : Nat → α, ∀ i, i < len → R (f i) ∧ ∃ c : List Value, c.length = K.sz ∧ K.K w (f i) c ∧ ∀ j u, c[j]? = some u → w.cell? (a.add (i * K.sz + j)) = some u := by
      exact choose_lt hall
    obtain ⟨f, hf⟩ := this
    refine ⟨(List.range len).map f, ⟨some a, m, by simp, by simpa using hl, rfl, by simp; unfold maxLen at hm; omega, fun _ => ⟨a, rfl, fun j p hj => ?_⟩⟩, ?_⟩
    · obtain ⟨hj1, hj2⟩ := List.getElem?_eq_some_iff.1 hj
      simp at hj1 hj2
      subst hj2
      exact (hf j hj1).2
    · intro y hy
      simp at hy
      obtain ⟨i, hi, rfl⟩ := hy
      exact (hf i hi).1

instance : Inhabited S29 := ⟨z29⟩
instance : Inhabited S49 := ⟨z49⟩
instance : Inhabited S91 := ⟨z91⟩
theorem opens_bytes : Opens 30 (Kd.slice 5 (Kd.int .u8)) (fun xs => ∀ y ∈ xs, (Lit.int .u8 y).wf = true) := opens_slice Try.underlying30 (by kernel_rfl) (opens_int Try.underlying5)
def WF29 (x : S29) : Prop := (Lit.int .i64 x.f0).wf = true ∧ (Lit.int .i64 x.f1).wf = true ∧ (Lit.int .i64 x.f2).wf = true ∧ (Lit.int .i64 x.f3).wf = true ∧ (Lit.int .i64 x.f4).wf = true ∧ (Lit.int .i64 x.f5).wf = true ∧ (Lit.int .i64 x.f6).wf = true ∧ (Lit.int .i64 x.f7).wf = true ∧ (Lit.int .i64 x.f8).wf = true
set_option maxRecDepth 100000 in
theorem opens_29 : Opens 29 k29 WF29 := by
  intro H enc w fuel cs x h
  obtain ⟨xs, n, _, _, hl, hlen, hf⟩ := DataW.trod_struct Try.underlying29 h
  have hc : Try.prog.cellsOf 29 = 9 := by kernel_rfl
  rw [hc] at hl
  have hs : xs.length = 9 := hlen
  clear hlen h
  match cs, hl with
  | [c0, c1, c2, c3, c4, c5, c6, c7, c8], _ =>
    match xs, hs with
    | [x0, x1, x2, x3, x4, x5, x6, x7, x8], _ =>
      have t0 : DataW.trod enc Try.prog w 0 (fun _ => true) true n 3 (([c0, c1, c2, c3, c4, c5, c6, c7, c8].drop 0).take (Try.prog.cellsOf 3)) = [x0, x1, x2, x3, x4, x5, x6, x7, x8][0]? := hf 0 _ rfl
      rw [show Try.prog.cellsOf 3 = 1 by kernel_rfl] at t0
      replace t0 : DataW.trod enc Try.prog w 0 (fun _ => true) true n 3 [c0] = some x0 := t0
      have t1 : DataW.trod enc Try.prog w 0 (fun _ => true) true n 3 (([c0, c1, c2, c3, c4, c5, c6, c7, c8].drop 1).take (Try.prog.cellsOf 3)) = [x0, x1, x2, x3, x4, x5, x6, x7, x8][1]? := hf 1 _ rfl
      rw [show Try.prog.cellsOf 3 = 1 by kernel_rfl] at t1
      replace t1 : DataW.trod enc Try.prog w 0 (fun _ => true) true n 3 [c1] = some x1 := t1
      have t2 : DataW.trod enc Try.prog w 0 (fun _ => true) true n 2 (([c0, c1, c2, c3, c4, c5, c6, c7, c8].drop 2).take (Try.prog.cellsOf 2)) = [x0, x1, x2, x3, x4, x5, x6, x7, x8][2]? := hf 2 _ rfl
      rw [show Try.prog.cellsOf 2 = 1 by kernel_rfl] at t2
      replace t2 : DataW.trod enc Try.prog w 0 (fun _ => true) true n 2 [c2] = some x2 := t2
      have t3 : DataW.trod enc Try.prog w 0 (fun _ => true) true n 2 (([c0, c1, c2, c3, c4, c5, c6, c7, c8].drop 3).take (Try.prog.cellsOf 2)) = [x0, x1, x2, x3, x4, x5, x6, x7, x8][3]? := hf 3 _ rfl
      rw [show Try.prog.cellsOf 2 = 1 by kernel_rfl] at t3
      replace t3 : DataW.trod enc Try.prog w 0 (fun _ => true) true n 2 [c3] = some x3 := t3
      have t4 : DataW.trod enc Try.prog w 0 (fun _ => true) true n 2 (([c0, c1, c2, c3, c4, c5, c6, c7, c8].drop 4).take (Try.prog.cellsOf 2)) = [x0, x1, x2, x3, x4, x5, x6, x7, x8][4]? := hf 4 _ rfl
      rw [show Try.prog.cellsOf 2 = 1 by kernel_rfl] at t4
      replace t4 : DataW.trod enc Try.prog w 0 (fun _ => true) true n 2 [c4] = some x4 := t4
      have t5 : DataW.trod enc Try.prog w 0 (fun _ => true) true n 2 (([c0, c1, c2, c3, c4, c5, c6, c7, c8].drop 5).take (Try.prog.cellsOf 2)) = [x0, x1, x2, x3, x4, x5, x6, x7, x8][5]? := hf 5 _ rfl
      rw [show Try.prog.cellsOf 2 = 1 by kernel_rfl] at t5
      replace t5 : DataW.trod enc Try.prog w 0 (fun _ => true) true n 2 [c5] = some x5 := t5
      have t6 : DataW.trod enc Try.prog w 0 (fun _ => true) true n 2 (([c0, c1, c2, c3, c4, c5, c6, c7, c8].drop 6).take (Try.prog.cellsOf 2)) = [x0, x1, x2, x3, x4, x5, x6, x7, x8][6]? := hf 6 _ rfl
      rw [show Try.prog.cellsOf 2 = 1 by kernel_rfl] at t6
      replace t6 : DataW.trod enc Try.prog w 0 (fun _ => true) true n 2 [c6] = some x6 := t6
      have t7 : DataW.trod enc Try.prog w 0 (fun _ => true) true n 2 (([c0, c1, c2, c3, c4, c5, c6, c7, c8].drop 7).take (Try.prog.cellsOf 2)) = [x0, x1, x2, x3, x4, x5, x6, x7, x8][7]? := hf 7 _ rfl
      rw [show Try.prog.cellsOf 2 = 1 by kernel_rfl] at t7
      replace t7 : DataW.trod enc Try.prog w 0 (fun _ => true) true n 2 [c7] = some x7 := t7
      have t8 : DataW.trod enc Try.prog w 0 (fun _ => true) true n 3 (([c0, c1, c2, c3, c4, c5, c6, c7, c8].drop 8).take (Try.prog.cellsOf 3)) = [x0, x1, x2, x3, x4, x5, x6, x7, x8][8]? := hf 8 _ rfl
      rw [show Try.prog.cellsOf 3 = 1 by kernel_rfl] at t8
      replace t8 : DataW.trod enc Try.prog w 0 (fun _ => true) true n 3 [c8] = some x8 := t8
      clear hf
      obtain ⟨a0, e0, r0⟩ := opens_int (k := .i64) Try.underlying3 t0
      injection e0 with e0 _
      subst e0
      obtain ⟨a1, e1, r1⟩ := opens_int (k := .i64) Try.underlying3 t1
      injection e1 with e1 _
      subst e1
      obtain ⟨a2, e2, r2⟩ := opens_int (k := .i64) Try.underlying2 t2
      injection e2 with e2 _
      subst e2
      obtain ⟨a3, e3, r3⟩ := opens_int (k := .i64) Try.underlying2 t3
      injection e3 with e3 _
      subst e3
      obtain ⟨a4, e4, r4⟩ := opens_int (k := .i64) Try.underlying2 t4
      injection e4 with e4 _
      subst e4
      obtain ⟨a5, e5, r5⟩ := opens_int (k := .i64) Try.underlying2 t5
      injection e5 with e5 _
      subst e5
      obtain ⟨a6, e6, r6⟩ := opens_int (k := .i64) Try.underlying2 t6
      injection e6 with e6 _
      subst e6
      obtain ⟨a7, e7, r7⟩ := opens_int (k := .i64) Try.underlying2 t7
      injection e7 with e7 _
      subst e7
      obtain ⟨a8, e8, r8⟩ := opens_int (k := .i64) Try.underlying3 t8
      injection e8 with e8 _
      subst e8
      exact ⟨⟨a0, a1, a2, a3, a4, a5, a6, a7, a8⟩, k29_mk w _, r0 , r1 , r2 , r3 , r4 , r5 , r6 , r7 , r8⟩
def WF49 (x : S49) : Prop := (Lit.int .i64 x.f0).wf = true ∧ (Lit.int .i64 x.f1).wf = true ∧ (Lit.int .u64 x.f2).wf = true ∧ (Lit.int .i64 x.f3).wf = true ∧ (∀ y ∈ x.f4, (Lit.int .u8 y).wf = true)
set_option maxRecDepth 100000 in
theorem opens_49 : Opens 49 k49 WF49 := by
  intro H enc w fuel cs x h
  obtain ⟨xs, n, _, _, hl, hlen, hf⟩ := DataW.trod_struct Try.underlying49 h
  have hc : Try.prog.cellsOf 49 = 5 := by kernel_rfl
  rw [hc] at hl
  have hs : xs.length = 5 := hlen
  clear hlen h
  match cs, hl with
  | [c0, c1, c2, c3, c4], _ =>
    match xs, hs with
    | [x0, x1, x2, x3, x4], _ =>
      have t0 : DataW.trod enc Try.prog w 0 (fun _ => true) true n 3 (([c0, c1, c2, c3, c4].drop 0).take (Try.prog.cellsOf 3)) = [x0, x1, x2, x3, x4][0]? := hf 0 _ rfl
      rw [show Try.prog.cellsOf 3 = 1 by kernel_rfl] at t0
      replace t0 : DataW.trod enc Try.prog w 0 (fun _ => true) true n 3 [c0] = some x0 := t0
      have t1 : DataW.trod enc Try.prog w 0 (fun _ => true) true n 3 (([c0, c1, c2, c3, c4].drop 1).take (Try.prog.cellsOf 3)) = [x0, x1, x2, x3, x4][1]? := hf 1 _ rfl
      rw [show Try.prog.cellsOf 3 = 1 by kernel_rfl] at t1
      replace t1 : DataW.trod enc Try.prog w 0 (fun _ => true) true n 3 [c1] = some x1 := t1
      have t2 : DataW.trod enc Try.prog w 0 (fun _ => true) true n 37 (([c0, c1, c2, c3, c4].drop 2).take (Try.prog.cellsOf 37)) = [x0, x1, x2, x3, x4][2]? := hf 2 _ rfl
      rw [show Try.prog.cellsOf 37 = 1 by kernel_rfl] at t2
      replace t2 : DataW.trod enc Try.prog w 0 (fun _ => true) true n 37 [c2] = some x2 := t2
      have t3 : DataW.trod enc Try.prog w 0 (fun _ => true) true n 2 (([c0, c1, c2, c3, c4].drop 3).take (Try.prog.cellsOf 2)) = [x0, x1, x2, x3, x4][3]? := hf 3 _ rfl
      rw [show Try.prog.cellsOf 2 = 1 by kernel_rfl] at t3
      replace t3 : DataW.trod enc Try.prog w 0 (fun _ => true) true n 2 [c3] = some x3 := t3
      have t4 : DataW.trod enc Try.prog w 0 (fun _ => true) true n 30 (([c0, c1, c2, c3, c4].drop 4).take (Try.prog.cellsOf 30)) = [x0, x1, x2, x3, x4][4]? := hf 4 _ rfl
      rw [show Try.prog.cellsOf 30 = 1 by kernel_rfl] at t4
      replace t4 : DataW.trod enc Try.prog w 0 (fun _ => true) true n 30 [c4] = some x4 := t4
      clear hf
      obtain ⟨a0, e0, r0⟩ := opens_int (k := .i64) Try.underlying3 t0
      injection e0 with e0 _
      subst e0
      obtain ⟨a1, e1, r1⟩ := opens_int (k := .i64) Try.underlying3 t1
      injection e1 with e1 _
      subst e1
      obtain ⟨a2, e2, r2⟩ := opens_int (k := .u64) Try.underlying37 t2
      injection e2 with e2 _
      subst e2
      obtain ⟨a3, e3, r3⟩ := opens_int (k := .i64) Try.underlying2 t3
      injection e3 with e3 _
      subst e3
      obtain ⟨a4, ⟨A4, cc4, e4, l4, g4⟩, r4⟩ := opens_bytes t4
      injection e4 with e4 _
      subst e4
      exact ⟨⟨a0, a1, a2, a3, a4⟩, k49_mk w _ l4 g4, r0 , r1 , r2 , r3 , r4⟩
def WF91 (x : S91) : Prop := (Lit.int .i64 x.f0).wf = true ∧ (Lit.int .i64 x.f1).wf = true ∧ (Lit.int .i64 x.f2).wf = true ∧ (∀ y ∈ x.f3, (Lit.int .u8 y).wf = true)
set_option maxRecDepth 100000 in
theorem opens_91 : Opens 91 k91 WF91 := by
  intro H enc w fuel cs x h
  obtain ⟨xs, n, _, _, hl, hlen, hf⟩ := DataW.trod_struct Try.underlying91 h
  have hc : Try.prog.cellsOf 91 = 4 := by kernel_rfl
  rw [hc] at hl
  have hs : xs.length = 4 := hlen
  clear hlen h
  match cs, hl with
  | [c0, c1, c2, c3], _ =>
    match xs, hs with
    | [x0, x1, x2, x3], _ =>
      have t0 : DataW.trod enc Try.prog w 0 (fun _ => true) true n 3 (([c0, c1, c2, c3].drop 0).take (Try.prog.cellsOf 3)) = [x0, x1, x2, x3][0]? := hf 0 _ rfl
      rw [show Try.prog.cellsOf 3 = 1 by kernel_rfl] at t0
      replace t0 : DataW.trod enc Try.prog w 0 (fun _ => true) true n 3 [c0] = some x0 := t0
      have t1 : DataW.trod enc Try.prog w 0 (fun _ => true) true n 3 (([c0, c1, c2, c3].drop 1).take (Try.prog.cellsOf 3)) = [x0, x1, x2, x3][1]? := hf 1 _ rfl
      rw [show Try.prog.cellsOf 3 = 1 by kernel_rfl] at t1
      replace t1 : DataW.trod enc Try.prog w 0 (fun _ => true) true n 3 [c1] = some x1 := t1
      have t2 : DataW.trod enc Try.prog w 0 (fun _ => true) true n 2 (([c0, c1, c2, c3].drop 2).take (Try.prog.cellsOf 2)) = [x0, x1, x2, x3][2]? := hf 2 _ rfl
      rw [show Try.prog.cellsOf 2 = 1 by kernel_rfl] at t2
      replace t2 : DataW.trod enc Try.prog w 0 (fun _ => true) true n 2 [c2] = some x2 := t2
      have t3 : DataW.trod enc Try.prog w 0 (fun _ => true) true n 30 (([c0, c1, c2, c3].drop 3).take (Try.prog.cellsOf 30)) = [x0, x1, x2, x3][3]? := hf 3 _ rfl
      rw [show Try.prog.cellsOf 30 = 1 by kernel_rfl] at t3
      replace t3 : DataW.trod enc Try.prog w 0 (fun _ => true) true n 30 [c3] = some x3 := t3
      clear hf
      obtain ⟨a0, e0, r0⟩ := opens_int (k := .i64) Try.underlying3 t0
      injection e0 with e0 _
      subst e0
      obtain ⟨a1, e1, r1⟩ := opens_int (k := .i64) Try.underlying3 t1
      injection e1 with e1 _
      subst e1
      obtain ⟨a2, e2, r2⟩ := opens_int (k := .i64) Try.underlying2 t2
      injection e2 with e2 _
      subst e2
      obtain ⟨a3, ⟨A3, cc3, e3, l3, g3⟩, r3⟩ := opens_bytes t3
      injection e3 with e3 _
      subst e3
      exact ⟨⟨a0, a1, a2, a3⟩, k91_mk w _ l3 g3, r0 , r1 , r2 , r3⟩
set_option maxRecDepth 100000 in
theorem opened_29 {H : Type} {enc : TypeId × Value → H} {w : World} {fuel : Nat} {cs : List Value} {x : DataW H × List MemPlace} (h : DataW.trod enc Try.prog w 0 (fun _ => true) true fuel 29 cs = some x) : ∃ a0 a1 a2 a3 a4 a5 a6 a7 a8 : Int, cs = [.int .i64 a0, .int .i64 a1, .int .i64 a2, .int .i64 a3, .int .i64 a4, .int .i64 a5, .int .i64 a6, .int .i64 a7, .int .i64 a8] ∧ (Lit.int .i64 a0).wf = true ∧ (Lit.int .i64 a1).wf = true ∧ (Lit.int .i64 a2).wf = true ∧ (Lit.int .i64 a3).wf = true ∧ (Lit.int .i64 a4).wf = true ∧ (Lit.int .i64 a5).wf = true ∧ (Lit.int .i64 a6).wf = true ∧ (Lit.int .i64 a7).wf = true ∧ (Lit.int .i64 a8).wf = true := by
  obtain ⟨xs, n, _, _, hl, hlen, hf⟩ := DataW.trod_struct Try.underlying29 h
  have hc : Try.prog.cellsOf 29 = 9 := by kernel_rfl
  rw [hc] at hl
  have hs : xs.length = 9 := hlen
  clear hlen h
  match cs, hl with
  | [c0, c1, c2, c3, c4, c5, c6, c7, c8], _ =>
    match xs, hs with
    | [x0, x1, x2, x3, x4, x5, x6, x7, x8], _ =>
      have t0 : DataW.trod enc Try.prog w 0 (fun _ => true) true n 3 (([c0, c1, c2, c3, c4, c5, c6, c7, c8].drop 0).take (Try.prog.cellsOf 3)) = [x0, x1, x2, x3, x4, x5, x6, x7, x8][0]? := hf 0 _ rfl
      rw [show Try.prog.cellsOf 3 = 1 by kernel_rfl] at t0
      replace t0 : DataW.trod enc Try.prog w 0 (fun _ => true) true n 3 [c0] = some x0 := t0
      have t1 : DataW.trod enc Try.prog w 0 (fun _ => true) true n 3 (([c0, c1, c2, c3, c4, c5, c6, c7, c8].drop 1).take (Try.prog.cellsOf 3)) = [x0, x1, x2, x3, x4, x5, x6, x7, x8][1]? := hf 1 _ rfl
      rw [show Try.prog.cellsOf 3 = 1 by kernel_rfl] at t1
      replace t1 : DataW.trod enc Try.prog w 0 (fun _ => true) true n 3 [c1] = some x1 := t1
      have t2 : DataW.trod enc Try.prog w 0 (fun _ => true) true n 2 (([c0, c1, c2, c3, c4, c5, c6, c7, c8].drop 2).take (Try.prog.cellsOf 2)) = [x0, x1, x2, x3, x4, x5, x6, x7, x8][2]? := hf 2 _ rfl
      rw [show Try.prog.cellsOf 2 = 1 by kernel_rfl] at t2
      replace t2 : DataW.trod enc Try.prog w 0 (fun _ => true) true n 2 [c2] = some x2 := t2
      have t3 : DataW.trod enc Try.prog w 0 (fun _ => true) true n 2 (([c0, c1, c2, c3, c4, c5, c6, c7, c8].drop 3).take (Try.prog.cellsOf 2)) = [x0, x1, x2, x3, x4, x5, x6, x7, x8][3]? := hf 3 _ rfl
      rw [show Try.prog.cellsOf 2 = 1 by kernel_rfl] at t3
      replace t3 : DataW.trod enc Try.prog w 0 (fun _ => true) true n 2 [c3] = some x3 := t3
      have t4 : DataW.trod enc Try.prog w 0 (fun _ => true) true n 2 (([c0, c1, c2, c3, c4, c5, c6, c7, c8].drop 4).take (Try.prog.cellsOf 2)) = [x0, x1, x2, x3, x4, x5, x6, x7, x8][4]? := hf 4 _ rfl
      rw [show Try.prog.cellsOf 2 = 1 by kernel_rfl] at t4
      replace t4 : DataW.trod enc Try.prog w 0 (fun _ => true) true n 2 [c4] = some x4 := t4
      have t5 : DataW.trod enc Try.prog w 0 (fun _ => true) true n 2 (([c0, c1, c2, c3, c4, c5, c6, c7, c8].drop 5).take (Try.prog.cellsOf 2)) = [x0, x1, x2, x3, x4, x5, x6, x7, x8][5]? := hf 5 _ rfl
      rw [show Try.prog.cellsOf 2 = 1 by kernel_rfl] at t5
      replace t5 : DataW.trod enc Try.prog w 0 (fun _ => true) true n 2 [c5] = some x5 := t5
      have t6 : DataW.trod enc Try.prog w 0 (fun _ => true) true n 2 (([c0, c1, c2, c3, c4, c5, c6, c7, c8].drop 6).take (Try.prog.cellsOf 2)) = [x0, x1, x2, x3, x4, x5, x6, x7, x8][6]? := hf 6 _ rfl
      rw [show Try.prog.cellsOf 2 = 1 by kernel_rfl] at t6
      replace t6 : DataW.trod enc Try.prog w 0 (fun _ => true) true n 2 [c6] = some x6 := t6
      have t7 : DataW.trod enc Try.prog w 0 (fun _ => true) true n 2 (([c0, c1, c2, c3, c4, c5, c6, c7, c8].drop 7).take (Try.prog.cellsOf 2)) = [x0, x1, x2, x3, x4, x5, x6, x7, x8][7]? := hf 7 _ rfl
      rw [show Try.prog.cellsOf 2 = 1 by kernel_rfl] at t7
      replace t7 : DataW.trod enc Try.prog w 0 (fun _ => true) true n 2 [c7] = some x7 := t7
      have t8 : DataW.trod enc Try.prog w 0 (fun _ => true) true n 3 (([c0, c1, c2, c3, c4, c5, c6, c7, c8].drop 8).take (Try.prog.cellsOf 3)) = [x0, x1, x2, x3, x4, x5, x6, x7, x8][8]? := hf 8 _ rfl
      rw [show Try.prog.cellsOf 3 = 1 by kernel_rfl] at t8
      replace t8 : DataW.trod enc Try.prog w 0 (fun _ => true) true n 3 [c8] = some x8 := t8
      clear hf
      obtain ⟨a0, e0, r0⟩ := opens_int (k := .i64) Try.underlying3 t0
      injection e0 with e0 _
      subst e0
      obtain ⟨a1, e1, r1⟩ := opens_int (k := .i64) Try.underlying3 t1
      injection e1 with e1 _
      subst e1
      obtain ⟨a2, e2, r2⟩ := opens_int (k := .i64) Try.underlying2 t2
      injection e2 with e2 _
      subst e2
      obtain ⟨a3, e3, r3⟩ := opens_int (k := .i64) Try.underlying2 t3
      injection e3 with e3 _
      subst e3
      obtain ⟨a4, e4, r4⟩ := opens_int (k := .i64) Try.underlying2 t4
      injection e4 with e4 _
      subst e4
      obtain ⟨a5, e5, r5⟩ := opens_int (k := .i64) Try.underlying2 t5
      injection e5 with e5 _
      subst e5
      obtain ⟨a6, e6, r6⟩ := opens_int (k := .i64) Try.underlying2 t6
      injection e6 with e6 _
      subst e6
      obtain ⟨a7, e7, r7⟩ := opens_int (k := .i64) Try.underlying2 t7
      injection e7 with e7 _
      subst e7
      obtain ⟨a8, e8, r8⟩ := opens_int (k := .i64) Try.underlying3 t8
      injection e8 with e8 _
      subst e8
      exact ⟨a0, a1, a2, a3, a4, a5, a6, a7, a8, rfl, r0, r1, r2, r3, r4, r5, r6, r7, r8⟩
set_option maxRecDepth 100000 in
theorem opened_95 {H : Type} {enc : TypeId × Value → H} {w : World} {fuel : Nat} {cs : List Value} {x : DataW H × List MemPlace} (h : DataW.trod enc Try.prog w 0 (fun _ => true) true fuel 95 cs = some x) : ∃ a0 a1 a2 a3 a4 a5 a6 a7 a8 : Int, cs = [.int .i64 a0, .int .i64 a1, .int .i64 a2, .int .i64 a3, .int .i64 a4, .int .i64 a5, .int .i64 a6, .int .i64 a7, .int .i64 a8] ∧ (Lit.int .i64 a0).wf = true ∧ (Lit.int .i64 a1).wf = true ∧ (Lit.int .i64 a2).wf = true ∧ (Lit.int .i64 a3).wf = true ∧ (Lit.int .i64 a4).wf = true ∧ (Lit.int .i64 a5).wf = true ∧ (Lit.int .i64 a6).wf = true ∧ (Lit.int .i64 a7).wf = true ∧ (Lit.int .i64 a8).wf = true := by
  obtain ⟨xs, n, _, _, hl, hlen, hf⟩ := DataW.trod_struct Try.underlying95 h
  have hc : Try.prog.cellsOf 95 = 9 := by kernel_rfl
  rw [hc] at hl
  have hs : xs.length = 9 := hlen
  clear hlen h
  match cs, hl with
  | [c0, c1, c2, c3, c4, c5, c6, c7, c8], _ =>
    match xs, hs with
    | [x0, x1, x2, x3, x4, x5, x6, x7, x8], _ =>
      have t0 : DataW.trod enc Try.prog w 0 (fun _ => true) true n 3 (([c0, c1, c2, c3, c4, c5, c6, c7, c8].drop 0).take (Try.prog.cellsOf 3)) = [x0, x1, x2, x3, x4, x5, x6, x7, x8][0]? := hf 0 _ rfl
      rw [show Try.prog.cellsOf 3 = 1 by kernel_rfl] at t0
      replace t0 : DataW.trod enc Try.prog w 0 (fun _ => true) true n 3 [c0] = some x0 := t0
      have t1 : DataW.trod enc Try.prog w 0 (fun _ => true) true n 3 (([c0, c1, c2, c3, c4, c5, c6, c7, c8].drop 1).take (Try.prog.cellsOf 3)) = [x0, x1, x2, x3, x4, x5, x6, x7, x8][1]? := hf 1 _ rfl
      rw [show Try.prog.cellsOf 3 = 1 by kernel_rfl] at t1
      replace t1 : DataW.trod enc Try.prog w 0 (fun _ => true) true n 3 [c1] = some x1 := t1
      have t2 : DataW.trod enc Try.prog w 0 (fun _ => true) true n 2 (([c0, c1, c2, c3, c4, c5, c6, c7, c8].drop 2).take (Try.prog.cellsOf 2)) = [x0, x1, x2, x3, x4, x5, x6, x7, x8][2]? := hf 2 _ rfl
      rw [show Try.prog.cellsOf 2 = 1 by kernel_rfl] at t2
      replace t2 : DataW.trod enc Try.prog w 0 (fun _ => true) true n 2 [c2] = some x2 := t2
      have t3 : DataW.trod enc Try.prog w 0 (fun _ => true) true n 3 (([c0, c1, c2, c3, c4, c5, c6, c7, c8].drop 3).take (Try.prog.cellsOf 3)) = [x0, x1, x2, x3, x4, x5, x6, x7, x8][3]? := hf 3 _ rfl
      rw [show Try.prog.cellsOf 3 = 1 by kernel_rfl] at t3
      replace t3 : DataW.trod enc Try.prog w 0 (fun _ => true) true n 3 [c3] = some x3 := t3
      have t4 : DataW.trod enc Try.prog w 0 (fun _ => true) true n 3 (([c0, c1, c2, c3, c4, c5, c6, c7, c8].drop 4).take (Try.prog.cellsOf 3)) = [x0, x1, x2, x3, x4, x5, x6, x7, x8][4]? := hf 4 _ rfl
      rw [show Try.prog.cellsOf 3 = 1 by kernel_rfl] at t4
      replace t4 : DataW.trod enc Try.prog w 0 (fun _ => true) true n 3 [c4] = some x4 := t4
      have t5 : DataW.trod enc Try.prog w 0 (fun _ => true) true n 3 (([c0, c1, c2, c3, c4, c5, c6, c7, c8].drop 5).take (Try.prog.cellsOf 3)) = [x0, x1, x2, x3, x4, x5, x6, x7, x8][5]? := hf 5 _ rfl
      rw [show Try.prog.cellsOf 3 = 1 by kernel_rfl] at t5
      replace t5 : DataW.trod enc Try.prog w 0 (fun _ => true) true n 3 [c5] = some x5 := t5
      have t6 : DataW.trod enc Try.prog w 0 (fun _ => true) true n 2 (([c0, c1, c2, c3, c4, c5, c6, c7, c8].drop 6).take (Try.prog.cellsOf 2)) = [x0, x1, x2, x3, x4, x5, x6, x7, x8][6]? := hf 6 _ rfl
      rw [show Try.prog.cellsOf 2 = 1 by kernel_rfl] at t6
      replace t6 : DataW.trod enc Try.prog w 0 (fun _ => true) true n 2 [c6] = some x6 := t6
      have t7 : DataW.trod enc Try.prog w 0 (fun _ => true) true n 2 (([c0, c1, c2, c3, c4, c5, c6, c7, c8].drop 7).take (Try.prog.cellsOf 2)) = [x0, x1, x2, x3, x4, x5, x6, x7, x8][7]? := hf 7 _ rfl
      rw [show Try.prog.cellsOf 2 = 1 by kernel_rfl] at t7
      replace t7 : DataW.trod enc Try.prog w 0 (fun _ => true) true n 2 [c7] = some x7 := t7
      have t8 : DataW.trod enc Try.prog w 0 (fun _ => true) true n 3 (([c0, c1, c2, c3, c4, c5, c6, c7, c8].drop 8).take (Try.prog.cellsOf 3)) = [x0, x1, x2, x3, x4, x5, x6, x7, x8][8]? := hf 8 _ rfl
      rw [show Try.prog.cellsOf 3 = 1 by kernel_rfl] at t8
      replace t8 : DataW.trod enc Try.prog w 0 (fun _ => true) true n 3 [c8] = some x8 := t8
      clear hf
      obtain ⟨a0, e0, r0⟩ := opens_int (k := .i64) Try.underlying3 t0
      injection e0 with e0 _
      subst e0
      obtain ⟨a1, e1, r1⟩ := opens_int (k := .i64) Try.underlying3 t1
      injection e1 with e1 _
      subst e1
      obtain ⟨a2, e2, r2⟩ := opens_int (k := .i64) Try.underlying2 t2
      injection e2 with e2 _
      subst e2
      obtain ⟨a3, e3, r3⟩ := opens_int (k := .i64) Try.underlying3 t3
      injection e3 with e3 _
      subst e3
      obtain ⟨a4, e4, r4⟩ := opens_int (k := .i64) Try.underlying3 t4
      injection e4 with e4 _
      subst e4
      obtain ⟨a5, e5, r5⟩ := opens_int (k := .i64) Try.underlying3 t5
      injection e5 with e5 _
      subst e5
      obtain ⟨a6, e6, r6⟩ := opens_int (k := .i64) Try.underlying2 t6
      injection e6 with e6 _
      subst e6
      obtain ⟨a7, e7, r7⟩ := opens_int (k := .i64) Try.underlying2 t7
      injection e7 with e7 _
      subst e7
      obtain ⟨a8, e8, r8⟩ := opens_int (k := .i64) Try.underlying3 t8
      injection e8 with e8 _
      subst e8
      exact ⟨a0, a1, a2, a3, a4, a5, a6, a7, a8, rfl, r0, r1, r2, r3, r4, r5, r6, r7, r8⟩
set_option maxRecDepth 100000 in
theorem open_arg29 {H : Type} {enc : TypeId × Value → H} {w : World} {r : Reach} {b0 : Nat} {v : Value} {d : DataW H} {ps : List MemPlace} (hval : Value.okWide Try.prog w r b0 29 v) (hd : DataW.Trod enc Try.prog w 0 (fun _ => true) true 29 v d ps) :
    ∃ a0 a1 a2 a3 a4 a5 a6 a7 a8 : Int, v = .agg #[.int .i64 a0, .int .i64 a1, .int .i64 a2, .int .i64 a3, .int .i64 a4, .int .i64 a5, .int .i64 a6, .int .i64 a7, .int .i64 a8] ∧ (Lit.int .i64 a0).wf = true ∧ (Lit.int .i64 a1).wf = true ∧ (Lit.int .i64 a2).wf = true ∧ (Lit.int .i64 a3).wf = true ∧ (Lit.int .i64 a4).wf = true ∧ (Lit.int .i64 a5).wf = true ∧ (Lit.int .i64 a6).wf = true ∧ (Lit.int .i64 a7).wf = true ∧ (Lit.int .i64 a8).wf = true := by
  have hv := hval
  unfold Value.okWide at hv
  rw [Try.underlying29] at hv
  obtain ⟨cs, rfl, _, _⟩ := hv
  obtain ⟨fuel, hf⟩ := hd
  obtain ⟨a0, a1, a2, a3, a4, a5, a6, a7, a8, hc, hw⟩ := opened_29 hf
  refine ⟨a0, a1, a2, a3, a4, a5, a6, a7, a8, ?_, hw⟩
  have : cs = #[.int .i64 a0, .int .i64 a1, .int .i64 a2, .int .i64 a3, .int .i64 a4, .int .i64 a5, .int .i64 a6, .int .i64 a7, .int .i64 a8] := by
    apply Array.toList_inj.1
    exact hc
  rw [this]
set_option maxRecDepth 100000 in
theorem open_arg95 {H : Type} {enc : TypeId × Value → H} {w : World} {r : Reach} {b0 : Nat} {v : Value} {d : DataW H} {ps : List MemPlace} (hval : Value.okWide Try.prog w r b0 95 v) (hd : DataW.Trod enc Try.prog w 0 (fun _ => true) true 95 v d ps) :
    ∃ a0 a1 a2 a3 a4 a5 a6 a7 a8 : Int, v = .agg #[.int .i64 a0, .int .i64 a1, .int .i64 a2, .int .i64 a3, .int .i64 a4, .int .i64 a5, .int .i64 a6, .int .i64 a7, .int .i64 a8] ∧ (Lit.int .i64 a0).wf = true ∧ (Lit.int .i64 a1).wf = true ∧ (Lit.int .i64 a2).wf = true ∧ (Lit.int .i64 a3).wf = true ∧ (Lit.int .i64 a4).wf = true ∧ (Lit.int .i64 a5).wf = true ∧ (Lit.int .i64 a6).wf = true ∧ (Lit.int .i64 a7).wf = true ∧ (Lit.int .i64 a8).wf = true := by
  have hv := hval
  unfold Value.okWide at hv
  rw [Try.underlying95] at hv
  obtain ⟨cs, rfl, _, _⟩ := hv
  obtain ⟨fuel, hf⟩ := hd
  obtain ⟨a0, a1, a2, a3, a4, a5, a6, a7, a8, hc, hw⟩ := opened_95 hf
  refine ⟨a0, a1, a2, a3, a4, a5, a6, a7, a8, ?_, hw⟩
  have : cs = #[.int .i64 a0, .int .i64 a1, .int .i64 a2, .int .i64 a3, .int .i64 a4, .int .i64 a5, .int .i64 a6, .int .i64 a7, .int .i64 a8] := by
    apply Array.toList_inj.1
    exact hc
  rw [this]
theorem opens_msgs : Opens 22 (Kd.slice 29 k29) (fun xs => ∀ x ∈ xs, WF29 x) := opens_slice Try.underlying22 (by kernel_rfl) opens_29
theorem opens_parts : Opens 45 (Kd.slice 49 k49) (fun xs => ∀ x ∈ xs, WF49 x) := opens_slice Try.underlying45 (by kernel_rfl) opens_49
theorem opens_steps : Opens 54 (Kd.slice 91 k91) (fun xs => ∀ x ∈ xs, WF91 x) := opens_slice Try.underlying54 (by kernel_rfl) opens_91
theorem opens_rows : Opens 62 (Kd.slice 30 (Kd.slice 5 (Kd.int .u8))) (fun xs => ∀ x ∈ xs, ∀ y ∈ x, (Lit.int .u8 y).wf = true) := opens_slice Try.underlying62 (by kernel_rfl) opens_bytes
theorem opens_ints : Opens 61 (Kd.slice 3 (Kd.int .i64)) (fun xs => ∀ x ∈ xs, (Lit.int .i64 x).wf = true) := opens_slice Try.underlying61 (by kernel_rfl) (opens_int Try.underlying3)
-- A slice that is handed in.
set_option maxRecDepth 100000 in
theorem open_arg_slice {α : Type} {t e e' : TypeId} {K : Kd α} {R : α → Prop} (ht : Try.prog.underlying t = some (.slice e)) (ho : Opens t (Kd.slice e' K) (fun xs => ∀ x ∈ xs, R x))
    {H : Type} {enc : TypeId × Value → H} {w : World} {r : Reach} {b0 : Nat} {v : Value} {d : DataW H} {ps : List MemPlace} (hval : Value.okWide Try.prog w r b0 t v) (hd : DataW.Trod enc Try.prog w 0 (fun _ => true) true t v d ps) :
    ∃ (A : Option Addr) (c : Nat) (xs : List α), v = .slice A xs.length c ∧ xs.length ≤ c ∧ K.C w A xs.length xs ∧ (∀ x ∈ xs, R x) ∧ ∀ y ∈ ps, y.block < w.heap.size := by
  obtain ⟨A, l, c, rfl⟩ := okWide_slice ht hval
  have hlt : ∀ y ∈ ps, y.block < w.heap.size := by obtain ⟨m, hm⟩ := hd; exact DataW.trod_lt m _ _ _ hm
  obtain ⟨fuel, hf⟩ := hd
  obtain ⟨xs, ⟨A', c', hc, hl, hC⟩, hr⟩ := ho hf
  simp [Value.cells] at hc
  obtain ⟨rfl, rfl, rfl⟩ := hc
  exact ⟨_, _, xs, rfl, hl, hC, hr, hlt⟩
end Go.Proofs.Ytalpemoodollpaa.P
