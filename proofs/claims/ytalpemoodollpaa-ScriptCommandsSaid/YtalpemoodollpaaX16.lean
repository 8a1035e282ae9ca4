/- Contracts and plain laws: P90, P88, HrefRight, HRefNum, HCmdEncL, HRow. -/
import Derived.Test.YtalpemoodollpaaRows
import Derived.WalkKit
import Derived.ProofKit
import Derived.OpenShut
import Derived.ShutString
import Derived.ChangeOld
import Derived.Below
import Derived.SizedLaws
import Derived.Test.YtalpemoodollpaaX7
import Derived.Test.YtalpemoodollpaaX15
-- Printed by hookprint.py (the session's own program, over the kit's print.py): checked by Lean like any text.
namespace Go.Proofs.Ytalpemoodollpaa.P
open Go.RowKit Go.Proofs.YtalpemoodollpaaW.PrintWords Go.Proofs.YtalpemoodollpaaW.PrintLast Go.Proofs.YtalpemoodollpaaW.PrintMore
attribute [local go_sem] max2_int min2_int max_two min_two max_three min_three max_four min_four   -- for this text's walks alone
set_option linter.unusedVariables false
set_option linter.unusedSimpArgs false

attribute [local go_sem high] eqA95
/-! ### damperref05_Right: function 90 -/
def damperref05_Right.j0 : Nat → Bool → Int → Int → Int → Int → Int → Int → Int → Int → Int → Option (Bool)
  | 0, _, _, _, _, _, _, _, _, _, _ => none
  | k + 1, x12, x521000, x521001, x521002, x521003, x521004, x521005, x521006, x521007, x521008 => if x12 = true then (some false) else (if x521000 = 1 then ((damperref05_in.f x521003 0 1073741824).bind fun t523 => (if t523 = true then ((damperref05_in.f x521004 0 1).bind fun t524 => (if t524 = true then ((damperref05_in.f x521005 1 5).bind fun t525 => (if t525 = true then ((damperref05_in.f x521008 0 7).bind fun t526 => (some t526)) else (some false))) else (some false))) else (some false))) else (if x521000 = 2 then (some (x521000 == 2 && (x521003 == 0 && (x521004 == 0 && (x521005 == 0 && (x521006 == 0 && (x521007 == 0 && (x521008 == 0)))))))) else (if x521000 = 3 then (some (x521000 == 3 && (x521003 == 0 && (x521004 == 0 && (x521005 == 0 && (x521008 == 0)))))) else (some false))))
def damperref05_Right.f (k : Nat) (a0_0 : Int) (a0_1 : Int) (a0_2 : Int) (a0_3 : Int) (a0_4 : Int) (a0_5 : Int) (a0_6 : Int) (a0_7 : Int) (a0_8 : Int) : Option (Bool) := (damperref05_in.f a0_1 0 255).bind fun t521 => (if t521 = true then ((damperref05_in.f a0_2 0 4611686018427387904).bind fun t522 => (damperref05_Right.j0 k (!t522) a0_0 a0_1 a0_2 a0_3 a0_4 a0_5 a0_6 a0_7 a0_8)) else (damperref05_Right.j0 k true a0_0 a0_1 a0_2 a0_3 a0_4 a0_5 a0_6 a0_7 a0_8))
theorem damperref05_Right.mono_l : ∀ k, (∀ y0 y1 y2 y3 y4 y5 y6 y7 y8 y9, LeO (damperref05_Right.j0 k y0 y1 y2 y3 y4 y5 y6 y7 y8 y9) (damperref05_Right.j0 (k + 1) y0 y1 y2 y3 y4 y5 y6 y7 y8 y9))
  | 0 => fun _ _ _ _ _ _ _ _ _ _ r h => by simp [damperref05_Right.j0] at h
  | k + 1 => by
    have ih0 := damperref05_Right.mono_l k
    · intro y0 y1 y2 y3 y4 y5 y6 y7 y8 y9
      unfold damperref05_Right.j0
      repeat' first
      | (with_reducible exact ih0 _ _ _ _ _ _ _ _ _ _)
      | (with_reducible exact LeO.refl _)
      | (with_reducible exact LeO.none _)
      | (with_reducible refine LeO.ite ?_ ?_)
      | (with_reducible refine LeO.bind ?_ (fun _ => ?_))
      | exact ih0 _ _ _ _ _ _ _ _ _ _
      | exact LeO.none _
      | refine LeO.ite ?_ ?_
      | refine LeO.bind ?_ (fun _ => ?_)
theorem damperref05_Right.mono : ∀ a0 a1 a2 a3 a4 a5 a6 a7 a8 k, LeO (damperref05_Right.f k a0 a1 a2 a3 a4 a5 a6 a7 a8) (damperref05_Right.f (k + 1) a0 a1 a2 a3 a4 a5 a6 a7 a8) := by
  intro a0 a1 a2 a3 a4 a5 a6 a7 a8 k
  have ih0 := damperref05_Right.mono_l k
  unfold damperref05_Right.f
  repeat' first
      | (with_reducible exact ih0 _ _ _ _ _ _ _ _ _ _)
      | (with_reducible exact LeO.refl _)
      | (with_reducible exact LeO.none _)
      | (with_reducible refine LeO.ite ?_ ?_)
      | (with_reducible refine LeO.bind ?_ (fun _ => ?_))
      | exact ih0 _ _ _ _ _ _ _ _ _ _
      | exact LeO.none _
      | refine LeO.ite ?_ ?_
      | refine LeO.bind ?_ (fun _ => ?_)
set_option maxHeartbeats 8000000 in
set_option maxRecDepth 100000 in
theorem damperref05_Right.calls (k : Nat) (a0_0 : Int) (a0_1 : Int) (a0_2 : Int) (a0_3 : Int) (a0_4 : Int) (a0_5 : Int) (a0_6 : Int) (a0_7 : Int) (a0_8 : Int) (r : Bool) (w : World) (h : damperref05_Right.f k a0_0 a0_1 a0_2 a0_3 a0_4 a0_5 a0_6 a0_7 a0_8 = some r) :
    Calls Try.prog 90 #[.agg #[.int .i64 a0_0, .int .i64 a0_1, .int .i64 a0_2, .int .i64 a0_3, .int .i64 a0_4, .int .i64 a0_5, .int .i64 a0_6, .int .i64 a0_7, .int .i64 a0_8]] w fun e w' => e = .returned (.bool r) ∧ Below w.heap.size w w' := by
  have hu95 := Try.underlying95
  have HB := Aside0.mk (Below.refl w.heap.size w)
  have H : ((damperref05_in.f a0_1 0 255).bind fun t521 => (if t521 = true then ((damperref05_in.f a0_2 0 4611686018427387904).bind fun t522 => (damperref05_Right.j0 k (!t522) a0_0 a0_1 a0_2 a0_3 a0_4 a0_5 a0_6 a0_7 a0_8)) else (damperref05_Right.j0 k true a0_0 a0_1 a0_2 a0_3 a0_4 a0_5 a0_6 a0_7 a0_8))) = some r := h
  clear h
  have HC2 := Aside0.mk H
  clear H
  go_enter Try.func90, Try.ntmps90
  go_upto_region 1 with (first | ((with_reducible refine gate_dst (N := 1) rfl ?_); refine box_event ?hg (N := 1) ?hd (cs := #[.int .i64 a0_0, .int .i64 a0_1, .int .i64 a0_2, .int .i64 a0_3, .int .i64 a0_4, .int .i64 a0_5, .int .i64 a0_6, .int .i64 a0_7, .int .i64 a0_8]) (t := 95) ?hr ?_; (case hd => rfl); (case hg => rfl); (case hr => first | (go_simp; done) | (go_simp; rfl)); intro gb520 hg w3 hbox hb; have n0_ := Aside0.mk (below_step (by repeat (first | (with_reducible first | exact HB.out | apply below_alloc | apply pw_below_drewN | apply below_drew1) | exact HB.out)) hb); have n1_ := Aside0.mk (hbox); have n2_ := Aside0.mk ((by rw [hg]; exact (below_size (by repeat (first | (with_reducible first | exact HB.out | apply below_alloc | apply pw_below_drewN | apply below_drew1) | exact HB.out))) : w.heap.size ≤ gb520)); have n3_ := Aside0.mk ((by rw [hg]; exact (below_size (by repeat (first | (with_reducible first | exact HB.out | apply below_alloc | apply pw_below_drewN | apply below_drew1) | exact HB.out))) : w.heap.size ≤ gb520)); clear HB; have HB := n0_; have BK520 := n1_; have GW520 := n2_; have GE520 := n3_; clear n0_ n1_ n2_ n3_; clear hb hbox hg))
  (try simp only [Act.put, List.setIfInBounds_toArray, List.set_cons_zero, List.set_cons_succ])
  go_cut [12] (fun v12 wc => ∃ (kq : Nat) (x12_1 : Bool), v12 = .bool x12_1 ∧ Aside0 (damperref05_Right.j0 kq x12_1 a0_0 a0_1 a0_2 a0_3 a0_4 a0_5 a0_6 a0_7 a0_8 = some r) ∧ Aside0 (kq ≤ k) ∧ Aside0 (wc.heap[gb520]? = some (.cells #[.int .i64 a0_0, .int .i64 a0_1, .int .i64 a0_2, .int .i64 a0_3, .int .i64 a0_4, .int .i64 a0_5, .int .i64 a0_6, .int .i64 a0_7, .int .i64 a0_8] 95 (0, 0))) ∧ Aside0 (Below w.heap.size w wc))
  case first =>
    have H := HC2.out
    clear HC2
    replace H := Option.bind_eq_some_iff.mp H
    obtain ⟨t521, A40, H⟩ := H
    replace H : (if t521 = true then ((damperref05_in.f a0_2 0 4611686018427387904).bind fun t522 => (damperref05_Right.j0 k (!t522) a0_0 a0_1 a0_2 a0_3 a0_4 a0_5 a0_6 a0_7 a0_8)) else (damperref05_Right.j0 k true a0_0 a0_1 a0_2 a0_3 a0_4 a0_5 a0_6 a0_7 a0_8)) = some r := H
    have A4 := Aside0.mk A40
    clear A40
    by_cases c5 : t521 = true
    · subst c5
      have H1 : ((damperref05_in.f a0_2 0 4611686018427387904).bind fun t522 => (damperref05_Right.j0 k (!t522) a0_0 a0_1 a0_2 a0_3 a0_4 a0_5 a0_6 a0_7 a0_8)) = some r := by rw [if_pos rfl] at H; exact H
      clear H
      have H := H1
      clear H1
      replace H := Option.bind_eq_some_iff.mp H
      obtain ⟨t522, A60, H⟩ := H
      replace H : (damperref05_Right.j0 k (!t522) a0_0 a0_1 a0_2 a0_3 a0_4 a0_5 a0_6 a0_7 a0_8) = some r := H
      have A6 := Aside0.mk A60
      clear A60
      have H' := Aside0.mk H
      clear H
      have hcz7_0 : w3.cell? ⟨gb520, 0, none⟩ = some (.int .i64 a0_0) := (blk_cell BK520.out 0).trans rfl
      have hcz7_1 : w3.cell? ⟨gb520, 1, none⟩ = some (.int .i64 a0_1) := (blk_cell BK520.out 1).trans rfl
      have hcz7_2 : w3.cell? ⟨gb520, 2, none⟩ = some (.int .i64 a0_2) := (blk_cell BK520.out 2).trans rfl
      have hcz7_3 : w3.cell? ⟨gb520, 3, none⟩ = some (.int .i64 a0_3) := (blk_cell BK520.out 3).trans rfl
      have hcz7_4 : w3.cell? ⟨gb520, 4, none⟩ = some (.int .i64 a0_4) := (blk_cell BK520.out 4).trans rfl
      have hcz7_5 : w3.cell? ⟨gb520, 5, none⟩ = some (.int .i64 a0_5) := (blk_cell BK520.out 5).trans rfl
      have hcz7_6 : w3.cell? ⟨gb520, 6, none⟩ = some (.int .i64 a0_6) := (blk_cell BK520.out 6).trans rfl
      have hcz7_7 : w3.cell? ⟨gb520, 7, none⟩ = some (.int .i64 a0_7) := (blk_cell BK520.out 7).trans rfl
      have hcz7_8 : w3.cell? ⟨gb520, 8, none⟩ = some (.int .i64 a0_8) := (blk_cell BK520.out 8).trans rfl
      have hfz7_0 := blk_frozen BK520.out 0
      have hfz7_1 := blk_frozen BK520.out 1
      have hfz7_2 := blk_frozen BK520.out 2
      have hfz7_3 := blk_frozen BK520.out 3
      have hfz7_4 := blk_frozen BK520.out 4
      have hfz7_5 := blk_frozen BK520.out 5
      have hfz7_6 := blk_frozen BK520.out 6
      have hfz7_7 := blk_frozen BK520.out 7
      have hfz7_8 := blk_frozen BK520.out 8
      go_wp2_with (first | ((with_reducible refine gate_callee (f := 130) rfl ?_); refine goesL_ (some 5) rfl rfl Try.func130 (by kernel_rfl) rfl #[.int .i64 a0_1, .int .i64 0, .int .i64 255] rfl (by (try simp only [List.map_toArray, List.map_cons, List.map_nil]); first | done | rfl | (simp only [List.length_drop, List.length_take]; rfl)) ?_; (with_reducible refine (damperref05_in.calls a0_1 0 255 true _ A4.out).mono ?_); rintro e w' ⟨rfl, ⟨nd, rfl⟩⟩; refine ⟨_, rfl, ?_⟩) | (go_at_call 130; (with_reducible refine (damperref05_in.calls a0_2 0 4611686018427387904 t522 _ A6.out).mono ?_); rintro e w' ⟨rfl, ⟨nd, rfl⟩⟩))
      go_meet
      case rel => exact ⟨_, (!t522), (by first | rfl | (simp; done) | (simp [*]; done)), H', ⟨by first | omega | exact Nat.le_refl _⟩, ⟨by (with_reducible repeat (first | refine blk_drewN ?_ _ | refine blk_drew ?_ | refine blk_alloc ?_ _)); exact BK520.out⟩, ⟨by repeat (first | (with_reducible first | exact HB.out | apply below_alloc | apply pw_below_drewN | apply below_drew1 | refine below_set ?_ GE520.out) | exact HB.out)⟩⟩
    · replace c5 := Bool.eq_false_iff.mpr c5
      subst c5
      have H1 : (damperref05_Right.j0 k true a0_0 a0_1 a0_2 a0_3 a0_4 a0_5 a0_6 a0_7 a0_8) = some r := by rw [if_neg (show ¬ (false = true) by decide)] at H; exact H
      clear H
      have H := H1
      clear H1
      have H' := Aside0.mk H
      clear H
      have hcz8_0 : w3.cell? ⟨gb520, 0, none⟩ = some (.int .i64 a0_0) := (blk_cell BK520.out 0).trans rfl
      have hcz8_1 : w3.cell? ⟨gb520, 1, none⟩ = some (.int .i64 a0_1) := (blk_cell BK520.out 1).trans rfl
      have hcz8_2 : w3.cell? ⟨gb520, 2, none⟩ = some (.int .i64 a0_2) := (blk_cell BK520.out 2).trans rfl
      have hcz8_3 : w3.cell? ⟨gb520, 3, none⟩ = some (.int .i64 a0_3) := (blk_cell BK520.out 3).trans rfl
      have hcz8_4 : w3.cell? ⟨gb520, 4, none⟩ = some (.int .i64 a0_4) := (blk_cell BK520.out 4).trans rfl
      have hcz8_5 : w3.cell? ⟨gb520, 5, none⟩ = some (.int .i64 a0_5) := (blk_cell BK520.out 5).trans rfl
      have hcz8_6 : w3.cell? ⟨gb520, 6, none⟩ = some (.int .i64 a0_6) := (blk_cell BK520.out 6).trans rfl
      have hcz8_7 : w3.cell? ⟨gb520, 7, none⟩ = some (.int .i64 a0_7) := (blk_cell BK520.out 7).trans rfl
      have hcz8_8 : w3.cell? ⟨gb520, 8, none⟩ = some (.int .i64 a0_8) := (blk_cell BK520.out 8).trans rfl
      have hfz8_0 := blk_frozen BK520.out 0
      have hfz8_1 := blk_frozen BK520.out 1
      have hfz8_2 := blk_frozen BK520.out 2
      have hfz8_3 := blk_frozen BK520.out 3
      have hfz8_4 := blk_frozen BK520.out 4
      have hfz8_5 := blk_frozen BK520.out 5
      have hfz8_6 := blk_frozen BK520.out 6
      have hfz8_7 := blk_frozen BK520.out 7
      have hfz8_8 := blk_frozen BK520.out 8
      go_wp2_with (first | ((with_reducible refine gate_callee (f := 130) rfl ?_); refine goesL_ (some 5) rfl rfl Try.func130 (by kernel_rfl) rfl #[.int .i64 a0_1, .int .i64 0, .int .i64 255] rfl (by (try simp only [List.map_toArray, List.map_cons, List.map_nil]); first | done | rfl | (simp only [List.length_drop, List.length_take]; rfl)) ?_; (with_reducible refine (damperref05_in.calls a0_1 0 255 false _ A4.out).mono ?_); rintro e w' ⟨rfl, ⟨nd, rfl⟩⟩; refine ⟨_, rfl, ?_⟩))
      go_meet
      case rel => exact ⟨_, (true), (by first | rfl | (simp; done) | (simp [*]; done)), H', ⟨by first | omega | exact Nat.le_refl _⟩, ⟨by (with_reducible repeat (first | refine blk_drewN ?_ _ | refine blk_drew ?_ | refine blk_alloc ?_ _)); exact BK520.out⟩, ⟨by repeat (first | (with_reducible first | exact HB.out | apply below_alloc | apply pw_below_drewN | apply below_drew1 | refine below_set ?_ GE520.out) | exact HB.out)⟩⟩
  case rest =>
    clear HC2
    try clear c1
    try clear p2
    try clear c5
    try clear hcz7_0
    try clear hcz7_1
    try clear hcz7_2
    try clear hcz7_3
    try clear hcz7_4
    try clear hcz7_5
    try clear hcz7_6
    try clear hcz7_7
    try clear hcz7_8
    try clear hcz8_0
    try clear hcz8_1
    try clear hcz8_2
    try clear hcz8_3
    try clear hcz8_4
    try clear hcz8_5
    try clear hcz8_6
    try clear hcz8_7
    try clear hcz8_8
    try clear hfz7_0
    try clear hfz7_1
    try clear hfz7_2
    try clear hfz7_3
    try clear hfz7_4
    try clear hfz7_5
    try clear hfz7_6
    try clear hfz7_7
    try clear hfz7_8
    try clear hfz8_0
    try clear hfz8_1
    try clear hfz8_2
    try clear hfz8_3
    try clear hfz8_4
    try clear hfz8_5
    try clear hfz8_6
    try clear hfz8_7
    try clear hfz8_8
    obtain ⟨kq, x12_1, rfl, HA, HJ1, BK520, HB⟩ := hcut
    cases kq with
    | zero => exact absurd HA.out (by simp [damperref05_Right.j0])
    | succ kj1 =>
      have H := HA.out
      clear HA
      simp only [damperref05_Right.j0] at H
      by_cases c9 : x12_1 = true
      · subst c9
        have H1 : (some false) = some r := by rw [if_pos rfl] at H; exact H
        clear H
        have H := H1
        clear H1
        obtain rfl := Option.some.inj H
        go_wp2
        go_ret
        exact ⟨by first | rfl | (simp [errW_none, errW_some] <;> rfl) | (simp [*, errW_none, errW_some] <;> rfl), by repeat (first | (with_reducible first | exact HB.out | apply below_alloc | apply pw_below_drewN | apply below_drew1 | refine below_set ?_ GE520.out) | exact HB.out)⟩
      · replace c9 := Bool.eq_false_iff.mpr c9
        subst c9
        have H1 : (if a0_0 = 1 then ((damperref05_in.f a0_3 0 1073741824).bind fun t523 => (if t523 = true then ((damperref05_in.f a0_4 0 1).bind fun t524 => (if t524 = true then ((damperref05_in.f a0_5 1 5).bind fun t525 => (if t525 = true then ((damperref05_in.f a0_8 0 7).bind fun t526 => (some t526)) else (some false))) else (some false))) else (some false))) else (if a0_0 = 2 then (some (a0_0 == 2 && (a0_3 == 0 && (a0_4 == 0 && (a0_5 == 0 && (a0_6 == 0 && (a0_7 == 0 && (a0_8 == 0)))))))) else (if a0_0 = 3 then (some (a0_0 == 3 && (a0_3 == 0 && (a0_4 == 0 && (a0_5 == 0 && (a0_8 == 0)))))) else (some false)))) = some r := by rw [if_neg (show ¬ (false = true) by decide)] at H; exact H
        clear H
        have H := H1
        clear H1
        by_cases c10 : a0_0 = 1
        · rw [if_pos c10] at H
          have c10b0 : (a0_0 == 1) = true := beq_iff_eq.mpr c10
          have c10b1 : (a0_0 != 1) = false := bne_eq_false_iff_eq.mpr c10
          clear c10
          replace H := Option.bind_eq_some_iff.mp H
          obtain ⟨t523, A110, H⟩ := H
          replace H : (if t523 = true then ((damperref05_in.f a0_4 0 1).bind fun t524 => (if t524 = true then ((damperref05_in.f a0_5 1 5).bind fun t525 => (if t525 = true then ((damperref05_in.f a0_8 0 7).bind fun t526 => (some t526)) else (some false))) else (some false))) else (some false)) = some r := H
          have A11 := Aside0.mk A110
          clear A110
          by_cases c12 : t523 = true
          · subst c12
            have H1 : ((damperref05_in.f a0_4 0 1).bind fun t524 => (if t524 = true then ((damperref05_in.f a0_5 1 5).bind fun t525 => (if t525 = true then ((damperref05_in.f a0_8 0 7).bind fun t526 => (some t526)) else (some false))) else (some false))) = some r := by rw [if_pos rfl] at H; exact H
            clear H
            have H := H1
            clear H1
            replace H := Option.bind_eq_some_iff.mp H
            obtain ⟨t524, A130, H⟩ := H
            replace H : (if t524 = true then ((damperref05_in.f a0_5 1 5).bind fun t525 => (if t525 = true then ((damperref05_in.f a0_8 0 7).bind fun t526 => (some t526)) else (some false))) else (some false)) = some r := H
            have A13 := Aside0.mk A130
            clear A130
            by_cases c14 : t524 = true
            · subst c14
              have H1 : ((damperref05_in.f a0_5 1 5).bind fun t525 => (if t525 = true then ((damperref05_in.f a0_8 0 7).bind fun t526 => (some t526)) else (some false))) = some r := by rw [if_pos rfl] at H; exact H
              clear H
              have H := H1
              clear H1
              replace H := Option.bind_eq_some_iff.mp H
              obtain ⟨t525, A150, H⟩ := H
              replace H : (if t525 = true then ((damperref05_in.f a0_8 0 7).bind fun t526 => (some t526)) else (some false)) = some r := H
              have A15 := Aside0.mk A150
              clear A150
              by_cases c16 : t525 = true
              · subst c16
                have H1 : ((damperref05_in.f a0_8 0 7).bind fun t526 => (some t526)) = some r := by rw [if_pos rfl] at H; exact H
                clear H
                have H := H1
                clear H1
                replace H := Option.bind_eq_some_iff.mp H
                obtain ⟨t526, A170, H⟩ := H
                replace H : (some t526) = some r := H
                have A17 := Aside0.mk A170
                clear A170
                obtain rfl := Option.some.inj H
                have hcz18_0 : wc.cell? ⟨gb520, 0, none⟩ = some (.int .i64 a0_0) := (blk_cell BK520.out 0).trans rfl
                have hcz18_1 : wc.cell? ⟨gb520, 1, none⟩ = some (.int .i64 a0_1) := (blk_cell BK520.out 1).trans rfl
                have hcz18_2 : wc.cell? ⟨gb520, 2, none⟩ = some (.int .i64 a0_2) := (blk_cell BK520.out 2).trans rfl
                have hcz18_3 : wc.cell? ⟨gb520, 3, none⟩ = some (.int .i64 a0_3) := (blk_cell BK520.out 3).trans rfl
                have hcz18_4 : wc.cell? ⟨gb520, 4, none⟩ = some (.int .i64 a0_4) := (blk_cell BK520.out 4).trans rfl
                have hcz18_5 : wc.cell? ⟨gb520, 5, none⟩ = some (.int .i64 a0_5) := (blk_cell BK520.out 5).trans rfl
                have hcz18_6 : wc.cell? ⟨gb520, 6, none⟩ = some (.int .i64 a0_6) := (blk_cell BK520.out 6).trans rfl
                have hcz18_7 : wc.cell? ⟨gb520, 7, none⟩ = some (.int .i64 a0_7) := (blk_cell BK520.out 7).trans rfl
                have hcz18_8 : wc.cell? ⟨gb520, 8, none⟩ = some (.int .i64 a0_8) := (blk_cell BK520.out 8).trans rfl
                have hfz18_0 := blk_frozen BK520.out 0
                have hfz18_1 := blk_frozen BK520.out 1
                have hfz18_2 := blk_frozen BK520.out 2
                have hfz18_3 := blk_frozen BK520.out 3
                have hfz18_4 := blk_frozen BK520.out 4
                have hfz18_5 := blk_frozen BK520.out 5
                have hfz18_6 := blk_frozen BK520.out 6
                have hfz18_7 := blk_frozen BK520.out 7
                have hfz18_8 := blk_frozen BK520.out 8
                go_wp2_with (first | ((with_reducible refine gate_callee (f := 130) rfl ?_); refine goesL_ (some 19) rfl rfl Try.func130 (by kernel_rfl) rfl #[.int .i64 a0_3, .int .i64 0, .int .i64 1073741824] rfl (by (try simp only [List.map_toArray, List.map_cons, List.map_nil]); first | done | rfl | (simp only [List.length_drop, List.length_take]; rfl)) ?_; (with_reducible refine (damperref05_in.calls a0_3 0 1073741824 true _ A11.out).mono ?_); rintro e w' ⟨rfl, ⟨nd, rfl⟩⟩; refine ⟨_, rfl, ?_⟩) | (go_at_call 130; (with_reducible refine (damperref05_in.calls a0_4 0 1 true _ A13.out).mono ?_); rintro e w' ⟨rfl, ⟨nd, rfl⟩⟩) | (go_at_call 130; (with_reducible refine (damperref05_in.calls a0_5 1 5 true _ A15.out).mono ?_); rintro e w' ⟨rfl, ⟨nd, rfl⟩⟩) | (go_at_call 130; (with_reducible refine (damperref05_in.calls a0_8 0 7 t526 _ A17.out).mono ?_); rintro e w' ⟨rfl, ⟨nd, rfl⟩⟩))
                go_ret
                exact ⟨by first | rfl | (simp [errW_none, errW_some] <;> rfl) | (simp [*, errW_none, errW_some] <;> rfl), by repeat (first | (with_reducible first | exact HB.out | apply below_alloc | apply pw_below_drewN | apply below_drew1 | refine below_set ?_ GE520.out) | exact HB.out)⟩
              · replace c16 := Bool.eq_false_iff.mpr c16
                subst c16
                have H1 : (some false) = some r := by rw [if_neg (show ¬ (false = true) by decide)] at H; exact H
                clear H
                have H := H1
                clear H1
                obtain rfl := Option.some.inj H
                have hcz19_0 : wc.cell? ⟨gb520, 0, none⟩ = some (.int .i64 a0_0) := (blk_cell BK520.out 0).trans rfl
                have hcz19_1 : wc.cell? ⟨gb520, 1, none⟩ = some (.int .i64 a0_1) := (blk_cell BK520.out 1).trans rfl
                have hcz19_2 : wc.cell? ⟨gb520, 2, none⟩ = some (.int .i64 a0_2) := (blk_cell BK520.out 2).trans rfl
                have hcz19_3 : wc.cell? ⟨gb520, 3, none⟩ = some (.int .i64 a0_3) := (blk_cell BK520.out 3).trans rfl
                have hcz19_4 : wc.cell? ⟨gb520, 4, none⟩ = some (.int .i64 a0_4) := (blk_cell BK520.out 4).trans rfl
                have hcz19_5 : wc.cell? ⟨gb520, 5, none⟩ = some (.int .i64 a0_5) := (blk_cell BK520.out 5).trans rfl
                have hcz19_6 : wc.cell? ⟨gb520, 6, none⟩ = some (.int .i64 a0_6) := (blk_cell BK520.out 6).trans rfl
                have hcz19_7 : wc.cell? ⟨gb520, 7, none⟩ = some (.int .i64 a0_7) := (blk_cell BK520.out 7).trans rfl
                have hcz19_8 : wc.cell? ⟨gb520, 8, none⟩ = some (.int .i64 a0_8) := (blk_cell BK520.out 8).trans rfl
                have hfz19_0 := blk_frozen BK520.out 0
                have hfz19_1 := blk_frozen BK520.out 1
                have hfz19_2 := blk_frozen BK520.out 2
                have hfz19_3 := blk_frozen BK520.out 3
                have hfz19_4 := blk_frozen BK520.out 4
                have hfz19_5 := blk_frozen BK520.out 5
                have hfz19_6 := blk_frozen BK520.out 6
                have hfz19_7 := blk_frozen BK520.out 7
                have hfz19_8 := blk_frozen BK520.out 8
                go_wp2_with (first | ((with_reducible refine gate_callee (f := 130) rfl ?_); refine goesL_ (some 19) rfl rfl Try.func130 (by kernel_rfl) rfl #[.int .i64 a0_3, .int .i64 0, .int .i64 1073741824] rfl (by (try simp only [List.map_toArray, List.map_cons, List.map_nil]); first | done | rfl | (simp only [List.length_drop, List.length_take]; rfl)) ?_; (with_reducible refine (damperref05_in.calls a0_3 0 1073741824 true _ A11.out).mono ?_); rintro e w' ⟨rfl, ⟨nd, rfl⟩⟩; refine ⟨_, rfl, ?_⟩) | (go_at_call 130; (with_reducible refine (damperref05_in.calls a0_4 0 1 true _ A13.out).mono ?_); rintro e w' ⟨rfl, ⟨nd, rfl⟩⟩) | (go_at_call 130; (with_reducible refine (damperref05_in.calls a0_5 1 5 false _ A15.out).mono ?_); rintro e w' ⟨rfl, ⟨nd, rfl⟩⟩))
                go_ret
                exact ⟨by first | rfl | (simp [errW_none, errW_some] <;> rfl) | (simp [*, errW_none, errW_some] <;> rfl), by repeat (first | (with_reducible first | exact HB.out | apply below_alloc | apply pw_below_drewN | apply below_drew1 | refine below_set ?_ GE520.out) | exact HB.out)⟩
            · replace c14 := Bool.eq_false_iff.mpr c14
              subst c14
              have H1 : (some false) = some r := by rw [if_neg (show ¬ (false = true) by decide)] at H; exact H
              clear H
              have H := H1
              clear H1
              obtain rfl := Option.some.inj H
              have hcz20_0 : wc.cell? ⟨gb520, 0, none⟩ = some (.int .i64 a0_0) := (blk_cell BK520.out 0).trans rfl
              have hcz20_1 : wc.cell? ⟨gb520, 1, none⟩ = some (.int .i64 a0_1) := (blk_cell BK520.out 1).trans rfl
              have hcz20_2 : wc.cell? ⟨gb520, 2, none⟩ = some (.int .i64 a0_2) := (blk_cell BK520.out 2).trans rfl
              have hcz20_3 : wc.cell? ⟨gb520, 3, none⟩ = some (.int .i64 a0_3) := (blk_cell BK520.out 3).trans rfl
              have hcz20_4 : wc.cell? ⟨gb520, 4, none⟩ = some (.int .i64 a0_4) := (blk_cell BK520.out 4).trans rfl
              have hcz20_5 : wc.cell? ⟨gb520, 5, none⟩ = some (.int .i64 a0_5) := (blk_cell BK520.out 5).trans rfl
              have hcz20_6 : wc.cell? ⟨gb520, 6, none⟩ = some (.int .i64 a0_6) := (blk_cell BK520.out 6).trans rfl
              have hcz20_7 : wc.cell? ⟨gb520, 7, none⟩ = some (.int .i64 a0_7) := (blk_cell BK520.out 7).trans rfl
              have hcz20_8 : wc.cell? ⟨gb520, 8, none⟩ = some (.int .i64 a0_8) := (blk_cell BK520.out 8).trans rfl
              have hfz20_0 := blk_frozen BK520.out 0
              have hfz20_1 := blk_frozen BK520.out 1
              have hfz20_2 := blk_frozen BK520.out 2
              have hfz20_3 := blk_frozen BK520.out 3
              have hfz20_4 := blk_frozen BK520.out 4
              have hfz20_5 := blk_frozen BK520.out 5
              have hfz20_6 := blk_frozen BK520.out 6
              have hfz20_7 := blk_frozen BK520.out 7
              have hfz20_8 := blk_frozen BK520.out 8
              go_wp2_with (first | ((with_reducible refine gate_callee (f := 130) rfl ?_); refine goesL_ (some 19) rfl rfl Try.func130 (by kernel_rfl) rfl #[.int .i64 a0_3, .int .i64 0, .int .i64 1073741824] rfl (by (try simp only [List.map_toArray, List.map_cons, List.map_nil]); first | done | rfl | (simp only [List.length_drop, List.length_take]; rfl)) ?_; (with_reducible refine (damperref05_in.calls a0_3 0 1073741824 true _ A11.out).mono ?_); rintro e w' ⟨rfl, ⟨nd, rfl⟩⟩; refine ⟨_, rfl, ?_⟩) | (go_at_call 130; (with_reducible refine (damperref05_in.calls a0_4 0 1 false _ A13.out).mono ?_); rintro e w' ⟨rfl, ⟨nd, rfl⟩⟩))
              go_ret
              exact ⟨by first | rfl | (simp [errW_none, errW_some] <;> rfl) | (simp [*, errW_none, errW_some] <;> rfl), by repeat (first | (with_reducible first | exact HB.out | apply below_alloc | apply pw_below_drewN | apply below_drew1 | refine below_set ?_ GE520.out) | exact HB.out)⟩
          · replace c12 := Bool.eq_false_iff.mpr c12
            subst c12
            have H1 : (some false) = some r := by rw [if_neg (show ¬ (false = true) by decide)] at H; exact H
            clear H
            have H := H1
            clear H1
            obtain rfl := Option.some.inj H
            have hcz21_0 : wc.cell? ⟨gb520, 0, none⟩ = some (.int .i64 a0_0) := (blk_cell BK520.out 0).trans rfl
            have hcz21_1 : wc.cell? ⟨gb520, 1, none⟩ = some (.int .i64 a0_1) := (blk_cell BK520.out 1).trans rfl
            have hcz21_2 : wc.cell? ⟨gb520, 2, none⟩ = some (.int .i64 a0_2) := (blk_cell BK520.out 2).trans rfl
            have hcz21_3 : wc.cell? ⟨gb520, 3, none⟩ = some (.int .i64 a0_3) := (blk_cell BK520.out 3).trans rfl
            have hcz21_4 : wc.cell? ⟨gb520, 4, none⟩ = some (.int .i64 a0_4) := (blk_cell BK520.out 4).trans rfl
            have hcz21_5 : wc.cell? ⟨gb520, 5, none⟩ = some (.int .i64 a0_5) := (blk_cell BK520.out 5).trans rfl
            have hcz21_6 : wc.cell? ⟨gb520, 6, none⟩ = some (.int .i64 a0_6) := (blk_cell BK520.out 6).trans rfl
            have hcz21_7 : wc.cell? ⟨gb520, 7, none⟩ = some (.int .i64 a0_7) := (blk_cell BK520.out 7).trans rfl
            have hcz21_8 : wc.cell? ⟨gb520, 8, none⟩ = some (.int .i64 a0_8) := (blk_cell BK520.out 8).trans rfl
            have hfz21_0 := blk_frozen BK520.out 0
            have hfz21_1 := blk_frozen BK520.out 1
            have hfz21_2 := blk_frozen BK520.out 2
            have hfz21_3 := blk_frozen BK520.out 3
            have hfz21_4 := blk_frozen BK520.out 4
            have hfz21_5 := blk_frozen BK520.out 5
            have hfz21_6 := blk_frozen BK520.out 6
            have hfz21_7 := blk_frozen BK520.out 7
            have hfz21_8 := blk_frozen BK520.out 8
            go_wp2_with (first | ((with_reducible refine gate_callee (f := 130) rfl ?_); refine goesL_ (some 19) rfl rfl Try.func130 (by kernel_rfl) rfl #[.int .i64 a0_3, .int .i64 0, .int .i64 1073741824] rfl (by (try simp only [List.map_toArray, List.map_cons, List.map_nil]); first | done | rfl | (simp only [List.length_drop, List.length_take]; rfl)) ?_; (with_reducible refine (damperref05_in.calls a0_3 0 1073741824 false _ A11.out).mono ?_); rintro e w' ⟨rfl, ⟨nd, rfl⟩⟩; refine ⟨_, rfl, ?_⟩))
            go_ret
            exact ⟨by first | rfl | (simp [errW_none, errW_some] <;> rfl) | (simp [*, errW_none, errW_some] <;> rfl), by repeat (first | (with_reducible first | exact HB.out | apply below_alloc | apply pw_below_drewN | apply below_drew1 | refine below_set ?_ GE520.out) | exact HB.out)⟩
        · rw [if_neg c10] at H
          have c10b0 : (a0_0 == 1) = false := beq_eq_false_iff_ne.mpr c10
          have c10b1 : (a0_0 != 1) = true := bne_iff_ne.mpr c10
          by_cases c22 : a0_0 = 2
          · rw [if_pos c22] at H
            have c22b0 : (a0_0 == 2) = true := beq_iff_eq.mpr c22
            have c22b1 : (a0_0 != 2) = false := bne_eq_false_iff_eq.mpr c22
            clear c22
            obtain rfl := Option.some.inj H
            have hcz23_0 : wc.cell? ⟨gb520, 0, none⟩ = some (.int .i64 a0_0) := (blk_cell BK520.out 0).trans rfl
            have hcz23_1 : wc.cell? ⟨gb520, 1, none⟩ = some (.int .i64 a0_1) := (blk_cell BK520.out 1).trans rfl
            have hcz23_2 : wc.cell? ⟨gb520, 2, none⟩ = some (.int .i64 a0_2) := (blk_cell BK520.out 2).trans rfl
            have hcz23_3 : wc.cell? ⟨gb520, 3, none⟩ = some (.int .i64 a0_3) := (blk_cell BK520.out 3).trans rfl
            have hcz23_4 : wc.cell? ⟨gb520, 4, none⟩ = some (.int .i64 a0_4) := (blk_cell BK520.out 4).trans rfl
            have hcz23_5 : wc.cell? ⟨gb520, 5, none⟩ = some (.int .i64 a0_5) := (blk_cell BK520.out 5).trans rfl
            have hcz23_6 : wc.cell? ⟨gb520, 6, none⟩ = some (.int .i64 a0_6) := (blk_cell BK520.out 6).trans rfl
            have hcz23_7 : wc.cell? ⟨gb520, 7, none⟩ = some (.int .i64 a0_7) := (blk_cell BK520.out 7).trans rfl
            have hcz23_8 : wc.cell? ⟨gb520, 8, none⟩ = some (.int .i64 a0_8) := (blk_cell BK520.out 8).trans rfl
            have hfz23_0 := blk_frozen BK520.out 0
            have hfz23_1 := blk_frozen BK520.out 1
            have hfz23_2 := blk_frozen BK520.out 2
            have hfz23_3 := blk_frozen BK520.out 3
            have hfz23_4 := blk_frozen BK520.out 4
            have hfz23_5 := blk_frozen BK520.out 5
            have hfz23_6 := blk_frozen BK520.out 6
            have hfz23_7 := blk_frozen BK520.out 7
            have hfz23_8 := blk_frozen BK520.out 8
            go_wp2
            go_ret
            exact ⟨by first | rfl | (simp [errW_none, errW_some] <;> rfl) | (simp [*, errW_none, errW_some] <;> rfl), by repeat (first | (with_reducible first | exact HB.out | apply below_alloc | apply pw_below_drewN | apply below_drew1 | refine below_set ?_ GE520.out) | exact HB.out)⟩
          · rw [if_neg c22] at H
            have c22b0 : (a0_0 == 2) = false := beq_eq_false_iff_ne.mpr c22
            have c22b1 : (a0_0 != 2) = true := bne_iff_ne.mpr c22
            by_cases c24 : a0_0 = 3
            · rw [if_pos c24] at H
              have c24b0 : (a0_0 == 3) = true := beq_iff_eq.mpr c24
              have c24b1 : (a0_0 != 3) = false := bne_eq_false_iff_eq.mpr c24
              clear c24
              obtain rfl := Option.some.inj H
              have hcz25_0 : wc.cell? ⟨gb520, 0, none⟩ = some (.int .i64 a0_0) := (blk_cell BK520.out 0).trans rfl
              have hcz25_1 : wc.cell? ⟨gb520, 1, none⟩ = some (.int .i64 a0_1) := (blk_cell BK520.out 1).trans rfl
              have hcz25_2 : wc.cell? ⟨gb520, 2, none⟩ = some (.int .i64 a0_2) := (blk_cell BK520.out 2).trans rfl
              have hcz25_3 : wc.cell? ⟨gb520, 3, none⟩ = some (.int .i64 a0_3) := (blk_cell BK520.out 3).trans rfl
              have hcz25_4 : wc.cell? ⟨gb520, 4, none⟩ = some (.int .i64 a0_4) := (blk_cell BK520.out 4).trans rfl
              have hcz25_5 : wc.cell? ⟨gb520, 5, none⟩ = some (.int .i64 a0_5) := (blk_cell BK520.out 5).trans rfl
              have hcz25_6 : wc.cell? ⟨gb520, 6, none⟩ = some (.int .i64 a0_6) := (blk_cell BK520.out 6).trans rfl
              have hcz25_7 : wc.cell? ⟨gb520, 7, none⟩ = some (.int .i64 a0_7) := (blk_cell BK520.out 7).trans rfl
              have hcz25_8 : wc.cell? ⟨gb520, 8, none⟩ = some (.int .i64 a0_8) := (blk_cell BK520.out 8).trans rfl
              have hfz25_0 := blk_frozen BK520.out 0
              have hfz25_1 := blk_frozen BK520.out 1
              have hfz25_2 := blk_frozen BK520.out 2
              have hfz25_3 := blk_frozen BK520.out 3
              have hfz25_4 := blk_frozen BK520.out 4
              have hfz25_5 := blk_frozen BK520.out 5
              have hfz25_6 := blk_frozen BK520.out 6
              have hfz25_7 := blk_frozen BK520.out 7
              have hfz25_8 := blk_frozen BK520.out 8
              go_wp2
              go_ret
              exact ⟨by first | rfl | (simp [errW_none, errW_some] <;> rfl) | (simp [*, errW_none, errW_some] <;> rfl), by repeat (first | (with_reducible first | exact HB.out | apply below_alloc | apply pw_below_drewN | apply below_drew1 | refine below_set ?_ GE520.out) | exact HB.out)⟩
            · rw [if_neg c24] at H
              have c24b0 : (a0_0 == 3) = false := beq_eq_false_iff_ne.mpr c24
              have c24b1 : (a0_0 != 3) = true := bne_iff_ne.mpr c24
              obtain rfl := Option.some.inj H
              have hcz26_0 : wc.cell? ⟨gb520, 0, none⟩ = some (.int .i64 a0_0) := (blk_cell BK520.out 0).trans rfl
              have hcz26_1 : wc.cell? ⟨gb520, 1, none⟩ = some (.int .i64 a0_1) := (blk_cell BK520.out 1).trans rfl
              have hcz26_2 : wc.cell? ⟨gb520, 2, none⟩ = some (.int .i64 a0_2) := (blk_cell BK520.out 2).trans rfl
              have hcz26_3 : wc.cell? ⟨gb520, 3, none⟩ = some (.int .i64 a0_3) := (blk_cell BK520.out 3).trans rfl
              have hcz26_4 : wc.cell? ⟨gb520, 4, none⟩ = some (.int .i64 a0_4) := (blk_cell BK520.out 4).trans rfl
              have hcz26_5 : wc.cell? ⟨gb520, 5, none⟩ = some (.int .i64 a0_5) := (blk_cell BK520.out 5).trans rfl
              have hcz26_6 : wc.cell? ⟨gb520, 6, none⟩ = some (.int .i64 a0_6) := (blk_cell BK520.out 6).trans rfl
              have hcz26_7 : wc.cell? ⟨gb520, 7, none⟩ = some (.int .i64 a0_7) := (blk_cell BK520.out 7).trans rfl
              have hcz26_8 : wc.cell? ⟨gb520, 8, none⟩ = some (.int .i64 a0_8) := (blk_cell BK520.out 8).trans rfl
              have hfz26_0 := blk_frozen BK520.out 0
              have hfz26_1 := blk_frozen BK520.out 1
              have hfz26_2 := blk_frozen BK520.out 2
              have hfz26_3 := blk_frozen BK520.out 3
              have hfz26_4 := blk_frozen BK520.out 4
              have hfz26_5 := blk_frozen BK520.out 5
              have hfz26_6 := blk_frozen BK520.out 6
              have hfz26_7 := blk_frozen BK520.out 7
              have hfz26_8 := blk_frozen BK520.out 8
              go_wp2
              go_ret
              exact ⟨by first | rfl | (simp [errW_none, errW_some] <;> rfl) | (simp [*, errW_none, errW_some] <;> rfl), by repeat (first | (with_reducible first | exact HB.out | apply below_alloc | apply pw_below_drewN | apply below_drew1 | refine below_set ?_ GE520.out) | exact HB.out)⟩

end Go.Proofs.Ytalpemoodollpaa.P
-- Printed by hookprint.py (the session's own program, over the kit's print.py): checked by Lean like any text.
namespace Go.Proofs.Ytalpemoodollpaa.P
open Go.RowKit Go.Proofs.YtalpemoodollpaaW.PrintWords Go.Proofs.YtalpemoodollpaaW.PrintLast Go.Proofs.YtalpemoodollpaaW.PrintMore
attribute [local go_sem] max2_int min2_int max_two min_two max_three min_three max_four min_four   -- for this text's walks alone
set_option linter.unusedVariables false
set_option linter.unusedSimpArgs false

/-! ### damperref05_Encode: function 88 -/
def damperref05_Encode.f (k : Nat) (a0_0 : Int) (a0_1 : Int) (a0_2 : Int) (a0_3 : Int) (a0_4 : Int) (a0_5 : Int) (a0_6 : Int) (a0_7 : Int) (a0_8 : Int) : Option (List Int × Int) := (damperref05_Right.f k a0_0 a0_1 a0_2 a0_3 a0_4 a0_5 a0_6 a0_7 a0_8).bind fun t631 => (if t631 = true then ((damperref05_form.f k a0_0 a0_1 a0_2 a0_3 a0_4 a0_5 a0_6 a0_7 a0_8).bind fun t632 => (some (t632, 0))) else (some (([] : List Int), 1)))
theorem damperref05_Encode.mono : ∀ a0 a1 a2 a3 a4 a5 a6 a7 a8 k, LeO (damperref05_Encode.f k a0 a1 a2 a3 a4 a5 a6 a7 a8) (damperref05_Encode.f (k + 1) a0 a1 a2 a3 a4 a5 a6 a7 a8) := by
  intro a0 a1 a2 a3 a4 a5 a6 a7 a8 k
  unfold damperref05_Encode.f
  repeat' first
      | (with_reducible exact damperref05_Right.mono _ _ _ _ _ _ _ _ _ _)
      | (with_reducible exact damperref05_form.mono _ _ _ _ _ _ _ _ _ _)
      | (with_reducible exact LeO.refl _)
      | (with_reducible exact LeO.none _)
      | (with_reducible refine LeO.ite ?_ ?_)
      | (with_reducible refine LeO.bind ?_ (fun _ => ?_))
      | exact damperref05_Right.mono _ _ _ _ _ _ _ _ _ _
      | exact damperref05_form.mono _ _ _ _ _ _ _ _ _ _
      | exact LeO.none _
      | refine LeO.ite ?_ ?_
      | refine LeO.bind ?_ (fun _ => ?_)
set_option maxHeartbeats 8000000 in
set_option maxRecDepth 100000 in
theorem damperref05_Encode.calls (k : Nat) (a0_0 : Int) (a0_1 : Int) (a0_2 : Int) (a0_3 : Int) (a0_4 : Int) (a0_5 : Int) (a0_6 : Int) (a0_7 : Int) (a0_8 : Int) (r1 : List Int) (r2 : Int) (w : World) (h : damperref05_Encode.f k a0_0 a0_1 a0_2 a0_3 a0_4 a0_5 a0_6 a0_7 a0_8 = some (r1, r2)) :
    Calls Try.prog 88 #[.agg #[.int .i64 a0_0, .int .i64 a0_1, .int .i64 a0_2, .int .i64 a0_3, .int .i64 a0_4, .int .i64 a0_5, .int .i64 a0_6, .int .i64 a0_7, .int .i64 a0_8]] w fun e w' => ∃ v0_ : Value, e = .returned (.tuple #[v0_, .int .i64 r2]) ∧ Kd.R (Kd.int .u8) 5 w' w.heap.size (fun _ => True) v0_ r1 ∧ Below w.heap.size w w' := by
  have hu95 := Try.underlying95
  have HB := Aside0.mk (Below.refl w.heap.size w)
  have H : ((damperref05_Right.f k a0_0 a0_1 a0_2 a0_3 a0_4 a0_5 a0_6 a0_7 a0_8).bind fun t631 => (if t631 = true then ((damperref05_form.f k a0_0 a0_1 a0_2 a0_3 a0_4 a0_5 a0_6 a0_7 a0_8).bind fun t632 => (some (t632, 0))) else (some (([] : List Int), 1)))) = some (r1, r2) := h
  clear h
  replace H := Option.bind_eq_some_iff.mp H
  obtain ⟨t631, A20, H⟩ := H
  replace H : (if t631 = true then ((damperref05_form.f k a0_0 a0_1 a0_2 a0_3 a0_4 a0_5 a0_6 a0_7 a0_8).bind fun t632 => (some (t632, 0))) else (some (([] : List Int), 1))) = some (r1, r2) := H
  have A2 := Aside0.mk A20
  clear A20
  by_cases c3 : t631 = true
  · subst c3
    have H1 : ((damperref05_form.f k a0_0 a0_1 a0_2 a0_3 a0_4 a0_5 a0_6 a0_7 a0_8).bind fun t632 => (some (t632, 0))) = some (r1, r2) := by rw [if_pos rfl] at H; exact H
    clear H
    have H := H1
    clear H1
    replace H := Option.bind_eq_some_iff.mp H
    obtain ⟨t632, A40, H⟩ := H
    replace H : (some (t632, 0)) = some (r1, r2) := H
    have A4 := Aside0.mk A40
    clear A40
    simp only [Option.some.injEq, Prod.mk.injEq] at H
    obtain ⟨rfl, rfl⟩ := H
    go_enter Try.func88, Try.ntmps88
    go_wp2_with (first | ((with_reducible refine gate_dst (N := 1) rfl ?_); refine box_event ?hg (N := 1) ?hd (cs := #[.int .i64 a0_0, .int .i64 a0_1, .int .i64 a0_2, .int .i64 a0_3, .int .i64 a0_4, .int .i64 a0_5, .int .i64 a0_6, .int .i64 a0_7, .int .i64 a0_8]) (t := 95) ?hr ?_; (case hd => rfl); (case hg => rfl); (case hr => first | (go_simp; done) | (go_simp; rfl)); intro gb630 hg w5 hbox hb; have n0_ := Aside0.mk (below_step (by repeat (first | (with_reducible first | exact HB.out | apply below_alloc | apply pw_below_drewN | apply below_drew1) | exact HB.out)) hb); have n1_ := Aside0.mk (hbox); have n2_ := Aside0.mk ((by rw [hg]; exact (below_size (by repeat (first | (with_reducible first | exact HB.out | apply below_alloc | apply pw_below_drewN | apply below_drew1) | exact HB.out))) : w.heap.size ≤ gb630)); have n3_ := Aside0.mk ((by rw [hg]; exact (below_size (by repeat (first | (with_reducible first | exact HB.out | apply below_alloc | apply pw_below_drewN | apply below_drew1) | exact HB.out))) : w.heap.size ≤ gb630)); clear HB; have HB := n0_; have BK630 := n1_; have GW630 := n2_; have GE630 := n3_; clear n0_ n1_ n2_ n3_; clear hb hbox hg; have hcz6_0 : w5.cell? ⟨gb630, 0, none⟩ = some (.int .i64 a0_0) := (blk_cell BK630.out 0).trans rfl; have hcz6_1 : w5.cell? ⟨gb630, 1, none⟩ = some (.int .i64 a0_1) := (blk_cell BK630.out 1).trans rfl; have hcz6_2 : w5.cell? ⟨gb630, 2, none⟩ = some (.int .i64 a0_2) := (blk_cell BK630.out 2).trans rfl; have hcz6_3 : w5.cell? ⟨gb630, 3, none⟩ = some (.int .i64 a0_3) := (blk_cell BK630.out 3).trans rfl; have hcz6_4 : w5.cell? ⟨gb630, 4, none⟩ = some (.int .i64 a0_4) := (blk_cell BK630.out 4).trans rfl; have hcz6_5 : w5.cell? ⟨gb630, 5, none⟩ = some (.int .i64 a0_5) := (blk_cell BK630.out 5).trans rfl; have hcz6_6 : w5.cell? ⟨gb630, 6, none⟩ = some (.int .i64 a0_6) := (blk_cell BK630.out 6).trans rfl; have hcz6_7 : w5.cell? ⟨gb630, 7, none⟩ = some (.int .i64 a0_7) := (blk_cell BK630.out 7).trans rfl; have hcz6_8 : w5.cell? ⟨gb630, 8, none⟩ = some (.int .i64 a0_8) := (blk_cell BK630.out 8).trans rfl; have hfz6_0 := blk_frozen BK630.out 0; have hfz6_1 := blk_frozen BK630.out 1; have hfz6_2 := blk_frozen BK630.out 2; have hfz6_3 := blk_frozen BK630.out 3; have hfz6_4 := blk_frozen BK630.out 4; have hfz6_5 := blk_frozen BK630.out 5; have hfz6_6 := blk_frozen BK630.out 6; have hfz6_7 := blk_frozen BK630.out 7; have hfz6_8 := blk_frozen BK630.out 8) | ((with_reducible refine gate_callee (f := 90) rfl ?_); refine goesL_ (some 5) rfl rfl Try.func90 (by kernel_rfl) rfl #[.agg #[.int .i64 a0_0, .int .i64 a0_1, .int .i64 a0_2, .int .i64 a0_3, .int .i64 a0_4, .int .i64 a0_5, .int .i64 a0_6, .int .i64 a0_7, .int .i64 a0_8]] rfl (by (try simp only [List.map_toArray, List.map_cons, List.map_nil]); first | done | rfl | (simp only [List.length_drop, List.length_take]; rfl)) ?_; (with_reducible refine (damperref05_Right.calls k a0_0 a0_1 a0_2 a0_3 a0_4 a0_5 a0_6 a0_7 a0_8 true _ A2.out).mono ?_); rintro e w7 ⟨rfl, hb⟩; refine ⟨_, rfl, ?_⟩; have n0_ := Aside0.mk (blk_below (g := gb630) (o := .cells #[.int .i64 a0_0, .int .i64 a0_1, .int .i64 a0_2, .int .i64 a0_3, .int .i64 a0_4, .int .i64 a0_5, .int .i64 a0_6, .int .i64 a0_7, .int .i64 a0_8] 95 (0, 0)) (by (with_reducible repeat (first | refine blk_drewN ?_ _ | refine blk_drew ?_ | refine blk_alloc ?_ _)); exact BK630.out) hb); have n1_ := Aside0.mk (below_step (by repeat (first | (with_reducible first | exact HB.out | apply below_alloc | apply pw_below_drewN | apply below_drew1 | refine below_set ?_ GE630.out) | exact HB.out)) hb); clear BK630; clear HB; have BK630 := n0_; have HB := n1_; clear n0_ n1_; (try clear hb); (try clear hb2); (try clear hk); (try clear hi); have hcz8_0 : w7.cell? ⟨gb630, 0, none⟩ = some (.int .i64 a0_0) := (blk_cell BK630.out 0).trans rfl; have hcz8_1 : w7.cell? ⟨gb630, 1, none⟩ = some (.int .i64 a0_1) := (blk_cell BK630.out 1).trans rfl; have hcz8_2 : w7.cell? ⟨gb630, 2, none⟩ = some (.int .i64 a0_2) := (blk_cell BK630.out 2).trans rfl; have hcz8_3 : w7.cell? ⟨gb630, 3, none⟩ = some (.int .i64 a0_3) := (blk_cell BK630.out 3).trans rfl; have hcz8_4 : w7.cell? ⟨gb630, 4, none⟩ = some (.int .i64 a0_4) := (blk_cell BK630.out 4).trans rfl; have hcz8_5 : w7.cell? ⟨gb630, 5, none⟩ = some (.int .i64 a0_5) := (blk_cell BK630.out 5).trans rfl; have hcz8_6 : w7.cell? ⟨gb630, 6, none⟩ = some (.int .i64 a0_6) := (blk_cell BK630.out 6).trans rfl; have hcz8_7 : w7.cell? ⟨gb630, 7, none⟩ = some (.int .i64 a0_7) := (blk_cell BK630.out 7).trans rfl; have hcz8_8 : w7.cell? ⟨gb630, 8, none⟩ = some (.int .i64 a0_8) := (blk_cell BK630.out 8).trans rfl; have hfz8_0 := blk_frozen BK630.out 0; have hfz8_1 := blk_frozen BK630.out 1; have hfz8_2 := blk_frozen BK630.out 2; have hfz8_3 := blk_frozen BK630.out 3; have hfz8_4 := blk_frozen BK630.out 4; have hfz8_5 := blk_frozen BK630.out 5; have hfz8_6 := blk_frozen BK630.out 6; have hfz8_7 := blk_frozen BK630.out 7; have hfz8_8 := blk_frozen BK630.out 8) | ((with_reducible refine gate_callee (f := 129) rfl ?_); refine goesL_ (some 8) rfl rfl Try.func129 (by kernel_rfl) rfl #[.agg #[.int .i64 a0_0, .int .i64 a0_1, .int .i64 a0_2, .int .i64 a0_3, .int .i64 a0_4, .int .i64 a0_5, .int .i64 a0_6, .int .i64 a0_7, .int .i64 a0_8]] rfl (by (try simp only [List.map_toArray, List.map_cons, List.map_nil]); first | done | rfl | (simp only [List.length_drop, List.length_take]; rfl)) ?_; (with_reducible refine (damperref05_form.calls k a0_0 a0_1 a0_2 a0_3 a0_4 a0_5 a0_6 a0_7 a0_8 t632 _ A4.out).mono ?_); rintro e w9 ⟨v633, rfl, ho0, hb⟩; refine ⟨_, rfl, ?_⟩; have n0_ := Aside0.mk (Kd.R_lower ho0 (below_size (by repeat (first | (with_reducible first | exact HB.out | apply below_alloc | apply pw_below_drewN | apply below_drew1 | refine below_set ?_ GE630.out) | exact HB.out)))); have n1_ := Aside0.mk (blk_below (g := gb630) (o := .cells #[.int .i64 a0_0, .int .i64 a0_1, .int .i64 a0_2, .int .i64 a0_3, .int .i64 a0_4, .int .i64 a0_5, .int .i64 a0_6, .int .i64 a0_7, .int .i64 a0_8] 95 (0, 0)) (by (with_reducible repeat (first | refine blk_drewN ?_ _ | refine blk_drew ?_ | refine blk_alloc ?_ _)); exact BK630.out) hb); have n2_ := Aside0.mk (below_step (by repeat (first | (with_reducible first | exact HB.out | apply below_alloc | apply pw_below_drewN | apply below_drew1 | refine below_set ?_ GE630.out) | exact HB.out)) hb); clear BK630; clear HB; have HO634 := n0_; have BK630 := n1_; have HB := n2_; clear n0_ n1_ n2_; (try clear hb); (try clear hb2); (try clear hk); (try clear hi); (try clear ho0)))
    go_ret2
    exact ⟨_, by first | rfl | (simp [errW_none, errW_some] <;> rfl) | (simp [*, errW_none, errW_some] <;> rfl), by (with_reducible repeat (first | apply Kd.R_alloc | apply Kd.R_drewN | apply Kd.R_drew)); exact HO634.out, by repeat (first | (with_reducible first | exact HB.out | apply below_alloc | apply pw_below_drewN | apply below_drew1 | refine below_set ?_ GE630.out) | exact HB.out)⟩
  · replace c3 := Bool.eq_false_iff.mpr c3
    subst c3
    have H1 : (some (([] : List Int), 1)) = some (r1, r2) := by rw [if_neg (show ¬ (false = true) by decide)] at H; exact H
    clear H
    have H := H1
    clear H1
    simp only [Option.some.injEq, Prod.mk.injEq] at H
    obtain ⟨rfl, rfl⟩ := H
    go_enter Try.func88, Try.ntmps88
    go_wp2_with (first | ((with_reducible refine gate_dst (N := 1) rfl ?_); refine box_event ?hg (N := 1) ?hd (cs := #[.int .i64 a0_0, .int .i64 a0_1, .int .i64 a0_2, .int .i64 a0_3, .int .i64 a0_4, .int .i64 a0_5, .int .i64 a0_6, .int .i64 a0_7, .int .i64 a0_8]) (t := 95) ?hr ?_; (case hd => rfl); (case hg => rfl); (case hr => first | (go_simp; done) | (go_simp; rfl)); intro gb630 hg w10 hbox hb; have n0_ := Aside0.mk (below_step (by repeat (first | (with_reducible first | exact HB.out | apply below_alloc | apply pw_below_drewN | apply below_drew1) | exact HB.out)) hb); have n1_ := Aside0.mk (hbox); have n2_ := Aside0.mk ((by rw [hg]; exact (below_size (by repeat (first | (with_reducible first | exact HB.out | apply below_alloc | apply pw_below_drewN | apply below_drew1) | exact HB.out))) : w.heap.size ≤ gb630)); have n3_ := Aside0.mk ((by rw [hg]; exact (below_size (by repeat (first | (with_reducible first | exact HB.out | apply below_alloc | apply pw_below_drewN | apply below_drew1) | exact HB.out))) : w.heap.size ≤ gb630)); clear HB; have HB := n0_; have BK630 := n1_; have GW630 := n2_; have GE630 := n3_; clear n0_ n1_ n2_ n3_; clear hb hbox hg; have hcz11_0 : w10.cell? ⟨gb630, 0, none⟩ = some (.int .i64 a0_0) := (blk_cell BK630.out 0).trans rfl; have hcz11_1 : w10.cell? ⟨gb630, 1, none⟩ = some (.int .i64 a0_1) := (blk_cell BK630.out 1).trans rfl; have hcz11_2 : w10.cell? ⟨gb630, 2, none⟩ = some (.int .i64 a0_2) := (blk_cell BK630.out 2).trans rfl; have hcz11_3 : w10.cell? ⟨gb630, 3, none⟩ = some (.int .i64 a0_3) := (blk_cell BK630.out 3).trans rfl; have hcz11_4 : w10.cell? ⟨gb630, 4, none⟩ = some (.int .i64 a0_4) := (blk_cell BK630.out 4).trans rfl; have hcz11_5 : w10.cell? ⟨gb630, 5, none⟩ = some (.int .i64 a0_5) := (blk_cell BK630.out 5).trans rfl; have hcz11_6 : w10.cell? ⟨gb630, 6, none⟩ = some (.int .i64 a0_6) := (blk_cell BK630.out 6).trans rfl; have hcz11_7 : w10.cell? ⟨gb630, 7, none⟩ = some (.int .i64 a0_7) := (blk_cell BK630.out 7).trans rfl; have hcz11_8 : w10.cell? ⟨gb630, 8, none⟩ = some (.int .i64 a0_8) := (blk_cell BK630.out 8).trans rfl; have hfz11_0 := blk_frozen BK630.out 0; have hfz11_1 := blk_frozen BK630.out 1; have hfz11_2 := blk_frozen BK630.out 2; have hfz11_3 := blk_frozen BK630.out 3; have hfz11_4 := blk_frozen BK630.out 4; have hfz11_5 := blk_frozen BK630.out 5; have hfz11_6 := blk_frozen BK630.out 6; have hfz11_7 := blk_frozen BK630.out 7; have hfz11_8 := blk_frozen BK630.out 8) | ((with_reducible refine gate_callee (f := 90) rfl ?_); refine goesL_ (some 5) rfl rfl Try.func90 (by kernel_rfl) rfl #[.agg #[.int .i64 a0_0, .int .i64 a0_1, .int .i64 a0_2, .int .i64 a0_3, .int .i64 a0_4, .int .i64 a0_5, .int .i64 a0_6, .int .i64 a0_7, .int .i64 a0_8]] rfl (by (try simp only [List.map_toArray, List.map_cons, List.map_nil]); first | done | rfl | (simp only [List.length_drop, List.length_take]; rfl)) ?_; (with_reducible refine (damperref05_Right.calls k a0_0 a0_1 a0_2 a0_3 a0_4 a0_5 a0_6 a0_7 a0_8 false _ A2.out).mono ?_); rintro e w12 ⟨rfl, hb⟩; refine ⟨_, rfl, ?_⟩; have n0_ := Aside0.mk (blk_below (g := gb630) (o := .cells #[.int .i64 a0_0, .int .i64 a0_1, .int .i64 a0_2, .int .i64 a0_3, .int .i64 a0_4, .int .i64 a0_5, .int .i64 a0_6, .int .i64 a0_7, .int .i64 a0_8] 95 (0, 0)) (by (with_reducible repeat (first | refine blk_drewN ?_ _ | refine blk_drew ?_ | refine blk_alloc ?_ _)); exact BK630.out) hb); have n1_ := Aside0.mk (below_step (by repeat (first | (with_reducible first | exact HB.out | apply below_alloc | apply pw_below_drewN | apply below_drew1 | refine below_set ?_ GE630.out) | exact HB.out)) hb); clear BK630; clear HB; have BK630 := n0_; have HB := n1_; clear n0_ n1_; (try clear hb); (try clear hb2); (try clear hk); (try clear hi)))
    go_ret2
    exact ⟨_, by first | rfl | (simp [errW_none, errW_some] <;> rfl) | (simp [*, errW_none, errW_some] <;> rfl), by first | exact Kd.R_nil _ _ _ _ _ | exact Kd.N_nil _ _ _ _ _ | exact Kd.V_nil _ _ _ _ _ | exact Kd.Q_nil _ _ _ _ _ | exact Kd.S_nil _ _ _ _ _, by repeat (first | (with_reducible first | exact HB.out | apply below_alloc | apply pw_below_drewN | apply below_drew1 | refine below_set ?_ GE630.out) | exact HB.out)⟩

end Go.Proofs.Ytalpemoodollpaa.P
/- The document's right commands are the program's. -/
namespace Go.Proofs.Ytalpemoodollpaa.P
open Go.RowKit Go.Proofs.YtalpemoodollpaaW.PrintWords Go.Proofs.YtalpemoodollpaaW.PrintLast Go.Proofs.YtalpemoodollpaaW.PrintMore
set_option linter.unusedVariables false
set_option linter.unusedSimpArgs false
theorem refIn05 (a lo hi : Int) : damperref05_in.f a lo hi = some (within_ lo hi a) := by
  unfold damperref05_in.f within_
  by_cases h : lo ≤ a
  · rw [if_pos (by omega)]; simp [h]
  · rw [if_neg (by omega)]; simp [h]
theorem refRight (c : Cmd) : damperref05_Right.f 1 c.f0 c.f1 c.f2 c.f3 c.f4 c.f5 c.f6 c.f7 c.f8 = some (cmdRight c) := by
  unfold damperref05_Right.f cmdRight damperref05_Right.j0
  simp only [refIn05, Option.bind_some]
  cases within_ 0 255 c.f1 <;> cases within_ 0 4611686018427387904 c.f2 <;> simp
  by_cases h1 : c.f0 = 1
  · simp only [h1]
    cases within_ 0 1073741824 c.f3 <;> cases within_ 0 1 c.f4 <;> cases within_ 1 5 c.f5 <;> simp
  · rw [if_neg h1, if_neg h1]
    by_cases h2 : c.f0 = 2
    · simp [h2]
    · rw [if_neg h2]
      by_cases h3 : c.f0 = 3
      · rw [if_pos h3, if_pos h3]
        simp [h3]
      · simp [h2, h3]
theorem refRight_calls (c : Cmd) (w : World) : Calls Try.prog 90 #[.agg #[.int .i64 c.f0, .int .i64 c.f1, .int .i64 c.f2, .int .i64 c.f3, .int .i64 c.f4, .int .i64 c.f5, .int .i64 c.f6, .int .i64 c.f7, .int .i64 c.f8]] w fun e w' => e = .returned (.bool (cmdRight c)) ∧ Below w.heap.size w w' :=
  damperref05_Right.calls 1 _ _ _ _ _ _ _ _ _ _ w (refRight c)
end Go.Proofs.Ytalpemoodollpaa.P
/- The document's forms of numbers are the program's. -/
namespace Go.Proofs.Ytalpemoodollpaa.P
open Go.RowKit Go.Proofs.YtalpemoodollpaaW.PrintWords Go.Proofs.YtalpemoodollpaaW.PrintLast Go.Proofs.YtalpemoodollpaaW.PrintMore
set_option linter.unusedVariables false
set_option linter.unusedSimpArgs false

theorem up_ {α : Type} {f : Nat → Option α} (hm : ∀ k, LeO (f k) (f (k + 1))) {k : Nat} {r : α} (h : f k = some r) : ∀ m, k ≤ m → f m = some r := by
  intro m hm'
  induction m with
  | zero => obtain rfl : k = 0 := by omega
            exact h
  | succ m ih =>
    rcases Nat.lt_or_ge m k with h1 | h1
    · obtain rfl : k = m + 1 := by omega
      exact h
    · exact hm m r (ih h1)

theorem tmod128 (n : Int) (h : 0 ≤ n) : Int.tmod n 128 = n % 128 := Int.tmod_eq_emod_of_nonneg h
theorem tdiv128 (n : Int) (h : 0 ≤ n) : Int.tdiv n 128 = n / 128 := Int.tdiv_eq_ediv_of_nonneg h

theorem refNum_go (k : Nat) : ∀ (n : Int) (acc : List Int), 0 ≤ n → n < ((128 ^ (k + 1) : Nat) : Int) → n < 18446744073709551616 → acc.length + k < 140737488355328 →
    damperref03_Num.l0 (k + 1) n acc = some (acc ++ numForm n.toNat) := by
  induction k with
  | zero =>
    intro n acc h0 h1 h2 h3
    have h1' : n < 128 := by simpa using h1
    unfold damperref03_Num.l0
    rw [if_neg (by omega), if_pos (by omega), numForm_small h0 h1']
    congr 3
    omega
  | succ k ih =>
    intro n acc h0 h1 h2 h3
    unfold damperref03_Num.l0
    by_cases hn : n > 127
    · rw [if_pos hn, if_pos (by omega), tmod128 n h0, tdiv128 n h0, wrap_u64, wrap_u64]
      have e1 : n / 128 % 18446744073709551616 = n / 128 := by omega
      have e2 : (n % 128 + 128) % 18446744073709551616 % 256 = n % 128 + 128 := by omega
      rw [e1, e2, ih (n / 128) _ (by omega) ?_ (by omega) (by simp; omega), numForm_big (n := n) (by omega)]
      · simp
      · have : ((128 ^ (k + 1 + 1) : Nat) : Int) = ((128 ^ (k + 1) : Nat) : Int) * 128 := by rw [Nat.pow_succ]; simp
        rw [this] at h1
        omega
    · rw [if_neg hn, if_pos (by omega), numForm_small h0 (by omega)]
      congr 3
      omega
theorem refNum (n : Int) (h0 : 0 ≤ n) (h1 : n < 18446744073709551616) (m : Nat) (hm : 12 ≤ m) : damperref03_Num.f m n = some (numForm n.toNat) := by
  refine up_ (f := fun k => damperref03_Num.f k n) (k := 12) (fun k => damperref03_Num.mono n k) ?_ m hm
  have := refNum_go 11 n [] h0 (by simp; omega) h1 (by simp)
  unfold damperref03_Num.f
  simpa using this
theorem refUint_go (s : Nat) (hs : s ≤ 8) (n0 : Nat) (hn0 : n0 < 18446744073709551616) : ∀ (j : Nat) (i : Nat), i + j = s →
    damperref03_Uint.l0 (j + 1) ((n0 / 256 ^ i : Nat) : Int) (s : Int) (uintForm n0 i) (i : Int) = some (uintForm n0 s) := by
  intro j
  induction j with
  | zero =>
    intro i hi
    obtain rfl : i = s := by omega
    unfold damperref03_Uint.l0
    rw [if_neg (by omega)]
  | succ j ih =>
    intro i hi
    unfold damperref03_Uint.l0
    have hw : wrap64 ((i : Int) + 1) = ((i + 1 : Nat) : Int) := by rw [wrap64_eq]; omega
    have hle : n0 / 256 ^ i ≤ n0 := Nat.div_le_self _ _
    have hq : n0 / 256 ^ (i + 1) = n0 / 256 ^ i / 256 := by rw [Nat.pow_succ, Nat.div_div_eq_div_mul]
    have hu : uintForm n0 (i + 1) = ((n0 / 256 ^ i % 256 : Nat) : Int) :: uintForm n0 i := rfl
    have ih1 := ih (i + 1) (by omega)
    rw [hu, hq] at ih1
    clear ih hq hu
    revert ih1
    generalize n0 / 256 ^ i = q at hle
    intro ih1
    have ht : Int.tdiv (q : Int) 256 = ((q / 256 : Nat) : Int) := by
      rw [Int.tdiv_eq_ediv_of_nonneg (by omega)]
      omega
    have hm : Int.tmod (q : Int) 256 % 256 = ((q % 256 : Nat) : Int) := by
      rw [Int.tmod_eq_emod_of_nonneg (by omega)]
      omega
    have hwr : IntKind.u64.wrap ((q / 256 : Nat) : Int) = ((q / 256 : Nat) : Int) := by
      rw [wrap_u64]
      omega
    rw [if_pos (by omega), ht, hm, hwr, hw]
    simp only [Option.bind_some, List.length_cons, List.length_nil, uintForm_length]
    rw [if_pos (by omega)]
    exact ih1
theorem refUint (n s : Int) (h0 : 0 ≤ n) (h1 : n < 18446744073709551616) (hs : 1 ≤ s) (hs2 : s ≤ 8) (m : Nat) (hm : 12 ≤ m) : damperref03_Uint.f m n s = some (uintForm n.toNat s.toNat) := by
  refine up_ (f := fun k => damperref03_Uint.f k n s) (k := s.toNat + 2) (fun k => damperref03_Uint.mono n s k) ?_ m (by omega)
  show damperref03_Uint.f (s.toNat + 2) n s = _
  unfold damperref03_Uint.f
  rw [if_neg (by omega)]
  rw [show s.toNat + 2 = (s.toNat + 1) + 1 from rfl, damperref03_Uint.j0, if_neg (by simp; omega)]
  have := refUint_go s.toNat (by omega) n.toNat (by omega) s.toNat 0 (by omega)
  simpa [uintForm, Int.toNat_of_nonneg h0, Int.toNat_of_nonneg (show 0 ≤ s by omega)] using this
theorem refUint_none (n s : Int) (hs : s < 1 ∨ 8 < s) (m : Nat) (hm : 12 ≤ m) : damperref03_Uint.f m n s = some [] := by
  refine up_ (f := fun k => damperref03_Uint.f k n s) (k := 1) (fun k => damperref03_Uint.mono n s k) ?_ m (by omega)
  show damperref03_Uint.f 1 n s = _
  unfold damperref03_Uint.f
  split
  · simp [damperref03_Uint.j0]
  · simp [damperref03_Uint.j0, show s > 8 by omega]
theorem refTurned (n : Int) (h0 : -9223372036854775808 ≤ n) (h1 : n ≤ 9223372036854775807) : damperref03_turned.f n = some (zig n) := by
  unfold damperref03_turned.f zig
  split
  · rw [wrap_u64, wrap_u64]
    congr 1
    omega
  · rw [wrap_u64, wrap_u64, wrap_u64, wrap64_eq, wrap64_eq]
    congr 1
    omega
theorem refInt (n : Int) (h0 : -9223372036854775808 ≤ n) (h1 : n ≤ 9223372036854775807) (m : Nat) (hm : 12 ≤ m) : damperref03_Int.f m n = some (intForm n) := by
  unfold damperref03_Int.f
  rw [refTurned n h0 h1]
  have := zig_range n h0 h1
  simp only [Option.bind_some]
  rw [refUint (zig n) 8 this.1 this.2 (by omega) (by omega) m hm]
  rfl
theorem same_of_eq (l : List Int) : damperref03_Same.f l l = some true := by simp [damperref03_Same.f]
end Go.Proofs.Ytalpemoodollpaa.P
/- Commands: the document's bytes are the program's. -/
namespace Go.Proofs.Ytalpemoodollpaa.P
open Go.RowKit Go.Proofs.YtalpemoodollpaaW.PrintWords Go.Proofs.YtalpemoodollpaaW.PrintLast Go.Proofs.YtalpemoodollpaaW.PrintMore
set_option linter.unusedVariables false
set_option linter.unusedSimpArgs false
theorem refCmdForm (c : Cmd) (h : cmdRight c = true) (h6 : i64B c.f6 = true) (h7 : i64B c.f7 = true) (k : Nat) (hk : 14 ≤ k) :
    damperref05_form.f k c.f0 c.f1 c.f2 c.f3 c.f4 c.f5 c.f6 c.f7 c.f8 = some (cmdForm c) := by
  obtain ⟨k, rfl⟩ : ∃ m, k = m + 1 := ⟨k - 1, by omega⟩
  have hr := h
  simp only [cmdRight, Bool.and_eq_true, within_iff] at hr
  simp only [i64B, within_iff] at h6 h7
  obtain ⟨⟨h1, h2⟩, h3⟩ := hr
  have l2 := numForm_ten c.f2 (by omega)
  have e1 : c.f1 % 256 = c.f1 := by omega
  have w2 : IntKind.u64.wrap c.f2 = c.f2 := by rw [wrap_u64]; omega
  unfold damperref05_form.f cmdForm
  rw [w2, refNum c.f2 (by omega) (by omega) (k + 1) (by omega)]
  simp only [Option.bind_some, List.length_append, List.length_cons, List.length_nil, e1]
  rw [if_pos (by omega)]
  have i6 := refInt c.f6 h6.1 h6.2 k (by omega)
  have i7 := refInt c.f7 h7.1 h7.2 k (by omega)
  by_cases k1 : c.f0 = 1
  · rw [if_pos k1] at h3
    simp only [Bool.and_eq_true, within_iff] at h3
    have l3 := numForm_ten c.f3 (by omega)
    have w3 : IntKind.u64.wrap c.f3 = c.f3 := by rw [wrap_u64]; omega
    have e0 : c.f0 % 256 = c.f0 := by omega
    have e4 : c.f4 % 256 = c.f4 := by omega
    have e5 : c.f5 % 256 = c.f5 := by omega
    have e8 : c.f8 % 256 = c.f8 := by omega
    rw [if_pos k1, w3, refNum c.f3 (by omega) (by omega) (k + 1) (by omega)]
    simp only [Option.bind_some, List.length_append, List.length_cons, List.length_nil, e0, e4, e5, e8]
    rw [if_pos (by omega), if_pos (by omega)]
    rw [damperref05_form.j0.eq_2, if_neg (by omega), i6, i7]
    simp only [Option.bind_some, List.length_append, List.length_cons, List.length_nil, intForm_length]
    rw [if_pos (by omega), if_pos (by omega), if_pos k1, if_neg (by omega)]
    simp [List.append_assoc]
  · rw [if_neg k1] at h3
    rw [if_neg k1, if_neg k1]
    rw [damperref05_form.j0.eq_2]
    by_cases k2 : c.f0 = 2
    · have e0 : c.f0 % 256 = c.f0 := by omega
      rw [if_pos k2, if_pos k2, e0]
      simp
    · rw [if_neg k2, if_neg k2, i6, i7]
      simp only [Option.bind_some, List.length_append, List.length_cons, List.length_nil, intForm_length]
      have k3 : c.f0 = 3 := by
        apply Classical.byContradiction
        intro hc
        rw [if_neg hc, if_neg k2] at h3
        cases h3
      have e0 : c.f0 % 256 = c.f0 := by omega
      rw [if_pos (by omega), if_pos (by omega), e0]
      simp [List.append_assoc]
theorem refRight_k (c : Cmd) (k : Nat) (hk : 1 ≤ k) : damperref05_Right.f k c.f0 c.f1 c.f2 c.f3 c.f4 c.f5 c.f6 c.f7 c.f8 = some (cmdRight c) :=
  up_ (damperref05_Right.mono c.f0 c.f1 c.f2 c.f3 c.f4 c.f5 c.f6 c.f7 c.f8) (refRight c) k hk
theorem refCmdEncode (c : Cmd) (h6 : i64B c.f6 = true) (h7 : i64B c.f7 = true) (k : Nat) (hk : 14 ≤ k) :
    damperref05_Encode.f k c.f0 c.f1 c.f2 c.f3 c.f4 c.f5 c.f6 c.f7 c.f8 = some (if cmdRight c = true then (cmdForm c, 0) else ([], 1)) := by
  unfold damperref05_Encode.f
  rw [refRight_k c k (by omega)]
  simp only [Option.bind_some]
  by_cases h : cmdRight c = true
  · rw [if_pos h, if_pos h, refCmdForm c h h6 h7 k hk]; rfl
  · rw [if_neg h, if_neg h]
end Go.Proofs.Ytalpemoodollpaa.P
/- Facts that all rows of this seat need: what the head of the translation says (its words are read one by one, not by running a string). -/
namespace Go.Proofs.Ytalpemoodollpaa.row
set_option linter.unusedVariables false
set_option linter.unusedSimpArgs false
theorem and_ {a b : Bool} (h : a = true) (k : b = true) : (a && b) = true := by rw [h, k]; rfl
set_option maxRecDepth 1000000 in
theorem words0 : ∃ cs : List Char, Try.prog.initOrder.toList = cs ∧ ((behindMainWord (wordsSigns cs)).head? == some "cut".toList) = true := by
  refine ⟨_, String.toList_ofList, ?_⟩
  kernel_rfl
theorem words : ∃ rest, behindMainWord (wordsSigns Try.prog.initOrder.toList) = "cut".toList :: rest := by
  obtain ⟨cs, h, k⟩ := words0
  rw [h]
  have k := beq_iff_eq.1 k
  cases hw : behindMainWord (wordsSigns cs) with
  | nil => rw [hw] at k; cases k
  | cons a l => rw [hw] at k; injection k with k; exact ⟨l, by rw [k]⟩
theorem strip_cut (rest : List (List Char)) : stripLifts liftWords ("cut".toList :: rest) = ([], "cut".toList :: rest) := by
  simp [liftWords, stripLifts]
theorem lifts_of {P : Program} {rest : List (List Char)} (h : behindMainWord (wordsSigns P.initOrder.toList) = "cut".toList :: rest) : P.headLifts = [] := by
  unfold Program.headLifts
  rw [h, strip_cut]
  simp
theorem final_of {P : Program} {rest : List (List Char)} (h : behindMainWord (wordsSigns P.initOrder.toList) = "cut".toList :: rest) : P.liftsFinal = false := by
  unfold Program.liftsFinal
  rw [lifts_of h, h]
  simp
theorem make_of {P : Program} {rest : List (List Char)} (h : behindMainWord (wordsSigns P.initOrder.toList) = "cut".toList :: rest) : P.make = some .cut := by
  unfold Program.make
  rw [h]
  simp
theorem may_of {P : Program} {rest : List (List Char)} (h : behindMainWord (wordsSigns P.initOrder.toList) = "cut".toList :: rest) (h1 : P.laysLater = false) (h2 : P.bearsReflect = false) (h3 : P.doorFits [] = true) : P.mayEnter = true := by
  unfold Program.mayEnter
  rw [h]
  simp only [strip_cut, h1, h2, h3]
  simp
theorem may : Try.prog.mayEnter = true := by
  obtain ⟨rest, h⟩ := words
  exact may_of h (by as_aux_lemma => kernel_rfl) (by as_aux_lemma => kernel_rfl) (by as_aux_lemma => kernel_rfl)
theorem final : Try.prog.liftsFinal = false := by
  obtain ⟨rest, h⟩ := words
  exact final_of h
theorem make : Try.prog.make = some .cut := by
  obtain ⟨rest, h⟩ := words
  exact make_of h
set_option maxRecDepth 1000000 in
theorem laidOut : laidOutB Try.prog = true := by kernel_rfl
set_option maxRecDepth 1000000 in
theorem rowed : mapsRowed Try.prog = true := by kernel_rfl
set_option maxRecDepth 1000000 in
theorem heard : Try.prog.stopsHeard = true := by kernel_rfl
theorem own : ownKnob Try.prog.godebug = none := by kernel_rfl
theorem wf_u64 {a : Int} (h : (Lit.int .u64 a).wf = true) : 0 ≤ a ∧ a < 18446744073709551616 := by
  have := bounds_u64 h
  omega
theorem wf_i64 {a : Int} (h : (Lit.int .i64 a).wf = true) : -9223372036854775808 ≤ a ∧ a ≤ 9223372036854775807 := by
  have := bounds_i64 h
  omega
end Go.Proofs.Ytalpemoodollpaa.row
