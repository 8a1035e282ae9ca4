/- Contracts and plain laws: P101, P134, P102, P103, HRefNum, HRow, HOpen, P41, HPut, Hgot, HRK, HDS, HcmdDec, P71. -/
import Derived.Test.YtalpemoodollpaaRows
import Derived.WalkKit
import Derived.ProofKit
import Derived.OpenShut
import Derived.ShutString
import Derived.ChangeOld
import Derived.Below
import Derived.SizedLaws
import Derived.Deep.Slices
import Derived.Deep.Fields
import Derived.RegionTactic
import Derived.Test.YtalpemoodollpaaX7
-- Printed by hookprint.py (the session's own program, over the kit's print.py): checked by Lean like any text.
namespace Go.Proofs.Ytalpemoodollpaa.P
open Go.RowKit Go.Proofs.YtalpemoodollpaaW.PrintWords Go.Proofs.YtalpemoodollpaaW.PrintLast Go.Proofs.YtalpemoodollpaaW.PrintMore
attribute [local go_sem] max2_int min2_int max_two min_two max_three min_three max_four min_four   -- for this text's walks alone
set_option linter.unusedVariables false
set_option linter.unusedSimpArgs false

/-! ### damperref03_Uint: function 101 -/
mutual
def damperref03_Uint.j0 : Nat → Int → Int → Bool → Option (List Int)
  | 0, _, _, _ => none
  | k + 1, x0, x1, x12 => if x12 = true then (some ([] : List Int)) else (damperref03_Uint.l0 k x0 x1 ([] : List Int) 0)
def damperref03_Uint.l0 : Nat → Int → Int → List Int → Int → Option (List Int)
  | 0, _, _, _, _ => none
  | k + 1, x0, x1, x5, x6 => if x6 < x1 then ((some (([(Int.tmod x0 256) % 256] : List Int) : List Int)).bind fun y147 => (if y147.length + x5.length < 140737488355328 then (damperref03_Uint.l0 k (IntKind.u64.wrap (Int.tdiv x0 256)) x1 (y147 ++ x5) (wrap64 (x6 + 1))) else (none))) else (some x5)
end
def damperref03_Uint.f (k : Nat) (a0 : Int) (a1 : Int) : Option (List Int) := if a1 < 1 then (damperref03_Uint.j0 k a0 a1 true) else (damperref03_Uint.j0 k a0 a1 (decide (a1 > 8)))
theorem damperref03_Uint.mono_l : ∀ k, (∀ y0 y1 y2, LeO (damperref03_Uint.j0 k y0 y1 y2) (damperref03_Uint.j0 (k + 1) y0 y1 y2)) ∧ (∀ y0 y1 y2 y3, LeO (damperref03_Uint.l0 k y0 y1 y2 y3) (damperref03_Uint.l0 (k + 1) y0 y1 y2 y3))
  | 0 => ⟨fun _ _ _ r h => by simp [damperref03_Uint.j0] at h, fun _ _ _ _ r h => by simp [damperref03_Uint.l0] at h⟩
  | k + 1 => by
    obtain ⟨ih0, ih1⟩ := damperref03_Uint.mono_l k
    refine ⟨?_, ?_⟩
    · intro y0 y1 y2
      unfold damperref03_Uint.j0
      repeat' first
      | (with_reducible exact ih0 _ _ _)
      | (with_reducible exact ih1 _ _ _ _)
      | (with_reducible exact LeO.refl _)
      | (with_reducible exact LeO.none _)
      | (with_reducible refine LeO.ite ?_ ?_)
      | (with_reducible refine LeO.bind ?_ (fun _ => ?_))
      | exact ih0 _ _ _
      | exact ih1 _ _ _ _
      | exact LeO.none _
      | refine LeO.ite ?_ ?_
      | refine LeO.bind ?_ (fun _ => ?_)
    · intro y0 y1 y2 y3
      unfold damperref03_Uint.l0
      repeat' first
      | (with_reducible exact ih0 _ _ _)
      | (with_reducible exact ih1 _ _ _ _)
      | (with_reducible exact LeO.refl _)
      | (with_reducible exact LeO.none _)
      | (with_reducible refine LeO.ite ?_ ?_)
      | (with_reducible refine LeO.bind ?_ (fun _ => ?_))
      | exact ih0 _ _ _
      | exact ih1 _ _ _ _
      | exact LeO.none _
      | refine LeO.ite ?_ ?_
      | refine LeO.bind ?_ (fun _ => ?_)
theorem damperref03_Uint.mono : ∀ a0 a1 k, LeO (damperref03_Uint.f k a0 a1) (damperref03_Uint.f (k + 1) a0 a1) := by
  intro a0 a1 k
  obtain ⟨ih0, ih1⟩ := damperref03_Uint.mono_l k
  unfold damperref03_Uint.f
  repeat' first
      | (with_reducible exact ih0 _ _ _)
      | (with_reducible exact ih1 _ _ _ _)
      | (with_reducible exact LeO.refl _)
      | (with_reducible exact LeO.none _)
      | (with_reducible refine LeO.ite ?_ ?_)
      | (with_reducible refine LeO.bind ?_ (fun _ => ?_))
      | exact ih0 _ _ _
      | exact ih1 _ _ _ _
      | exact LeO.none _
      | refine LeO.ite ?_ ?_
      | refine LeO.bind ?_ (fun _ => ?_)
set_option maxHeartbeats 8000000 in
set_option maxRecDepth 100000 in
theorem damperref03_Uint.calls (k : Nat) (a0 : Int) (a1 : Int) (r : List Int) (w : World) (h : damperref03_Uint.f k a0 a1 = some r) :
    Calls Try.prog 101 #[.int .u64 a0, .int .i64 a1] w fun e w' => ∃ v0_ : Value, e = .returned (v0_) ∧ Kd.R (Kd.int .u8) 5 w' w.heap.size (fun _ => True) v0_ r ∧ Below w.heap.size w w' := by
  have HB := Aside0.mk (Below.refl w.heap.size w)
  have H : (if a1 < 1 then (damperref03_Uint.j0 k a0 a1 true) else (damperref03_Uint.j0 k a0 a1 (decide (a1 > 8)))) = some r := h
  clear h
  have HC3 := Aside0.mk H
  clear H
  go_enter Try.func101, Try.ntmps101
  go_upto_region 1 with (fail)
  go_cut [12] (fun v12 wc => ∃ (kq : Nat) (x12_2 : Bool), v12 = .bool x12_2 ∧ Aside0 (damperref03_Uint.j0 kq a0 a1 x12_2 = some r) ∧ Aside0 (kq ≤ k) ∧ Aside0 (Below w.heap.size w wc))
  case first =>
    have H := HC3.out
    clear HC3
    by_cases c4 : a1 < 1
    · rw [if_pos c4] at H
      have c4b0 : decide (a1 < 1) = true := decide_eq_true c4
      clear c4
      (first | rw [c4b0] | (simp only [i64_w, i32_w]; rw [c4b0]) | skip)
      have H' := Aside0.mk H
      clear H
      go_wp2
      go_meet
      case rel => exact ⟨_, (true), (by first | rfl | (simp; done) | (simp [*]; done)), H', ⟨by first | omega | exact Nat.le_refl _⟩, ⟨by repeat (first | (with_reducible first | exact HB.out | apply below_alloc | apply pw_below_drewN | apply below_drew1) | exact HB.out)⟩⟩
    · rw [if_neg c4] at H
      have c4b0 : decide (a1 < 1) = false := decide_eq_false c4
      clear c4
      (first | rw [c4b0] | (simp only [i64_w, i32_w]; rw [c4b0]) | skip)
      have H' := Aside0.mk H
      clear H
      go_wp2
      go_meet
      case rel => exact ⟨_, (decide (a1 > 8)), (by first | rfl | (simp; done) | (simp [*]; done)), H', ⟨by first | omega | exact Nat.le_refl _⟩, ⟨by repeat (first | (with_reducible first | exact HB.out | apply below_alloc | apply pw_below_drewN | apply below_drew1) | exact HB.out)⟩⟩
  case rest =>
    clear HC3
    try clear c1
    try clear p2
    try clear c4
    try clear c4b0
    obtain ⟨kq, x12_2, rfl, HA, HJ2, HB⟩ := hcut
    cases kq with
    | zero => exact absurd HA.out (by simp [damperref03_Uint.j0])
    | succ kj2 =>
      have H := HA.out
      clear HA
      simp only [damperref03_Uint.j0] at H
      by_cases c5 : x12_2 = true
      · subst c5
        have H1 : (some ([] : List Int)) = some r := by rw [if_pos rfl] at H; exact H
        clear H
        have H := H1
        clear H1
        obtain rfl := Option.some.inj H
        go_wp2
        go_ret
        exact ⟨_, by first | rfl | (simp [errW_none, errW_some] <;> rfl) | (simp [*, errW_none, errW_some] <;> rfl), by first | exact Kd.R_nil _ _ _ _ _ | exact Kd.N_nil _ _ _ _ _ | exact Kd.V_nil _ _ _ _ _ | exact Kd.Q_nil _ _ _ _ _ | exact Kd.S_nil _ _ _ _ _, by repeat (first | (with_reducible first | exact HB.out | apply below_alloc | apply pw_below_drewN | apply below_drew1) | exact HB.out)⟩
      · replace c5 := Bool.eq_false_iff.mpr c5
        subst c5
        have H1 : (damperref03_Uint.l0 kj2 a0 a1 ([] : List Int) 0) = some r := by rw [if_neg (show ¬ (false = true) by decide)] at H; exact H
        clear H
        have H := H1
        clear H1
        have H' := Aside0.mk H
        clear H
        go_wp2
        go_loopg [0, 5, 6] kj2 (fun kq v0 v5 v6 w' => ∃ (x0_2 : Int) (x5_2 : List Int) (x6_2 : Int), v0 = .int .u64 x0_2 ∧ v6 = .int .i64 x6_2 ∧ Aside0 (damperref03_Uint.l0 kq x0_2 a1 x5_2 x6_2 = some r) ∧ Aside0 (kq ≤ kj2) ∧ Aside0 (Kd.R (Kd.int .u8) 5 w' w.heap.size (fun _ => True) v5 x5_2) ∧ Aside0 (Below w.heap.size w w'))
        case atStart => exact ⟨(a0), (([] : List Int)), (0), (by first | rfl | (simp; done) | (simp [*]; done)), (by first | rfl | (simp; done) | (simp [*]; done)), H', ⟨Nat.le_refl _⟩, ⟨by first | exact Kd.R_nil _ _ _ _ _ | exact Kd.N_nil _ _ _ _ _ | exact Kd.V_nil _ _ _ _ _ | exact Kd.Q_nil _ _ _ _ _ | exact Kd.S_nil _ _ _ _ _⟩, ⟨by repeat (first | (with_reducible first | exact HB.out | apply below_alloc | apply pw_below_drewN | apply below_drew1) | exact HB.out)⟩⟩
        case round =>
          clear H'
          try clear c1
          try clear p2
          try clear c4
          try clear c4b0
          try clear c5
          try clear p2
          obtain ⟨x0_2, x5_2, x6_2, rfl, rfl, HA, HK2, HO_5, HB⟩ := hrel
          cases gk with
          | zero => exact absurd HA.out (by simp [damperref03_Uint.l0])
          | succ k2 =>
            have H := HA.out
            clear HA
            simp only [damperref03_Uint.l0] at H
            by_cases c6 : x6_2 < a1
            · rw [if_pos c6] at H
              have c6b0 : decide (x6_2 < a1) = true := decide_eq_true c6
              clear c6
              obtain ⟨y147, hy147⟩ : ∃ y_ : List Int, y_ = (([(Int.tmod x0_2 256) % 256] : List Int)) := ⟨_, rfl⟩
              replace H : (if y147.length + x5_2.length < 140737488355328 then (damperref03_Uint.l0 k2 (IntKind.u64.wrap (Int.tdiv x0_2 256)) a1 (y147 ++ x5_2) (wrap64 (x6_2 + 1))) else (none)) = some r := by first | (rw [hy147]; with_reducible exact H) | (have H2_ := (Option.bind_some _ _).symm.trans H; rw [hy147]; with_reducible exact H2_) | (have H2_ := (Option.bind_some _ _).symm.trans H; with_reducible exact H2_) | with_reducible exact H | (rw [hy147]; exact H) | exact H
              have Ny147 := Aside0.mk hy147
              clear hy147
              by_cases c7 : y147.length + x5_2.length < 140737488355328
              · rw [if_pos c7] at H
                have LMc7 := Aside0.mk c7
                clear c7
                obtain ⟨y150, hy150⟩ : ∃ y_ : List Int, y_ = (y147 ++ x5_2) := ⟨_, rfl⟩
                replace H : (damperref03_Uint.l0 k2 (IntKind.u64.wrap (Int.tdiv x0_2 256)) a1 y150 (wrap64 (x6_2 + 1))) = some r := by first | (rw [hy150]; with_reducible exact H) | (have H2_ := (Option.bind_some _ _).symm.trans H; rw [hy150]; with_reducible exact H2_) | (have H2_ := (Option.bind_some _ _).symm.trans H; with_reducible exact H2_) | with_reducible exact H | (rw [hy150]; exact H) | exact H
                have Ny150 := Aside0.mk hy150
                clear hy150
                have H' := Aside0.mk H
                clear H
                go_wp2_with (first | ((with_reducible refine gate_dst (N := 21) rfl ?_); refine Kd.R_lit (Kd.int .u8) _ 5 ?hg (N := 21) ?hd (xs := ([(Int.tmod x0_2 256) % 256] : List Int)) (inner := [.int .u8 ((Int.tmod x0_2 256) % 256)]) (ok := fun _ => True) (okp := fun _ => True) ?hr ?hp (fun _ hk => hk) trivial (Below.refl _ _) (Nat.le_refl _) (by simp) ?_; (case hd => rfl); (case hg => rfl); (case hr => first | (go_simp; done) | (go_simp; rfl)); (case hp => exact (Reps.one (show Kd.M (Kd.int .u8) _ _ _ ((Int.tmod x0_2 256) % 256) [.int .u8 ((Int.tmod x0_2 256) % 256)] from rfl) (Reps.none _ _))); intro v148 w8 ho9 hb hg_ hnew_; clear hg_ hnew_; (first | rw [← Ny147.out] at ho9 | (simp only [Int.reduceToNat] at ho9; rw [← Ny147.out] at ho9)); have n0_ := Aside0.mk (Kd.R_elder' (by (with_reducible repeat (first | apply Kd.R_alloc | apply Kd.R_drewN | apply Kd.R_drew)); exact HO_5.out) (Kd.R_base ho9) hb); have n1_ := Aside0.mk (Kd.R_lower (Kd.R_new' ho9 (Kd.R_lt (by (with_reducible repeat (first | apply Kd.R_alloc | apply Kd.R_drewN | apply Kd.R_drew)); exact HO_5.out))) (below_size (by repeat (first | (with_reducible first | exact HB.out | apply below_alloc | apply pw_below_drewN | apply below_drew1) | exact HB.out)))); have n2_ := Aside0.mk (below_step (by repeat (first | (with_reducible first | exact HB.out | apply below_alloc | apply pw_below_drewN | apply below_drew1) | exact HB.out)) hb); clear HO_5; clear HB; have HO_5 := n0_; have HO149 := n1_; have HB := n2_; clear n0_ n1_ n2_; clear hb ho9; obtain ⟨Ao11, co11, eo11⟩ := Kd.R_slice HO_5.out; subst eo11) | ((with_reducible refine gate_builtin (b := .append) (xs := #[.tmp 21, .tmp 22]) rfl ?_); at_builtin; refine Kd.R_append_rows (Kd.int .u8) (w0 := w) w.heap.size rfl (.tmp 21) (.tmp 22) 30 5 (.int .u8 0) 1 rfl Try.underlying30 info5 rfl (by decide) (by omega) v148 y147 x5_2 _ _ _ (fun k_ => some k_ ≠ (.slice Ao11 x5_2.length co11 : Value).ownBlock) (fun _ => False) rfl rfl ?aO ?aR (fun _ _ h => h) (fun _ h => h.elim) ?aF ?aB ?aS ?aL ?_; (case aR => repeat (first | exact (Kd.R_reads' HO_5.out).2.2 | (with_reducible refine Kd.C_alloc ?_ _) | (with_reducible refine Kd.C_drewN ?_ _) | (with_reducible refine Kd.C_drew ?_))); (case aB => exact (by repeat (first | (with_reducible first | exact HB.out | apply below_alloc | apply pw_below_drewN | apply below_drew1) | exact HB.out))); (case aF => exact (fun k_ hk => Kd.fresh' (Kd.R_lt (by (with_reducible repeat (first | apply Kd.R_alloc | apply Kd.R_drewN | apply Kd.R_drew)); exact HO_5.out)) k_ hk)); (case aO => exact (by (with_reducible repeat (first | apply Kd.R_alloc | apply Kd.R_drewN | apply Kd.R_drew)); exact Kd.R_mono HO149.out (fun _ hk => hk.2))); (case aS => exact (below_size (by repeat (first | (with_reducible first | exact HB.out | apply below_alloc | apply pw_below_drewN | apply below_drew1) | exact HB.out)))); (case aL => have := LMc7.out; omega); intro v151 w10 ho hb hg hat; rw [← Ny150.out] at ho; have n0_ := Aside0.mk (Kd.R_after (ok := (fun _ => True)) (by (with_reducible repeat (first | apply Kd.R_alloc | apply Kd.R_drewN | apply Kd.R_drew)); exact HO_5.out) hg hat); have n1_ := Aside0.mk (hb); have n2_ := Aside0.mk (ho); clear HO_5; clear HB; clear HO149; have HO_5 := n0_; have HB := n1_; have HO152 := n2_; clear n0_ n1_ n2_; clear ho hb hg hat))
                go_roundg k2
                case measure => have := HJ2.out; have := HK2.out; omega
                case rel => exact ⟨(IntKind.u64.wrap (Int.tdiv x0_2 256)), (y150), (wrap64 (x6_2 + 1)), (by first | rfl | (simp; done) | (simp [*]; done)), (by first | rfl | (simp; done) | (simp [*]; done)), H', ⟨by have := HJ2.out; have := HK2.out; omega⟩, ⟨by (with_reducible repeat (first | apply Kd.R_alloc | apply Kd.R_drewN | apply Kd.R_drew)); exact Kd.R_mono HO152.out (fun _ hk => trivial)⟩, ⟨by repeat (first | (with_reducible first | exact HB.out | apply below_alloc | apply pw_below_drewN | apply below_drew1) | exact HB.out)⟩⟩
              · rw [if_neg c7] at H
                exact absurd H (by simp)
            · rw [if_neg c6] at H
              have c6b0 : decide (x6_2 < a1) = false := decide_eq_false c6
              clear c6
              obtain rfl := Option.some.inj H
              go_wp2
              go_ret
              exact ⟨_, by first | rfl | (simp [errW_none, errW_some] <;> rfl) | (simp [*, errW_none, errW_some] <;> rfl), by (with_reducible repeat (first | apply Kd.R_alloc | apply Kd.R_drewN | apply Kd.R_drew)); exact HO_5.out, by repeat (first | (with_reducible first | exact HB.out | apply below_alloc | apply pw_below_drewN | apply below_drew1) | exact HB.out)⟩

end Go.Proofs.Ytalpemoodollpaa.P
-- Printed by hookprint.py (the session's own program, over the kit's print.py): checked by Lean like any text.
namespace Go.Proofs.Ytalpemoodollpaa.P
open Go.RowKit Go.Proofs.YtalpemoodollpaaW.PrintWords Go.Proofs.YtalpemoodollpaaW.PrintLast Go.Proofs.YtalpemoodollpaaW.PrintMore
attribute [local go_sem] max2_int min2_int max_two min_two max_three min_three max_four min_four   -- for this text's walks alone
set_option linter.unusedVariables false
set_option linter.unusedSimpArgs false

/-! ### damperref03_turned: function 134 -/
def damperref03_turned.f (a0 : Int) : Option (Int) := if a0 ≥ 0 then (some (IntKind.u64.wrap (2 * (IntKind.u64.wrap (a0))))) else (some (IntKind.u64.wrap ((IntKind.u64.wrap (2 * (IntKind.u64.wrap (wrap64 (-(wrap64 (a0 + 1))))))) + 1)))
set_option maxHeartbeats 8000000 in
set_option maxRecDepth 100000 in
theorem damperref03_turned.calls (a0 : Int) (r : Int) (w : World) (h : damperref03_turned.f a0 = some r) :
    Calls Try.prog 134 #[.int .i64 a0] w fun e w' => e = .returned (.int .u64 r) ∧ Drawn0 w w' := by
  have H : (if a0 ≥ 0 then (some (IntKind.u64.wrap (2 * (IntKind.u64.wrap (a0))))) else (some (IntKind.u64.wrap ((IntKind.u64.wrap (2 * (IntKind.u64.wrap (wrap64 (-(wrap64 (a0 + 1))))))) + 1)))) = some r := h
  clear h
  by_cases c2 : a0 ≥ 0
  · rw [if_pos c2] at H
    have c2b0 : decide (0 ≤ a0) = true := decide_eq_true c2
    clear c2
    obtain rfl := Option.some.inj H
    go_enter Try.func134, Try.ntmps134
    go_wp2
    go_ret
    exact ⟨by first | rfl | (simp; done) | (simp [*]; done), by repeat (first | exact Drawn0.refl _ | apply Drawn0.step)⟩
  · rw [if_neg c2] at H
    have c2b0 : decide (0 ≤ a0) = false := decide_eq_false c2
    clear c2
    obtain rfl := Option.some.inj H
    go_enter Try.func134, Try.ntmps134
    go_wp2
    go_ret
    exact ⟨by first | rfl | (simp; done) | (simp [*]; done), by repeat (first | exact Drawn0.refl _ | apply Drawn0.step)⟩

end Go.Proofs.Ytalpemoodollpaa.P
-- Printed by hookprint.py (the session's own program, over the kit's print.py): checked by Lean like any text.
namespace Go.Proofs.Ytalpemoodollpaa.P
open Go.RowKit Go.Proofs.YtalpemoodollpaaW.PrintWords Go.Proofs.YtalpemoodollpaaW.PrintLast Go.Proofs.YtalpemoodollpaaW.PrintMore
attribute [local go_sem] max2_int min2_int max_two min_two max_three min_three max_four min_four   -- for this text's walks alone
set_option linter.unusedVariables false
set_option linter.unusedSimpArgs false

/-! ### damperref03_Int: function 102 -/
def damperref03_Int.f (k : Nat) (a0 : Int) : Option (List Int) := (damperref03_turned.f a0).bind fun t153 => ((damperref03_Uint.f k t153 8).bind fun t154 => (some t154))
theorem damperref03_Int.mono : ∀ a0 k, LeO (damperref03_Int.f k a0) (damperref03_Int.f (k + 1) a0) := by
  intro a0 k
  unfold damperref03_Int.f
  repeat' first
      | (with_reducible exact damperref03_Uint.mono _ _ _)
      | (with_reducible exact LeO.refl _)
      | (with_reducible exact LeO.none _)
      | (with_reducible refine LeO.ite ?_ ?_)
      | (with_reducible refine LeO.bind ?_ (fun _ => ?_))
      | exact damperref03_Uint.mono _ _ _
      | exact LeO.none _
      | refine LeO.ite ?_ ?_
      | refine LeO.bind ?_ (fun _ => ?_)
set_option maxHeartbeats 8000000 in
set_option maxRecDepth 100000 in
theorem damperref03_Int.calls (k : Nat) (a0 : Int) (r : List Int) (w : World) (h : damperref03_Int.f k a0 = some r) :
    Calls Try.prog 102 #[.int .i64 a0] w fun e w' => ∃ v0_ : Value, e = .returned (v0_) ∧ Kd.R (Kd.int .u8) 5 w' w.heap.size (fun _ => True) v0_ r ∧ Below w.heap.size w w' := by
  have HB := Aside0.mk (Below.refl w.heap.size w)
  have H : ((damperref03_turned.f a0).bind fun t153 => ((damperref03_Uint.f k t153 8).bind fun t154 => (some t154))) = some r := h
  clear h
  replace H := Option.bind_eq_some_iff.mp H
  obtain ⟨t153, A20, H⟩ := H
  replace H : ((damperref03_Uint.f k t153 8).bind fun t154 => (some t154)) = some r := H
  have A2 := Aside0.mk A20
  clear A20
  replace H := Option.bind_eq_some_iff.mp H
  obtain ⟨t154, A30, H⟩ := H
  replace H : (some t154) = some r := H
  have A3 := Aside0.mk A30
  clear A30
  obtain rfl := Option.some.inj H
  go_enter Try.func102, Try.ntmps102
  go_wp2_with (first | ((with_reducible refine gate_callee (f := 134) rfl ?_); refine goesL_ (some 4) rfl rfl Try.func134 (by kernel_rfl) rfl #[.int .i64 a0] rfl (by (try simp only [List.map_toArray, List.map_cons, List.map_nil]); first | done | rfl | (simp only [List.length_drop, List.length_take]; rfl)) ?_; (with_reducible refine (damperref03_turned.calls a0 t153 _ A2.out).mono ?_); rintro e w' ⟨rfl, ⟨nd, rfl⟩⟩; refine ⟨_, rfl, ?_⟩) | ((with_reducible refine gate_callee (f := 101) rfl ?_); refine goesL_ (some 5) rfl rfl Try.func101 (by kernel_rfl) rfl #[.int .u64 t153, .int .i64 8] rfl (by (try simp only [List.map_toArray, List.map_cons, List.map_nil]); first | done | rfl | (simp only [List.length_drop, List.length_take]; rfl)) ?_; (with_reducible refine (damperref03_Uint.calls k t153 8 t154 _ A3.out).mono ?_); rintro e w4 ⟨v155, rfl, ho0, hb⟩; refine ⟨_, rfl, ?_⟩; have n0_ := Aside0.mk (Kd.R_lower ho0 (below_size (by repeat (first | (with_reducible first | exact HB.out | apply below_alloc | apply pw_below_drewN | apply below_drew1) | exact HB.out)))); have n1_ := Aside0.mk (below_step (by repeat (first | (with_reducible first | exact HB.out | apply below_alloc | apply pw_below_drewN | apply below_drew1) | exact HB.out)) hb); clear HB; have HO156 := n0_; have HB := n1_; clear n0_ n1_; (try clear hb); (try clear hb2); (try clear hk); (try clear hi); (try clear ho0)))
  go_ret
  exact ⟨_, by first | rfl | (simp [errW_none, errW_some] <;> rfl) | (simp [*, errW_none, errW_some] <;> rfl), by (with_reducible repeat (first | apply Kd.R_alloc | apply Kd.R_drewN | apply Kd.R_drew)); exact HO156.out, by repeat (first | (with_reducible first | exact HB.out | apply below_alloc | apply pw_below_drewN | apply below_drew1) | exact HB.out)⟩

end Go.Proofs.Ytalpemoodollpaa.P
-- Printed by hookprint.py (the session's own program, over the kit's print.py): checked by Lean like any text.
namespace Go.Proofs.Ytalpemoodollpaa.P
open Go.RowKit Go.Proofs.YtalpemoodollpaaW.PrintWords Go.Proofs.YtalpemoodollpaaW.PrintLast Go.Proofs.YtalpemoodollpaaW.PrintMore
attribute [local go_sem] max2_int min2_int max_two min_two max_three min_three max_four min_four   -- for this text's walks alone
set_option linter.unusedVariables false
set_option linter.unusedSimpArgs false

/-! ### damperref03_Num: function 103 -/
def damperref03_Num.l0 : Nat → Int → List Int → Option (List Int)
  | 0, _, _ => none
  | k + 1, x0, x3 => if x0 > 127 then (if x3.length < 140737488355328 then (damperref03_Num.l0 k (IntKind.u64.wrap (Int.tdiv x0 128)) (x3 ++ [(IntKind.u64.wrap ((Int.tmod x0 128) + 128)) % 256])) else (none)) else (if x3.length < 140737488355328 then (some (x3 ++ [(x0) % 256])) else (none))
def damperref03_Num.f (k : Nat) (a0 : Int) : Option (List Int) := damperref03_Num.l0 k a0 ([] : List Int)
theorem damperref03_Num.mono_l : ∀ k, (∀ y0 y1, LeO (damperref03_Num.l0 k y0 y1) (damperref03_Num.l0 (k + 1) y0 y1))
  | 0 => fun _ _ r h => by simp [damperref03_Num.l0] at h
  | k + 1 => by
    have ih0 := damperref03_Num.mono_l k
    · intro y0 y1
      unfold damperref03_Num.l0
      repeat' first
      | (with_reducible exact ih0 _ _)
      | (with_reducible exact LeO.refl _)
      | (with_reducible exact LeO.none _)
      | (with_reducible refine LeO.ite ?_ ?_)
      | (with_reducible refine LeO.bind ?_ (fun _ => ?_))
      | exact ih0 _ _
      | exact LeO.none _
      | refine LeO.ite ?_ ?_
      | refine LeO.bind ?_ (fun _ => ?_)
theorem damperref03_Num.mono : ∀ a0 k, LeO (damperref03_Num.f k a0) (damperref03_Num.f (k + 1) a0) := by
  intro a0 k
  have ih0 := damperref03_Num.mono_l k
  unfold damperref03_Num.f
  repeat' first
      | (with_reducible exact ih0 _ _)
      | (with_reducible exact LeO.refl _)
      | (with_reducible exact LeO.none _)
      | (with_reducible refine LeO.ite ?_ ?_)
      | (with_reducible refine LeO.bind ?_ (fun _ => ?_))
      | exact ih0 _ _
      | exact LeO.none _
      | refine LeO.ite ?_ ?_
      | refine LeO.bind ?_ (fun _ => ?_)
set_option maxHeartbeats 8000000 in
set_option maxRecDepth 100000 in
theorem damperref03_Num.calls (k : Nat) (a0 : Int) (r : List Int) (w : World) (h : damperref03_Num.f k a0 = some r) :
    Calls Try.prog 103 #[.int .u64 a0] w fun e w' => ∃ v0_ : Value, e = .returned (v0_) ∧ Kd.R (Kd.int .u8) 5 w' w.heap.size (fun _ => True) v0_ r ∧ Below w.heap.size w w' := by
  have HB := Aside0.mk (Below.refl w.heap.size w)
  have H : (damperref03_Num.l0 k a0 ([] : List Int)) = some r := h
  clear h
  have H' := Aside0.mk H
  clear H
  go_enter Try.func103, Try.ntmps103
  go_wp2
  go_loopg [0, 3] k (fun kq v0 v3 w' => ∃ (x0_1 : Int) (x3_1 : List Int), v0 = .int .u64 x0_1 ∧ Aside0 (damperref03_Num.l0 kq x0_1 x3_1 = some r) ∧ Aside0 (kq ≤ k) ∧ Aside0 (Kd.R (Kd.int .u8) 5 w' w.heap.size (fun _ => True) v3 x3_1) ∧ Aside0 (Below w.heap.size w w'))
  case atStart => exact ⟨(a0), (([] : List Int)), (by first | rfl | (simp; done) | (simp [*]; done)), H', ⟨Nat.le_refl _⟩, ⟨by first | exact Kd.R_nil _ _ _ _ _ | exact Kd.N_nil _ _ _ _ _ | exact Kd.V_nil _ _ _ _ _ | exact Kd.Q_nil _ _ _ _ _ | exact Kd.S_nil _ _ _ _ _⟩, ⟨by repeat (first | (with_reducible first | exact HB.out | apply below_alloc | apply pw_below_drewN | apply below_drew1) | exact HB.out)⟩⟩
  case round =>
    clear H'
    try clear c1
    obtain ⟨x0_1, x3_1, rfl, HA, HK1, HO_3, HB⟩ := hrel
    cases gk with
    | zero => exact absurd HA.out (by simp [damperref03_Num.l0])
    | succ k1 =>
      have H := HA.out
      clear HA
      simp only [damperref03_Num.l0] at H
      by_cases c2 : x0_1 > 127
      · rw [if_pos c2] at H
        have c2b0 : decide (127 < x0_1) = true := decide_eq_true c2
        clear c2
        by_cases c3 : x3_1.length < 140737488355328
        · rw [if_pos c3] at H
          have LMc3 := Aside0.mk c3
          clear c3
          obtain ⟨y157, hy157⟩ : ∃ y_ : List Int, y_ = (x3_1 ++ [(IntKind.u64.wrap ((Int.tmod x0_1 128) + 128)) % 256]) := ⟨_, rfl⟩
          replace H : (damperref03_Num.l0 k1 (IntKind.u64.wrap (Int.tdiv x0_1 128)) y157) = some r := by first | (rw [hy157]; with_reducible exact H) | (have H2_ := (Option.bind_some _ _).symm.trans H; rw [hy157]; with_reducible exact H2_) | (have H2_ := (Option.bind_some _ _).symm.trans H; with_reducible exact H2_) | with_reducible exact H | (rw [hy157]; exact H) | exact H
          have Ny157 := Aside0.mk hy157
          clear hy157
          have H' := Aside0.mk H
          clear H
          go_wp2_with (first | ((with_reducible refine gate_builtin (b := .append) (xs := #[.tmp 6, .tmp 11]) rfl ?_); at_builtin; refine Kd.R_append (Kd.int .u8) (w0 := w) w.heap.size rfl (.tmp 6) (.tmp 11) 30 5 (.int .u8 0) 1 rfl Try.underlying30 info5 rfl (by decide) (by omega) u3 x3_1 ((IntKind.u64.wrap ((Int.tmod x0_1 128) + 128)) % 256) [.int .u8 ((IntKind.u64.wrap ((Int.tmod x0_1 128) + 128)) % 256)] (fun _ => True) (fun _ => False) rfl rfl ?aP (fun _ hk => hk.elim) ?aF ?aO ?aB ?aS ?aL ?_; (case aP => exact rfl); (case aB => exact (by repeat (first | (with_reducible first | exact HB.out | apply below_alloc | apply pw_below_drewN | apply below_drew1) | exact HB.out))); (case aF => exact (fun _ _ => trivial)); (case aO => exact (by (with_reducible repeat (first | apply Kd.R_alloc | apply Kd.R_drewN | apply Kd.R_drew)); exact HO_3.out)); (case aS => exact (below_size (by repeat (first | (with_reducible first | exact HB.out | apply below_alloc | apply pw_below_drewN | apply below_drew1) | exact HB.out)))); (case aL => have := LMc3.out; omega); intro v158 w4 ho hb hg hat; rw [← Ny157.out] at ho; have n0_ := Aside0.mk (hb); have n1_ := Aside0.mk (ho); clear HB; clear HO_3; have HB := n0_; have HO159 := n1_; clear n0_ n1_; clear ho hb hg hat))
          go_roundg k1
          case measure => have := HK1.out; omega
          case rel => exact ⟨(IntKind.u64.wrap (Int.tdiv x0_1 128)), (y157), (by first | rfl | (simp; done) | (simp [*]; done)), H', ⟨by have := HK1.out; omega⟩, ⟨by (with_reducible repeat (first | apply Kd.R_alloc | apply Kd.R_drewN | apply Kd.R_drew)); exact HO159.out⟩, ⟨by repeat (first | (with_reducible first | exact HB.out | apply below_alloc | apply pw_below_drewN | apply below_drew1) | exact HB.out)⟩⟩
        · rw [if_neg c3] at H
          exact absurd H (by simp)
      · rw [if_neg c2] at H
        have c2b0 : decide (127 < x0_1) = false := decide_eq_false c2
        clear c2
        by_cases c5 : x3_1.length < 140737488355328
        · rw [if_pos c5] at H
          have LMc5 := Aside0.mk c5
          clear c5
          obtain ⟨y160, hy160⟩ : ∃ y_ : List Int, y_ = (x3_1 ++ [(x0_1) % 256]) := ⟨_, rfl⟩
          replace H : (some y160) = some r := by first | (rw [hy160]; with_reducible exact H) | (have H2_ := (Option.bind_some _ _).symm.trans H; rw [hy160]; with_reducible exact H2_) | (have H2_ := (Option.bind_some _ _).symm.trans H; with_reducible exact H2_) | with_reducible exact H | (rw [hy160]; exact H) | exact H
          have Ny160 := Aside0.mk hy160
          clear hy160
          obtain rfl := Option.some.inj H
          go_wp2_with (first | ((with_reducible refine gate_builtin (b := .append) (xs := #[.tmp 15, .tmp 18]) rfl ?_); at_builtin; refine Kd.R_append (Kd.int .u8) (w0 := w) w.heap.size rfl (.tmp 15) (.tmp 18) 30 5 (.int .u8 0) 1 rfl Try.underlying30 info5 rfl (by decide) (by omega) u3 x3_1 ((x0_1) % 256) [.int .u8 ((x0_1) % 256)] (fun _ => True) (fun _ => False) rfl rfl ?aP (fun _ hk => hk.elim) ?aF ?aO ?aB ?aS ?aL ?_; (case aP => exact rfl); (case aB => exact (by repeat (first | (with_reducible first | exact HB.out | apply below_alloc | apply pw_below_drewN | apply below_drew1) | exact HB.out))); (case aF => exact (fun _ _ => trivial)); (case aO => exact (by (with_reducible repeat (first | apply Kd.R_alloc | apply Kd.R_drewN | apply Kd.R_drew)); exact HO_3.out)); (case aS => exact (below_size (by repeat (first | (with_reducible first | exact HB.out | apply below_alloc | apply pw_below_drewN | apply below_drew1) | exact HB.out)))); (case aL => have := LMc5.out; omega); intro v161 w6 ho hb hg hat; rw [← Ny160.out] at ho; have n0_ := Aside0.mk (hb); have n1_ := Aside0.mk (ho); clear HB; clear HO_3; have HB := n0_; have HO162 := n1_; clear n0_ n1_; clear ho hb hg hat))
          go_ret
          exact ⟨_, by first | rfl | (simp [errW_none, errW_some] <;> rfl) | (simp [*, errW_none, errW_some] <;> rfl), by (with_reducible repeat (first | apply Kd.R_alloc | apply Kd.R_drewN | apply Kd.R_drew)); exact HO162.out, by repeat (first | (with_reducible first | exact HB.out | apply below_alloc | apply pw_below_drewN | apply below_drew1) | exact HB.out)⟩
        · rw [if_neg c5] at H
          exact absurd H (by simp)

end Go.Proofs.Ytalpemoodollpaa.P
/- The document's forms of numbers are the program's. -/
namespace Go.Proofs.Ytalpemoodollpaa.P
open Go.RowKit Go.Proofs.YtalpemoodollpaaW.PrintWords Go.Proofs.YtalpemoodollpaaW.PrintLast Go.Proofs.YtalpemoodollpaaW.PrintMore
set_option linter.unusedVariables false
set_option linter.unusedSimpArgs false

theorem up_ {α : Type} {f : Nat → Option α} (hm : ∀ k, LeO (f k) (f (k + 1))) {k : Nat} {r : α} (h : f k = some r) : ∀ m, k ≤ m → f m = some r := by
  intro m hm'
  induction m with
  | zero => obtain rfl : k = 0 := by omega
            exact h
  | succ m ih =>
    rcases Nat.lt_or_ge m k with h1 | h1
    · obtain rfl : k = m + 1 := by omega
      exact h
    · exact hm m r (ih h1)

theorem tmod128 (n : Int) (h : 0 ≤ n) : Int.tmod n 128 = n % 128 := Int.tmod_eq_emod_of_nonneg h
theorem tdiv128 (n : Int) (h : 0 ≤ n) : Int.tdiv n 128 = n / 128 := Int.tdiv_eq_ediv_of_nonneg h

theorem refNum_go (k : Nat) : ∀ (n : Int) (acc : List Int), 0 ≤ n → n < ((128 ^ (k + 1) : Nat) : Int) → n < 18446744073709551616 → acc.length + k < 140737488355328 →
    damperref03_Num.l0 (k + 1) n acc = some (acc ++ numForm n.toNat) := by
  induction k with
  | zero =>
    intro n acc h0 h1 h2 h3
    have h1' : n < 128 := by simpa using h1
    unfold damperref03_Num.l0
    rw [if_neg (by omega), if_pos (by omega), numForm_small h0 h1']
    congr 3
    omega
  | succ k ih =>
    intro n acc h0 h1 h2 h3
    unfold damperref03_Num.l0
    by_cases hn : n > 127
    · rw [if_pos hn, if_pos (by omega), tmod128 n h0, tdiv128 n h0, wrap_u64, wrap_u64]
      have e1 : n / 128 % 18446744073709551616 = n / 128 := by omega
      have e2 : (n % 128 + 128) % 18446744073709551616 % 256 = n % 128 + 128 := by omega
      rw [e1, e2, ih (n / 128) _ (by omega) ?_ (by omega) (by simp; omega), numForm_big (n := n) (by omega)]
      · simp
      · have : ((128 ^ (k + 1 + 1) : Nat) : Int) = ((128 ^ (k + 1) : Nat) : Int) * 128 := by rw [Nat.pow_succ]; simp
        rw [this] at h1
        omega
    · rw [if_neg hn, if_pos (by omega), numForm_small h0 (by omega)]
      congr 3
      omega
theorem refNum (n : Int) (h0 : 0 ≤ n) (h1 : n < 18446744073709551616) (m : Nat) (hm : 12 ≤ m) : damperref03_Num.f m n = some (numForm n.toNat) := by
  refine up_ (f := fun k => damperref03_Num.f k n) (k := 12) (fun k => damperref03_Num.mono n k) ?_ m hm
  have := refNum_go 11 n [] h0 (by simp; omega) h1 (by simp)
  unfold damperref03_Num.f
  simpa using this
theorem refUint_go (s : Nat) (hs : s ≤ 8) (n0 : Nat) (hn0 : n0 < 18446744073709551616) : ∀ (j : Nat) (i : Nat), i + j = s →
    damperref03_Uint.l0 (j + 1) ((n0 / 256 ^ i : Nat) : Int) (s : Int) (uintForm n0 i) (i : Int) = some (uintForm n0 s) := by
  intro j
  induction j with
  | zero =>
    intro i hi
    obtain rfl : i = s := by omega
    unfold damperref03_Uint.l0
    rw [if_neg (by omega)]
  | succ j ih =>
    intro i hi
    unfold damperref03_Uint.l0
    have hw : wrap64 ((i : Int) + 1) = ((i + 1 : Nat) : Int) := by rw [wrap64_eq]; omega
    have hle : n0 / 256 ^ i ≤ n0 := Nat.div_le_self _ _
    have hq : n0 / 256 ^ (i + 1) = n0 / 256 ^ i / 256 := by rw [Nat.pow_succ, Nat.div_div_eq_div_mul]
    have hu : uintForm n0 (i + 1) = ((n0 / 256 ^ i % 256 : Nat) : Int) :: uintForm n0 i := rfl
    have ih1 := ih (i + 1) (by omega)
    rw [hu, hq] at ih1
    clear ih hq hu
    revert ih1
    generalize n0 / 256 ^ i = q at hle
    intro ih1
    have ht : Int.tdiv (q : Int) 256 = ((q / 256 : Nat) : Int) := by
      rw [Int.tdiv_eq_ediv_of_nonneg (by omega)]
      omega
    have hm : Int.tmod (q : Int) 256 % 256 = ((q % 256 : Nat) : Int) := by
      rw [Int.tmod_eq_emod_of_nonneg (by omega)]
      omega
    have hwr : IntKind.u64.wrap ((q / 256 : Nat) : Int) = ((q / 256 : Nat) : Int) := by
      rw [wrap_u64]
      omega
    rw [if_pos (by omega), ht, hm, hwr, hw]
    simp only [Option.bind_some, List.length_cons, List.length_nil, uintForm_length]
    rw [if_pos (by omega)]
    exact ih1
theorem refUint (n s : Int) (h0 : 0 ≤ n) (h1 : n < 18446744073709551616) (hs : 1 ≤ s) (hs2 : s ≤ 8) (m : Nat) (hm : 12 ≤ m) : damperref03_Uint.f m n s = some (uintForm n.toNat s.toNat) := by
  refine up_ (f := fun k => damperref03_Uint.f k n s) (k := s.toNat + 2) (fun k => damperref03_Uint.mono n s k) ?_ m (by omega)
  show damperref03_Uint.f (s.toNat + 2) n s = _
  unfold damperref03_Uint.f
  rw [if_neg (by omega)]
  rw [show s.toNat + 2 = (s.toNat + 1) + 1 from rfl, damperref03_Uint.j0, if_neg (by simp; omega)]
  have := refUint_go s.toNat (by omega) n.toNat (by omega) s.toNat 0 (by omega)
  simpa [uintForm, Int.toNat_of_nonneg h0, Int.toNat_of_nonneg (show 0 ≤ s by omega)] using this
theorem refUint_none (n s : Int) (hs : s < 1 ∨ 8 < s) (m : Nat) (hm : 12 ≤ m) : damperref03_Uint.f m n s = some [] := by
  refine up_ (f := fun k => damperref03_Uint.f k n s) (k := 1) (fun k => damperref03_Uint.mono n s k) ?_ m (by omega)
  show damperref03_Uint.f 1 n s = _
  unfold damperref03_Uint.f
  split
  · simp [damperref03_Uint.j0]
  · simp [damperref03_Uint.j0, show s > 8 by omega]
theorem refTurned (n : Int) (h0 : -9223372036854775808 ≤ n) (h1 : n ≤ 9223372036854775807) : damperref03_turned.f n = some (zig n) := by
  unfold damperref03_turned.f zig
  split
  · rw [wrap_u64, wrap_u64]
    congr 1
    omega
  · rw [wrap_u64, wrap_u64, wrap_u64, wrap64_eq, wrap64_eq]
    congr 1
    omega
theorem refInt (n : Int) (h0 : -9223372036854775808 ≤ n) (h1 : n ≤ 9223372036854775807) (m : Nat) (hm : 12 ≤ m) : damperref03_Int.f m n = some (intForm n) := by
  unfold damperref03_Int.f
  rw [refTurned n h0 h1]
  have := zig_range n h0 h1
  simp only [Option.bind_some]
  rw [refUint (zig n) 8 this.1 this.2 (by omega) (by omega) m hm]
  rfl
theorem same_of_eq (l : List Int) : damperref03_Same.f l l = some true := by simp [damperref03_Same.f]
end Go.Proofs.Ytalpemoodollpaa.P
/- Facts that all rows of this seat need: what the head of the translation says (its words are read one by one, not by running a string). -/
namespace Go.Proofs.Ytalpemoodollpaa.row
set_option linter.unusedVariables false
set_option linter.unusedSimpArgs false
theorem and_ {a b : Bool} (h : a = true) (k : b = true) : (a && b) = true := by rw [h, k]; rfl
set_option maxRecDepth 1000000 in
theorem words0 : ∃ cs : List Char, Try.prog.initOrder.toList = cs ∧ ((behindMainWord (wordsSigns cs)).head? == some "cut".toList) = true := by
  refine ⟨_, String.toList_ofList, ?_⟩
  kernel_rfl
theorem words : ∃ rest, behindMainWord (wordsSigns Try.prog.initOrder.toList) = "cut".toList :: rest := by
  obtain ⟨cs, h, k⟩ := words0
  rw [h]
  have k := beq_iff_eq.1 k
  cases hw : behindMainWord (wordsSigns cs) with
  | nil => rw [hw] at k; cases k
  | cons a l => rw [hw] at k; injection k with k; exact ⟨l, by rw [k]⟩
theorem strip_cut (rest : List (List Char)) : stripLifts liftWords ("cut".toList :: rest) = ([], "cut".toList :: rest) := by
  simp [liftWords, stripLifts]
theorem lifts_of {P : Program} {rest : List (List Char)} (h : behindMainWord (wordsSigns P.initOrder.toList) = "cut".toList :: rest) : P.headLifts = [] := by
  unfold Program.headLifts
  rw [h, strip_cut]
  simp
theorem final_of {P : Program} {rest : List (List Char)} (h : behindMainWord (wordsSigns P.initOrder.toList) = "cut".toList :: rest) : P.liftsFinal = false := by
  unfold Program.liftsFinal
  rw [lifts_of h, h]
  simp
theorem make_of {P : Program} {rest : List (List Char)} (h : behindMainWord (wordsSigns P.initOrder.toList) = "cut".toList :: rest) : P.make = some .cut := by
  unfold Program.make
  rw [h]
  simp
theorem may_of {P : Program} {rest : List (List Char)} (h : behindMainWord (wordsSigns P.initOrder.toList) = "cut".toList :: rest) (h1 : P.laysLater = false) (h2 : P.bearsReflect = false) (h3 : P.doorFits [] = true) : P.mayEnter = true := by
  unfold Program.mayEnter
  rw [h]
  simp only [strip_cut, h1, h2, h3]
  simp
theorem may : Try.prog.mayEnter = true := by
  obtain ⟨rest, h⟩ := words
  exact may_of h (by as_aux_lemma => kernel_rfl) (by as_aux_lemma => kernel_rfl) (by as_aux_lemma => kernel_rfl)
theorem final : Try.prog.liftsFinal = false := by
  obtain ⟨rest, h⟩ := words
  exact final_of h
theorem make : Try.prog.make = some .cut := by
  obtain ⟨rest, h⟩ := words
  exact make_of h
set_option maxRecDepth 1000000 in
theorem laidOut : laidOutB Try.prog = true := by kernel_rfl
set_option maxRecDepth 1000000 in
theorem rowed : mapsRowed Try.prog = true := by kernel_rfl
set_option maxRecDepth 1000000 in
theorem heard : Try.prog.stopsHeard = true := by kernel_rfl
theorem own : ownKnob Try.prog.godebug = none := by kernel_rfl
theorem wf_u64 {a : Int} (h : (Lit.int .u64 a).wf = true) : 0 ≤ a ∧ a < 18446744073709551616 := by
  have := bounds_u64 h
  omega
theorem wf_i64 {a : Int} (h : (Lit.int .i64 a).wf = true) : -9223372036854775808 ≤ a ∧ a ≤ 9223372036854775807 := by
  have := bounds_i64 h
  omega
end Go.Proofs.Ytalpemoodollpaa.row
/- What an input reads as: from a row's data down to the print's readings. -/
namespace Go.Proofs.Ytalpemoodollpaa.P
open Go.RowKit Go.ChangeShapes Go.WideShapes Go.Deep Go.Proofs.YtalpemoodollpaaW.PrintWords Go.Proofs.YtalpemoodollpaaW.PrintLast Go.Proofs.YtalpemoodollpaaW.PrintMore
set_option linter.unusedVariables false
set_option linter.unusedSimpArgs false

/-- What reads as data of type t reads as the kind K, and has R. -/
def Opens {α : Type} (t : TypeId) (K : Kd α) (R : α → Prop) : Prop :=
  ∀ {H : Type} {enc : TypeId × Value → H} {w : World} {fuel : Nat} {cs : List Value} {x : DataW H × List MemPlace}, DataW.trod enc Try.prog w 0 (fun _ => true) true fuel t cs = some x → ∃ a, K.K w a cs ∧ R a

theorem opens_int {t : TypeId} {k : IntKind} (ht : Try.prog.underlying t = some (.int k)) : Opens t (Kd.int k) (fun n => (Lit.int k n).wf = true) := by
  intro H enc w fuel cs x h
  obtain ⟨n, rfl, _, hw⟩ := DataW.trod_int ht h
  exact ⟨n, rfl, hw⟩

theorem addr_add_add (a : Addr) (i j : Nat) : (a.add i).add j = a.add (i + j) := by
  unfold Addr.add
  by_cases hi : i = 0
  · subst hi; simp
  · by_cases hj : j = 0
    · subst hj; simp [hi]
    · simp [hi, hj, Nat.add_assoc]
theorem opens_slice {α : Type} [Inhabited α] {t e e' : TypeId} {K : Kd α} {R : α → Prop} (ht : Try.prog.underlying t = some (.slice e)) (hc : Try.prog.cellsOf e = K.sz) (he : Opens e K R) :
    Opens t (Kd.slice e' K) (fun xs => ∀ x ∈ xs, R x) := by
  intro H enc w fuel cs x h
  rcases open_slice ht h with ⟨rfl, _⟩ | ⟨a, len, cap, m, n, D, Pl, rfl, hb, hl, hm, hmm, rfl, hx⟩
  · exact ⟨[], ⟨none, 0, rfl, Nat.le_refl _, rfl, by simp, fun h => absurd h (by simp)⟩, by simp⟩
  · have hmm : m = cap := by simpa using hmm
    subst hmm
    have hall : ∀ i, i < len → ∃ v : α, R v ∧ ∃ c : List Value, c.length = K.sz ∧ K.K w v c ∧ ∀ j u, c[j]? = some u → w.cell? (a.add (i * K.sz + j)) = some u := by
      intro i hi
      obtain ⟨cs', h1, h2⟩ := hx i (by omega)
      obtain ⟨v, hv, hr⟩ := he h2
      rw [hc] at h1
      obtain ⟨_, hlen, hcell⟩ := World.cells?_some h1
      refine ⟨v, hr, cs', hlen, hv, fun j u hu => ?_⟩
      have hj : j < K.sz := by
        obtain ⟨hl, _⟩ := List.getElem?_eq_some_iff.1 hu
        omega
      have := hcell j hj
      rw [hu] at this
      rw [← this, addr_add_add]
    have : ∃ f : Nat → α, ∀ i, i < len → R (f i) ∧ ∃ c : List Value, c.length = K.sz ∧ K.K w (f i) c ∧ ∀ j u, c[j]? = some u → w.cell? (a.add (i * K.sz + j)) = some u := by
      exact choose_lt hall
    obtain ⟨f, hf⟩ := this
    refine ⟨(List.range len).map f, ⟨some a, m, by simp, by simpa using hl, rfl, by simp; unfold maxLen at hm; omega, fun _ => ⟨a, rfl, fun j p hj => ?_⟩⟩, ?_⟩
    · obtain ⟨hj1, hj2⟩ := List.getElem?_eq_some_iff.1 hj
      simp at hj1 hj2
      subst hj2
      exact (hf j hj1).2
    · intro y hy
      simp at hy
      obtain ⟨i, hi, rfl⟩ := hy
      exact (hf i hi).1

instance : Inhabited S29 := ⟨z29⟩
instance : Inhabited S49 := ⟨z49⟩
instance : Inhabited S91 := ⟨z91⟩
theorem opens_bytes : Opens 30 (Kd.slice 5 (Kd.int .u8)) (fun xs => ∀ y ∈ xs, (Lit.int .u8 y).wf = true) := opens_slice Try.underlying30 (by kernel_rfl) (opens_int Try.underlying5)
def WF29 (x : S29) : Prop := (Lit.int .i64 x.f0).wf = true ∧ (Lit.int .i64 x.f1).wf = true ∧ (Lit.int .i64 x.f2).wf = true ∧ (Lit.int .i64 x.f3).wf = true ∧ (Lit.int .i64 x.f4).wf = true ∧ (Lit.int .i64 x.f5).wf = true ∧ (Lit.int .i64 x.f6).wf = true ∧ (Lit.int .i64 x.f7).wf = true ∧ (Lit.int .i64 x.f8).wf = true
set_option maxRecDepth 100000 in
theorem opens_29 : Opens 29 k29 WF29 := by
  intro H enc w fuel cs x h
  obtain ⟨xs, n, _, _, hl, hlen, hf⟩ := DataW.trod_struct Try.underlying29 h
  have hc : Try.prog.cellsOf 29 = 9 := by kernel_rfl
  rw [hc] at hl
  have hs : xs.length = 9 := hlen
  clear hlen h
  match cs, hl with
  | [c0, c1, c2, c3, c4, c5, c6, c7, c8], _ =>
    match xs, hs with
    | [x0, x1, x2, x3, x4, x5, x6, x7, x8], _ =>
      have t0 : DataW.trod enc Try.prog w 0 (fun _ => true) true n 3 (([c0, c1, c2, c3, c4, c5, c6, c7, c8].drop 0).take (Try.prog.cellsOf 3)) = [x0, x1, x2, x3, x4, x5, x6, x7, x8][0]? := hf 0 _ rfl
      rw [show Try.prog.cellsOf 3 = 1 by kernel_rfl] at t0
      replace t0 : DataW.trod enc Try.prog w 0 (fun _ => true) true n 3 [c0] = some x0 := t0
      have t1 : DataW.trod enc Try.prog w 0 (fun _ => true) true n 3 (([c0, c1, c2, c3, c4, c5, c6, c7, c8].drop 1).take (Try.prog.cellsOf 3)) = [x0, x1, x2, x3, x4, x5, x6, x7, x8][1]? := hf 1 _ rfl
      rw [show Try.prog.cellsOf 3 = 1 by kernel_rfl] at t1
      replace t1 : DataW.trod enc Try.prog w 0 (fun _ => true) true n 3 [c1] = some x1 := t1
      have t2 : DataW.trod enc Try.prog w 0 (fun _ => true) true n 2 (([c0, c1, c2, c3, c4, c5, c6, c7, c8].drop 2).take (Try.prog.cellsOf 2)) = [x0, x1, x2, x3, x4, x5, x6, x7, x8][2]? := hf 2 _ rfl
      rw [show Try.prog.cellsOf 2 = 1 by kernel_rfl] at t2
      replace t2 : DataW.trod enc Try.prog w 0 (fun _ => true) true n 2 [c2] = some x2 := t2
      have t3 : DataW.trod enc Try.prog w 0 (fun _ => true) true n 2 (([c0, c1, c2, c3, c4, c5, c6, c7, c8].drop 3).take (Try.prog.cellsOf 2)) = [x0, x1, x2, x3, x4, x5, x6, x7, x8][3]? := hf 3 _ rfl
      rw [show Try.prog.cellsOf 2 = 1 by kernel_rfl] at t3
      replace t3 : DataW.trod enc Try.prog w 0 (fun _ => true) true n 2 [c3] = some x3 := t3
      have t4 : DataW.trod enc Try.prog w 0 (fun _ => true) true n 2 (([c0, c1, c2, c3, c4, c5, c6, c7, c8].drop 4).take (Try.prog.cellsOf 2)) = [x0, x1, x2, x3, x4, x5, x6, x7, x8][4]? := hf 4 _ rfl
      rw [show Try.prog.cellsOf 2 = 1 by kernel_rfl] at t4
      replace t4 : DataW.trod enc Try.prog w 0 (fun _ => true) true n 2 [c4] = some x4 := t4
      have t5 : DataW.trod enc Try.prog w 0 (fun _ => true) true n 2 (([c0, c1, c2, c3, c4, c5, c6, c7, c8].drop 5).take (Try.prog.cellsOf 2)) = [x0, x1, x2, x3, x4, x5, x6, x7, x8][5]? := hf 5 _ rfl
      rw [show Try.prog.cellsOf 2 = 1 by kernel_rfl] at t5
      replace t5 : DataW.trod enc Try.prog w 0 (fun _ => true) true n 2 [c5] = some x5 := t5
      have t6 : DataW.trod enc Try.prog w 0 (fun _ => true) true n 2 (([c0, c1, c2, c3, c4, c5, c6, c7, c8].drop 6).take (Try.prog.cellsOf 2)) = [x0, x1, x2, x3, x4, x5, x6, x7, x8][6]? := hf 6 _ rfl
      rw [show Try.prog.cellsOf 2 = 1 by kernel_rfl] at t6
      replace t6 : DataW.trod enc Try.prog w 0 (fun _ => true) true n 2 [c6] = some x6 := t6
      have t7 : DataW.trod enc Try.prog w 0 (fun _ => true) true n 2 (([c0, c1, c2, c3, c4, c5, c6, c7, c8].drop 7).take (Try.prog.cellsOf 2)) = [x0, x1, x2, x3, x4, x5, x6, x7, x8][7]? := hf 7 _ rfl
      rw [show Try.prog.cellsOf 2 = 1 by kernel_rfl] at t7
      replace t7 : DataW.trod enc Try.prog w 0 (fun _ => true) true n 2 [c7] = some x7 := t7
      have t8 : DataW.trod enc Try.prog w 0 (fun _ => true) true n 3 (([c0, c1, c2, c3, c4, c5, c6, c7, c8].drop 8).take (Try.prog.cellsOf 3)) = [x0, x1, x2, x3, x4, x5, x6, x7, x8][8]? := hf 8 _ rfl
      rw [show Try.prog.cellsOf 3 = 1 by kernel_rfl] at t8
      replace t8 : DataW.trod enc Try.prog w 0 (fun _ => true) true n 3 [c8] = some x8 := t8
      clear hf
      obtain ⟨a0, e0, r0⟩ := opens_int (k := .i64) Try.underlying3 t0
      injection e0 with e0 _
      subst e0
      obtain ⟨a1, e1, r1⟩ := opens_int (k := .i64) Try.underlying3 t1
      injection e1 with e1 _
      subst e1
      obtain ⟨a2, e2, r2⟩ := opens_int (k := .i64) Try.underlying2 t2
      injection e2 with e2 _
      subst e2
      obtain ⟨a3, e3, r3⟩ := opens_int (k := .i64) Try.underlying2 t3
      injection e3 with e3 _
      subst e3
      obtain ⟨a4, e4, r4⟩ := opens_int (k := .i64) Try.underlying2 t4
      injection e4 with e4 _
      subst e4
      obtain ⟨a5, e5, r5⟩ := opens_int (k := .i64) Try.underlying2 t5
      injection e5 with e5 _
      subst e5
      obtain ⟨a6, e6, r6⟩ := opens_int (k := .i64) Try.underlying2 t6
      injection e6 with e6 _
      subst e6
      obtain ⟨a7, e7, r7⟩ := opens_int (k := .i64) Try.underlying2 t7
      injection e7 with e7 _
      subst e7
      obtain ⟨a8, e8, r8⟩ := opens_int (k := .i64) Try.underlying3 t8
      injection e8 with e8 _
      subst e8
      exact ⟨⟨a0, a1, a2, a3, a4, a5, a6, a7, a8⟩, k29_mk w _, r0 , r1 , r2 , r3 , r4 , r5 , r6 , r7 , r8⟩
def WF49 (x : S49) : Prop := (Lit.int .i64 x.f0).wf = true ∧ (Lit.int .i64 x.f1).wf = true ∧ (Lit.int .u64 x.f2).wf = true ∧ (Lit.int .i64 x.f3).wf = true ∧ (∀ y ∈ x.f4, (Lit.int .u8 y).wf = true)
set_option maxRecDepth 100000 in
theorem opens_49 : Opens 49 k49 WF49 := by
  intro H enc w fuel cs x h
  obtain ⟨xs, n, _, _, hl, hlen, hf⟩ := DataW.trod_struct Try.underlying49 h
  have hc : Try.prog.cellsOf 49 = 5 := by kernel_rfl
  rw [hc] at hl
  have hs : xs.length = 5 := hlen
  clear hlen h
  match cs, hl with
  | [c0, c1, c2, c3, c4], _ =>
    match xs, hs with
    | [x0, x1, x2, x3, x4], _ =>
      have t0 : DataW.trod enc Try.prog w 0 (fun _ => true) true n 3 (([c0, c1, c2, c3, c4].drop 0).take (Try.prog.cellsOf 3)) = [x0, x1, x2, x3, x4][0]? := hf 0 _ rfl
      rw [show Try.prog.cellsOf 3 = 1 by kernel_rfl] at t0
      replace t0 : DataW.trod enc Try.prog w 0 (fun _ => true) true n 3 [c0] = some x0 := t0
      have t1 : DataW.trod enc Try.prog w 0 (fun _ => true) true n 3 (([c0, c1, c2, c3, c4].drop 1).take (Try.prog.cellsOf 3)) = [x0, x1, x2, x3, x4][1]? := hf 1 _ rfl
      rw [show Try.prog.cellsOf 3 = 1 by kernel_rfl] at t1
      replace t1 : DataW.trod enc Try.prog w 0 (fun _ => true) true n 3 [c1] = some x1 := t1
      have t2 : DataW.trod enc Try.prog w 0 (fun _ => true) true n 37 (([c0, c1, c2, c3, c4].drop 2).take (Try.prog.cellsOf 37)) = [x0, x1, x2, x3, x4][2]? := hf 2 _ rfl
      rw [show Try.prog.cellsOf 37 = 1 by kernel_rfl] at t2
      replace t2 : DataW.trod enc Try.prog w 0 (fun _ => true) true n 37 [c2] = some x2 := t2
      have t3 : DataW.trod enc Try.prog w 0 (fun _ => true) true n 2 (([c0, c1, c2, c3, c4].drop 3).take (Try.prog.cellsOf 2)) = [x0, x1, x2, x3, x4][3]? := hf 3 _ rfl
      rw [show Try.prog.cellsOf 2 = 1 by kernel_rfl] at t3
      replace t3 : DataW.trod enc Try.prog w 0 (fun _ => true) true n 2 [c3] = some x3 := t3
      have t4 : DataW.trod enc Try.prog w 0 (fun _ => true) true n 30 (([c0, c1, c2, c3, c4].drop 4).take (Try.prog.cellsOf 30)) = [x0, x1, x2, x3, x4][4]? := hf 4 _ rfl
      rw [show Try.prog.cellsOf 30 = 1 by kernel_rfl] at t4
      replace t4 : DataW.trod enc Try.prog w 0 (fun _ => true) true n 30 [c4] = some x4 := t4
      clear hf
      obtain ⟨a0, e0, r0⟩ := opens_int (k := .i64) Try.underlying3 t0
      injection e0 with e0 _
      subst e0
      obtain ⟨a1, e1, r1⟩ := opens_int (k := .i64) Try.underlying3 t1
      injection e1 with e1 _
      subst e1
      obtain ⟨a2, e2, r2⟩ := opens_int (k := .u64) Try.underlying37 t2
      injection e2 with e2 _
      subst e2
      obtain ⟨a3, e3, r3⟩ := opens_int (k := .i64) Try.underlying2 t3
      injection e3 with e3 _
      subst e3
      obtain ⟨a4, ⟨A4, cc4, e4, l4, g4⟩, r4⟩ := opens_bytes t4
      injection e4 with e4 _
      subst e4
      exact ⟨⟨a0, a1, a2, a3, a4⟩, k49_mk w _ l4 g4, r0 , r1 , r2 , r3 , r4⟩
def WF91 (x : S91) : Prop := (Lit.int .i64 x.f0).wf = true ∧ (Lit.int .i64 x.f1).wf = true ∧ (Lit.int .i64 x.f2).wf = true ∧ (∀ y ∈ x.f3, (Lit.int .u8 y).wf = true)
set_option maxRecDepth 100000 in
theorem opens_91 : Opens 91 k91 WF91 := by
  intro H enc w fuel cs x h
  obtain ⟨xs, n, _, _, hl, hlen, hf⟩ := DataW.trod_struct Try.underlying91 h
  have hc : Try.prog.cellsOf 91 = 4 := by kernel_rfl
  rw [hc] at hl
  have hs : xs.length = 4 := hlen
  clear hlen h
  match cs, hl with
  | [c0, c1, c2, c3], _ =>
    match xs, hs with
    | [x0, x1, x2, x3], _ =>
      have t0 : DataW.trod enc Try.prog w 0 (fun _ => true) true n 3 (([c0, c1, c2, c3].drop 0).take (Try.prog.cellsOf 3)) = [x0, x1, x2, x3][0]? := hf 0 _ rfl
      rw [show Try.prog.cellsOf 3 = 1 by kernel_rfl] at t0
      replace t0 : DataW.trod enc Try.prog w 0 (fun _ => true) true n 3 [c0] = some x0 := t0
      have t1 : DataW.trod enc Try.prog w 0 (fun _ => true) true n 3 (([c0, c1, c2, c3].drop 1).take (Try.prog.cellsOf 3)) = [x0, x1, x2, x3][1]? := hf 1 _ rfl
      rw [show Try.prog.cellsOf 3 = 1 by kernel_rfl] at t1
      replace t1 : DataW.trod enc Try.prog w 0 (fun _ => true) true n 3 [c1] = some x1 := t1
      have t2 : DataW.trod enc Try.prog w 0 (fun _ => true) true n 2 (([c0, c1, c2, c3].drop 2).take (Try.prog.cellsOf 2)) = [x0, x1, x2, x3][2]? := hf 2 _ rfl
      rw [show Try.prog.cellsOf 2 = 1 by kernel_rfl] at t2
      replace t2 : DataW.trod enc Try.prog w 0 (fun _ => true) true n 2 [c2] = some x2 := t2
      have t3 : DataW.trod enc Try.prog w 0 (fun _ => true) true n 30 (([c0, c1, c2, c3].drop 3).take (Try.prog.cellsOf 30)) = [x0, x1, x2, x3][3]? := hf 3 _ rfl
      rw [show Try.prog.cellsOf 30 = 1 by kernel_rfl] at t3
      replace t3 : DataW.trod enc Try.prog w 0 (fun _ => true) true n 30 [c3] = some x3 := t3
      clear hf
      obtain ⟨a0, e0, r0⟩ := opens_int (k := .i64) Try.underlying3 t0
      injection e0 with e0 _
      subst e0
      obtain ⟨a1, e1, r1⟩ := opens_int (k := .i64) Try.underlying3 t1
      injection e1 with e1 _
      subst e1
      obtain ⟨a2, e2, r2⟩ := opens_int (k := .i64) Try.underlying2 t2
      injection e2 with e2 _
      subst e2
      obtain ⟨a3, ⟨A3, cc3, e3, l3, g3⟩, r3⟩ := opens_bytes t3
      injection e3 with e3 _
      subst e3
      exact ⟨⟨a0, a1, a2, a3⟩, k91_mk w _ l3 g3, r0 , r1 , r2 , r3⟩
set_option maxRecDepth 100000 in
theorem opened_29 {H : Type} {enc : TypeId × Value → H} {w : World} {fuel : Nat} {cs : List Value} {x : DataW H × List MemPlace} (h : DataW.trod enc Try.prog w 0 (fun _ => true) true fuel 29 cs = some x) : ∃ a0 a1 a2 a3 a4 a5 a6 a7 a8 : Int, cs = [.int .i64 a0, .int .i64 a1, .int .i64 a2, .int .i64 a3, .int .i64 a4, .int .i64 a5, .int .i64 a6, .int .i64 a7, .int .i64 a8] ∧ (Lit.int .i64 a0).wf = true ∧ (Lit.int .i64 a1).wf = true ∧ (Lit.int .i64 a2).wf = true ∧ (Lit.int .i64 a3).wf = true ∧ (Lit.int .i64 a4).wf = true ∧ (Lit.int .i64 a5).wf = true ∧ (Lit.int .i64 a6).wf = true ∧ (Lit.int .i64 a7).wf = true ∧ (Lit.int .i64 a8).wf = true := by
  obtain ⟨xs, n, _, _, hl, hlen, hf⟩ := DataW.trod_struct Try.underlying29 h
  have hc : Try.prog.cellsOf 29 = 9 := by kernel_rfl
  rw [hc] at hl
  have hs : xs.length = 9 := hlen
  clear hlen h
  match cs, hl with
  | [c0, c1, c2, c3, c4, c5, c6, c7, c8], _ =>
    match xs, hs with
    | [x0, x1, x2, x3, x4, x5, x6, x7, x8], _ =>
      have t0 : DataW.trod enc Try.prog w 0 (fun _ => true) true n 3 (([c0, c1, c2, c3, c4, c5, c6, c7, c8].drop 0).take (Try.prog.cellsOf 3)) = [x0, x1, x2, x3, x4, x5, x6, x7, x8][0]? := hf 0 _ rfl
      rw [show Try.prog.cellsOf 3 = 1 by kernel_rfl] at t0
      replace t0 : DataW.trod enc Try.prog w 0 (fun _ => true) true n 3 [c0] = some x0 := t0
      have t1 : DataW.trod enc Try.prog w 0 (fun _ => true) true n 3 (([c0, c1, c2, c3, c4, c5, c6, c7, c8].drop 1).take (Try.prog.cellsOf 3)) = [x0, x1, x2, x3, x4, x5, x6, x7, x8][1]? := hf 1 _ rfl
      rw [show Try.prog.cellsOf 3 = 1 by kernel_rfl] at t1
      replace t1 : DataW.trod enc Try.prog w 0 (fun _ => true) true n 3 [c1] = some x1 := t1
      have t2 : DataW.trod enc Try.prog w 0 (fun _ => true) true n 2 (([c0, c1, c2, c3, c4, c5, c6, c7, c8].drop 2).take (Try.prog.cellsOf 2)) = [x0, x1, x2, x3, x4, x5, x6, x7, x8][2]? := hf 2 _ rfl
      rw [show Try.prog.cellsOf 2 = 1 by kernel_rfl] at t2
      replace t2 : DataW.trod enc Try.prog w 0 (fun _ => true) true n 2 [c2] = some x2 := t2
      have t3 : DataW.trod enc Try.prog w 0 (fun _ => true) true n 2 (([c0, c1, c2, c3, c4, c5, c6, c7, c8].drop 3).take (Try.prog.cellsOf 2)) = [x0, x1, x2, x3, x4, x5, x6, x7, x8][3]? := hf 3 _ rfl
      rw [show Try.prog.cellsOf 2 = 1 by kernel_rfl] at t3
      replace t3 : DataW.trod enc Try.prog w 0 (fun _ => true) true n 2 [c3] = some x3 := t3
      have t4 : DataW.trod enc Try.prog w 0 (fun _ => true) true n 2 (([c0, c1, c2, c3, c4, c5, c6, c7, c8].drop 4).take (Try.prog.cellsOf 2)) = [x0, x1, x2, x3, x4, x5, x6, x7, x8][4]? := hf 4 _ rfl
      rw [show Try.prog.cellsOf 2 = 1 by kernel_rfl] at t4
      replace t4 : DataW.trod enc Try.prog w 0 (fun _ => true) true n 2 [c4] = some x4 := t4
      have t5 : DataW.trod enc Try.prog w 0 (fun _ => true) true n 2 (([c0, c1, c2, c3, c4, c5, c6, c7, c8].drop 5).take (Try.prog.cellsOf 2)) = [x0, x1, x2, x3, x4, x5, x6, x7, x8][5]? := hf 5 _ rfl
      rw [show Try.prog.cellsOf 2 = 1 by kernel_rfl] at t5
      replace t5 : DataW.trod enc Try.prog w 0 (fun _ => true) true n 2 [c5] = some x5 := t5
      have t6 : DataW.trod enc Try.prog w 0 (fun _ => true) true n 2 (([c0, c1, c2, c3, c4, c5, c6, c7, c8].drop 6).take (Try.prog.cellsOf 2)) = [x0, x1, x2, x3, x4, x5, x6, x7, x8][6]? := hf 6 _ rfl
      rw [show Try.prog.cellsOf 2 = 1 by kernel_rfl] at t6
      replace t6 : DataW.trod enc Try.prog w 0 (fun _ => true) true n 2 [c6] = some x6 := t6
      have t7 : DataW.trod enc Try.prog w 0 (fun _ => true) true n 2 (([c0, c1, c2, c3, c4, c5, c6, c7, c8].drop 7).take (Try.prog.cellsOf 2)) = [x0, x1, x2, x3, x4, x5, x6, x7, x8][7]? := hf 7 _ rfl
      rw [show Try.prog.cellsOf 2 = 1 by kernel_rfl] at t7
      replace t7 : DataW.trod enc Try.prog w 0 (fun _ => true) true n 2 [c7] = some x7 := t7
      have t8 : DataW.trod enc Try.prog w 0 (fun _ => true) true n 3 (([c0, c1, c2, c3, c4, c5, c6, c7, c8].drop 8).take (Try.prog.cellsOf 3)) = [x0, x1, x2, x3, x4, x5, x6, x7, x8][8]? := hf 8 _ rfl
      rw [show Try.prog.cellsOf 3 = 1 by kernel_rfl] at t8
      replace t8 : DataW.trod enc Try.prog w 0 (fun _ => true) true n 3 [c8] = some x8 := t8
      clear hf
      obtain ⟨a0, e0, r0⟩ := opens_int (k := .i64) Try.underlying3 t0
      injection e0 with e0 _
      subst e0
      obtain ⟨a1, e1, r1⟩ := opens_int (k := .i64) Try.underlying3 t1
      injection e1 with e1 _
      subst e1
      obtain ⟨a2, e2, r2⟩ := opens_int (k := .i64) Try.underlying2 t2
      injection e2 with e2 _
      subst e2
      obtain ⟨a3, e3, r3⟩ := opens_int (k := .i64) Try.underlying2 t3
      injection e3 with e3 _
      subst e3
      obtain ⟨a4, e4, r4⟩ := opens_int (k := .i64) Try.underlying2 t4
      injection e4 with e4 _
      subst e4
      obtain ⟨a5, e5, r5⟩ := opens_int (k := .i64) Try.underlying2 t5
      injection e5 with e5 _
      subst e5
      obtain ⟨a6, e6, r6⟩ := opens_int (k := .i64) Try.underlying2 t6
      injection e6 with e6 _
      subst e6
      obtain ⟨a7, e7, r7⟩ := opens_int (k := .i64) Try.underlying2 t7
      injection e7 with e7 _
      subst e7
      obtain ⟨a8, e8, r8⟩ := opens_int (k := .i64) Try.underlying3 t8
      injection e8 with e8 _
      subst e8
      exact ⟨a0, a1, a2, a3, a4, a5, a6, a7, a8, rfl, r0, r1, r2, r3, r4, r5, r6, r7, r8⟩
set_option maxRecDepth 100000 in
theorem opened_95 {H : Type} {enc : TypeId × Value → H} {w : World} {fuel : Nat} {cs : List Value} {x : DataW H × List MemPlace} (h : DataW.trod enc Try.prog w 0 (fun _ => true) true fuel 95 cs = some x) : ∃ a0 a1 a2 a3 a4 a5 a6 a7 a8 : Int, cs = [.int .i64 a0, .int .i64 a1, .int .i64 a2, .int .i64 a3, .int .i64 a4, .int .i64 a5, .int .i64 a6, .int .i64 a7, .int .i64 a8] ∧ (Lit.int .i64 a0).wf = true ∧ (Lit.int .i64 a1).wf = true ∧ (Lit.int .i64 a2).wf = true ∧ (Lit.int .i64 a3).wf = true ∧ (Lit.int .i64 a4).wf = true ∧ (Lit.int .i64 a5).wf = true ∧ (Lit.int .i64 a6).wf = true ∧ (Lit.int .i64 a7).wf = true ∧ (Lit.int .i64 a8).wf = true := by
  obtain ⟨xs, n, _, _, hl, hlen, hf⟩ := DataW.trod_struct Try.underlying95 h
  have hc : Try.prog.cellsOf 95 = 9 := by kernel_rfl
  rw [hc] at hl
  have hs : xs.length = 9 := hlen
  clear hlen h
  match cs, hl with
  | [c0, c1, c2, c3, c4, c5, c6, c7, c8], _ =>
    match xs, hs with
    | [x0, x1, x2, x3, x4, x5, x6, x7, x8], _ =>
      have t0 : DataW.trod enc Try.prog w 0 (fun _ => true) true n 3 (([c0, c1, c2, c3, c4, c5, c6, c7, c8].drop 0).take (Try.prog.cellsOf 3)) = [x0, x1, x2, x3, x4, x5, x6, x7, x8][0]? := hf 0 _ rfl
      rw [show Try.prog.cellsOf 3 = 1 by kernel_rfl] at t0
      replace t0 : DataW.trod enc Try.prog w 0 (fun _ => true) true n 3 [c0] = some x0 := t0
      have t1 : DataW.trod enc Try.prog w 0 (fun _ => true) true n 3 (([c0, c1, c2, c3, c4, c5, c6, c7, c8].drop 1).take (Try.prog.cellsOf 3)) = [x0, x1, x2, x3, x4, x5, x6, x7, x8][1]? := hf 1 _ rfl
      rw [show Try.prog.cellsOf 3 = 1 by kernel_rfl] at t1
      replace t1 : DataW.trod enc Try.prog w 0 (fun _ => true) true n 3 [c1] = some x1 := t1
      have t2 : DataW.trod enc Try.prog w 0 (fun _ => true) true n 2 (([c0, c1, c2, c3, c4, c5, c6, c7, c8].drop 2).take (Try.prog.cellsOf 2)) = [x0, x1, x2, x3, x4, x5, x6, x7, x8][2]? := hf 2 _ rfl
      rw [show Try.prog.cellsOf 2 = 1 by kernel_rfl] at t2
      replace t2 : DataW.trod enc Try.prog w 0 (fun _ => true) true n 2 [c2] = some x2 := t2
      have t3 : DataW.trod enc Try.prog w 0 (fun _ => true) true n 3 (([c0, c1, c2, c3, c4, c5, c6, c7, c8].drop 3).take (Try.prog.cellsOf 3)) = [x0, x1, x2, x3, x4, x5, x6, x7, x8][3]? := hf 3 _ rfl
      rw [show Try.prog.cellsOf 3 = 1 by kernel_rfl] at t3
      replace t3 : DataW.trod enc Try.prog w 0 (fun _ => true) true n 3 [c3] = some x3 := t3
      have t4 : DataW.trod enc Try.prog w 0 (fun _ => true) true n 3 (([c0, c1, c2, c3, c4, c5, c6, c7, c8].drop 4).take (Try.prog.cellsOf 3)) = [x0, x1, x2, x3, x4, x5, x6, x7, x8][4]? := hf 4 _ rfl
      rw [show Try.prog.cellsOf 3 = 1 by kernel_rfl] at t4
      replace t4 : DataW.trod enc Try.prog w 0 (fun _ => true) true n 3 [c4] = some x4 := t4
      have t5 : DataW.trod enc Try.prog w 0 (fun _ => true) true n 3 (([c0, c1, c2, c3, c4, c5, c6, c7, c8].drop 5).take (Try.prog.cellsOf 3)) = [x0, x1, x2, x3, x4, x5, x6, x7, x8][5]? := hf 5 _ rfl
      rw [show Try.prog.cellsOf 3 = 1 by kernel_rfl] at t5
      replace t5 : DataW.trod enc Try.prog w 0 (fun _ => true) true n 3 [c5] = some x5 := t5
      have t6 : DataW.trod enc Try.prog w 0 (fun _ => true) true n 2 (([c0, c1, c2, c3, c4, c5, c6, c7, c8].drop 6).take (Try.prog.cellsOf 2)) = [x0, x1, x2, x3, x4, x5, x6, x7, x8][6]? := hf 6 _ rfl
      rw [show Try.prog.cellsOf 2 = 1 by kernel_rfl] at t6
      replace t6 : DataW.trod enc Try.prog w 0 (fun _ => true) true n 2 [c6] = some x6 := t6
      have t7 : DataW.trod enc Try.prog w 0 (fun _ => true) true n 2 (([c0, c1, c2, c3, c4, c5, c6, c7, c8].drop 7).take (Try.prog.cellsOf 2)) = [x0, x1, x2, x3, x4, x5, x6, x7, x8][7]? := hf 7 _ rfl
      rw [show Try.prog.cellsOf 2 = 1 by kernel_rfl] at t7
      replace t7 : DataW.trod enc Try.prog w 0 (fun _ => true) true n 2 [c7] = some x7 := t7
      have t8 : DataW.trod enc Try.prog w 0 (fun _ => true) true n 3 (([c0, c1, c2, c3, c4, c5, c6, c7, c8].drop 8).take (Try.prog.cellsOf 3)) = [x0, x1, x2, x3, x4, x5, x6, x7, x8][8]? := hf 8 _ rfl
      rw [show Try.prog.cellsOf 3 = 1 by kernel_rfl] at t8
      replace t8 : DataW.trod enc Try.prog w 0 (fun _ => true) true n 3 [c8] = some x8 := t8
      clear hf
      obtain ⟨a0, e0, r0⟩ := opens_int (k := .i64) Try.underlying3 t0
      injection e0 with e0 _
      subst e0
      obtain ⟨a1, e1, r1⟩ := opens_int (k := .i64) Try.underlying3 t1
      injection e1 with e1 _
      subst e1
      obtain ⟨a2, e2, r2⟩ := opens_int (k := .i64) Try.underlying2 t2
      injection e2 with e2 _
      subst e2
      obtain ⟨a3, e3, r3⟩ := opens_int (k := .i64) Try.underlying3 t3
      injection e3 with e3 _
      subst e3
      obtain ⟨a4, e4, r4⟩ := opens_int (k := .i64) Try.underlying3 t4
      injection e4 with e4 _
      subst e4
      obtain ⟨a5, e5, r5⟩ := opens_int (k := .i64) Try.underlying3 t5
      injection e5 with e5 _
      subst e5
      obtain ⟨a6, e6, r6⟩ := opens_int (k := .i64) Try.underlying2 t6
      injection e6 with e6 _
      subst e6
      obtain ⟨a7, e7, r7⟩ := opens_int (k := .i64) Try.underlying2 t7
      injection e7 with e7 _
      subst e7
      obtain ⟨a8, e8, r8⟩ := opens_int (k := .i64) Try.underlying3 t8
      injection e8 with e8 _
      subst e8
      exact ⟨a0, a1, a2, a3, a4, a5, a6, a7, a8, rfl, r0, r1, r2, r3, r4, r5, r6, r7, r8⟩
set_option maxRecDepth 100000 in
theorem open_arg29 {H : Type} {enc : TypeId × Value → H} {w : World} {r : Reach} {b0 : Nat} {v : Value} {d : DataW H} {ps : List MemPlace} (hval : Value.okWide Try.prog w r b0 29 v) (hd : DataW.Trod enc Try.prog w 0 (fun _ => true) true 29 v d ps) :
    ∃ a0 a1 a2 a3 a4 a5 a6 a7 a8 : Int, v = .agg #[.int .i64 a0, .int .i64 a1, .int .i64 a2, .int .i64 a3, .int .i64 a4, .int .i64 a5, .int .i64 a6, .int .i64 a7, .int .i64 a8] ∧ (Lit.int .i64 a0).wf = true ∧ (Lit.int .i64 a1).wf = true ∧ (Lit.int .i64 a2).wf = true ∧ (Lit.int .i64 a3).wf = true ∧ (Lit.int .i64 a4).wf = true ∧ (Lit.int .i64 a5).wf = true ∧ (Lit.int .i64 a6).wf = true ∧ (Lit.int .i64 a7).wf = true ∧ (Lit.int .i64 a8).wf = true := by
  have hv := hval
  unfold Value.okWide at hv
  rw [Try.underlying29] at hv
  obtain ⟨cs, rfl, _, _⟩ := hv
  obtain ⟨fuel, hf⟩ := hd
  obtain ⟨a0, a1, a2, a3, a4, a5, a6, a7, a8, hc, hw⟩ := opened_29 hf
  refine ⟨a0, a1, a2, a3, a4, a5, a6, a7, a8, ?_, hw⟩
  have : cs = #[.int .i64 a0, .int .i64 a1, .int .i64 a2, .int .i64 a3, .int .i64 a4, .int .i64 a5, .int .i64 a6, .int .i64 a7, .int .i64 a8] := by
    apply Array.toList_inj.1
    exact hc
  rw [this]
set_option maxRecDepth 100000 in
theorem open_arg95 {H : Type} {enc : TypeId × Value → H} {w : World} {r : Reach} {b0 : Nat} {v : Value} {d : DataW H} {ps : List MemPlace} (hval : Value.okWide Try.prog w r b0 95 v) (hd : DataW.Trod enc Try.prog w 0 (fun _ => true) true 95 v d ps) :
    ∃ a0 a1 a2 a3 a4 a5 a6 a7 a8 : Int, v = .agg #[.int .i64 a0, .int .i64 a1, .int .i64 a2, .int .i64 a3, .int .i64 a4, .int .i64 a5, .int .i64 a6, .int .i64 a7, .int .i64 a8] ∧ (Lit.int .i64 a0).wf = true ∧ (Lit.int .i64 a1).wf = true ∧ (Lit.int .i64 a2).wf = true ∧ (Lit.int .i64 a3).wf = true ∧ (Lit.int .i64 a4).wf = true ∧ (Lit.int .i64 a5).wf = true ∧ (Lit.int .i64 a6).wf = true ∧ (Lit.int .i64 a7).wf = true ∧ (Lit.int .i64 a8).wf = true := by
  have hv := hval
  unfold Value.okWide at hv
  rw [Try.underlying95] at hv
  obtain ⟨cs, rfl, _, _⟩ := hv
  obtain ⟨fuel, hf⟩ := hd
  obtain ⟨a0, a1, a2, a3, a4, a5, a6, a7, a8, hc, hw⟩ := opened_95 hf
  refine ⟨a0, a1, a2, a3, a4, a5, a6, a7, a8, ?_, hw⟩
  have : cs = #[.int .i64 a0, .int .i64 a1, .int .i64 a2, .int .i64 a3, .int .i64 a4, .int .i64 a5, .int .i64 a6, .int .i64 a7, .int .i64 a8] := by
    apply Array.toList_inj.1
    exact hc
  rw [this]
theorem opens_msgs : Opens 22 (Kd.slice 29 k29) (fun xs => ∀ x ∈ xs, WF29 x) := opens_slice Try.underlying22 (by kernel_rfl) opens_29
theorem opens_parts : Opens 45 (Kd.slice 49 k49) (fun xs => ∀ x ∈ xs, WF49 x) := opens_slice Try.underlying45 (by kernel_rfl) opens_49
theorem opens_steps : Opens 54 (Kd.slice 91 k91) (fun xs => ∀ x ∈ xs, WF91 x) := opens_slice Try.underlying54 (by kernel_rfl) opens_91
theorem opens_rows : Opens 62 (Kd.slice 30 (Kd.slice 5 (Kd.int .u8))) (fun xs => ∀ x ∈ xs, ∀ y ∈ x, (Lit.int .u8 y).wf = true) := opens_slice Try.underlying62 (by kernel_rfl) opens_bytes
theorem opens_ints : Opens 61 (Kd.slice 3 (Kd.int .i64)) (fun xs => ∀ x ∈ xs, (Lit.int .i64 x).wf = true) := opens_slice Try.underlying61 (by kernel_rfl) (opens_int Try.underlying3)
-- A slice that is handed in.
set_option maxRecDepth 100000 in
theorem open_arg_slice {α : Type} {t e e' : TypeId} {K : Kd α} {R : α → Prop} (ht : Try.prog.underlying t = some (.slice e)) (ho : Opens t (Kd.slice e' K) (fun xs => ∀ x ∈ xs, R x))
    {H : Type} {enc : TypeId × Value → H} {w : World} {r : Reach} {b0 : Nat} {v : Value} {d : DataW H} {ps : List MemPlace} (hval : Value.okWide Try.prog w r b0 t v) (hd : DataW.Trod enc Try.prog w 0 (fun _ => true) true t v d ps) :
    ∃ (A : Option Addr) (c : Nat) (xs : List α), v = .slice A xs.length c ∧ xs.length ≤ c ∧ K.C w A xs.length xs ∧ (∀ x ∈ xs, R x) ∧ ∀ y ∈ ps, y.block < w.heap.size := by
  obtain ⟨A, l, c, rfl⟩ := okWide_slice ht hval
  have hlt : ∀ y ∈ ps, y.block < w.heap.size := by obtain ⟨m, hm⟩ := hd; exact DataW.trod_lt m _ _ _ hm
  obtain ⟨fuel, hf⟩ := hd
  obtain ⟨xs, ⟨A', c', hc, hl, hC⟩, hr⟩ := ho hf
  simp [Value.cells] at hc
  obtain ⟨rfl, rfl, rfl⟩ := hc
  exact ⟨_, _, xs, rfl, hl, hC, hr, hlt⟩
end Go.Proofs.Ytalpemoodollpaa.P
-- Printed by hookprint.py (the session's own program, over the kit's print.py): checked by Lean like any text.
namespace Go.Proofs.Ytalpemoodollpaa.P
open Go.RowKit Go.Proofs.YtalpemoodollpaaW.PrintWords Go.Proofs.YtalpemoodollpaaW.PrintLast Go.Proofs.YtalpemoodollpaaW.PrintMore
attribute [local go_sem] max2_int min2_int max_two min_two max_three min_three max_four min_four   -- for this text's walks alone
set_option linter.unusedVariables false
set_option linter.unusedSimpArgs false

/-! ### damperlaw03_form: function 41 -/
def damperlaw03_form.f (k : Nat) (a0_0 : Int) (a0_1 : Int) (a0_2 : Int) (a0_3 : Int) (l0_4 : List Int) : Option (List Int) := if a0_0 = 1 then ((damperref03_Uint.f k a0_2 a0_1).bind fun t237 => (some t237)) else (if a0_0 = 2 then ((damperref03_Int.f k a0_3).bind fun t240 => (some t240)) else (if a0_0 = 3 then ((damperref03_Num.f k a0_2).bind fun t243 => (some t243)) else (if a0_0 = 4 then (some l0_4) else (some ([] : List Int)))))
theorem damperlaw03_form.mono : ∀ a0 a1 a2 a3 a4 k, LeO (damperlaw03_form.f k a0 a1 a2 a3 a4) (damperlaw03_form.f (k + 1) a0 a1 a2 a3 a4) := by
  intro a0 a1 a2 a3 a4 k
  unfold damperlaw03_form.f
  repeat' first
      | (with_reducible exact damperref03_Int.mono _ _)
      | (with_reducible exact damperref03_Num.mono _ _)
      | (with_reducible exact damperref03_Uint.mono _ _ _)
      | (with_reducible exact LeO.refl _)
      | (with_reducible exact LeO.none _)
      | (with_reducible refine LeO.ite ?_ ?_)
      | (with_reducible refine LeO.bind ?_ (fun _ => ?_))
      | exact damperref03_Int.mono _ _
      | exact damperref03_Num.mono _ _
      | exact damperref03_Uint.mono _ _ _
      | exact LeO.none _
      | refine LeO.ite ?_ ?_
      | refine LeO.bind ?_ (fun _ => ?_)
set_option maxHeartbeats 8000000 in
set_option maxRecDepth 100000 in
theorem damperlaw03_form.calls (k : Nat) (a0_0 : Int) (a0_1 : Int) (a0_2 : Int) (a0_3 : Int) (P0_4_ : Nat → Prop) (u9000_ : Value) (l0_4 : List Int) (r : List Int) (w0 w : World) (hB : Below w0.heap.size w0 w) (ho0_4 : Kd.R (Kd.int .u8) 5 w w0.heap.size P0_4_ u9000_ l0_4) (h : damperlaw03_form.f k a0_0 a0_1 a0_2 a0_3 l0_4 = some r) :
    Calls Try.prog 41 #[.agg #[.int .i64 a0_0, .int .i64 a0_1, .int .u64 a0_2, .int .i64 a0_3, u9000_]] w fun e w' => ∃ v0_ : Value, e = .returned (v0_) ∧ Kd.R (Kd.int .u8) 5 w' w0.heap.size (fun k_ => (P0_4_ k_ ∨ w.heap.size ≤ k_)) v0_ r ∧ Below w0.heap.size w0 w' ∧ Kept w w' (fun k_ => P0_4_ k_) := by
  have hu49 := Try.underlying49
  have HO0_4 := Aside0.mk (show Kd.R (Kd.int .u8) 5 w w0.heap.size (fun k_ => (P0_4_ k_ ∨ w.heap.size ≤ k_)) u9000_ l0_4 from Kd.R_mono ho0_4 (fun k_ hk => (.inl hk)))
  have HK := Aside0.mk (Kept.refl w (fun k_ => P0_4_ k_))
  have HW0 := Aside0.mk hB.size
  have HB := Aside0.mk hB
  clear hB
  have H : (if a0_0 = 1 then ((damperref03_Uint.f k a0_2 a0_1).bind fun t237 => (some t237)) else (if a0_0 = 2 then ((damperref03_Int.f k a0_3).bind fun t240 => (some t240)) else (if a0_0 = 3 then ((damperref03_Num.f k a0_2).bind fun t243 => (some t243)) else (if a0_0 = 4 then (some l0_4) else (some ([] : List Int)))))) = some r := h
  clear h
  by_cases c2 : a0_0 = 1
  · rw [if_pos c2] at H
    have c2b0 : (a0_0 == 1) = true := beq_iff_eq.mpr c2
    have c2b1 : (a0_0 != 1) = false := bne_eq_false_iff_eq.mpr c2
    clear c2
    replace H := Option.bind_eq_some_iff.mp H
    obtain ⟨t237, A30, H⟩ := H
    replace H : (some t237) = some r := H
    have A3 := Aside0.mk A30
    clear A30
    obtain rfl := Option.some.inj H
    obtain ⟨Ao4, co4, eo4⟩ := Kd.R_slice HO0_4.out
    subst eo4
    go_enter Try.func41, Try.ntmps41
    go_wp2_with (first | ((with_reducible refine gate_dst (N := 1) rfl ?_); refine box_event ?hg (N := 1) ?hd (cs := #[.int .i64 a0_0, .int .i64 a0_1, .int .u64 a0_2, .int .i64 a0_3, .slice Ao4 l0_4.length co4]) (t := 49) ?hr ?_; (case hd => rfl); (case hg => rfl); (case hr => first | (go_simp; done) | (go_simp; rfl)); intro gb236 hg w5 hbox hb; have n0_ := Aside0.mk (Kd.R_below (by (with_reducible repeat (first | apply Kd.R_alloc | apply Kd.R_drewN | apply Kd.R_drew)); exact HO0_4.out) hb); have n1_ := Aside0.mk (Kept.below (S := (fun k_ => P0_4_ k_)) (by repeat (first | (with_reducible first | exact HK.out | apply Kept.alloc | apply Kept.drewN | apply Kept.drew) | exact HK.out)) hb); have n2_ := Aside0.mk (below_step (by repeat (first | (with_reducible first | exact HB.out | apply below_alloc | apply pw_below_drewN | apply below_drew1) | exact HB.out)) hb); have n3_ := Aside0.mk (hbox); have n4_ := Aside0.mk ((by rw [hg]; exact (by first | exact HK.out.1 | exact (show Kept w _ (fun k_ => P0_4_ k_) from by repeat (first | (with_reducible first | exact HK.out | apply Kept.alloc | apply Kept.drewN | apply Kept.drew) | exact HK.out)).1) : w.heap.size ≤ gb236)); have n5_ := Aside0.mk ((by rw [hg]; exact (below_size (by repeat (first | (with_reducible first | exact HB.out | apply below_alloc | apply pw_below_drewN | apply below_drew1) | exact HB.out))) : w0.heap.size ≤ gb236)); clear HO0_4; clear HK; clear HB; have HO0_4 := n0_; have HK := n1_; have HB := n2_; have BK236 := n3_; have GW236 := n4_; have GE236 := n5_; clear n0_ n1_ n2_ n3_ n4_ n5_; clear hb hbox hg; have hcz6_0 : w5.cell? ⟨gb236, 0, none⟩ = some (.int .i64 a0_0) := (blk_cell BK236.out 0).trans rfl; have hcz6_1 : w5.cell? ⟨gb236, 1, none⟩ = some (.int .i64 a0_1) := (blk_cell BK236.out 1).trans rfl; have hcz6_2 : w5.cell? ⟨gb236, 2, none⟩ = some (.int .u64 a0_2) := (blk_cell BK236.out 2).trans rfl; have hcz6_3 : w5.cell? ⟨gb236, 3, none⟩ = some (.int .i64 a0_3) := (blk_cell BK236.out 3).trans rfl; have hcz6_4 : w5.cell? ⟨gb236, 4, none⟩ = some (.slice Ao4 l0_4.length co4) := (blk_cell BK236.out 4).trans rfl; have hfz6_0 := blk_frozen BK236.out 0; have hfz6_1 := blk_frozen BK236.out 1; have hfz6_2 := blk_frozen BK236.out 2; have hfz6_3 := blk_frozen BK236.out 3; have hfz6_4 := blk_frozen BK236.out 4) | ((with_reducible refine gate_callee (f := 101) rfl ?_); refine goesL_ (some 11) rfl rfl Try.func101 (by kernel_rfl) rfl #[.int .u64 a0_2, .int .i64 a0_1] rfl (by (try simp only [List.map_toArray, List.map_cons, List.map_nil]); first | done | rfl | (simp only [List.length_drop, List.length_take]; rfl)) ?_; (with_reducible refine (damperref03_Uint.calls k a0_2 a0_1 t237 _ A3.out).mono ?_); rintro e w7 ⟨v238, rfl, ho0, hb⟩; refine ⟨_, rfl, ?_⟩; have n0_ := Aside0.mk (Kd.R_elder' (by (with_reducible repeat (first | apply Kd.R_alloc | apply Kd.R_drewN | apply Kd.R_drew)); exact HO0_4.out) (Kd.R_base ho0) hb); have n1_ := Aside0.mk (Kd.R_lower (Kd.R_new' (Kd.R_newM (M := fun k_ => (P0_4_ k_ ∨ w.heap.size ≤ k_)) ho0 (by first | exact HK.out.1 | exact (show Kept w _ (fun k_ => P0_4_ k_) from by repeat (first | (with_reducible first | exact HK.out | apply Kept.alloc | apply Kept.drewN | apply Kept.drew | refine Kept.setCell ?_ (.inr GW236.out) _) | exact HK.out)).1) (fun k_ h_ => .inr h_)) (Kd.R_lt (by (with_reducible repeat (first | apply Kd.R_alloc | apply Kd.R_drewN | apply Kd.R_drew)); exact HO0_4.out))) (below_size (by repeat (first | (with_reducible first | exact HB.out | apply below_alloc | apply pw_below_drewN | apply below_drew1 | refine below_set ?_ GE236.out) | exact HB.out)))); have n2_ := Aside0.mk (blk_below (g := gb236) (o := .cells #[.int .i64 a0_0, .int .i64 a0_1, .int .u64 a0_2, .int .i64 a0_3, .slice Ao4 l0_4.length co4] 49 (0, 0)) (by (with_reducible repeat (first | refine blk_drewN ?_ _ | refine blk_drew ?_ | refine blk_alloc ?_ _)); exact BK236.out) hb); have n3_ := Aside0.mk (Kept.below (S := (fun k_ => P0_4_ k_)) (by repeat (first | (with_reducible first | exact HK.out | apply Kept.alloc | apply Kept.drewN | apply Kept.drew | refine Kept.setCell ?_ (.inr GW236.out) _) | exact HK.out)) hb); have n4_ := Aside0.mk (below_step (by repeat (first | (with_reducible first | exact HB.out | apply below_alloc | apply pw_below_drewN | apply below_drew1 | refine below_set ?_ GE236.out) | exact HB.out)) hb); clear HO0_4; clear BK236; clear HK; clear HB; have HO0_4 := n0_; have HO239 := n1_; have BK236 := n2_; have HK := n3_; have HB := n4_; clear n0_ n1_ n2_ n3_ n4_; (try clear hb); (try clear hb2); (try clear hk); (try clear hi); (try clear ho0)))
    go_ret
    exact ⟨_, by first | rfl | (simp [errW_none, errW_some] <;> rfl) | (simp [*, errW_none, errW_some] <;> rfl), by (with_reducible repeat (first | apply Kd.R_alloc | apply Kd.R_drewN | apply Kd.R_drew)); exact Kd.R_mono HO239.out (fun _ hk => hk.1.1), by repeat (first | (with_reducible first | exact HB.out | apply below_alloc | apply pw_below_drewN | apply below_drew1 | refine below_set ?_ GE236.out) | exact HB.out), by repeat (first | (with_reducible first | exact HK.out | apply Kept.alloc | apply Kept.drewN | apply Kept.drew | refine Kept.setCell ?_ (.inr GW236.out) _) | exact HK.out)⟩
  · rw [if_neg c2] at H
    have c2b0 : (a0_0 == 1) = false := beq_eq_false_iff_ne.mpr c2
    have c2b1 : (a0_0 != 1) = true := bne_iff_ne.mpr c2
    by_cases c8 : a0_0 = 2
    · rw [if_pos c8] at H
      have c8b0 : (a0_0 == 2) = true := beq_iff_eq.mpr c8
      have c8b1 : (a0_0 != 2) = false := bne_eq_false_iff_eq.mpr c8
      clear c8
      replace H := Option.bind_eq_some_iff.mp H
      obtain ⟨t240, A90, H⟩ := H
      replace H : (some t240) = some r := H
      have A9 := Aside0.mk A90
      clear A90
      obtain rfl := Option.some.inj H
      obtain ⟨Ao10, co10, eo10⟩ := Kd.R_slice HO0_4.out
      subst eo10
      go_enter Try.func41, Try.ntmps41
      go_wp2_with (first | ((with_reducible refine gate_dst (N := 1) rfl ?_); refine box_event ?hg (N := 1) ?hd (cs := #[.int .i64 a0_0, .int .i64 a0_1, .int .u64 a0_2, .int .i64 a0_3, .slice Ao10 l0_4.length co10]) (t := 49) ?hr ?_; (case hd => rfl); (case hg => rfl); (case hr => first | (go_simp; done) | (go_simp; rfl)); intro gb236 hg w11 hbox hb; have n0_ := Aside0.mk (Kd.R_below (by (with_reducible repeat (first | apply Kd.R_alloc | apply Kd.R_drewN | apply Kd.R_drew)); exact HO0_4.out) hb); have n1_ := Aside0.mk (Kept.below (S := (fun k_ => P0_4_ k_)) (by repeat (first | (with_reducible first | exact HK.out | apply Kept.alloc | apply Kept.drewN | apply Kept.drew) | exact HK.out)) hb); have n2_ := Aside0.mk (below_step (by repeat (first | (with_reducible first | exact HB.out | apply below_alloc | apply pw_below_drewN | apply below_drew1) | exact HB.out)) hb); have n3_ := Aside0.mk (hbox); have n4_ := Aside0.mk ((by rw [hg]; exact (by first | exact HK.out.1 | exact (show Kept w _ (fun k_ => P0_4_ k_) from by repeat (first | (with_reducible first | exact HK.out | apply Kept.alloc | apply Kept.drewN | apply Kept.drew) | exact HK.out)).1) : w.heap.size ≤ gb236)); have n5_ := Aside0.mk ((by rw [hg]; exact (below_size (by repeat (first | (with_reducible first | exact HB.out | apply below_alloc | apply pw_below_drewN | apply below_drew1) | exact HB.out))) : w0.heap.size ≤ gb236)); clear HO0_4; clear HK; clear HB; have HO0_4 := n0_; have HK := n1_; have HB := n2_; have BK236 := n3_; have GW236 := n4_; have GE236 := n5_; clear n0_ n1_ n2_ n3_ n4_ n5_; clear hb hbox hg; have hcz12_0 : w11.cell? ⟨gb236, 0, none⟩ = some (.int .i64 a0_0) := (blk_cell BK236.out 0).trans rfl; have hcz12_1 : w11.cell? ⟨gb236, 1, none⟩ = some (.int .i64 a0_1) := (blk_cell BK236.out 1).trans rfl; have hcz12_2 : w11.cell? ⟨gb236, 2, none⟩ = some (.int .u64 a0_2) := (blk_cell BK236.out 2).trans rfl; have hcz12_3 : w11.cell? ⟨gb236, 3, none⟩ = some (.int .i64 a0_3) := (blk_cell BK236.out 3).trans rfl; have hcz12_4 : w11.cell? ⟨gb236, 4, none⟩ = some (.slice Ao10 l0_4.length co10) := (blk_cell BK236.out 4).trans rfl; have hfz12_0 := blk_frozen BK236.out 0; have hfz12_1 := blk_frozen BK236.out 1; have hfz12_2 := blk_frozen BK236.out 2; have hfz12_3 := blk_frozen BK236.out 3; have hfz12_4 := blk_frozen BK236.out 4) | ((with_reducible refine gate_callee (f := 102) rfl ?_); refine goesL_ (some 16) rfl rfl Try.func102 (by kernel_rfl) rfl #[.int .i64 a0_3] rfl (by (try simp only [List.map_toArray, List.map_cons, List.map_nil]); first | done | rfl | (simp only [List.length_drop, List.length_take]; rfl)) ?_; (with_reducible refine (damperref03_Int.calls k a0_3 t240 _ A9.out).mono ?_); rintro e w13 ⟨v241, rfl, ho0, hb⟩; refine ⟨_, rfl, ?_⟩; have n0_ := Aside0.mk (Kd.R_elder' (by (with_reducible repeat (first | apply Kd.R_alloc | apply Kd.R_drewN | apply Kd.R_drew)); exact HO0_4.out) (Kd.R_base ho0) hb); have n1_ := Aside0.mk (Kd.R_lower (Kd.R_new' (Kd.R_newM (M := fun k_ => (P0_4_ k_ ∨ w.heap.size ≤ k_)) ho0 (by first | exact HK.out.1 | exact (show Kept w _ (fun k_ => P0_4_ k_) from by repeat (first | (with_reducible first | exact HK.out | apply Kept.alloc | apply Kept.drewN | apply Kept.drew | refine Kept.setCell ?_ (.inr GW236.out) _) | exact HK.out)).1) (fun k_ h_ => .inr h_)) (Kd.R_lt (by (with_reducible repeat (first | apply Kd.R_alloc | apply Kd.R_drewN | apply Kd.R_drew)); exact HO0_4.out))) (below_size (by repeat (first | (with_reducible first | exact HB.out | apply below_alloc | apply pw_below_drewN | apply below_drew1 | refine below_set ?_ GE236.out) | exact HB.out)))); have n2_ := Aside0.mk (blk_below (g := gb236) (o := .cells #[.int .i64 a0_0, .int .i64 a0_1, .int .u64 a0_2, .int .i64 a0_3, .slice Ao10 l0_4.length co10] 49 (0, 0)) (by (with_reducible repeat (first | refine blk_drewN ?_ _ | refine blk_drew ?_ | refine blk_alloc ?_ _)); exact BK236.out) hb); have n3_ := Aside0.mk (Kept.below (S := (fun k_ => P0_4_ k_)) (by repeat (first | (with_reducible first | exact HK.out | apply Kept.alloc | apply Kept.drewN | apply Kept.drew | refine Kept.setCell ?_ (.inr GW236.out) _) | exact HK.out)) hb); have n4_ := Aside0.mk (below_step (by repeat (first | (with_reducible first | exact HB.out | apply below_alloc | apply pw_below_drewN | apply below_drew1 | refine below_set ?_ GE236.out) | exact HB.out)) hb); clear HO0_4; clear BK236; clear HK; clear HB; have HO0_4 := n0_; have HO242 := n1_; have BK236 := n2_; have HK := n3_; have HB := n4_; clear n0_ n1_ n2_ n3_ n4_; (try clear hb); (try clear hb2); (try clear hk); (try clear hi); (try clear ho0)))
      go_ret
      exact ⟨_, by first | rfl | (simp [errW_none, errW_some] <;> rfl) | (simp [*, errW_none, errW_some] <;> rfl), by (with_reducible repeat (first | apply Kd.R_alloc | apply Kd.R_drewN | apply Kd.R_drew)); exact Kd.R_mono HO242.out (fun _ hk => hk.1.1), by repeat (first | (with_reducible first | exact HB.out | apply below_alloc | apply pw_below_drewN | apply below_drew1 | refine below_set ?_ GE236.out) | exact HB.out), by repeat (first | (with_reducible first | exact HK.out | apply Kept.alloc | apply Kept.drewN | apply Kept.drew | refine Kept.setCell ?_ (.inr GW236.out) _) | exact HK.out)⟩
    · rw [if_neg c8] at H
      have c8b0 : (a0_0 == 2) = false := beq_eq_false_iff_ne.mpr c8
      have c8b1 : (a0_0 != 2) = true := bne_iff_ne.mpr c8
      by_cases c14 : a0_0 = 3
      · rw [if_pos c14] at H
        have c14b0 : (a0_0 == 3) = true := beq_iff_eq.mpr c14
        have c14b1 : (a0_0 != 3) = false := bne_eq_false_iff_eq.mpr c14
        clear c14
        replace H := Option.bind_eq_some_iff.mp H
        obtain ⟨t243, A150, H⟩ := H
        replace H : (some t243) = some r := H
        have A15 := Aside0.mk A150
        clear A150
        obtain rfl := Option.some.inj H
        obtain ⟨Ao16, co16, eo16⟩ := Kd.R_slice HO0_4.out
        subst eo16
        go_enter Try.func41, Try.ntmps41
        go_wp2_with (first | ((with_reducible refine gate_dst (N := 1) rfl ?_); refine box_event ?hg (N := 1) ?hd (cs := #[.int .i64 a0_0, .int .i64 a0_1, .int .u64 a0_2, .int .i64 a0_3, .slice Ao16 l0_4.length co16]) (t := 49) ?hr ?_; (case hd => rfl); (case hg => rfl); (case hr => first | (go_simp; done) | (go_simp; rfl)); intro gb236 hg w17 hbox hb; have n0_ := Aside0.mk (Kd.R_below (by (with_reducible repeat (first | apply Kd.R_alloc | apply Kd.R_drewN | apply Kd.R_drew)); exact HO0_4.out) hb); have n1_ := Aside0.mk (Kept.below (S := (fun k_ => P0_4_ k_)) (by repeat (first | (with_reducible first | exact HK.out | apply Kept.alloc | apply Kept.drewN | apply Kept.drew) | exact HK.out)) hb); have n2_ := Aside0.mk (below_step (by repeat (first | (with_reducible first | exact HB.out | apply below_alloc | apply pw_below_drewN | apply below_drew1) | exact HB.out)) hb); have n3_ := Aside0.mk (hbox); have n4_ := Aside0.mk ((by rw [hg]; exact (by first | exact HK.out.1 | exact (show Kept w _ (fun k_ => P0_4_ k_) from by repeat (first | (with_reducible first | exact HK.out | apply Kept.alloc | apply Kept.drewN | apply Kept.drew) | exact HK.out)).1) : w.heap.size ≤ gb236)); have n5_ := Aside0.mk ((by rw [hg]; exact (below_size (by repeat (first | (with_reducible first | exact HB.out | apply below_alloc | apply pw_below_drewN | apply below_drew1) | exact HB.out))) : w0.heap.size ≤ gb236)); clear HO0_4; clear HK; clear HB; have HO0_4 := n0_; have HK := n1_; have HB := n2_; have BK236 := n3_; have GW236 := n4_; have GE236 := n5_; clear n0_ n1_ n2_ n3_ n4_ n5_; clear hb hbox hg; have hcz18_0 : w17.cell? ⟨gb236, 0, none⟩ = some (.int .i64 a0_0) := (blk_cell BK236.out 0).trans rfl; have hcz18_1 : w17.cell? ⟨gb236, 1, none⟩ = some (.int .i64 a0_1) := (blk_cell BK236.out 1).trans rfl; have hcz18_2 : w17.cell? ⟨gb236, 2, none⟩ = some (.int .u64 a0_2) := (blk_cell BK236.out 2).trans rfl; have hcz18_3 : w17.cell? ⟨gb236, 3, none⟩ = some (.int .i64 a0_3) := (blk_cell BK236.out 3).trans rfl; have hcz18_4 : w17.cell? ⟨gb236, 4, none⟩ = some (.slice Ao16 l0_4.length co16) := (blk_cell BK236.out 4).trans rfl; have hfz18_0 := blk_frozen BK236.out 0; have hfz18_1 := blk_frozen BK236.out 1; have hfz18_2 := blk_frozen BK236.out 2; have hfz18_3 := blk_frozen BK236.out 3; have hfz18_4 := blk_frozen BK236.out 4) | ((with_reducible refine gate_callee (f := 103) rfl ?_); refine goesL_ (some 21) rfl rfl Try.func103 (by kernel_rfl) rfl #[.int .u64 a0_2] rfl (by (try simp only [List.map_toArray, List.map_cons, List.map_nil]); first | done | rfl | (simp only [List.length_drop, List.length_take]; rfl)) ?_; (with_reducible refine (damperref03_Num.calls k a0_2 t243 _ A15.out).mono ?_); rintro e w19 ⟨v244, rfl, ho0, hb⟩; refine ⟨_, rfl, ?_⟩; have n0_ := Aside0.mk (Kd.R_elder' (by (with_reducible repeat (first | apply Kd.R_alloc | apply Kd.R_drewN | apply Kd.R_drew)); exact HO0_4.out) (Kd.R_base ho0) hb); have n1_ := Aside0.mk (Kd.R_lower (Kd.R_new' (Kd.R_newM (M := fun k_ => (P0_4_ k_ ∨ w.heap.size ≤ k_)) ho0 (by first | exact HK.out.1 | exact (show Kept w _ (fun k_ => P0_4_ k_) from by repeat (first | (with_reducible first | exact HK.out | apply Kept.alloc | apply Kept.drewN | apply Kept.drew | refine Kept.setCell ?_ (.inr GW236.out) _) | exact HK.out)).1) (fun k_ h_ => .inr h_)) (Kd.R_lt (by (with_reducible repeat (first | apply Kd.R_alloc | apply Kd.R_drewN | apply Kd.R_drew)); exact HO0_4.out))) (below_size (by repeat (first | (with_reducible first | exact HB.out | apply below_alloc | apply pw_below_drewN | apply below_drew1 | refine below_set ?_ GE236.out) | exact HB.out)))); have n2_ := Aside0.mk (blk_below (g := gb236) (o := .cells #[.int .i64 a0_0, .int .i64 a0_1, .int .u64 a0_2, .int .i64 a0_3, .slice Ao16 l0_4.length co16] 49 (0, 0)) (by (with_reducible repeat (first | refine blk_drewN ?_ _ | refine blk_drew ?_ | refine blk_alloc ?_ _)); exact BK236.out) hb); have n3_ := Aside0.mk (Kept.below (S := (fun k_ => P0_4_ k_)) (by repeat (first | (with_reducible first | exact HK.out | apply Kept.alloc | apply Kept.drewN | apply Kept.drew | refine Kept.setCell ?_ (.inr GW236.out) _) | exact HK.out)) hb); have n4_ := Aside0.mk (below_step (by repeat (first | (with_reducible first | exact HB.out | apply below_alloc | apply pw_below_drewN | apply below_drew1 | refine below_set ?_ GE236.out) | exact HB.out)) hb); clear HO0_4; clear BK236; clear HK; clear HB; have HO0_4 := n0_; have HO245 := n1_; have BK236 := n2_; have HK := n3_; have HB := n4_; clear n0_ n1_ n2_ n3_ n4_; (try clear hb); (try clear hb2); (try clear hk); (try clear hi); (try clear ho0)))
        go_ret
        exact ⟨_, by first | rfl | (simp [errW_none, errW_some] <;> rfl) | (simp [*, errW_none, errW_some] <;> rfl), by (with_reducible repeat (first | apply Kd.R_alloc | apply Kd.R_drewN | apply Kd.R_drew)); exact Kd.R_mono HO245.out (fun _ hk => hk.1.1), by repeat (first | (with_reducible first | exact HB.out | apply below_alloc | apply pw_below_drewN | apply below_drew1 | refine below_set ?_ GE236.out) | exact HB.out), by repeat (first | (with_reducible first | exact HK.out | apply Kept.alloc | apply Kept.drewN | apply Kept.drew | refine Kept.setCell ?_ (.inr GW236.out) _) | exact HK.out)⟩
      · rw [if_neg c14] at H
        have c14b0 : (a0_0 == 3) = false := beq_eq_false_iff_ne.mpr c14
        have c14b1 : (a0_0 != 3) = true := bne_iff_ne.mpr c14
        by_cases c20 : a0_0 = 4
        · rw [if_pos c20] at H
          have c20b0 : (a0_0 == 4) = true := beq_iff_eq.mpr c20
          have c20b1 : (a0_0 != 4) = false := bne_eq_false_iff_eq.mpr c20
          clear c20
          obtain rfl := Option.some.inj H
          obtain ⟨Ao21, co21, eo21⟩ := Kd.R_slice HO0_4.out
          subst eo21
          go_enter Try.func41, Try.ntmps41
          go_wp2_with (first | ((with_reducible refine gate_dst (N := 1) rfl ?_); refine box_event ?hg (N := 1) ?hd (cs := #[.int .i64 a0_0, .int .i64 a0_1, .int .u64 a0_2, .int .i64 a0_3, .slice Ao21 l0_4.length co21]) (t := 49) ?hr ?_; (case hd => rfl); (case hg => rfl); (case hr => first | (go_simp; done) | (go_simp; rfl)); intro gb236 hg w22 hbox hb; have n0_ := Aside0.mk (Kd.R_below (by (with_reducible repeat (first | apply Kd.R_alloc | apply Kd.R_drewN | apply Kd.R_drew)); exact HO0_4.out) hb); have n1_ := Aside0.mk (Kept.below (S := (fun k_ => P0_4_ k_)) (by repeat (first | (with_reducible first | exact HK.out | apply Kept.alloc | apply Kept.drewN | apply Kept.drew) | exact HK.out)) hb); have n2_ := Aside0.mk (below_step (by repeat (first | (with_reducible first | exact HB.out | apply below_alloc | apply pw_below_drewN | apply below_drew1) | exact HB.out)) hb); have n3_ := Aside0.mk (hbox); have n4_ := Aside0.mk ((by rw [hg]; exact (by first | exact HK.out.1 | exact (show Kept w _ (fun k_ => P0_4_ k_) from by repeat (first | (with_reducible first | exact HK.out | apply Kept.alloc | apply Kept.drewN | apply Kept.drew) | exact HK.out)).1) : w.heap.size ≤ gb236)); have n5_ := Aside0.mk ((by rw [hg]; exact (below_size (by repeat (first | (with_reducible first | exact HB.out | apply below_alloc | apply pw_below_drewN | apply below_drew1) | exact HB.out))) : w0.heap.size ≤ gb236)); clear HO0_4; clear HK; clear HB; have HO0_4 := n0_; have HK := n1_; have HB := n2_; have BK236 := n3_; have GW236 := n4_; have GE236 := n5_; clear n0_ n1_ n2_ n3_ n4_ n5_; clear hb hbox hg; have hcz23_0 : w22.cell? ⟨gb236, 0, none⟩ = some (.int .i64 a0_0) := (blk_cell BK236.out 0).trans rfl; have hcz23_1 : w22.cell? ⟨gb236, 1, none⟩ = some (.int .i64 a0_1) := (blk_cell BK236.out 1).trans rfl; have hcz23_2 : w22.cell? ⟨gb236, 2, none⟩ = some (.int .u64 a0_2) := (blk_cell BK236.out 2).trans rfl; have hcz23_3 : w22.cell? ⟨gb236, 3, none⟩ = some (.int .i64 a0_3) := (blk_cell BK236.out 3).trans rfl; have hcz23_4 : w22.cell? ⟨gb236, 4, none⟩ = some (.slice Ao21 l0_4.length co21) := (blk_cell BK236.out 4).trans rfl; have hfz23_0 := blk_frozen BK236.out 0; have hfz23_1 := blk_frozen BK236.out 1; have hfz23_2 := blk_frozen BK236.out 2; have hfz23_3 := blk_frozen BK236.out 3; have hfz23_4 := blk_frozen BK236.out 4))
          go_ret
          exact ⟨_, by first | rfl | (simp [errW_none, errW_some] <;> rfl) | (simp [*, errW_none, errW_some] <;> rfl), by (with_reducible repeat (first | apply Kd.R_alloc | apply Kd.R_drewN | apply Kd.R_drew)); exact HO0_4.out, by repeat (first | (with_reducible first | exact HB.out | apply below_alloc | apply pw_below_drewN | apply below_drew1 | refine below_set ?_ GE236.out) | exact HB.out), by repeat (first | (with_reducible first | exact HK.out | apply Kept.alloc | apply Kept.drewN | apply Kept.drew | refine Kept.setCell ?_ (.inr GW236.out) _) | exact HK.out)⟩
        · rw [if_neg c20] at H
          have c20b0 : (a0_0 == 4) = false := beq_eq_false_iff_ne.mpr c20
          have c20b1 : (a0_0 != 4) = true := bne_iff_ne.mpr c20
          obtain rfl := Option.some.inj H
          obtain ⟨Ao24, co24, eo24⟩ := Kd.R_slice HO0_4.out
          subst eo24
          go_enter Try.func41, Try.ntmps41
          go_wp2_with (first | ((with_reducible refine gate_dst (N := 1) rfl ?_); refine box_event ?hg (N := 1) ?hd (cs := #[.int .i64 a0_0, .int .i64 a0_1, .int .u64 a0_2, .int .i64 a0_3, .slice Ao24 l0_4.length co24]) (t := 49) ?hr ?_; (case hd => rfl); (case hg => rfl); (case hr => first | (go_simp; done) | (go_simp; rfl)); intro gb236 hg w25 hbox hb; have n0_ := Aside0.mk (Kd.R_below (by (with_reducible repeat (first | apply Kd.R_alloc | apply Kd.R_drewN | apply Kd.R_drew)); exact HO0_4.out) hb); have n1_ := Aside0.mk (Kept.below (S := (fun k_ => P0_4_ k_)) (by repeat (first | (with_reducible first | exact HK.out | apply Kept.alloc | apply Kept.drewN | apply Kept.drew) | exact HK.out)) hb); have n2_ := Aside0.mk (below_step (by repeat (first | (with_reducible first | exact HB.out | apply below_alloc | apply pw_below_drewN | apply below_drew1) | exact HB.out)) hb); have n3_ := Aside0.mk (hbox); have n4_ := Aside0.mk ((by rw [hg]; exact (by first | exact HK.out.1 | exact (show Kept w _ (fun k_ => P0_4_ k_) from by repeat (first | (with_reducible first | exact HK.out | apply Kept.alloc | apply Kept.drewN | apply Kept.drew) | exact HK.out)).1) : w.heap.size ≤ gb236)); have n5_ := Aside0.mk ((by rw [hg]; exact (below_size (by repeat (first | (with_reducible first | exact HB.out | apply below_alloc | apply pw_below_drewN | apply below_drew1) | exact HB.out))) : w0.heap.size ≤ gb236)); clear HO0_4; clear HK; clear HB; have HO0_4 := n0_; have HK := n1_; have HB := n2_; have BK236 := n3_; have GW236 := n4_; have GE236 := n5_; clear n0_ n1_ n2_ n3_ n4_ n5_; clear hb hbox hg; have hcz26_0 : w25.cell? ⟨gb236, 0, none⟩ = some (.int .i64 a0_0) := (blk_cell BK236.out 0).trans rfl; have hcz26_1 : w25.cell? ⟨gb236, 1, none⟩ = some (.int .i64 a0_1) := (blk_cell BK236.out 1).trans rfl; have hcz26_2 : w25.cell? ⟨gb236, 2, none⟩ = some (.int .u64 a0_2) := (blk_cell BK236.out 2).trans rfl; have hcz26_3 : w25.cell? ⟨gb236, 3, none⟩ = some (.int .i64 a0_3) := (blk_cell BK236.out 3).trans rfl; have hcz26_4 : w25.cell? ⟨gb236, 4, none⟩ = some (.slice Ao24 l0_4.length co24) := (blk_cell BK236.out 4).trans rfl; have hfz26_0 := blk_frozen BK236.out 0; have hfz26_1 := blk_frozen BK236.out 1; have hfz26_2 := blk_frozen BK236.out 2; have hfz26_3 := blk_frozen BK236.out 3; have hfz26_4 := blk_frozen BK236.out 4))
          go_ret
          exact ⟨_, by first | rfl | (simp [errW_none, errW_some] <;> rfl) | (simp [*, errW_none, errW_some] <;> rfl), by first | exact Kd.R_nil _ _ _ _ _ | exact Kd.N_nil _ _ _ _ _ | exact Kd.V_nil _ _ _ _ _ | exact Kd.Q_nil _ _ _ _ _ | exact Kd.S_nil _ _ _ _ _, by repeat (first | (with_reducible first | exact HB.out | apply below_alloc | apply pw_below_drewN | apply below_drew1 | refine below_set ?_ GE236.out) | exact HB.out), by repeat (first | (with_reducible first | exact HK.out | apply Kept.alloc | apply Kept.drewN | apply Kept.drew | refine Kept.setCell ?_ (.inr GW236.out) _) | exact HK.out)⟩

end Go.Proofs.Ytalpemoodollpaa.P
/- damperlaw03's form and put. -/
namespace Go.Proofs.Ytalpemoodollpaa.P
open Go.RowKit Go.Proofs.YtalpemoodollpaaW.PrintWords Go.Proofs.YtalpemoodollpaaW.PrintLast Go.Proofs.YtalpemoodollpaaW.PrintMore
set_option linter.unusedVariables false
set_option linter.unusedSimpArgs false

/-- What the document says that a part puts. -/
def partForm (p : S49) : List Int :=
  if p.f0 = 1 then (if p.f1 < 1 ∨ 8 < p.f1 then [] else uintForm p.f2.toNat p.f1.toNat) else if p.f0 = 2 then intForm p.f3 else if p.f0 = 3 then numForm p.f2.toNat else if p.f0 = 4 then p.f4 else []
def partVal (p : S49) (A : Option Addr) (c : Nat) : Value := .agg #[.int .i64 p.f0, .int .i64 p.f1, .int .u64 p.f2, .int .i64 p.f3, .slice A p.f4.length c]
theorem WF49.n {p : S49} (h : WF49 p) : 0 ≤ p.f2 ∧ p.f2 < 18446744073709551616 := row.wf_u64 h.2.2.1
theorem WF49.s {p : S49} (h : WF49 p) : -9223372036854775808 ≤ p.f3 ∧ p.f3 ≤ 9223372036854775807 := row.wf_i64 h.2.2.2.1
set_option maxRecDepth 100000 in
set_option maxHeartbeats 2000000 in
theorem law03_form_calls (p : S49) (A : Option Addr) (c : Nat) (w : World) (hw : WF49 p) (hc : p.f4.length ≤ c) (hC : Kd.C (Kd.int .u8) w A p.f4.length p.f4) :
    Calls Try.prog 41 #[.agg #[.int .i64 p.f0, .int .i64 p.f1, .int .u64 p.f2, .int .i64 p.f3, .slice A p.f4.length c]] w fun e w' => ∃ B m, e = .returned (.slice B (partForm p).length m) ∧ (partForm p).length ≤ m ∧ Kd.C (Kd.int .u8) w' B (partForm p).length (partForm p) ∧ Below w.heap.size w w' := by
  obtain ⟨f0, f1, f2, f3, f4⟩ := p
  have hn := hw.n
  have hs := hw.s
  generalize hF : partForm ⟨f0, f1, f2, f3, f4⟩ = F
  unfold partForm at hF
  dsimp only at *
  have HC := Aside0.mk hC
  have HL := Aside0.mk hc
  clear hw hC hc
  by_cases h1 : f0 = 1
  · subst h1
    rw [if_pos rfl] at hF
    have hX : damperref03_Uint.f 12 f2 f1 = some F := by
      rw [← hF]
      by_cases h : f1 < 1 ∨ 8 < f1
      · rw [if_pos h, refUint_none f2 f1 h 12 (by omega)]
      · rw [if_neg h, refUint f2 f1 hn.1 hn.2 (by omega) (by omega) 12 (by omega)]
    have HX := Aside0.mk hX
    clear hX hF hn hs
    have HA := Aside0.mk (below_alloc (Below.refl w.heap.size w) (.cells #[.int .i64 1, .int .i64 f1, .int .u64 f2, .int .i64 f3, .slice A f4.length c] 49))
    go_enter Try.func41, Try.ntmps41
    go_wp2_with fail
    refine (damperref03_Uint.calls 12 f2 f1 F _ HX.out).mono ?_
    rintro e w1 ⟨v1, rfl, hR, hb⟩
    obtain ⟨X1, x1, rfl, hq, hC⟩ := Kd.R_reads hR
    have CX := Aside0.mk hC
    have QX := Aside0.mk hq
    have B1 := Aside0.mk (Below.trans HA.out (Below.mono hb HA.out.size))
    clear hR hb hC hq HA
    go_wp2
    go_ret
    exact ⟨X1, x1, rfl, QX.out, CX.out, B1.out⟩
  · by_cases h2 : f0 = 2
    · subst h2
      rw [if_neg h1, if_pos rfl] at hF
      have hX : damperref03_Int.f 12 f3 = some F := by
        rw [← hF, refInt f3 hs.1 hs.2 12 (by omega)]
      have HX := Aside0.mk hX
      clear hX hF hn hs h1
      have HA := Aside0.mk (below_alloc (Below.refl w.heap.size w) (.cells #[.int .i64 2, .int .i64 f1, .int .u64 f2, .int .i64 f3, .slice A f4.length c] 49))
      go_enter Try.func41, Try.ntmps41
      go_wp2_with fail
      refine (damperref03_Int.calls 12 f3 F _ HX.out).mono ?_
      rintro e w1 ⟨v1, rfl, hR, hb⟩
      obtain ⟨X1, x1, rfl, hq, hC⟩ := Kd.R_reads hR
      have CX := Aside0.mk hC
      have QX := Aside0.mk hq
      have B1 := Aside0.mk (Below.trans HA.out (Below.mono hb HA.out.size))
      clear hR hb hC hq HA
      go_wp2
      go_ret
      exact ⟨X1, x1, rfl, QX.out, CX.out, B1.out⟩
    · by_cases h3 : f0 = 3
      · subst h3
        rw [if_neg h1, if_neg h2, if_pos rfl] at hF
        have hX : damperref03_Num.f 12 f2 = some F := by
          rw [← hF, refNum f2 hn.1 hn.2 12 (by omega)]
        have HX := Aside0.mk hX
        clear hX hF hn hs h1 h2
        have HA := Aside0.mk (below_alloc (Below.refl w.heap.size w) (.cells #[.int .i64 3, .int .i64 f1, .int .u64 f2, .int .i64 f3, .slice A f4.length c] 49))
        go_enter Try.func41, Try.ntmps41
        go_wp2_with fail
        refine (damperref03_Num.calls 12 f2 F _ HX.out).mono ?_
        rintro e w1 ⟨v1, rfl, hR, hb⟩
        obtain ⟨X1, x1, rfl, hq, hC⟩ := Kd.R_reads hR
        have CX := Aside0.mk hC
        have QX := Aside0.mk hq
        have B1 := Aside0.mk (Below.trans HA.out (Below.mono hb HA.out.size))
        clear hR hb hC hq HA
        go_wp2
        go_ret
        exact ⟨X1, x1, rfl, QX.out, CX.out, B1.out⟩
      · by_cases h4 : f0 = 4
        · subst h4
          rw [if_neg h1, if_neg h2, if_neg h3, if_pos rfl] at hF
          subst hF
          clear hn hs h1 h2 h3
          have HA := Aside0.mk (below_alloc (Below.refl w.heap.size w) (.cells #[.int .i64 4, .int .i64 f1, .int .u64 f2, .int .i64 f3, .slice A f4.length c] 49))
          have HC2 := Aside0.mk (Kd.C_alloc HC.out (.cells #[.int .i64 4, .int .i64 f1, .int .u64 f2, .int .i64 f3, .slice A f4.length c] 49))
          go_enter Try.func41, Try.ntmps41
          go_wp2
          go_ret
          exact ⟨A, c, rfl, HL.out, HC2.out, HA.out⟩
        · rw [if_neg h1, if_neg h2, if_neg h3, if_neg h4] at hF
          subst hF
          clear hn hs
          have HA := Aside0.mk (below_alloc (Below.refl w.heap.size w) (.cells #[.int .i64 f0, .int .i64 f1, .int .u64 f2, .int .i64 f3, .slice A f4.length c] 49))
          have HC2 := Aside0.mk (Kd.C_nil (Kd.int .u8) (w.alloc (.cells #[.int .i64 f0, .int .i64 f1, .int .u64 f2, .int .i64 f3, .slice A f4.length c] 49)))
          go_enter Try.func41, Try.ntmps41
          go_wp2
          go_ret
          exact ⟨none, 0, rfl, Nat.le_refl _, HC2.out, HA.out⟩
theorem WPost.of_alloc {w w' : World} {g : Nat} {row : Option Nat} {ys : List Int} {o : Obj} (h : WPost (w.alloc o) g row ys w') : WPost w g row ys w' := by
  obtain ⟨row', hs, hr, hf⟩ := h
  refine ⟨row', hs, hr.imp_right (fun ⟨b, hb, hl⟩ => ⟨b, hb, by rw [World.size_alloc] at hl; omega⟩), ((Fr.refl w (fun k => k = g ∨ row = some k)).alloc o).trans hf (fun _ _ h => h)⟩
theorem WS.post {w : World} {g : Nat} {row : Option Nat} {xs : List Int} (h : WS w g row xs) (o : Obj) : WPost w g row xs (w.alloc o) :=
  ⟨row, h.alloc o, .inl rfl, (Fr.refl w _).alloc o⟩
set_option maxRecDepth 100000 in
set_option maxHeartbeats 2000000 in
theorem law03_put_calls (g : Nat) (row : Option Nat) (xs : List Int) (p : S49) (A : Option Addr) (c : Nat) (w : World) (hw : WS w g row xs) (hf : WF49 p) (hC : Kd.C (Kd.int .u8) w A p.f4.length p.f4) (hl : xs.length + p.f4.length + 100 ≤ 140737488355328) :
    Calls Try.prog 42 #[.pointer (some ⟨g, 0, none⟩), .agg #[.int .i64 p.f0, .int .i64 p.f1, .int .u64 p.f2, .int .i64 p.f3, .slice A p.f4.length c]] w fun e w' => e = .returned (.pointer (some ⟨g, 0, none⟩)) ∧ WPost w g row (xs ++ partForm p) w' := by
  obtain ⟨f0, f1, f2, f3, f4⟩ := p
  have hn := hf.n
  have hs := hf.s
  generalize hF : partForm ⟨f0, f1, f2, f3, f4⟩ = F
  unfold partForm at hF
  dsimp only at *
  clear hf
  have hten := numForm_ten f2 hn.2
  by_cases h1 : f0 = 1
  · subst h1
    rw [if_pos rfl] at hF
    by_cases hk : f1 < 1 ∨ 8 < f1
    · rw [if_pos hk] at hF
      subst hF
      have HX := Aside0.mk (octets_Writer_Uint.none g f2 f1 (w.alloc (.cells #[.int .i64 1, .int .i64 f1, .int .u64 f2, .int .i64 f3, .slice A f4.length c] 49)) hk)
      have HS := Aside0.mk hw
      clear hn hs hw hl hten hk
      go_enter Try.func42, Try.ntmps42
      go_wp2_with fail
      refine HX.out.mono ?_
      rintro e w1 ⟨rfl, rfl⟩
      go_wp2
      go_ret
      exact ⟨rfl, by rw [List.append_nil]; exact HS.out.post _⟩
    · rw [if_neg hk] at hF
      subst hF
      have HX := Aside0.mk (octets_Writer_Uint.calls g row xs f2 f1 (w.alloc (.cells #[.int .i64 1, .int .i64 f1, .int .u64 f2, .int .i64 f3, .slice A f4.length c] 49)) hn.1 (hw.alloc _) (by omega) (by omega) (by omega))
      clear hn hs hw hl hten hk
      go_enter Try.func42, Try.ntmps42
      go_wp2_with fail
      refine HX.out.mono ?_
      rintro e w1 ⟨rfl, hp⟩
      have HP := Aside0.mk hp
      clear hp
      go_wp2
      go_ret
      exact ⟨rfl, HP.out.of_alloc⟩
  · by_cases h2 : f0 = 2
    · rw [if_neg h1, if_pos h2] at hF
      subst h2
      subst hF
      have HX := Aside0.mk (octets_Writer_Int.calls g row xs f3 (w.alloc (.cells #[.int .i64 2, .int .i64 f1, .int .u64 f2, .int .i64 f3, .slice A f4.length c] 49)) hs.1 hs.2 (hw.alloc _) (by omega))
      clear hn hs hw hl hten h1 hC
      go_enter Try.func42, Try.ntmps42
      go_wp2_with fail
      refine HX.out.mono ?_
      rintro e w1 ⟨rfl, hp⟩
      have HP := Aside0.mk hp
      clear hp
      go_wp2
      go_ret
      exact ⟨rfl, HP.out.of_alloc⟩
    · by_cases h3 : f0 = 3
      · rw [if_neg h1, if_neg h2, if_pos h3] at hF
        subst h3
        subst hF
        have HX := Aside0.mk (octets_Writer_Num.calls g row xs f2 (w.alloc (.cells #[.int .i64 3, .int .i64 f1, .int .u64 f2, .int .i64 f3, .slice A f4.length c] 49)) hn.1 (hw.alloc _) (by omega))
        clear hn hs hw hl hten h1 h2 hC
        go_enter Try.func42, Try.ntmps42
        go_wp2_with fail
        refine HX.out.mono ?_
        rintro e w1 ⟨rfl, hp⟩
        have HP := Aside0.mk hp
        clear hp
        go_wp2
        go_ret
        exact ⟨rfl, HP.out.of_alloc⟩
      · by_cases h4 : f0 = 4
        · rw [if_neg h1, if_neg h2, if_neg h3, if_pos h4] at hF
          subst h4
          subst hF
          have HX := Aside0.mk (octets_Writer_Raw.calls g row xs f4 A c (w.alloc (.cells #[.int .i64 4, .int .i64 f1, .int .u64 f2, .int .i64 f3, .slice A f4.length c] 49)) (hw.alloc _) (Kd.C_alloc hC _) (by omega))
          clear hn hs hw hl hten h1 h2 h3 hC
          go_enter Try.func42, Try.ntmps42
          go_wp2_with fail
          refine HX.out.mono ?_
          rintro e w1 ⟨rfl, hp⟩
          have HP := Aside0.mk hp
          clear hp
          go_wp2
          go_ret
          exact ⟨rfl, HP.out.of_alloc⟩
        · rw [if_neg h1, if_neg h2, if_neg h3, if_neg h4] at hF
          subst hF
          have HS := Aside0.mk hw
          clear hn hs hw hl hten hC
          go_enter Try.func42, Try.ntmps42
          go_wp2
          go_ret
          exact ⟨rfl, by rw [List.append_nil]; exact HS.out.post _⟩
set_option maxRecDepth 100000 in
set_option maxHeartbeats 2000000 in
theorem law03_put_nil (f0 f1 f2 f3 : Int) (n c : Nat) (A : Option Addr) (w : World) :
    Calls Try.prog 42 #[.pointer none, .agg #[.int .i64 f0, .int .i64 f1, .int .u64 f2, .int .i64 f3, .slice A n c]] w fun e w' => e = .returned (.pointer none) ∧ Below w.heap.size w w' := by
  have HB := Aside0.mk (below_alloc (Below.refl w.heap.size w) (.cells #[.int .i64 f0, .int .i64 f1, .int .u64 f2, .int .i64 f3, .slice A n c] 49))
  by_cases h1 : f0 = 1
  · subst h1
    skip
    go_enter Try.func42, Try.ntmps42
    go_wp2_with fail
    refine (octets_Writer_Uint.nil _ _ _).mono ?_
    rintro e w1 ⟨rfl, rfl⟩
    go_wp2
    go_ret
    exact ⟨rfl, HB.out⟩
  · by_cases h2 : f0 = 2
    · subst h2
      clear h1
      go_enter Try.func42, Try.ntmps42
      go_wp2_with fail
      refine (octets_Writer_Int.nil _ _).mono ?_
      rintro e w1 ⟨rfl, rfl⟩
      go_wp2
      go_ret
      exact ⟨rfl, HB.out⟩
    · by_cases h3 : f0 = 3
      · subst h3
        clear h1 h2
        go_enter Try.func42, Try.ntmps42
        go_wp2_with fail
        refine (octets_Writer_Num.nil _ _).mono ?_
        rintro e w1 ⟨rfl, rfl⟩
        go_wp2
        go_ret
        exact ⟨rfl, HB.out⟩
      · by_cases h4 : f0 = 4
        · subst h4
          clear h1 h2 h3
          go_enter Try.func42, Try.ntmps42
          go_wp2_with fail
          refine (octets_Writer_Raw.nil _ _).mono ?_
          rintro e w1 ⟨rfl, rfl⟩
          go_wp2
          go_ret
          exact ⟨rfl, HB.out⟩
        · go_enter Try.func42, Try.ntmps42
          go_wp2
          go_ret
          exact ⟨rfl, HB.out⟩
end Go.Proofs.Ytalpemoodollpaa.P
/- damperlaw03.got: what a reader reads. -/
namespace Go.Proofs.Ytalpemoodollpaa.P
open Go.RowKit Go.Proofs.YtalpemoodollpaaW.PrintWords Go.Proofs.YtalpemoodollpaaW.PrintLast Go.Proofs.YtalpemoodollpaaW.PrintMore
set_option linter.unusedVariables false
set_option linter.unusedSimpArgs false

theorem RPost.of_alloc {w w' : World} {g : Nat} {row : Option Nat} {s : List Int × Int} {o : Obj} (h : RPost (w.alloc o) g row s w') : RPost w g row s w' :=
  ⟨h.1, ((Fr.refl w (fun k => k = g)).alloc o).trans h.2 (fun _ _ h => h)⟩
theorem RPost.self {w : World} {g : Nat} {row : Option Nat} {s : List Int × Int} (h : RS w g row s) : RPost w g row s w := ⟨h, Fr.refl _ _⟩
/-- Raw, of any length asked. -/
theorem octets_Reader_Raw.any (g : Nat) (row : Option Nat) (s : List Int × Int) (n : Nat) (w : World) (hn : n ≤ 9223372036854775807) (hs : RS w g row s) (hl : s.1.length ≤ 140737488355328) :
    Calls Try.prog 105 #[.pointer (some ⟨g, 0, none⟩), .int .i64 (n : Int)] w fun e w' => ∃ v, e = .returned v ∧ Kd.R (Kd.int .u8) 5 w' w.heap.size (fun _ => True) v (rTake s n).1 ∧ RPost w g row (rTake s n).2.2 w' := by
  have HT := Aside0.mk (octets_Reader_take.calls g row s n w hn hs)
  have hl : (rTake s n).1.length ≤ 140737488355328 := by
    refine Nat.le_trans ?_ hl
    unfold rTake; split; simp; split; simp; simp only [List.length_take]; omega
  have HLT := Aside0.mk hl
  clear hs hl
  generalize rTake s n = T at *
  obtain ⟨xs, ok, st⟩ := T
  simp only at HLT HT ⊢
  have hn0 : 0 ≤ (n : Int) := by omega
  clear hn
  go_enter Try.func105, Try.ntmps105
  go_wp2_with fail
  refine HT.out.mono ?_
  rintro e w' ⟨A, c, rfl, hC, hlc, hY, hP⟩
  have HC := Aside0.mk hC
  have HP := Aside0.mk hP
  clear hC hY hP
  go_wp2_with fail
  refine (bytes_Clone.calls A c xs w' HC.out HLT.out).mono ?_
  rintro e w2 ⟨v, rfl, hR, hB⟩
  have HR := Aside0.mk hR
  have HB := Aside0.mk hB
  clear hR hB
  go_wp2
  go_ret
  have hP := HP.out
  refine ⟨v, rfl, Kd.R_lower HR.out hP.2.size, hP.1.fr (S := fun _ => False) (Fr.of_below HB.out _) (fun h => h) (fun _ _ h => h), hP.2.trans (Fr.of_below HB.out _) (fun _ _ h => h)⟩
/-- What a part reads: N, S, Raw, what is left. -/
def gotF (s : List Int × Int) (p : S49) : Int × Int × List Int × (List Int × Int) :=
  if p.f0 = 1 then ((rUint s p.f1).1, 0, [], (rUint s p.f1).2) else if p.f0 = 2 then (0, unzig (rUint s 8).1, [], (rUint s 8).2) else if p.f0 = 3 then ((rNum s).1, 0, [], (rNum s).2)
  else if p.f0 = 4 then (if p.f1 < 0 then (0, 0, [], s) else (0, 0, (rTake s p.f1.toNat).1, (rTake s p.f1.toNat).2.2)) else (0, 0, [], s)
/-- A box for what is read. -/
def Box5 (W : World) (b : Nat) (n s : Int) (v : Value) (z f : Int) : Prop := W.heap[b]? = some (.cells #[.int .u64 n, .int .i64 s, v, .int .i64 z, .int .i64 f] 81 (0, 0))
theorem Box5.cells {W : World} {b : Nat} {n s z f : Int} {v : Value} (h : Box5 W b n s v z f) : W.cell? ⟨b, 0, none⟩ = some (.int .u64 n) ∧ W.cell? ⟨b, 1, none⟩ = some (.int .i64 s) ∧ W.cell? ⟨b, 2, none⟩ = some v ∧ W.cell? ⟨b, 3, none⟩ = some (.int .i64 z) ∧ W.cell? ⟨b, 4, none⟩ = some (.int .i64 f) :=
  ⟨(blk_cell h 0).trans rfl, (blk_cell h 1).trans rfl, (blk_cell h 2).trans rfl, (blk_cell h 3).trans rfl, (blk_cell h 4).trans rfl⟩
theorem RS.lt {w : World} {g : Nat} {row : Option Nat} {s : List Int × Int} (h : RS w g row s) : g < w.heap.size := by
  obtain ⟨A, c, hb, _⟩ := h
  exact blk_lt hb
theorem RS.far {W : World} {g : Nat} {row : Option Nat} {st : List Int × Int} {b j : Nat} (h : RS W g row st) (hg : b ≠ g) (hr : row ≠ some b) (u : Value) : RS (W.setCell ⟨b, j, none⟩ u) g row st :=
  h.fr ((Fr.refl W (fun k => k = b)).setCell ⟨b, j, none⟩ u (fun _ => rfl)) (fun e => hg e.symm) (fun k hk e => hr (by rw [hk, e]))
theorem RS.far5 {W : World} {g : Nat} {row : Option Nat} {st : List Int × Int} {b : Nat} (h : RS W g row st) (hg : b ≠ g) (hr : row ≠ some b) (n s z f : Int) (v : Value) : RS (((((W.setCell ⟨b, 0, none⟩ (.int .u64 n)).setCell ⟨b, 1, none⟩ (.int .i64 s)).setCell ⟨b, 2, none⟩ v).setCell ⟨b, 3, none⟩ (.int .i64 z)).setCell ⟨b, 4, none⟩ (.int .i64 f)) g row st := (((((h.far hg hr (b := b) (j := 0) (.int .u64 n)).far hg hr (b := b) (j := 1) (.int .i64 s)).far hg hr (b := b) (j := 2) v).far hg hr (b := b) (j := 3) (.int .i64 z)).far hg hr (b := b) (j := 4) (.int .i64 f))
theorem Fr.far5 {w W : World} {S : Nat → Prop} {b : Nat} (h : Fr w W S) (hb : w.heap.size ≤ b) (n s z f : Int) (v : Value) : Fr w (((((W.setCell ⟨b, 0, none⟩ (.int .u64 n)).setCell ⟨b, 1, none⟩ (.int .i64 s)).setCell ⟨b, 2, none⟩ v).setCell ⟨b, 3, none⟩ (.int .i64 z)).setCell ⟨b, 4, none⟩ (.int .i64 f)) S := (Fr.setCell (Fr.setCell (Fr.setCell (Fr.setCell (Fr.setCell h ⟨b, 0, none⟩ (.int .u64 n) (fun hlt => absurd hlt (by show ¬ b < _; omega))) ⟨b, 1, none⟩ (.int .i64 s) (fun hlt => absurd hlt (by show ¬ b < _; omega))) ⟨b, 2, none⟩ v (fun hlt => absurd hlt (by show ¬ b < _; omega))) ⟨b, 3, none⟩ (.int .i64 z) (fun hlt => absurd hlt (by show ¬ b < _; omega))) ⟨b, 4, none⟩ (.int .i64 f) (fun hlt => absurd hlt (by show ¬ b < _; omega)))
theorem Box5.set5 {W : World} {b : Nat} {n0 s0 z0 f0 : Int} {v0 : Value} (h : Box5 W b n0 s0 v0 z0 f0) (n s z f : Int) (v : Value) : Box5 (((((W.setCell ⟨b, 0, none⟩ (.int .u64 n)).setCell ⟨b, 1, none⟩ (.int .i64 s)).setCell ⟨b, 2, none⟩ v).setCell ⟨b, 3, none⟩ (.int .i64 z)).setCell ⟨b, 4, none⟩ (.int .i64 f)) b n s v z f := (blk_set (blk_set (blk_set (blk_set (blk_set h 0 (.int .u64 n)) 1 (.int .i64 s)) 2 v) 3 (.int .i64 z)) 4 (.int .i64 f)).trans (by simp)
theorem RPost.far5 {w W : World} {g : Nat} {row : Option Nat} {st : List Int × Int} {b : Nat} (h : RPost w g row st W) (hb : w.heap.size ≤ b) (hg : g < w.heap.size) (hr : ∀ k, row = some k → k < w.heap.size) (n s z f : Int) (v : Value) : RPost w g row st (((((W.setCell ⟨b, 0, none⟩ (.int .u64 n)).setCell ⟨b, 1, none⟩ (.int .i64 s)).setCell ⟨b, 2, none⟩ v).setCell ⟨b, 3, none⟩ (.int .i64 z)).setCell ⟨b, 4, none⟩ (.int .i64 f)) :=
  ⟨h.1.far5 (by omega) (fun e => by have := hr b e; omega) n s z f v, h.2.far5 hb n s z f v⟩
theorem own_slice {A : Option Addr} {n c k : Nat} (h : A.map (·.block) = some k) : (Value.slice A n c).ownBlock = some k := by
  cases A with
  | none => cases h
  | some a => exact h
theorem C_far5 {W : World} {A : Option Addr} {xs : List Int} {b : Nat} (h : Kd.C (Kd.int .u8) W A xs.length xs) (hb : ∀ k, A.map (·.block) = some k → k ≠ b) (n s z f : Int) (v : Value) : Kd.C (Kd.int .u8) (((((W.setCell ⟨b, 0, none⟩ (.int .u64 n)).setCell ⟨b, 1, none⟩ (.int .i64 s)).setCell ⟨b, 2, none⟩ v).setCell ⟨b, 3, none⟩ (.int .i64 z)).setCell ⟨b, 4, none⟩ (.int .i64 f)) A xs.length xs :=
  Fr.C (S := fun k => k = b) (Fr.setCell (Fr.setCell (Fr.setCell (Fr.setCell (Fr.setCell (Fr.refl W (fun k => k = b)) ⟨b, 0, none⟩ (.int .u64 n) (fun _ => rfl)) ⟨b, 1, none⟩ (.int .i64 s) (fun _ => rfl)) ⟨b, 2, none⟩ v (fun _ => rfl)) ⟨b, 3, none⟩ (.int .i64 z) (fun _ => rfl)) ⟨b, 4, none⟩ (.int .i64 f) (fun _ => rfl)) h (fun k hk e => hb k hk e)
theorem octets_NewReader.calls2 (A : Option Addr) (c : Nat) (bs : List Int) (w : World) (hr : Kd.C (Kd.int .u8) w A bs.length bs) (hl : bs.length ≤ 140737488355328) (hb : Byt bs) :
    Calls Try.prog 60 #[.slice A bs.length c] w fun e w' => ∃ g row, e = .returned (.pointer (some ⟨g, 0, none⟩)) ∧ RS w' g row (bs, 0) ∧ Below w.heap.size w w' ∧ w.heap.size ≤ g ∧ g < w'.heap.size ∧ ∀ k, row = some k → w.heap.size ≤ k ∧ k < w'.heap.size := by
  have HR := Aside0.mk hr
  have HY := Aside0.mk hb
  clear hr hb
  go_enter Try.func60, Try.ntmps60
  go_wp2_with fail
  refine (bytes_Clone.calls A c bs w HR.out hl).mono ?_
  rintro e w' ⟨v0, rfl, hR, hB⟩
  obtain ⟨A1, c1, rfl, hlc, hC⟩ := Kd.R_reads hR
  have hbase := Kd.R_bound hR
  have HC := Aside0.mk hC
  have HB := Aside0.mk hB
  have HBASE := Aside0.mk hbase.1
  clear hR hC hB hbase
  go_wp2
  go_ret
  refine ⟨w'.heap.size, _, rfl, ⟨A1, c1, ?_, hlc, Kd.C_below HC.out (below_alloc (Below.refl _ _) _), rfl, ?_, HY.out⟩, below_alloc HB.out _, HB.out.size, ?_, ?_⟩
  · exact blk_new w' _
  · intro e
    have := HBASE.out w'.heap.size (by cases A1 <;> simp_all [Value.ownBlock])
    omega
  · simp
  · intro k hk
    have := HBASE.out k (by cases A1 <;> simp_all [Value.ownBlock])
    refine ⟨this.2.1, ?_⟩
    rw [World.size_alloc]
    have := this.2.2.1
    omega
set_option maxRecDepth 100000 in
set_option maxHeartbeats 4000000 in
theorem law03_got_calls (g : Nat) (row : Option Nat) (s : List Int × Int) (p : S49) (A : Option Addr) (c : Nat) (w : World) (hs : RS w g row s) (hrow : ∀ k, row = some k → k < w.heap.size) (hw : WF49 p) (hl : s.1.length ≤ 140737488355328) :
    Calls Try.prog 62 #[.pointer (some ⟨g, 0, none⟩), .agg #[.int .i64 p.f0, .int .i64 p.f1, .int .u64 p.f2, .int .i64 p.f3, .slice A p.f4.length c]] w fun e w' =>
      ∃ B m, e = .returned (.agg #[.int .u64 (gotF s p).1, .int .i64 (gotF s p).2.1, .slice B (gotF s p).2.2.1.length m, .int .i64 0, .int .i64 0]) ∧ (gotF s p).2.2.1.length ≤ m ∧ Kd.C (Kd.int .u8) w' B (gotF s p).2.2.1.length (gotF s p).2.2.1 ∧ RPost w g row (gotF s p).2.2.2 w' := by
  have hf1 := Go.Proofs.Ytalpemoodollpaa.row.wf_i64 hw.2.1
  obtain ⟨f0, f1, f2, f3, f4⟩ := p
  generalize hG : gotF s ⟨f0, f1, f2, f3, f4⟩ = G
  unfold gotF at hG
  dsimp only at *
  clear hw
  have hg := hs.lt
  have HGL := Aside0.mk hg
  have HROW := Aside0.mk hrow
  clear hg hrow
  by_cases h1 : f0 = 1
  · rw [if_pos h1] at hG
    subst h1
    have HX := Aside0.mk (octets_Reader_Uint.calls g row s f1 ((w.alloc (.cells #[.int .i64 1, .int .i64 f1, .int .u64 f2, .int .i64 f3, .slice A f4.length c] 49)).alloc (.cells #[.int .u64 0, .int .i64 0, .slice none 0 0, .int .i64 0, .int .i64 0] 81)) ((hs.below (below_alloc (Below.refl _ _) _)).below (below_alloc (Below.refl _ _) _)))
    have HB := Aside0.mk (show Box5 ((w.alloc (.cells #[.int .i64 1, .int .i64 f1, .int .u64 f2, .int .i64 f3, .slice A f4.length c] 49)).alloc (.cells #[.int .u64 0, .int .i64 0, .slice none 0 0, .int .i64 0, .int .i64 0] 81)) (w.heap.size + 1) 0 0 (.slice none 0 0) 0 0 from by
      have := blk_new (w.alloc (.cells #[.int .i64 1, .int .i64 f1, .int .u64 f2, .int .i64 f3, .slice A f4.length c] 49)) (.cells #[.int .u64 0, .int .i64 0, .slice none 0 0, .int .i64 0, .int .i64 0] 81)
      rw [World.size_alloc] at this
      exact this)
    generalize rUint s f1 = T at *
    obtain ⟨tn, ts⟩ := T
    have HG := Aside0.mk hG
    clear hG hs hl hf1
    go_enter Try.func62, Try.ntmps62
    go_wp2_with fail
    refine HX.out.mono ?_
    rintro e w1 ⟨rfl, hp⟩
    have HP := Aside0.mk hp
    have HB1 : Aside0 (Box5 w1 (w.heap.size + 1) 0 0 (.slice none 0 0) 0 0) := ⟨hp.2.blk HB.out (fun hS => by have := HGL.out; omega)⟩
    have HB2 := Aside0.mk (HB1.out.set5 tn 0 0 0 (.slice none 0 0))
    have HP2 := Aside0.mk (HP.out.of_alloc.of_alloc.far5 (b := w.heap.size + 1) (by omega) HGL.out HROW.out tn 0 0 0 (.slice none 0 0))
    clear hp
    obtain ⟨d0, d1, d2, d3, d4⟩ := HB1.out.cells
    have y0 := blk_frozen HB1.out 0
    have y1 := blk_frozen HB1.out 1
    have y2 := blk_frozen HB1.out 2
    have y3 := blk_frozen HB1.out 3
    have y4 := blk_frozen HB1.out 4
    go_wp2
    refine bodyPost_ret (results_cell_row (fn := Try.f62) (p := 4) (ty := 81) rfl _ _ (w.heap.size + 1) 81 #[.int .u64 tn, .int .i64 0, (.slice none 0 0), .int .i64 0, .int .i64 0] (0, 0) _ rfl HB2.out Try.underlying81 rfl (by kernel_rfl)) rfl ?_
    obtain rfl := HG.out
    exact ⟨none, 0, rfl, Nat.le_refl _, Kd.C_nil _ _, HP2.out⟩
  · by_cases h2 : f0 = 2
    · rw [if_neg h1, if_pos h2] at hG
      clear h1
      subst h2
      have HX := Aside0.mk (octets_Reader_Int.calls g row s ((w.alloc (.cells #[.int .i64 2, .int .i64 f1, .int .u64 f2, .int .i64 f3, .slice A f4.length c] 49)).alloc (.cells #[.int .u64 0, .int .i64 0, .slice none 0 0, .int .i64 0, .int .i64 0] 81)) ((hs.below (below_alloc (Below.refl _ _) _)).below (below_alloc (Below.refl _ _) _)))
      have HB := Aside0.mk (show Box5 ((w.alloc (.cells #[.int .i64 2, .int .i64 f1, .int .u64 f2, .int .i64 f3, .slice A f4.length c] 49)).alloc (.cells #[.int .u64 0, .int .i64 0, .slice none 0 0, .int .i64 0, .int .i64 0] 81)) (w.heap.size + 1) 0 0 (.slice none 0 0) 0 0 from by
        have := blk_new (w.alloc (.cells #[.int .i64 2, .int .i64 f1, .int .u64 f2, .int .i64 f3, .slice A f4.length c] 49)) (.cells #[.int .u64 0, .int .i64 0, .slice none 0 0, .int .i64 0, .int .i64 0] 81)
        rw [World.size_alloc] at this
        exact this)
      generalize rUint s 8 = T at *
      obtain ⟨tn, ts⟩ := T
      have HG := Aside0.mk hG
      clear hG hs hl hf1
      go_enter Try.func62, Try.ntmps62
      go_wp2_with fail
      refine HX.out.mono ?_
      rintro e w1 ⟨rfl, hp⟩
      have HP := Aside0.mk hp
      have HB1 : Aside0 (Box5 w1 (w.heap.size + 1) 0 0 (.slice none 0 0) 0 0) := ⟨hp.2.blk HB.out (fun hS => by have := HGL.out; omega)⟩
      have HB2 := Aside0.mk (HB1.out.set5 0 (unzig tn) 0 0 (.slice none 0 0))
      have HP2 := Aside0.mk (HP.out.of_alloc.of_alloc.far5 (b := w.heap.size + 1) (by omega) HGL.out HROW.out 0 (unzig tn) 0 0 (.slice none 0 0))
      clear hp
      obtain ⟨d0, d1, d2, d3, d4⟩ := HB1.out.cells
      have y0 := blk_frozen HB1.out 0
      have y1 := blk_frozen HB1.out 1
      have y2 := blk_frozen HB1.out 2
      have y3 := blk_frozen HB1.out 3
      have y4 := blk_frozen HB1.out 4
      go_wp2
      refine bodyPost_ret (results_cell_row (fn := Try.f62) (p := 4) (ty := 81) rfl _ _ (w.heap.size + 1) 81 #[.int .u64 0, .int .i64 (unzig tn), (.slice none 0 0), .int .i64 0, .int .i64 0] (0, 0) _ rfl HB2.out Try.underlying81 rfl (by kernel_rfl)) rfl ?_
      obtain rfl := HG.out
      exact ⟨none, 0, rfl, Nat.le_refl _, Kd.C_nil _ _, HP2.out⟩
    · by_cases h3 : f0 = 3
      · rw [if_neg h1, if_neg h2, if_pos h3] at hG
        clear h1 h2
        subst h3
        have HX := Aside0.mk (octets_Reader_Num.calls g row s ((w.alloc (.cells #[.int .i64 3, .int .i64 f1, .int .u64 f2, .int .i64 f3, .slice A f4.length c] 49)).alloc (.cells #[.int .u64 0, .int .i64 0, .slice none 0 0, .int .i64 0, .int .i64 0] 81)) ((hs.below (below_alloc (Below.refl _ _) _)).below (below_alloc (Below.refl _ _) _)))
        have HB := Aside0.mk (show Box5 ((w.alloc (.cells #[.int .i64 3, .int .i64 f1, .int .u64 f2, .int .i64 f3, .slice A f4.length c] 49)).alloc (.cells #[.int .u64 0, .int .i64 0, .slice none 0 0, .int .i64 0, .int .i64 0] 81)) (w.heap.size + 1) 0 0 (.slice none 0 0) 0 0 from by
          have := blk_new (w.alloc (.cells #[.int .i64 3, .int .i64 f1, .int .u64 f2, .int .i64 f3, .slice A f4.length c] 49)) (.cells #[.int .u64 0, .int .i64 0, .slice none 0 0, .int .i64 0, .int .i64 0] 81)
          rw [World.size_alloc] at this
          exact this)
        generalize rNum s = T at *
        obtain ⟨tn, ts⟩ := T
        have HG := Aside0.mk hG
        clear hG hs hl hf1
        go_enter Try.func62, Try.ntmps62
        go_wp2_with fail
        refine HX.out.mono ?_
        rintro e w1 ⟨rfl, hp⟩
        have HP := Aside0.mk hp
        have HB1 : Aside0 (Box5 w1 (w.heap.size + 1) 0 0 (.slice none 0 0) 0 0) := ⟨hp.2.blk HB.out (fun hS => by have := HGL.out; omega)⟩
        have HB2 := Aside0.mk (HB1.out.set5 tn 0 0 0 (.slice none 0 0))
        have HP2 := Aside0.mk (HP.out.of_alloc.of_alloc.far5 (b := w.heap.size + 1) (by omega) HGL.out HROW.out tn 0 0 0 (.slice none 0 0))
        clear hp
        obtain ⟨d0, d1, d2, d3, d4⟩ := HB1.out.cells
        have y0 := blk_frozen HB1.out 0
        have y1 := blk_frozen HB1.out 1
        have y2 := blk_frozen HB1.out 2
        have y3 := blk_frozen HB1.out 3
        have y4 := blk_frozen HB1.out 4
        go_wp2
        refine bodyPost_ret (results_cell_row (fn := Try.f62) (p := 4) (ty := 81) rfl _ _ (w.heap.size + 1) 81 #[.int .u64 tn, .int .i64 0, (.slice none 0 0), .int .i64 0, .int .i64 0] (0, 0) _ rfl HB2.out Try.underlying81 rfl (by kernel_rfl)) rfl ?_
        obtain rfl := HG.out
        exact ⟨none, 0, rfl, Nat.le_refl _, Kd.C_nil _ _, HP2.out⟩
      · by_cases h4 : f0 = 4
        · rw [if_neg h1, if_neg h2, if_neg h3, if_pos h4] at hG
          clear h1 h2 h3
          subst h4
          by_cases hneg : f1 < 0
          · rw [if_pos hneg] at hG
            have HX := Aside0.mk (octets_Reader_Raw.neg g f1 ((w.alloc (.cells #[.int .i64 4, .int .i64 f1, .int .u64 f2, .int .i64 f3, .slice A f4.length c] 49)).alloc (.cells #[.int .u64 0, .int .i64 0, .slice none 0 0, .int .i64 0, .int .i64 0] 81)) hneg)
            have HRS := Aside0.mk (show RPost ((w.alloc (.cells #[.int .i64 4, .int .i64 f1, .int .u64 f2, .int .i64 f3, .slice A f4.length c] 49)).alloc (.cells #[.int .u64 0, .int .i64 0, .slice none 0 0, .int .i64 0, .int .i64 0] 81)) g row s ((w.alloc (.cells #[.int .i64 4, .int .i64 f1, .int .u64 f2, .int .i64 f3, .slice A f4.length c] 49)).alloc (.cells #[.int .u64 0, .int .i64 0, .slice none 0 0, .int .i64 0, .int .i64 0] 81)) from RPost.self ((hs.below (below_alloc (Below.refl _ _) _)).below (below_alloc (Below.refl _ _) _)))
            have HB := Aside0.mk (show Box5 ((w.alloc (.cells #[.int .i64 4, .int .i64 f1, .int .u64 f2, .int .i64 f3, .slice A f4.length c] 49)).alloc (.cells #[.int .u64 0, .int .i64 0, .slice none 0 0, .int .i64 0, .int .i64 0] 81)) (w.heap.size + 1) 0 0 (.slice none 0 0) 0 0 from by
              have := blk_new (w.alloc (.cells #[.int .i64 4, .int .i64 f1, .int .u64 f2, .int .i64 f3, .slice A f4.length c] 49)) (.cells #[.int .u64 0, .int .i64 0, .slice none 0 0, .int .i64 0, .int .i64 0] 81)
              rw [World.size_alloc] at this
              exact this)
            have HG := Aside0.mk hG
            clear hG hs hl hf1 hneg
            go_enter Try.func62, Try.ntmps62
            go_wp2_with fail
            refine HX.out.mono ?_
            rintro e w1 ⟨rfl, rfl⟩
            have HB1 := HB
            have HB2 := HB
            have HP2 := Aside0.mk (HRS.out.of_alloc.of_alloc)
            obtain ⟨d0, d1, d2, d3, d4⟩ := HB1.out.cells
            have y0 := blk_frozen HB1.out 0
            have y1 := blk_frozen HB1.out 1
            have y2 := blk_frozen HB1.out 2
            have y3 := blk_frozen HB1.out 3
            have y4 := blk_frozen HB1.out 4
            go_wp2
            refine bodyPost_ret (results_cell_row (fn := Try.f62) (p := 4) (ty := 81) rfl _ _ (w.heap.size + 1) 81 #[.int .u64 0, .int .i64 0, (.slice none 0 0), .int .i64 0, .int .i64 0] (0, 0) _ rfl HB2.out Try.underlying81 rfl (by kernel_rfl)) rfl ?_
            obtain rfl := HG.out
            exact ⟨none, 0, rfl, Nat.le_refl _, Kd.C_nil _ _, HP2.out⟩
          · rw [if_neg hneg] at hG
            obtain ⟨m, rfl⟩ := Int.eq_ofNat_of_zero_le (show 0 ≤ f1 by omega)
            rw [Int.toNat_natCast] at hG
            have HX := Aside0.mk (octets_Reader_Raw.any g row s m ((w.alloc (.cells #[.int .i64 4, .int .i64 (m : Int), .int .u64 f2, .int .i64 f3, .slice A f4.length c] 49)).alloc (.cells #[.int .u64 0, .int .i64 0, .slice none 0 0, .int .i64 0, .int .i64 0] 81)) (by omega) ((hs.below (below_alloc (Below.refl _ _) _)).below (below_alloc (Below.refl _ _) _)) hl)
            have HB := Aside0.mk (show Box5 ((w.alloc (.cells #[.int .i64 4, .int .i64 (m : Int), .int .u64 f2, .int .i64 f3, .slice A f4.length c] 49)).alloc (.cells #[.int .u64 0, .int .i64 0, .slice none 0 0, .int .i64 0, .int .i64 0] 81)) (w.heap.size + 1) 0 0 (.slice none 0 0) 0 0 from by
              have := blk_new (w.alloc (.cells #[.int .i64 4, .int .i64 (m : Int), .int .u64 f2, .int .i64 f3, .slice A f4.length c] 49)) (.cells #[.int .u64 0, .int .i64 0, .slice none 0 0, .int .i64 0, .int .i64 0] 81)
              rw [World.size_alloc] at this
              exact this)
            generalize rTake s m = T at *
            obtain ⟨ts, tok, tst⟩ := T
            have HG := Aside0.mk hG
            clear hG hs hl hf1 hneg
            go_enter Try.func62, Try.ntmps62
            go_wp2_with fail
            refine HX.out.mono ?_
            rintro e w1 ⟨v, rfl, hR, hp⟩
            obtain ⟨B, mm, rfl, hq, hC⟩ := Kd.R_reads hR
            have hbnd := (Kd.R_bound hR).1
            have HC := Aside0.mk hC
            have HQ := Aside0.mk hq
            have HBND := Aside0.mk hbnd
            have HP0 := Aside0.mk hp
            clear hR hC hq hbnd hp
            have HB1 : Aside0 (Box5 w1 (w.heap.size + 1) 0 0 (.slice none 0 0) 0 0) := ⟨HP0.out.2.blk HB.out (fun hS => by have := HGL.out; omega)⟩
            have HB2 := Aside0.mk (HB1.out.set5 0 0 0 0 (.slice B ts.length mm))
            have HP2 := Aside0.mk (HP0.out.of_alloc.of_alloc.far5 (b := w.heap.size + 1) (by omega) HGL.out HROW.out 0 0 0 0 (.slice B ts.length mm))
            have HC2 := Aside0.mk (C_far5 HC.out (b := w.heap.size + 1) (fun k hk e => by have := (HBND.out k (own_slice hk)).2.1; simp only [World.size_alloc] at this; omega) 0 0 0 0 (.slice B ts.length mm))
            obtain ⟨d0, d1, d2, d3, d4⟩ := HB1.out.cells
            have y0 := blk_frozen HB1.out 0
            have y1 := blk_frozen HB1.out 1
            have y2 := blk_frozen HB1.out 2
            have y3 := blk_frozen HB1.out 3
            have y4 := blk_frozen HB1.out 4
            go_wp2
            refine bodyPost_ret (results_cell_row (fn := Try.f62) (p := 4) (ty := 81) rfl _ _ (w.heap.size + 1) 81 #[.int .u64 0, .int .i64 0, (.slice B ts.length mm), .int .i64 0, .int .i64 0] (0, 0) _ rfl HB2.out Try.underlying81 rfl (by kernel_rfl)) rfl ?_
            obtain rfl := HG.out
            exact ⟨B, mm, rfl, HQ.out, HC2.out, HP2.out⟩
        · rw [if_neg h1, if_neg h2, if_neg h3, if_neg h4] at hG
          have HRS := Aside0.mk (show RPost ((w.alloc (.cells #[.int .i64 f0, .int .i64 f1, .int .u64 f2, .int .i64 f3, .slice A f4.length c] 49)).alloc (.cells #[.int .u64 0, .int .i64 0, .slice none 0 0, .int .i64 0, .int .i64 0] 81)) g row s ((w.alloc (.cells #[.int .i64 f0, .int .i64 f1, .int .u64 f2, .int .i64 f3, .slice A f4.length c] 49)).alloc (.cells #[.int .u64 0, .int .i64 0, .slice none 0 0, .int .i64 0, .int .i64 0] 81)) from RPost.self ((hs.below (below_alloc (Below.refl _ _) _)).below (below_alloc (Below.refl _ _) _)))
          have HB := Aside0.mk (show Box5 ((w.alloc (.cells #[.int .i64 f0, .int .i64 f1, .int .u64 f2, .int .i64 f3, .slice A f4.length c] 49)).alloc (.cells #[.int .u64 0, .int .i64 0, .slice none 0 0, .int .i64 0, .int .i64 0] 81)) (w.heap.size + 1) 0 0 (.slice none 0 0) 0 0 from by
            have := blk_new (w.alloc (.cells #[.int .i64 f0, .int .i64 f1, .int .u64 f2, .int .i64 f3, .slice A f4.length c] 49)) (.cells #[.int .u64 0, .int .i64 0, .slice none 0 0, .int .i64 0, .int .i64 0] 81)
            rw [World.size_alloc] at this
            exact this)
          have HG := Aside0.mk hG
          clear hG hs hl hf1
          have HB2 := HB
          have HP2 := Aside0.mk (HRS.out.of_alloc.of_alloc)
          obtain ⟨d0, d1, d2, d3, d4⟩ := HB.out.cells
          have y0 := blk_frozen HB.out 0
          have y1 := blk_frozen HB.out 1
          have y2 := blk_frozen HB.out 2
          have y3 := blk_frozen HB.out 3
          have y4 := blk_frozen HB.out 4
          go_enter Try.func62, Try.ntmps62
          go_wp2
          refine bodyPost_ret (results_cell_row (fn := Try.f62) (p := 4) (ty := 81) rfl _ _ (w.heap.size + 1) 81 #[.int .u64 0, .int .i64 0, (.slice none 0 0), .int .i64 0, .int .i64 0] (0, 0) _ rfl HB2.out Try.underlying81 rfl (by kernel_rfl)) rfl ?_
          obtain rfl := HG.out
          exact ⟨none, 0, rfl, Nat.le_refl _, Kd.C_nil _ _, HP2.out⟩
end Go.Proofs.Ytalpemoodollpaa.P
/- A reader of one's own, call by call. -/
namespace Go.Proofs.Ytalpemoodollpaa.P
open Go.RowKit Go.Proofs.YtalpemoodollpaaW.PrintWords Go.Proofs.YtalpemoodollpaaW.PrintLast Go.Proofs.YtalpemoodollpaaW.PrintMore
set_option linter.unusedVariables false
set_option linter.unusedSimpArgs false
/-- All blocks but g stay. -/
def KeepG (W W1 : World) (g : Nat) : Prop := ∀ (k : Nat) (o : Obj), W.heap[k]? = some o → k ≠ g → W1.heap[k]? = some o
/-- A reader at g, whose block and row lie at lo or behind; below the first world's end all is as it was. -/
structure RK (w0 W : World) (lo g : Nat) (s : List Int × Int) : Prop where
  ex : ∃ row, RS W g row s ∧ ∀ k, row = some k → lo ≤ k
  bel : Below w0.heap.size w0 W
  hlo : w0.heap.size ≤ lo
  hg : lo ≤ g
namespace RK
variable {w0 W W1 : World} {lo g : Nat} {s s1 : List Int × Int}
theorem of_post {row : Option Nat} (hr : ∀ k, row = some k → lo ≤ k) (hB : Below w0.heap.size w0 W) (hlo : w0.heap.size ≤ lo) (hg : lo ≤ g) (hp : RPost W g row s1 W1) : RK w0 W1 lo g s1 ∧ KeepG W W1 g :=
  ⟨⟨⟨row, hp.1, hr⟩, hB.trans (hp.2.below hB.size (fun k hk => by rw [hk]; omega)), hlo, hg⟩, fun k o h hne => hp.2.blk h hne⟩
theorem below (h : RK w0 W lo g s) (hb : Below W.heap.size W W1) : RK w0 W1 lo g s := by
  obtain ⟨⟨row, hs, hr⟩, hB, hlo, hg⟩ := h
  exact ⟨⟨row, hs.below hb, hr⟩, below_then hB hB.size hb, hlo, hg⟩
theorem alloc (h : RK w0 W lo g s) (o : Obj) : RK w0 (W.alloc o) lo g s := h.below (below_alloc (Below.refl _ _) _)
theorem set (h : RK w0 W lo g s) {b j : Nat} (h0 : w0.heap.size ≤ b) (hb : b < lo) (u : Value) : RK w0 (W.setCell ⟨b, j, none⟩ u) lo g s := by
  obtain ⟨⟨row, hs, hr⟩, hB, hlo, hg⟩ := h
  exact ⟨⟨row, hs.far (by omega) (fun e => by have := hr b e; omega) u, hr⟩, hB.setCell (p := ⟨b, j, none⟩) h0 u, hlo, hg⟩
theorem drewN (h : RK w0 W lo g s) (n : Nat) : RK w0 (W.drewN n) lo g s := h.below (pw_below_drewN (Below.refl _ _) n)
theorem bound (h : RK w0 W lo g s) : s.1.length ≤ 9223372036854775807 := by
  obtain ⟨⟨row, ⟨A, c, _, _, hC, _⟩, _⟩, _⟩ := h
  exact C_bound hC
theorem byt (h : RK w0 W lo g s) : Byt s.1 := by
  obtain ⟨⟨row, ⟨A, c, _, _, _, _, _, hb⟩, _⟩, _⟩ := h
  exact hb
theorem lt (h : RK w0 W lo g s) : g < W.heap.size := by
  obtain ⟨⟨row, hs, _⟩, _⟩ := h
  exact hs.lt
theorem uint (h : RK w0 W lo g s) (k : Int) :
    Calls Try.prog 104 #[.pointer (some ⟨g, 0, none⟩), .int .i64 k] W fun e w' => e = .returned (.int .u64 (rUint s k).1) ∧ RK w0 w' lo g (rUint s k).2 ∧ KeepG W w' g := by
  obtain ⟨⟨row, hs, hr⟩, hB, hlo, hg⟩ := h
  exact (octets_Reader_Uint.calls g row s k W hs).mono fun e w' ⟨he, hp⟩ => ⟨he, of_post hr hB hlo hg hp⟩
theorem int (h : RK w0 W lo g s) :
    Calls Try.prog 117 #[.pointer (some ⟨g, 0, none⟩)] W fun e w' => e = .returned (.int .i64 (unzig (rUint s 8).1)) ∧ RK w0 w' lo g (rUint s 8).2 ∧ KeepG W w' g := by
  obtain ⟨⟨row, hs, hr⟩, hB, hlo, hg⟩ := h
  exact (octets_Reader_Int.calls g row s W hs).mono fun e w' ⟨he, hp⟩ => ⟨he, of_post hr hB hlo hg hp⟩
theorem num (h : RK w0 W lo g s) :
    Calls Try.prog 100 #[.pointer (some ⟨g, 0, none⟩)] W fun e w' => e = .returned (.int .u64 (rNum s).1) ∧ RK w0 w' lo g (rNum s).2 ∧ KeepG W w' g := by
  obtain ⟨⟨row, hs, hr⟩, hB, hlo, hg⟩ := h
  exact (octets_Reader_Num.calls g row s W hs).mono fun e w' ⟨he, hp⟩ => ⟨he, of_post hr hB hlo hg hp⟩
theorem fault (h : RK w0 W lo g s) : Calls Try.prog 63 #[.pointer (some ⟨g, 0, none⟩)] W fun e w' => e = .returned (.int .i64 s.2) ∧ W = w' := by
  obtain ⟨⟨row, hs, hr⟩, hB, hlo, hg⟩ := h
  exact octets_Reader_Fault.calls g row s W hs
theorem left (h : RK w0 W lo g s) : Calls Try.prog 64 #[.pointer (some ⟨g, 0, none⟩)] W fun e w' => e = .returned (.int .i64 s.1.length) ∧ W = w' := by
  obtain ⟨⟨row, hs, hr⟩, hB, hlo, hg⟩ := h
  exact octets_Reader_Left.calls g row s W hs
/-- A new one. -/
theorem new (A : Option Addr) (c : Nat) (bs : List Int) (hB : Below w0.heap.size w0 W) (hr : Kd.C (Kd.int .u8) W A bs.length bs) (hl : bs.length ≤ 140737488355328) (hb : Byt bs) :
    Calls Try.prog 60 #[.slice A bs.length c] W fun e w' => ∃ g, e = .returned (.pointer (some ⟨g, 0, none⟩)) ∧ RK w0 w' W.heap.size g (bs, 0) ∧ Below W.heap.size W w' := by
  refine (octets_NewReader.calls A c bs W hr hl hb).mono ?_
  rintro e w' ⟨g, row, he, hs, hbl, hg, _, hrow⟩
  exact ⟨g, he, ⟨⟨row, hs, hrow⟩, below_then hB hB.size hbl, hB.size, hg⟩, hbl⟩
end RK
theorem KeepG.box {W W1 : World} {g t b : Nat} {x0 x1 x2 x3 x4 x5 x6 x7 x8 : Int} (h : KeepG W W1 g) (hb : Box9 W t b x0 x1 x2 x3 x4 x5 x6 x7 x8) (hne : b ≠ g) : Box9 W1 t b x0 x1 x2 x3 x4 x5 x6 x7 x8 := h _ _ hb hne
theorem rUint1_range (s : List Int × Int) (h : Byt s.1) : 0 ≤ (rUint s 1).1 ∧ (rUint s 1).1 ≤ 255 := by
  obtain ⟨l, f⟩ := s
  have z : (0 : Int) ≤ 0 ∧ (0 : Int) ≤ 255 := by decide
  unfold rUint
  rw [if_neg (by decide), show (1 : Int).toNat = 1 from rfl]
  unfold rTake
  split
  · exact z
  · split
    · exact z
    · cases l with
      | nil => exact z
      | cons b bs =>
        have hb := (Byt.cons h).1
        have e : beNum [b] = b := by simp [beNum]
        simp only [List.take_succ_cons, List.take_zero, e]
        exact hb
theorem z64 : (0 : Int) ≤ 0 ∧ (0 : Int) < 18446744073709551616 := by decide
theorem byt_rTake (s : List Int × Int) (n : Nat) (h : Byt s.1) : Byt (rTake s n).2.2.1 := by
  unfold rTake
  split
  · exact h
  · split
    · exact h
    · exact h.drop n
theorem byt_rUint (s : List Int × Int) (k : Int) (h : Byt s.1) : Byt (rUint s k).2.1 := by
  unfold rUint
  split
  · exact h
  · exact byt_rTake s _ h
theorem byt_numGo (k : Nat) : ∀ (i : Nat) (n : Int) (l : List Int), Byt l → Byt (numGo k i n l).2.1 := by
  induction k with
  | zero => intro i n l h; exact h
  | succ k ih =>
    intro i n l h
    cases l with
    | nil => exact Byt.nil
    | cons b bs =>
      rw [numGo]
      split
      · exact h.cons.2
      · split
        · exact ih _ _ _ h.cons.2
        · split <;> exact h.cons.2
theorem byt_rNum (s : List Int × Int) (h : Byt s.1) : Byt (rNum s).2.1 := by
  unfold rNum
  split
  · exact h
  · exact byt_numGo _ _ _ _ h
theorem numGo_range (j : Nat) : ∀ (i : Nat) (n : Int) (l : List Int), Byt l → i + j = 9 → 0 ≤ n → n < ((128 ^ i : Nat) : Int) → 0 ≤ (numGo (j + 1) i n l).1 ∧ (numGo (j + 1) i n l).1 < 18446744073709551616 := by
  induction j with
  | zero =>
    intro i n l h hi h0 h1
    obtain rfl : i = 9 := by omega
    have e9 : ((128 ^ 9 : Nat) : Int) = 9223372036854775808 := by decide
    rw [e9] at h1
    cases l with
    | nil => exact z64
    | cons b bs =>
      have hb := h.cons.1
      rw [numGo]
      split
      · exact z64
      · split
        · exact z64
        · split
          · exact z64
          · rw [e9]
            simp only
            omega
  | succ j ih =>
    intro i n l h hi h0 h1
    cases l with
    | nil => exact z64
    | cons b bs =>
      have hb := h.cons.1
      have hp : (0 : Int) < ((128 ^ i : Nat) : Int) := by exact_mod_cast Nat.pos_of_ne_zero (by simp)
      have hle : ((128 ^ (i + 1) : Nat) : Int) ≤ 9223372036854775808 := by
        have : 128 ^ (i + 1) ≤ 128 ^ 9 := Nat.pow_le_pow_right (by decide) (by omega)
        have e9 : (128 ^ 9 : Nat) = 9223372036854775808 := by decide
        omega
      have hsucc : ((128 ^ (i + 1) : Nat) : Int) = ((128 ^ i : Nat) : Int) * 128 := by rw [Nat.pow_succ]; exact Int.natCast_mul _ _
      have h2 : 0 ≤ b % 128 := by omega
      have h3 : b % 128 ≤ 127 := by omega
      have hm0 : 0 ≤ b % 128 * ((128 ^ i : Nat) : Int) := Int.mul_nonneg h2 (by omega)
      have hm1 : b % 128 * ((128 ^ i : Nat) : Int) ≤ 127 * ((128 ^ i : Nat) : Int) := Int.mul_le_mul_of_nonneg_right h3 (by omega)
      rw [numGo]
      split
      · exact z64
      · split
        · exact ih _ _ _ h.cons.2 (by omega) (by omega) (by omega)
        · split
          · exact z64
          · simp only
            omega
theorem rNum_range (s : List Int × Int) (h : Byt s.1) : 0 ≤ (rNum s).1 ∧ (rNum s).1 < 18446744073709551616 := by
  unfold rNum
  split
  · exact z64
  · exact numGo_range 9 0 0 s.1 h (by omega) (by decide) (by decide)
theorem unzig_range (n : Int) (h0 : 0 ≤ n) (h1 : n < 18446744073709551616) : -9223372036854775808 ≤ unzig n ∧ unzig n ≤ 9223372036854775807 := by
  unfold unzig; split <;> omega
end Go.Proofs.Ytalpemoodollpaa.P
/- The state of a decoding: a reader of one's own, the nine fields. -/
namespace Go.Proofs.Ytalpemoodollpaa.P
open Go.RowKit Go.Proofs.YtalpemoodollpaaW.PrintWords Go.Proofs.YtalpemoodollpaaW.PrintLast Go.Proofs.YtalpemoodollpaaW.PrintMore
set_option linter.unusedVariables false
set_option linter.unusedSimpArgs false
structure DS (w W : World) (t b4 g lo : Nat) (s : List Int × Int) (x0 x1 x2 x3 x4 x5 x6 x7 x8 : Int) : Prop where
  rk : RK w W lo g s
  bx : Box9 W t w.heap.size x0 x1 x2 x3 x4 x5 x6 x7 x8
  c4 : W.heap[b4]? = some (.cells #[.pointer (some ⟨g, 0, none⟩)] 78 (0, 0))
  hb : w.heap.size < lo
  h4 : b4 ≠ g
  h5 : b4 ≠ w.heap.size
namespace DS
variable {w W W1 : World} {t b4 g lo : Nat} {s s1 : List Int × Int} {x0 x1 x2 x3 x4 x5 x6 x7 x8 : Int}
theorem step (h : DS w W t b4 g lo s x0 x1 x2 x3 x4 x5 x6 x7 x8) (hk : RK w W1 lo g s1) (kg : KeepG W W1 g) : DS w W1 t b4 g lo s1 x0 x1 x2 x3 x4 x5 x6 x7 x8 :=
  ⟨hk, kg.box h.bx (by have := h.rk.hg; have := h.hb; omega), kg _ _ h.c4 h.h4, h.hb, h.h4, h.h5⟩
theorem below (h : DS w W t b4 g lo s x0 x1 x2 x3 x4 x5 x6 x7 x8) (hb : Below W.heap.size W W1) : DS w W1 t b4 g lo s x0 x1 x2 x3 x4 x5 x6 x7 x8 :=
  ⟨h.rk.below hb, (hb.block _ (blk_lt h.bx)).trans h.bx, (hb.block _ (blk_lt h.c4)).trans h.c4, h.hb, h.h4, h.h5⟩
theorem num (h : DS w W t b4 g lo s x0 x1 x2 x3 x4 x5 x6 x7 x8) : Calls Try.prog 100 #[.pointer (some ⟨g, 0, none⟩)] W fun e w' => e = .returned (.int .u64 (rNum s).1) ∧ DS w w' t b4 g lo (rNum s).2 x0 x1 x2 x3 x4 x5 x6 x7 x8 :=
  h.rk.num.mono fun e w' ⟨he, hk, kg⟩ => ⟨he, h.step hk kg⟩
theorem int (h : DS w W t b4 g lo s x0 x1 x2 x3 x4 x5 x6 x7 x8) : Calls Try.prog 117 #[.pointer (some ⟨g, 0, none⟩)] W fun e w' => e = .returned (.int .i64 (unzig (rUint s 8).1)) ∧ DS w w' t b4 g lo (rUint s 8).2 x0 x1 x2 x3 x4 x5 x6 x7 x8 :=
  h.rk.int.mono fun e w' ⟨he, hk, kg⟩ => ⟨he, h.step hk kg⟩
theorem cell (h : DS w W t b4 g lo s x0 x1 x2 x3 x4 x5 x6 x7 x8) : W.cell? ⟨b4, 0, none⟩ = some (.pointer (some ⟨g, 0, none⟩)) := (blk_cell h.c4 0).trans rfl
theorem set0 (h : DS w W t b4 g lo s x0 x1 x2 x3 x4 x5 x6 x7 x8) (v : Int) : DS w (W.setCell ⟨w.heap.size, 0, none⟩ (.int .i64 v)) t b4 g lo s v x1 x2 x3 x4 x5 x6 x7 x8 :=
  ⟨h.rk.set (Nat.le_refl _) h.hb _, (blk_set h.bx 0 (.int .i64 v)).trans (by simp), (Below.heap_setCell W ⟨w.heap.size, 0, none⟩ _ b4 h.h5).trans h.c4, h.hb, h.h4, h.h5⟩
theorem set1 (h : DS w W t b4 g lo s x0 x1 x2 x3 x4 x5 x6 x7 x8) (v : Int) : DS w (W.setCell ⟨w.heap.size, 1, none⟩ (.int .i64 v)) t b4 g lo s x0 v x2 x3 x4 x5 x6 x7 x8 :=
  ⟨h.rk.set (Nat.le_refl _) h.hb _, (blk_set h.bx 1 (.int .i64 v)).trans (by simp), (Below.heap_setCell W ⟨w.heap.size, 1, none⟩ _ b4 h.h5).trans h.c4, h.hb, h.h4, h.h5⟩
theorem set2 (h : DS w W t b4 g lo s x0 x1 x2 x3 x4 x5 x6 x7 x8) (v : Int) : DS w (W.setCell ⟨w.heap.size, 2, none⟩ (.int .i64 v)) t b4 g lo s x0 x1 v x3 x4 x5 x6 x7 x8 :=
  ⟨h.rk.set (Nat.le_refl _) h.hb _, (blk_set h.bx 2 (.int .i64 v)).trans (by simp), (Below.heap_setCell W ⟨w.heap.size, 2, none⟩ _ b4 h.h5).trans h.c4, h.hb, h.h4, h.h5⟩
theorem set3 (h : DS w W t b4 g lo s x0 x1 x2 x3 x4 x5 x6 x7 x8) (v : Int) : DS w (W.setCell ⟨w.heap.size, 3, none⟩ (.int .i64 v)) t b4 g lo s x0 x1 x2 v x4 x5 x6 x7 x8 :=
  ⟨h.rk.set (Nat.le_refl _) h.hb _, (blk_set h.bx 3 (.int .i64 v)).trans (by simp), (Below.heap_setCell W ⟨w.heap.size, 3, none⟩ _ b4 h.h5).trans h.c4, h.hb, h.h4, h.h5⟩
theorem set4 (h : DS w W t b4 g lo s x0 x1 x2 x3 x4 x5 x6 x7 x8) (v : Int) : DS w (W.setCell ⟨w.heap.size, 4, none⟩ (.int .i64 v)) t b4 g lo s x0 x1 x2 x3 v x5 x6 x7 x8 :=
  ⟨h.rk.set (Nat.le_refl _) h.hb _, (blk_set h.bx 4 (.int .i64 v)).trans (by simp), (Below.heap_setCell W ⟨w.heap.size, 4, none⟩ _ b4 h.h5).trans h.c4, h.hb, h.h4, h.h5⟩
theorem set5 (h : DS w W t b4 g lo s x0 x1 x2 x3 x4 x5 x6 x7 x8) (v : Int) : DS w (W.setCell ⟨w.heap.size, 5, none⟩ (.int .i64 v)) t b4 g lo s x0 x1 x2 x3 x4 v x6 x7 x8 :=
  ⟨h.rk.set (Nat.le_refl _) h.hb _, (blk_set h.bx 5 (.int .i64 v)).trans (by simp), (Below.heap_setCell W ⟨w.heap.size, 5, none⟩ _ b4 h.h5).trans h.c4, h.hb, h.h4, h.h5⟩
theorem set6 (h : DS w W t b4 g lo s x0 x1 x2 x3 x4 x5 x6 x7 x8) (v : Int) : DS w (W.setCell ⟨w.heap.size, 6, none⟩ (.int .i64 v)) t b4 g lo s x0 x1 x2 x3 x4 x5 v x7 x8 :=
  ⟨h.rk.set (Nat.le_refl _) h.hb _, (blk_set h.bx 6 (.int .i64 v)).trans (by simp), (Below.heap_setCell W ⟨w.heap.size, 6, none⟩ _ b4 h.h5).trans h.c4, h.hb, h.h4, h.h5⟩
theorem set7 (h : DS w W t b4 g lo s x0 x1 x2 x3 x4 x5 x6 x7 x8) (v : Int) : DS w (W.setCell ⟨w.heap.size, 7, none⟩ (.int .i64 v)) t b4 g lo s x0 x1 x2 x3 x4 x5 x6 v x8 :=
  ⟨h.rk.set (Nat.le_refl _) h.hb _, (blk_set h.bx 7 (.int .i64 v)).trans (by simp), (Below.heap_setCell W ⟨w.heap.size, 7, none⟩ _ b4 h.h5).trans h.c4, h.hb, h.h4, h.h5⟩
theorem set8 (h : DS w W t b4 g lo s x0 x1 x2 x3 x4 x5 x6 x7 x8) (v : Int) : DS w (W.setCell ⟨w.heap.size, 8, none⟩ (.int .i64 v)) t b4 g lo s x0 x1 x2 x3 x4 x5 x6 x7 v :=
  ⟨h.rk.set (Nat.le_refl _) h.hb _, (blk_set h.bx 8 (.int .i64 v)).trans (by simp), (Below.heap_setCell W ⟨w.heap.size, 8, none⟩ _ b4 h.h5).trans h.c4, h.hb, h.h4, h.h5⟩
theorem frozen (h : DS w W t b4 g lo s x0 x1 x2 x3 x4 x5 x6 x7 x8) : W.frozen? ⟨w.heap.size, 0, none⟩ = false ∧ W.frozen? ⟨w.heap.size, 1, none⟩ = false ∧ W.frozen? ⟨w.heap.size, 2, none⟩ = false ∧ W.frozen? ⟨w.heap.size, 3, none⟩ = false ∧ W.frozen? ⟨w.heap.size, 4, none⟩ = false ∧ W.frozen? ⟨w.heap.size, 5, none⟩ = false ∧ W.frozen? ⟨w.heap.size, 6, none⟩ = false ∧ W.frozen? ⟨w.heap.size, 7, none⟩ = false ∧ W.frozen? ⟨w.heap.size, 8, none⟩ = false :=
  ⟨blk_frozen h.bx 0, blk_frozen h.bx 1, blk_frozen h.bx 2, blk_frozen h.bx 3, blk_frozen h.bx 4, blk_frozen h.bx 5, blk_frozen h.bx 6, blk_frozen h.bx 7, blk_frozen h.bx 8⟩
end DS
end Go.Proofs.Ytalpemoodollpaa.P
/- The contract of command.Decode. -/
namespace Go.Proofs.Ytalpemoodollpaa.P
open Go.RowKit Go.Proofs.YtalpemoodollpaaW.PrintWords Go.Proofs.YtalpemoodollpaaW.PrintLast Go.Proofs.YtalpemoodollpaaW.PrintMore
set_option linter.unusedVariables false
set_option linter.unusedSimpArgs false
attribute [local go_sem] max2_int min2_int max_two min_two
/-- The end of a decoding: the fault, or the command. -/
def cmdFin (k sym id owner side typ price qty flags : Int) (s : List Int × Int) : Cmd × Int :=
  if s.2 ≠ 0 then (⟨0, 0, 0, 0, 0, 0, 0, 0, 0⟩, s.2)
  else if 0 < s.1.length ∨ cmdRight ⟨k, sym, mn id 4611686018427387905, mn owner 1073741825, side, typ, price, qty, flags⟩ = false then (⟨0, 0, 0, 0, 0, 0, 0, 0, 0⟩, 4)
  else (⟨k, sym, mn id 4611686018427387905, mn owner 1073741825, side, typ, price, qty, flags⟩, 0)
def cmdMid (k sym id owner side typ flags : Int) (s : List Int × Int) : Cmd × Int :=
  if k = 2 then cmdFin k sym id owner side typ 0 0 flags s
  else cmdFin k sym id owner side typ (unzig (rUint s 8).1) (unzig (rUint (rUint s 8).2 8).1) flags (rUint (rUint s 8).2 8).2
def cmdDec (b : List Int) : Cmd × Int :=
  if (rUint (b, 0) 1).2.2 = 0 ∧ ((rUint (b, 0) 1).1 < 1 ∨ 3 < (rUint (b, 0) 1).1) then (⟨0, 0, 0, 0, 0, 0, 0, 0, 0⟩, 4)
  else if (rUint (b, 0) 1).1 = 1 then
    cmdMid 1 (rUint (rUint (b, 0) 1).2 1).1 (rNum (rUint (rUint (b, 0) 1).2 1).2).1 (rNum (rNum (rUint (rUint (b, 0) 1).2 1).2).2).1
      (rUint (rNum (rNum (rUint (rUint (b, 0) 1).2 1).2).2).2 1).1 (rUint (rUint (rNum (rNum (rUint (rUint (b, 0) 1).2 1).2).2).2 1).2 1).1 (rUint (rUint (rUint (rNum (rNum (rUint (rUint (b, 0) 1).2 1).2).2).2 1).2 1).2 1).1
      (rUint (rUint (rUint (rNum (rNum (rUint (rUint (b, 0) 1).2 1).2).2).2 1).2 1).2 1).2
  else cmdMid (rUint (b, 0) 1).1 (rUint (rUint (b, 0) 1).2 1).1 (rNum (rUint (rUint (b, 0) 1).2 1).2).1 0 0 0 0 (rNum (rUint (rUint (b, 0) 1).2 1).2).2
/-- 'one': a byte. -/
theorem RK.one {w0 W : World} {lo g b : Nat} {s : List Int × Int} (h : RK w0 W lo g s) (hc : W.cell? ⟨b, 0, none⟩ = some (.pointer (some ⟨g, 0, none⟩))) :
    Calls Try.prog 121 #[.pointer (some ⟨b, 0, none⟩)] W fun e w' => e = .returned (.int .i64 (rUint s 1).1) ∧ RK w0 w' lo g (rUint s 1).2 ∧ KeepG W w' g := by
  have hr := rUint1_range s h.byt
  have HT := Aside0.mk (h.uint 1)
  clear h
  generalize rUint s 1 = T at *
  obtain ⟨n, s1⟩ := T
  dsimp only at hr
  have h1 := hr.1
  have h2 := hr.2
  clear hr
  go_enter Try.func121, Try.ntmps121
  go_wp2_with fail
  refine HT.out.mono ?_
  rintro e w' ⟨rfl, hk, hg⟩
  have HK := Aside0.mk hk
  have HG := Aside0.mk hg
  clear hk hg
  go_wp2
  go_ret
  exact ⟨rfl, HK.out, HG.out⟩
theorem RK.one' {w W : World} {t b4 g lo : Nat} {s : List Int × Int} {x0 x1 x2 x3 x4 x5 x6 x7 x8 : Int} (h : DS w W t b4 g lo s x0 x1 x2 x3 x4 x5 x6 x7 x8) :
    Calls Try.prog 121 #[.pointer (some ⟨b4, 0, none⟩)] W fun e w' => e = .returned (.int .i64 (rUint s 1).1) ∧ DS w w' t b4 g lo (rUint s 1).2 x0 x1 x2 x3 x4 x5 x6 x7 x8 :=
  (h.rk.one h.cell).mono fun e w' ⟨he, hk, kg⟩ => ⟨he, h.step hk kg⟩
set_option maxRecDepth 100000 in
set_option maxHeartbeats 2000000 in
theorem cmdDec_calls (A0 : Option Addr) (c0 : Nat) (b : List Int) (w : World) (hr0 : Kd.C (Kd.int .u8) w A0 b.length b) (hl : b.length ≤ 140737488355328) (hb : Byt b) :
    Calls Try.prog 72 #[.slice A0 b.length c0] w fun e w' => e = .returned (.tuple #[.agg #[.int .i64 (cmdDec b).1.f0, .int .i64 (cmdDec b).1.f1, .int .i64 (cmdDec b).1.f2, .int .i64 (cmdDec b).1.f3, .int .i64 (cmdDec b).1.f4, .int .i64 (cmdDec b).1.f5, .int .i64 (cmdDec b).1.f6, .int .i64 (cmdDec b).1.f7, .int .i64 (cmdDec b).1.f8], .int .i64 (cmdDec b).2]) ∧ Below w.heap.size w w' := by
  have hu95 := Try.underlying95
  have HR := Aside0.mk hr0
  have HY := Aside0.mk hb
  clear hr0 hb
  generalize hG : cmdDec b = G
  unfold cmdDec at hG
  have HG := Aside0.mk hG
  clear hG
  have B0 := Aside0.mk (below_alloc (Below.refl w.heap.size w) (.cells #[.int .i64 0, .int .i64 0, .int .i64 0, .int .i64 0, .int .i64 0, .int .i64 0, .int .i64 0, .int .i64 0, .int .i64 0] 95))
  have BX0 := Aside0.mk (show Box9 (w.alloc (.cells #[.int .i64 0, .int .i64 0, .int .i64 0, .int .i64 0, .int .i64 0, .int .i64 0, .int .i64 0, .int .i64 0, .int .i64 0] 95)) 95 w.heap.size 0 0 0 0 0 0 0 0 0 from blk_new w _)
  go_enter Try.func72, Try.ntmps72
  go_wp2_with fail
  refine (RK.new (w0 := w) A0 c0 b B0.out (Kd.C_below HR.out B0.out) hl HY.out).mono ?_
  rintro e w1 ⟨g, rfl, hk, hb1⟩
  have BX1 := Aside0.mk (show Box9 w1 95 w.heap.size 0 0 0 0 0 0 0 0 0 from (hb1.block _ (by simp)).trans BX0.out)
  have D1 := Aside0.mk (show DS w (w1.alloc (.cells #[.pointer (some ⟨g, 0, none⟩)] 78)).drew 95 w1.heap.size g (w.heap.size + 1) (b, 0) 0 0 0 0 0 0 0 0 0 from by
    have hk2 := hk
    rw [World.size_alloc] at hk2
    have hk3 := hk2.alloc (.cells #[.pointer (some ⟨g, 0, none⟩)] 78)
    have := hk2.lt
    have := hb1.size
    rw [World.size_alloc] at this
    exact ⟨hk3.below (Below.refl _ _).drew, blk_alloc BX1.out _, blk_new w1 _, by omega, by omega, by omega⟩)
  clear hk hb1
  go_wp2
  go_region
  go_wp2_with fail
  generalize (w1.alloc (.cells #[.pointer (some ⟨g, 0, none⟩)] 78)).drew = w2 at *
  generalize hb4 : w1.heap.size = b4 at *
  clear hb4
  obtain ⟨lo, hlo⟩ : ∃ lo, lo = w.heap.size + 1 := ⟨_, rfl⟩
  rw [← hlo] at D1
  clear hlo BX1 BX0 B0 HY HR hl
  have CX := Aside0.mk (RK.one' D1.out)
  have CR := rUint1_range _ D1.out.rk.byt
  generalize rUint (b, 0) 1 = T at *
  obtain ⟨k, s1⟩ := T
  try dsimp only at *
  have kr := Aside0.mk CR
  clear CR
  refine CX.out.mono ?_
  rintro e w2 ⟨rfl, hd⟩
  have Dw2 := Aside0.mk hd
  clear hd CX
  have D3 := Aside0.mk (Dw2.out.set0 k)
  obtain ⟨c0, c1, c2, c3, c4, c5, c6, c7, c8⟩ := Dw2.out.bx.cells
  obtain ⟨z0, z1, z2, z3, z4, z5, z6, z7, z8⟩ := Dw2.out.frozen
  have cp := Dw2.out.cell
  obtain ⟨e0, e1, e2, e3, e4, e5, e6, e7, e8⟩ := D3.out.bx.cells
  have ep := D3.out.cell
  obtain ⟨l1, f1⟩ := s1
  have FX := Aside0.mk D3.out.rk.fault
  try dsimp only at *
  go_wp2_with fail
  refine FX.out.mono ?_
  rintro e w3 ⟨rfl, rfl⟩
  dsimp only
  clear FX e0 e1 e2 e3 e4 e5 e6 e7 e8 ep
  clear c0 c1 c2 c3 c4 c5 c6 c7 c8 z0 z1 z2 z3 z4 z5 z6 z7 z8 cp
  generalize (w2.setCell ⟨w.heap.size, 0, none⟩ (.int .i64 k)) = w3 at *
  have DZ := Aside0.mk (((((((((D3.out.set0 0).set1 0).set2 0).set3 0).set4 0).set5 0).set6 0).set7 0).set8 0)
  have k0 := kr.out.1
  have k1 := kr.out.2
  by_cases hbad : f1 = 0 ∧ (k < 1 ∨ 3 < k)
  · rw [if_pos hbad] at HG
    obtain rfl := HG.out
    obtain ⟨rfl, hk⟩ := hbad
    obtain ⟨c0, c1, c2, c3, c4, c5, c6, c7, c8⟩ := D3.out.bx.cells
    obtain ⟨z0, z1, z2, z3, z4, z5, z6, z7, z8⟩ := D3.out.frozen
    have cp := D3.out.cell
    by_cases hk1 : k < 1
    · clear hk
      go_wp2
      exact bodyPost_ret (results_ct (fn := Try.f72) (p := 2) (u := 3) (ty := 95) rfl _ _ w.heap.size 95 #[.int .i64 0, .int .i64 0, .int .i64 0, .int .i64 0, .int .i64 0, .int .i64 0, .int .i64 0, .int .i64 0, .int .i64 0] (0, 0) _ rfl DZ.out.bx Try.underlying95 rfl (by kernel_rfl)) rfl ⟨rfl, DZ.out.rk.bel⟩
    · have hk3 : 3 < k := hk.resolve_left hk1
      clear hk
      go_wp2
      exact bodyPost_ret (results_ct (fn := Try.f72) (p := 2) (u := 3) (ty := 95) rfl _ _ w.heap.size 95 #[.int .i64 0, .int .i64 0, .int .i64 0, .int .i64 0, .int .i64 0, .int .i64 0, .int .i64 0, .int .i64 0, .int .i64 0] (0, 0) _ rfl DZ.out.bx Try.underlying95 rfl (by kernel_rfl)) rfl ⟨rfl, DZ.out.rk.bel⟩
  · rw [if_neg hbad] at HG
    have HBAD := Aside0.mk hbad
    clear hbad DZ
    obtain ⟨c0, c1, c2, c3, c4, c5, c6, c7, c8⟩ := D3.out.bx.cells
    obtain ⟨z0, z1, z2, z3, z4, z5, z6, z7, z8⟩ := D3.out.frozen
    have cp := D3.out.cell
    by_cases hf1 : f1 = 0
    · have hk13 : 1 ≤ k ∧ k ≤ 3 := by have := HBAD.out; omega
      have hk1 := hk13.1
      have hk3 := hk13.2
      clear hk13
      subst hf1
      go_wp2_with fail
      clear c0 c1 c2 c3 c4 c5 c6 c7 c8 z0 z1 z2 z3 z4 z5 z6 z7 z8 cp
      have CX := Aside0.mk (RK.one' D3.out)
      have CR := rUint1_range _ D3.out.rk.byt
      generalize rUint (l1, 0) 1 = T at *
      obtain ⟨sym, s2⟩ := T
      try dsimp only at *
      have symr := Aside0.mk CR
      clear CR
      refine CX.out.mono ?_
      rintro e w4 ⟨rfl, hd⟩
      have Dw4 := Aside0.mk hd
      clear hd CX
      have D5 := Aside0.mk (Dw4.out.set1 sym)
      obtain ⟨c0, c1, c2, c3, c4, c5, c6, c7, c8⟩ := Dw4.out.bx.cells
      obtain ⟨z0, z1, z2, z3, z4, z5, z6, z7, z8⟩ := Dw4.out.frozen
      have cp := Dw4.out.cell
      obtain ⟨e0, e1, e2, e3, e4, e5, e6, e7, e8⟩ := D5.out.bx.cells
      have ep := D5.out.cell
      go_wp2_with fail
      clear e0 e1 e2 e3 e4 e5 e6 e7 e8 ep
      clear c0 c1 c2 c3 c4 c5 c6 c7 c8 z0 z1 z2 z3 z4 z5 z6 z7 z8 cp
      generalize (w4.setCell ⟨w.heap.size, 1, none⟩ (.int .i64 sym)) = w5 at *
      have CX := Aside0.mk (D5.out.num)
      have CR := rNum_range _ D5.out.rk.byt
      generalize rNum s2 = T at *
      obtain ⟨id, s3⟩ := T
      try dsimp only at *
      have idr := Aside0.mk CR
      clear CR
      refine CX.out.mono ?_
      rintro e w6 ⟨rfl, hd⟩
      have Dw6 := Aside0.mk hd
      clear hd CX
      by_cases h1 : k = 1
      · subst h1
        rw [if_pos rfl] at HG
        clear k0 k1 kr HBAD
        obtain ⟨c0, c1, c2, c3, c4, c5, c6, c7, c8⟩ := Dw6.out.bx.cells
        obtain ⟨z0, z1, z2, z3, z4, z5, z6, z7, z8⟩ := Dw6.out.frozen
        have cp := Dw6.out.cell
        go_wp2_with fail
        clear c0 c1 c2 c3 c4 c5 c6 c7 c8 z0 z1 z2 z3 z4 z5 z6 z7 z8 cp
        have CX := Aside0.mk (Dw6.out.num)
        have CR := rNum_range _ Dw6.out.rk.byt
        generalize rNum s3 = T at *
        obtain ⟨ow, s4⟩ := T
        try dsimp only at *
        have owr := Aside0.mk CR
        clear CR
        refine CX.out.mono ?_
        rintro e w7 ⟨rfl, hd⟩
        have Dw7 := Aside0.mk hd
        clear hd CX
        obtain ⟨c0, c1, c2, c3, c4, c5, c6, c7, c8⟩ := Dw7.out.bx.cells
        obtain ⟨z0, z1, z2, z3, z4, z5, z6, z7, z8⟩ := Dw7.out.frozen
        have cp := Dw7.out.cell
        go_wp2_with fail
        clear c0 c1 c2 c3 c4 c5 c6 c7 c8 z0 z1 z2 z3 z4 z5 z6 z7 z8 cp
        have CX := Aside0.mk (RK.one' Dw7.out)
        have CR := rUint1_range _ Dw7.out.rk.byt
        generalize rUint s4 1 = T at *
        obtain ⟨sd, s5⟩ := T
        try dsimp only at *
        have sdr := Aside0.mk CR
        clear CR
        refine CX.out.mono ?_
        rintro e w8 ⟨rfl, hd⟩
        have Dw8 := Aside0.mk hd
        clear hd CX
        obtain ⟨c0, c1, c2, c3, c4, c5, c6, c7, c8⟩ := Dw8.out.bx.cells
        obtain ⟨z0, z1, z2, z3, z4, z5, z6, z7, z8⟩ := Dw8.out.frozen
        have cp := Dw8.out.cell
        go_wp2_with fail
        clear c0 c1 c2 c3 c4 c5 c6 c7 c8 z0 z1 z2 z3 z4 z5 z6 z7 z8 cp
        have CX := Aside0.mk (RK.one' Dw8.out)
        have CR := rUint1_range _ Dw8.out.rk.byt
        generalize rUint s5 1 = T at *
        obtain ⟨ty, s6⟩ := T
        try dsimp only at *
        have tyr := Aside0.mk CR
        clear CR
        refine CX.out.mono ?_
        rintro e w9 ⟨rfl, hd⟩
        have Dw9 := Aside0.mk hd
        clear hd CX
        obtain ⟨c0, c1, c2, c3, c4, c5, c6, c7, c8⟩ := Dw9.out.bx.cells
        obtain ⟨z0, z1, z2, z3, z4, z5, z6, z7, z8⟩ := Dw9.out.frozen
        have cp := Dw9.out.cell
        go_wp2_with fail
        clear c0 c1 c2 c3 c4 c5 c6 c7 c8 z0 z1 z2 z3 z4 z5 z6 z7 z8 cp
        have CX := Aside0.mk (RK.one' Dw9.out)
        have CR := rUint1_range _ Dw9.out.rk.byt
        generalize rUint s6 1 = T at *
        obtain ⟨fl, s7⟩ := T
        try dsimp only at *
        have flr := Aside0.mk CR
        clear CR
        refine CX.out.mono ?_
        rintro e w10 ⟨rfl, hd⟩
        have Dw10 := Aside0.mk hd
        clear hd CX
        have DA := Aside0.mk (((Dw10.out.set4 sd).set5 ty).set8 fl)
        obtain ⟨c0, c1, c2, c3, c4, c5, c6, c7, c8⟩ := Dw10.out.bx.cells
        obtain ⟨z0, z1, z2, z3, z4, z5, z6, z7, z8⟩ := Dw10.out.frozen
        have cp := Dw10.out.cell
        obtain ⟨e0, e1, e2, e3, e4, e5, e6, e7, e8⟩ := DA.out.bx.cells
        have ep := DA.out.cell
        unfold cmdMid at HG
        rw [if_neg (by decide)] at HG
        go_wp2_with fail
        clear e0 e1 e2 e3 e4 e5 e6 e7 e8 ep
        clear c0 c1 c2 c3 c4 c5 c6 c7 c8 z0 z1 z2 z3 z4 z5 z6 z7 z8 cp
        generalize (((w10.setCell ⟨w.heap.size, 4, none⟩ (.int .i64 sd)).setCell ⟨w.heap.size, 5, none⟩ (.int .i64 ty)).setCell ⟨w.heap.size, 8, none⟩ (.int .i64 fl)) = w11 at *
        have CX := Aside0.mk (DA.out.int)
        have CR := rUint_range _ 8 DA.out.rk.byt
        generalize rUint s7 8 = T at *
        obtain ⟨pr, s8⟩ := T
        try dsimp only at *
        have prr := Aside0.mk CR
        clear CR
        refine CX.out.mono ?_
        rintro e w12 ⟨rfl, hd⟩
        have Dw12 := Aside0.mk hd
        clear hd CX
        obtain ⟨c0, c1, c2, c3, c4, c5, c6, c7, c8⟩ := Dw12.out.bx.cells
        obtain ⟨z0, z1, z2, z3, z4, z5, z6, z7, z8⟩ := Dw12.out.frozen
        have cp := Dw12.out.cell
        go_wp2_with fail
        clear c0 c1 c2 c3 c4 c5 c6 c7 c8 z0 z1 z2 z3 z4 z5 z6 z7 z8 cp
        have CX := Aside0.mk (Dw12.out.int)
        have CR := rUint_range _ 8 Dw12.out.rk.byt
        generalize rUint s8 8 = T at *
        obtain ⟨qt, s9⟩ := T
        try dsimp only at *
        have qtr := Aside0.mk CR
        clear CR
        refine CX.out.mono ?_
        rintro e w13 ⟨rfl, hd⟩
        have Dw13 := Aside0.mk hd
        clear hd CX
        generalize unzig pr = pz at *
        generalize unzig qt = qz at *
        have DB := Aside0.mk ((Dw13.out.set6 pz).set7 qz)
        obtain ⟨c0, c1, c2, c3, c4, c5, c6, c7, c8⟩ := Dw13.out.bx.cells
        obtain ⟨z0, z1, z2, z3, z4, z5, z6, z7, z8⟩ := Dw13.out.frozen
        have cp := Dw13.out.cell
        obtain ⟨e0, e1, e2, e3, e4, e5, e6, e7, e8⟩ := DB.out.bx.cells
        have ep := DB.out.cell
        have FY := Aside0.mk DB.out.rk.fault
        obtain ⟨ls, fs⟩ := s9
        try dsimp only at *
        go_wp2_with fail
        clear e0 e1 e2 e3 e4 e5 e6 e7 e8 ep
        clear c0 c1 c2 c3 c4 c5 c6 c7 c8 z0 z1 z2 z3 z4 z5 z6 z7 z8 cp
        generalize ((w13.setCell ⟨w.heap.size, 6, none⟩ (.int .i64 pz)).setCell ⟨w.heap.size, 7, none⟩ (.int .i64 qz)) = wB at *
        try dsimp only at FY
        obtain ⟨c0, c1, c2, c3, c4, c5, c6, c7, c8⟩ := DB.out.bx.cells
        obtain ⟨z0, z1, z2, z3, z4, z5, z6, z7, z8⟩ := DB.out.frozen
        have cp := DB.out.cell
        refine FY.out.mono ?_
        rintro e wf ⟨rfl, rfl⟩
        dsimp only
        unfold cmdFin at HG
        try dsimp only at HG
        by_cases hf : fs = 0
        · subst hf
          rw [if_neg (by decide)] at HG
          obtain ⟨m1, hm1⟩ : ∃ m, (if 4611686018427387905 < id then 4611686018427387905 else id) = m := ⟨_, rfl⟩
          obtain ⟨m2, hm2⟩ : ∃ m, (if 1073741825 < ow then 1073741825 else ow) = m := ⟨_, rfl⟩
          have HM2 := Aside0.mk (show mn ow 1073741825 = m2 from hm2)
          have HM1 := Aside0.mk (show mn id 4611686018427387905 = m1 from hm1)
          have hb1 : 0 ≤ m1 ∧ m1 ≤ 4611686018427387905 := by have := idr.out; rw [← hm1]; split <;> omega
          have hb2 : 0 ≤ m2 ∧ m2 ≤ 1073741825 := by have := owr.out; rw [← hm2]; split <;> omega
          have hb21 := hb2.1
          have hb22 := hb2.2
          clear hb2
          have hb11 := hb1.1
          have hb12 := hb1.2
          clear hb1
          rw [HM1.out, HM2.out] at HG
          have DN := Aside0.mk ((DB.out.set2 m1).set3 m2)
          have LX := Aside0.mk DN.out.rk.left
          dsimp only at LX
          clear c0 c1 c2 c3 c4 c5 c6 c7 c8 z0 z1 z2 z3 z4 z5 z6 z7 z8 cp
          obtain ⟨c0, c1, c2, c3, c4, c5, c6, c7, c8⟩ := DB.out.bx.cells
          obtain ⟨z0, z1, z2, z3, z4, z5, z6, z7, z8⟩ := DB.out.frozen
          have cp := DB.out.cell
          obtain ⟨d0, d1, d2, d3, d4, d5, d6, d7, d8⟩ := DN.out.bx.cells
          have dp := DN.out.cell
          go_wp2_with fail
          clear hm1 hm2
          refine LX.out.mono ?_
          rintro e wg ⟨rfl, rfl⟩
          dsimp only
          obtain ⟨lm, hlm⟩ : ∃ m : Int, (ls.length : Int) = m := ⟨_, rfl⟩
          rw [hlm]
          have HLM := Aside0.mk hlm
          clear hlm
          clear d0 d1 d2 d3 d4 d5 d6 d7 d8 dp
          clear c0 c1 c2 c3 c4 c5 c6 c7 c8 z0 z1 z2 z3 z4 z5 z6 z7 z8 cp
          generalize ((wB.setCell ⟨w.heap.size, 2, none⟩ (.int .i64 m1)).setCell ⟨w.heap.size, 3, none⟩ (.int .i64 m2)) = wn at *
          have RX := Aside0.mk (cmdRight_calls 1 sym m1 m2 sd ty pz qz fl wn)
          have DZ := Aside0.mk (((((((((DN.out.set0 0).set1 0).set2 0).set3 0).set4 0).set5 0).set6 0).set7 0).set8 0)
          obtain ⟨c0, c1, c2, c3, c4, c5, c6, c7, c8⟩ := DN.out.bx.cells
          obtain ⟨z0, z1, z2, z3, z4, z5, z6, z7, z8⟩ := DN.out.frozen
          have cp := DN.out.cell
          by_cases hl : 0 < lm
          · rw [if_pos (.inl (by have := HLM.out; omega))] at HG
            have hll : decide (0 < lm) = true := by simpa using hl
            obtain rfl := HG.out
            go_wp2
            exact bodyPost_ret (results_ct (fn := Try.f72) (p := 2) (u := 3) (ty := 95) rfl _ _ w.heap.size 95 #[.int .i64 0, .int .i64 0, .int .i64 0, .int .i64 0, .int .i64 0, .int .i64 0, .int .i64 0, .int .i64 0, .int .i64 0] (0, 0) _ rfl DZ.out.bx Try.underlying95 rfl (by kernel_rfl)) rfl ⟨rfl, DZ.out.rk.bel⟩
          · have hll : decide (0 < lm) = false := by simpa using hl
            have HLN : Aside0 (¬ 0 < ls.length) := ⟨by have := HLM.out; omega⟩
            clear hl
            go_wp2_with fail
            refine RX.out.mono ?_
            rintro e wr ⟨rfl, hbr⟩
            have DR := Aside0.mk (DN.out.below (Below.mono hbr (Nat.le_refl _)))
            have DY := Aside0.mk (((((((((DR.out.set0 0).set1 0).set2 0).set3 0).set4 0).set5 0).set6 0).set7 0).set8 0)
            have DW := Aside0.mk (((((((((DR.out.set0 (1)).set1 (sym)).set2 (m1)).set3 (m2)).set4 (sd)).set5 (ty)).set6 (pz)).set7 (qz)).set8 (fl))
            clear hbr
            clear c0 c1 c2 c3 c4 c5 c6 c7 c8 z0 z1 z2 z3 z4 z5 z6 z7 z8 cp
            obtain ⟨c0, c1, c2, c3, c4, c5, c6, c7, c8⟩ := DR.out.bx.cells
            obtain ⟨z0, z1, z2, z3, z4, z5, z6, z7, z8⟩ := DR.out.frozen
            have cp := DR.out.cell
            cases hr : cmdRight ⟨1, sym, m1, m2, sd, ty, pz, qz, fl⟩ with
            | false =>
              rw [if_pos (.inr hr)] at HG
              obtain rfl := HG.out
              go_wp2
              exact bodyPost_ret (results_ct (fn := Try.f72) (p := 2) (u := 3) (ty := 95) rfl _ _ w.heap.size 95 #[.int .i64 0, .int .i64 0, .int .i64 0, .int .i64 0, .int .i64 0, .int .i64 0, .int .i64 0, .int .i64 0, .int .i64 0] (0, 0) _ rfl DY.out.bx Try.underlying95 rfl (by kernel_rfl)) rfl ⟨rfl, DY.out.rk.bel⟩
            | true =>
              rw [if_neg (by intro h; rcases h with h | h; exact HLN.out h; rw [hr] at h; cases h)] at HG
              obtain rfl := HG.out
              go_wp2
              exact bodyPost_ret (results_ct (fn := Try.f72) (p := 2) (u := 3) (ty := 95) rfl _ _ w.heap.size 95 #[.int .i64 1, .int .i64 sym, .int .i64 m1, .int .i64 m2, .int .i64 sd, .int .i64 ty, .int .i64 pz, .int .i64 qz, .int .i64 fl] (0, 0) _ rfl DW.out.bx Try.underlying95 rfl (by kernel_rfl)) rfl ⟨rfl, DW.out.rk.bel⟩
        · rw [if_pos (by simpa using hf)] at HG
          have hff : (fs != 0) = true := by simpa using hf
          clear hf
          have DZ := Aside0.mk (((((((((DB.out.set0 0).set1 0).set2 0).set3 0).set4 0).set5 0).set6 0).set7 0).set8 0)
          obtain rfl := HG.out
          go_wp2
          exact bodyPost_ret (results_ct (fn := Try.f72) (p := 2) (u := 3) (ty := 95) rfl _ _ w.heap.size 95 #[.int .i64 0, .int .i64 0, .int .i64 0, .int .i64 0, .int .i64 0, .int .i64 0, .int .i64 0, .int .i64 0, .int .i64 0] (0, 0) _ rfl DZ.out.bx Try.underlying95 rfl (by kernel_rfl)) rfl ⟨rfl, DZ.out.rk.bel⟩
      · rw [if_neg h1] at HG
        have H1 := Aside0.mk h1
        have h1b : (k == 1) = false := by simpa using h1
        clear h1
        unfold cmdMid at HG
        by_cases h2 : k = 2
        · subst h2
          rw [if_pos rfl] at HG
          clear h1b
          obtain ⟨ls, fs⟩ := s3
          have FX := Aside0.mk Dw6.out.rk.fault
          try dsimp only at *
          obtain ⟨c0, c1, c2, c3, c4, c5, c6, c7, c8⟩ := Dw6.out.bx.cells
          obtain ⟨z0, z1, z2, z3, z4, z5, z6, z7, z8⟩ := Dw6.out.frozen
          have cp := Dw6.out.cell
          go_wp2_with fail
          refine FX.out.mono ?_
          rintro e wf ⟨rfl, rfl⟩
          dsimp only
          unfold cmdFin at HG
          try dsimp only at HG
          by_cases hf : fs = 0
          · subst hf
            rw [if_neg (by decide)] at HG
            obtain ⟨m1, hm1⟩ : ∃ m, (if 4611686018427387905 < id then 4611686018427387905 else id) = m := ⟨_, rfl⟩
            have HM2 : Aside0 (mn 0 1073741825 = 0) := ⟨by decide⟩
            have HM1 := Aside0.mk (show mn id 4611686018427387905 = m1 from hm1)
            have hb1 : 0 ≤ m1 ∧ m1 ≤ 4611686018427387905 := by have := idr.out; rw [← hm1]; split <;> omega
            have hb11 := hb1.1
            have hb12 := hb1.2
            clear hb1
            rw [HM1.out, HM2.out] at HG
            have DN := Aside0.mk ((Dw6.out.set2 m1).set3 0)
            have LX := Aside0.mk DN.out.rk.left
            dsimp only at LX
            clear c0 c1 c2 c3 c4 c5 c6 c7 c8 z0 z1 z2 z3 z4 z5 z6 z7 z8 cp
            obtain ⟨c0, c1, c2, c3, c4, c5, c6, c7, c8⟩ := Dw6.out.bx.cells
            obtain ⟨z0, z1, z2, z3, z4, z5, z6, z7, z8⟩ := Dw6.out.frozen
            have cp := Dw6.out.cell
            obtain ⟨d0, d1, d2, d3, d4, d5, d6, d7, d8⟩ := DN.out.bx.cells
            have dp := DN.out.cell
            go_wp2_with fail
            clear hm1
            refine LX.out.mono ?_
            rintro e wg ⟨rfl, rfl⟩
            dsimp only
            obtain ⟨lm, hlm⟩ : ∃ m : Int, (ls.length : Int) = m := ⟨_, rfl⟩
            rw [hlm]
            have HLM := Aside0.mk hlm
            clear hlm
            clear d0 d1 d2 d3 d4 d5 d6 d7 d8 dp
            clear c0 c1 c2 c3 c4 c5 c6 c7 c8 z0 z1 z2 z3 z4 z5 z6 z7 z8 cp
            generalize ((w6.setCell ⟨w.heap.size, 2, none⟩ (.int .i64 m1)).setCell ⟨w.heap.size, 3, none⟩ (.int .i64 0)) = wn at *
            have RX := Aside0.mk (cmdRight_calls 2 sym m1 0 0 0 0 0 0 wn)
            have DZ := Aside0.mk (((((((((DN.out.set0 0).set1 0).set2 0).set3 0).set4 0).set5 0).set6 0).set7 0).set8 0)
            obtain ⟨c0, c1, c2, c3, c4, c5, c6, c7, c8⟩ := DN.out.bx.cells
            obtain ⟨z0, z1, z2, z3, z4, z5, z6, z7, z8⟩ := DN.out.frozen
            have cp := DN.out.cell
            by_cases hl : 0 < lm
            · rw [if_pos (.inl (by have := HLM.out; omega))] at HG
              have hll : decide (0 < lm) = true := by simpa using hl
              obtain rfl := HG.out
              go_wp2
              exact bodyPost_ret (results_ct (fn := Try.f72) (p := 2) (u := 3) (ty := 95) rfl _ _ w.heap.size 95 #[.int .i64 0, .int .i64 0, .int .i64 0, .int .i64 0, .int .i64 0, .int .i64 0, .int .i64 0, .int .i64 0, .int .i64 0] (0, 0) _ rfl DZ.out.bx Try.underlying95 rfl (by kernel_rfl)) rfl ⟨rfl, DZ.out.rk.bel⟩
            · have hll : decide (0 < lm) = false := by simpa using hl
              have HLN : Aside0 (¬ 0 < ls.length) := ⟨by have := HLM.out; omega⟩
              clear hl
              go_wp2_with fail
              refine RX.out.mono ?_
              rintro e wr ⟨rfl, hbr⟩
              have DR := Aside0.mk (DN.out.below (Below.mono hbr (Nat.le_refl _)))
              have DY := Aside0.mk (((((((((DR.out.set0 0).set1 0).set2 0).set3 0).set4 0).set5 0).set6 0).set7 0).set8 0)
              have DW := Aside0.mk (((((((((DR.out.set0 (2)).set1 (sym)).set2 (m1)).set3 (0)).set4 (0)).set5 (0)).set6 (0)).set7 (0)).set8 (0))
              clear hbr
              clear c0 c1 c2 c3 c4 c5 c6 c7 c8 z0 z1 z2 z3 z4 z5 z6 z7 z8 cp
              obtain ⟨c0, c1, c2, c3, c4, c5, c6, c7, c8⟩ := DR.out.bx.cells
              obtain ⟨z0, z1, z2, z3, z4, z5, z6, z7, z8⟩ := DR.out.frozen
              have cp := DR.out.cell
              cases hr : cmdRight ⟨2, sym, m1, 0, 0, 0, 0, 0, 0⟩ with
              | false =>
                rw [if_pos (.inr hr)] at HG
                obtain rfl := HG.out
                go_wp2
                exact bodyPost_ret (results_ct (fn := Try.f72) (p := 2) (u := 3) (ty := 95) rfl _ _ w.heap.size 95 #[.int .i64 0, .int .i64 0, .int .i64 0, .int .i64 0, .int .i64 0, .int .i64 0, .int .i64 0, .int .i64 0, .int .i64 0] (0, 0) _ rfl DY.out.bx Try.underlying95 rfl (by kernel_rfl)) rfl ⟨rfl, DY.out.rk.bel⟩
              | true =>
                rw [if_neg (by intro h; rcases h with h | h; exact HLN.out h; rw [hr] at h; cases h)] at HG
                obtain rfl := HG.out
                go_wp2
                exact bodyPost_ret (results_ct (fn := Try.f72) (p := 2) (u := 3) (ty := 95) rfl _ _ w.heap.size 95 #[.int .i64 2, .int .i64 sym, .int .i64 m1, .int .i64 0, .int .i64 0, .int .i64 0, .int .i64 0, .int .i64 0, .int .i64 0] (0, 0) _ rfl DW.out.bx Try.underlying95 rfl (by kernel_rfl)) rfl ⟨rfl, DW.out.rk.bel⟩
          · rw [if_pos (by simpa using hf)] at HG
            have hff : (fs != 0) = true := by simpa using hf
            clear hf
            have DZ := Aside0.mk (((((((((Dw6.out.set0 0).set1 0).set2 0).set3 0).set4 0).set5 0).set6 0).set7 0).set8 0)
            obtain rfl := HG.out
            go_wp2
            exact bodyPost_ret (results_ct (fn := Try.f72) (p := 2) (u := 3) (ty := 95) rfl _ _ w.heap.size 95 #[.int .i64 0, .int .i64 0, .int .i64 0, .int .i64 0, .int .i64 0, .int .i64 0, .int .i64 0, .int .i64 0, .int .i64 0] (0, 0) _ rfl DZ.out.bx Try.underlying95 rfl (by kernel_rfl)) rfl ⟨rfl, DZ.out.rk.bel⟩
        · rw [if_neg h2] at HG
          have H2 := Aside0.mk h2
          have h2b : (k != 2) = true := by simpa using h2
          clear h2
          obtain ⟨c0, c1, c2, c3, c4, c5, c6, c7, c8⟩ := Dw6.out.bx.cells
          obtain ⟨z0, z1, z2, z3, z4, z5, z6, z7, z8⟩ := Dw6.out.frozen
          have cp := Dw6.out.cell
          go_wp2_with fail
          clear c0 c1 c2 c3 c4 c5 c6 c7 c8 z0 z1 z2 z3 z4 z5 z6 z7 z8 cp
          have CX := Aside0.mk (Dw6.out.int)
          have CR := rUint_range _ 8 Dw6.out.rk.byt
          generalize rUint s3 8 = T at *
          obtain ⟨pr, s8⟩ := T
          try dsimp only at *
          have prr := Aside0.mk CR
          clear CR
          refine CX.out.mono ?_
          rintro e w12 ⟨rfl, hd⟩
          have Dw12 := Aside0.mk hd
          clear hd CX
          obtain ⟨c0, c1, c2, c3, c4, c5, c6, c7, c8⟩ := Dw12.out.bx.cells
          obtain ⟨z0, z1, z2, z3, z4, z5, z6, z7, z8⟩ := Dw12.out.frozen
          have cp := Dw12.out.cell
          go_wp2_with fail
          clear c0 c1 c2 c3 c4 c5 c6 c7 c8 z0 z1 z2 z3 z4 z5 z6 z7 z8 cp
          have CX := Aside0.mk (Dw12.out.int)
          have CR := rUint_range _ 8 Dw12.out.rk.byt
          generalize rUint s8 8 = T at *
          obtain ⟨qt, s9⟩ := T
          try dsimp only at *
          have qtr := Aside0.mk CR
          clear CR
          refine CX.out.mono ?_
          rintro e w13 ⟨rfl, hd⟩
          have Dw13 := Aside0.mk hd
          clear hd CX
          generalize unzig pr = pz at *
          generalize unzig qt = qz at *
          have DB := Aside0.mk ((Dw13.out.set6 pz).set7 qz)
          obtain ⟨c0, c1, c2, c3, c4, c5, c6, c7, c8⟩ := Dw13.out.bx.cells
          obtain ⟨z0, z1, z2, z3, z4, z5, z6, z7, z8⟩ := Dw13.out.frozen
          have cp := Dw13.out.cell
          obtain ⟨e0, e1, e2, e3, e4, e5, e6, e7, e8⟩ := DB.out.bx.cells
          have ep := DB.out.cell
          have FY := Aside0.mk DB.out.rk.fault
          obtain ⟨ls, fs⟩ := s9
          try dsimp only at *
          go_wp2_with fail
          clear e0 e1 e2 e3 e4 e5 e6 e7 e8 ep
          clear c0 c1 c2 c3 c4 c5 c6 c7 c8 z0 z1 z2 z3 z4 z5 z6 z7 z8 cp
          generalize ((w13.setCell ⟨w.heap.size, 6, none⟩ (.int .i64 pz)).setCell ⟨w.heap.size, 7, none⟩ (.int .i64 qz)) = wB at *
          try dsimp only at FY
          obtain ⟨c0, c1, c2, c3, c4, c5, c6, c7, c8⟩ := DB.out.bx.cells
          obtain ⟨z0, z1, z2, z3, z4, z5, z6, z7, z8⟩ := DB.out.frozen
          have cp := DB.out.cell
          refine FY.out.mono ?_
          rintro e wf ⟨rfl, rfl⟩
          dsimp only
          unfold cmdFin at HG
          try dsimp only at HG
          by_cases hf : fs = 0
          · subst hf
            rw [if_neg (by decide)] at HG
            obtain ⟨m1, hm1⟩ : ∃ m, (if 4611686018427387905 < id then 4611686018427387905 else id) = m := ⟨_, rfl⟩
            have HM2 : Aside0 (mn 0 1073741825 = 0) := ⟨by decide⟩
            have HM1 := Aside0.mk (show mn id 4611686018427387905 = m1 from hm1)
            have hb1 : 0 ≤ m1 ∧ m1 ≤ 4611686018427387905 := by have := idr.out; rw [← hm1]; split <;> omega
            have hb11 := hb1.1
            have hb12 := hb1.2
            clear hb1
            rw [HM1.out, HM2.out] at HG
            have DN := Aside0.mk ((DB.out.set2 m1).set3 0)
            have LX := Aside0.mk DN.out.rk.left
            dsimp only at LX
            clear c0 c1 c2 c3 c4 c5 c6 c7 c8 z0 z1 z2 z3 z4 z5 z6 z7 z8 cp
            obtain ⟨c0, c1, c2, c3, c4, c5, c6, c7, c8⟩ := DB.out.bx.cells
            obtain ⟨z0, z1, z2, z3, z4, z5, z6, z7, z8⟩ := DB.out.frozen
            have cp := DB.out.cell
            obtain ⟨d0, d1, d2, d3, d4, d5, d6, d7, d8⟩ := DN.out.bx.cells
            have dp := DN.out.cell
            go_wp2_with fail
            clear hm1
            refine LX.out.mono ?_
            rintro e wg ⟨rfl, rfl⟩
            dsimp only
            obtain ⟨lm, hlm⟩ : ∃ m : Int, (ls.length : Int) = m := ⟨_, rfl⟩
            rw [hlm]
            have HLM := Aside0.mk hlm
            clear hlm
            clear d0 d1 d2 d3 d4 d5 d6 d7 d8 dp
            clear c0 c1 c2 c3 c4 c5 c6 c7 c8 z0 z1 z2 z3 z4 z5 z6 z7 z8 cp
            generalize ((wB.setCell ⟨w.heap.size, 2, none⟩ (.int .i64 m1)).setCell ⟨w.heap.size, 3, none⟩ (.int .i64 0)) = wn at *
            have RX := Aside0.mk (cmdRight_calls k sym m1 0 0 0 pz qz 0 wn)
            have DZ := Aside0.mk (((((((((DN.out.set0 0).set1 0).set2 0).set3 0).set4 0).set5 0).set6 0).set7 0).set8 0)
            obtain ⟨c0, c1, c2, c3, c4, c5, c6, c7, c8⟩ := DN.out.bx.cells
            obtain ⟨z0, z1, z2, z3, z4, z5, z6, z7, z8⟩ := DN.out.frozen
            have cp := DN.out.cell
            by_cases hl : 0 < lm
            · rw [if_pos (.inl (by have := HLM.out; omega))] at HG
              have hll : decide (0 < lm) = true := by simpa using hl
              obtain rfl := HG.out
              go_wp2
              exact bodyPost_ret (results_ct (fn := Try.f72) (p := 2) (u := 3) (ty := 95) rfl _ _ w.heap.size 95 #[.int .i64 0, .int .i64 0, .int .i64 0, .int .i64 0, .int .i64 0, .int .i64 0, .int .i64 0, .int .i64 0, .int .i64 0] (0, 0) _ rfl DZ.out.bx Try.underlying95 rfl (by kernel_rfl)) rfl ⟨rfl, DZ.out.rk.bel⟩
            · have hll : decide (0 < lm) = false := by simpa using hl
              have HLN : Aside0 (¬ 0 < ls.length) := ⟨by have := HLM.out; omega⟩
              clear hl
              go_wp2_with fail
              refine RX.out.mono ?_
              rintro e wr ⟨rfl, hbr⟩
              have DR := Aside0.mk (DN.out.below (Below.mono hbr (Nat.le_refl _)))
              have DY := Aside0.mk (((((((((DR.out.set0 0).set1 0).set2 0).set3 0).set4 0).set5 0).set6 0).set7 0).set8 0)
              have DW := Aside0.mk (((((((((DR.out.set0 (k)).set1 (sym)).set2 (m1)).set3 (0)).set4 (0)).set5 (0)).set6 (pz)).set7 (qz)).set8 (0))
              clear hbr
              clear c0 c1 c2 c3 c4 c5 c6 c7 c8 z0 z1 z2 z3 z4 z5 z6 z7 z8 cp
              obtain ⟨c0, c1, c2, c3, c4, c5, c6, c7, c8⟩ := DR.out.bx.cells
              obtain ⟨z0, z1, z2, z3, z4, z5, z6, z7, z8⟩ := DR.out.frozen
              have cp := DR.out.cell
              cases hr : cmdRight ⟨k, sym, m1, 0, 0, 0, pz, qz, 0⟩ with
              | false =>
                rw [if_pos (.inr hr)] at HG
                obtain rfl := HG.out
                go_wp2
                exact bodyPost_ret (results_ct (fn := Try.f72) (p := 2) (u := 3) (ty := 95) rfl _ _ w.heap.size 95 #[.int .i64 0, .int .i64 0, .int .i64 0, .int .i64 0, .int .i64 0, .int .i64 0, .int .i64 0, .int .i64 0, .int .i64 0] (0, 0) _ rfl DY.out.bx Try.underlying95 rfl (by kernel_rfl)) rfl ⟨rfl, DY.out.rk.bel⟩
              | true =>
                rw [if_neg (by intro h; rcases h with h | h; exact HLN.out h; rw [hr] at h; cases h)] at HG
                obtain rfl := HG.out
                go_wp2
                exact bodyPost_ret (results_ct (fn := Try.f72) (p := 2) (u := 3) (ty := 95) rfl _ _ w.heap.size 95 #[.int .i64 k, .int .i64 sym, .int .i64 m1, .int .i64 0, .int .i64 0, .int .i64 0, .int .i64 pz, .int .i64 qz, .int .i64 0] (0, 0) _ rfl DW.out.bx Try.underlying95 rfl (by kernel_rfl)) rfl ⟨rfl, DW.out.rk.bel⟩
          · rw [if_pos (by simpa using hf)] at HG
            have hff : (fs != 0) = true := by simpa using hf
            clear hf
            have DZ := Aside0.mk (((((((((DB.out.set0 0).set1 0).set2 0).set3 0).set4 0).set5 0).set6 0).set7 0).set8 0)
            obtain rfl := HG.out
            go_wp2
            exact bodyPost_ret (results_ct (fn := Try.f72) (p := 2) (u := 3) (ty := 95) rfl _ _ w.heap.size 95 #[.int .i64 0, .int .i64 0, .int .i64 0, .int .i64 0, .int .i64 0, .int .i64 0, .int .i64 0, .int .i64 0, .int .i64 0] (0, 0) _ rfl DZ.out.bx Try.underlying95 rfl (by kernel_rfl)) rfl ⟨rfl, DZ.out.rk.bel⟩
    · have hf1b : (f1 == 0) = false := by simpa using hf1
      clear hf1
      go_wp2_with fail
      clear c0 c1 c2 c3 c4 c5 c6 c7 c8 z0 z1 z2 z3 z4 z5 z6 z7 z8 cp
      have CX := Aside0.mk (RK.one' D3.out)
      have CR := rUint1_range _ D3.out.rk.byt
      generalize rUint (l1, f1) 1 = T at *
      obtain ⟨sym, s2⟩ := T
      try dsimp only at *
      have symr := Aside0.mk CR
      clear CR
      refine CX.out.mono ?_
      rintro e w4 ⟨rfl, hd⟩
      have Dw4 := Aside0.mk hd
      clear hd CX
      have D5 := Aside0.mk (Dw4.out.set1 sym)
      obtain ⟨c0, c1, c2, c3, c4, c5, c6, c7, c8⟩ := Dw4.out.bx.cells
      obtain ⟨z0, z1, z2, z3, z4, z5, z6, z7, z8⟩ := Dw4.out.frozen
      have cp := Dw4.out.cell
      obtain ⟨e0, e1, e2, e3, e4, e5, e6, e7, e8⟩ := D5.out.bx.cells
      have ep := D5.out.cell
      go_wp2_with fail
      clear e0 e1 e2 e3 e4 e5 e6 e7 e8 ep
      clear c0 c1 c2 c3 c4 c5 c6 c7 c8 z0 z1 z2 z3 z4 z5 z6 z7 z8 cp
      generalize (w4.setCell ⟨w.heap.size, 1, none⟩ (.int .i64 sym)) = w5 at *
      have CX := Aside0.mk (D5.out.num)
      have CR := rNum_range _ D5.out.rk.byt
      generalize rNum s2 = T at *
      obtain ⟨id, s3⟩ := T
      try dsimp only at *
      have idr := Aside0.mk CR
      clear CR
      refine CX.out.mono ?_
      rintro e w6 ⟨rfl, hd⟩
      have Dw6 := Aside0.mk hd
      clear hd CX
      by_cases h1 : k = 1
      · subst h1
        rw [if_pos rfl] at HG
        clear k0 k1 kr HBAD
        obtain ⟨c0, c1, c2, c3, c4, c5, c6, c7, c8⟩ := Dw6.out.bx.cells
        obtain ⟨z0, z1, z2, z3, z4, z5, z6, z7, z8⟩ := Dw6.out.frozen
        have cp := Dw6.out.cell
        go_wp2_with fail
        clear c0 c1 c2 c3 c4 c5 c6 c7 c8 z0 z1 z2 z3 z4 z5 z6 z7 z8 cp
        have CX := Aside0.mk (Dw6.out.num)
        have CR := rNum_range _ Dw6.out.rk.byt
        generalize rNum s3 = T at *
        obtain ⟨ow, s4⟩ := T
        try dsimp only at *
        have owr := Aside0.mk CR
        clear CR
        refine CX.out.mono ?_
        rintro e w7 ⟨rfl, hd⟩
        have Dw7 := Aside0.mk hd
        clear hd CX
        obtain ⟨c0, c1, c2, c3, c4, c5, c6, c7, c8⟩ := Dw7.out.bx.cells
        obtain ⟨z0, z1, z2, z3, z4, z5, z6, z7, z8⟩ := Dw7.out.frozen
        have cp := Dw7.out.cell
        go_wp2_with fail
        clear c0 c1 c2 c3 c4 c5 c6 c7 c8 z0 z1 z2 z3 z4 z5 z6 z7 z8 cp
        have CX := Aside0.mk (RK.one' Dw7.out)
        have CR := rUint1_range _ Dw7.out.rk.byt
        generalize rUint s4 1 = T at *
        obtain ⟨sd, s5⟩ := T
        try dsimp only at *
        have sdr := Aside0.mk CR
        clear CR
        refine CX.out.mono ?_
        rintro e w8 ⟨rfl, hd⟩
        have Dw8 := Aside0.mk hd
        clear hd CX
        obtain ⟨c0, c1, c2, c3, c4, c5, c6, c7, c8⟩ := Dw8.out.bx.cells
        obtain ⟨z0, z1, z2, z3, z4, z5, z6, z7, z8⟩ := Dw8.out.frozen
        have cp := Dw8.out.cell
        go_wp2_with fail
        clear c0 c1 c2 c3 c4 c5 c6 c7 c8 z0 z1 z2 z3 z4 z5 z6 z7 z8 cp
        have CX := Aside0.mk (RK.one' Dw8.out)
        have CR := rUint1_range _ Dw8.out.rk.byt
        generalize rUint s5 1 = T at *
        obtain ⟨ty, s6⟩ := T
        try dsimp only at *
        have tyr := Aside0.mk CR
        clear CR
        refine CX.out.mono ?_
        rintro e w9 ⟨rfl, hd⟩
        have Dw9 := Aside0.mk hd
        clear hd CX
        obtain ⟨c0, c1, c2, c3, c4, c5, c6, c7, c8⟩ := Dw9.out.bx.cells
        obtain ⟨z0, z1, z2, z3, z4, z5, z6, z7, z8⟩ := Dw9.out.frozen
        have cp := Dw9.out.cell
        go_wp2_with fail
        clear c0 c1 c2 c3 c4 c5 c6 c7 c8 z0 z1 z2 z3 z4 z5 z6 z7 z8 cp
        have CX := Aside0.mk (RK.one' Dw9.out)
        have CR := rUint1_range _ Dw9.out.rk.byt
        generalize rUint s6 1 = T at *
        obtain ⟨fl, s7⟩ := T
        try dsimp only at *
        have flr := Aside0.mk CR
        clear CR
        refine CX.out.mono ?_
        rintro e w10 ⟨rfl, hd⟩
        have Dw10 := Aside0.mk hd
        clear hd CX
        have DA := Aside0.mk (((Dw10.out.set4 sd).set5 ty).set8 fl)
        obtain ⟨c0, c1, c2, c3, c4, c5, c6, c7, c8⟩ := Dw10.out.bx.cells
        obtain ⟨z0, z1, z2, z3, z4, z5, z6, z7, z8⟩ := Dw10.out.frozen
        have cp := Dw10.out.cell
        obtain ⟨e0, e1, e2, e3, e4, e5, e6, e7, e8⟩ := DA.out.bx.cells
        have ep := DA.out.cell
        unfold cmdMid at HG
        rw [if_neg (by decide)] at HG
        go_wp2_with fail
        clear e0 e1 e2 e3 e4 e5 e6 e7 e8 ep
        clear c0 c1 c2 c3 c4 c5 c6 c7 c8 z0 z1 z2 z3 z4 z5 z6 z7 z8 cp
        generalize (((w10.setCell ⟨w.heap.size, 4, none⟩ (.int .i64 sd)).setCell ⟨w.heap.size, 5, none⟩ (.int .i64 ty)).setCell ⟨w.heap.size, 8, none⟩ (.int .i64 fl)) = w11 at *
        have CX := Aside0.mk (DA.out.int)
        have CR := rUint_range _ 8 DA.out.rk.byt
        generalize rUint s7 8 = T at *
        obtain ⟨pr, s8⟩ := T
        try dsimp only at *
        have prr := Aside0.mk CR
        clear CR
        refine CX.out.mono ?_
        rintro e w12 ⟨rfl, hd⟩
        have Dw12 := Aside0.mk hd
        clear hd CX
        obtain ⟨c0, c1, c2, c3, c4, c5, c6, c7, c8⟩ := Dw12.out.bx.cells
        obtain ⟨z0, z1, z2, z3, z4, z5, z6, z7, z8⟩ := Dw12.out.frozen
        have cp := Dw12.out.cell
        go_wp2_with fail
        clear c0 c1 c2 c3 c4 c5 c6 c7 c8 z0 z1 z2 z3 z4 z5 z6 z7 z8 cp
        have CX := Aside0.mk (Dw12.out.int)
        have CR := rUint_range _ 8 Dw12.out.rk.byt
        generalize rUint s8 8 = T at *
        obtain ⟨qt, s9⟩ := T
        try dsimp only at *
        have qtr := Aside0.mk CR
        clear CR
        refine CX.out.mono ?_
        rintro e w13 ⟨rfl, hd⟩
        have Dw13 := Aside0.mk hd
        clear hd CX
        generalize unzig pr = pz at *
        generalize unzig qt = qz at *
        have DB := Aside0.mk ((Dw13.out.set6 pz).set7 qz)
        obtain ⟨c0, c1, c2, c3, c4, c5, c6, c7, c8⟩ := Dw13.out.bx.cells
        obtain ⟨z0, z1, z2, z3, z4, z5, z6, z7, z8⟩ := Dw13.out.frozen
        have cp := Dw13.out.cell
        obtain ⟨e0, e1, e2, e3, e4, e5, e6, e7, e8⟩ := DB.out.bx.cells
        have ep := DB.out.cell
        have FY := Aside0.mk DB.out.rk.fault
        obtain ⟨ls, fs⟩ := s9
        try dsimp only at *
        go_wp2_with fail
        clear e0 e1 e2 e3 e4 e5 e6 e7 e8 ep
        clear c0 c1 c2 c3 c4 c5 c6 c7 c8 z0 z1 z2 z3 z4 z5 z6 z7 z8 cp
        generalize ((w13.setCell ⟨w.heap.size, 6, none⟩ (.int .i64 pz)).setCell ⟨w.heap.size, 7, none⟩ (.int .i64 qz)) = wB at *
        try dsimp only at FY
        obtain ⟨c0, c1, c2, c3, c4, c5, c6, c7, c8⟩ := DB.out.bx.cells
        obtain ⟨z0, z1, z2, z3, z4, z5, z6, z7, z8⟩ := DB.out.frozen
        have cp := DB.out.cell
        refine FY.out.mono ?_
        rintro e wf ⟨rfl, rfl⟩
        dsimp only
        unfold cmdFin at HG
        try dsimp only at HG
        by_cases hf : fs = 0
        · subst hf
          rw [if_neg (by decide)] at HG
          obtain ⟨m1, hm1⟩ : ∃ m, (if 4611686018427387905 < id then 4611686018427387905 else id) = m := ⟨_, rfl⟩
          obtain ⟨m2, hm2⟩ : ∃ m, (if 1073741825 < ow then 1073741825 else ow) = m := ⟨_, rfl⟩
          have HM2 := Aside0.mk (show mn ow 1073741825 = m2 from hm2)
          have HM1 := Aside0.mk (show mn id 4611686018427387905 = m1 from hm1)
          have hb1 : 0 ≤ m1 ∧ m1 ≤ 4611686018427387905 := by have := idr.out; rw [← hm1]; split <;> omega
          have hb2 : 0 ≤ m2 ∧ m2 ≤ 1073741825 := by have := owr.out; rw [← hm2]; split <;> omega
          have hb21 := hb2.1
          have hb22 := hb2.2
          clear hb2
          have hb11 := hb1.1
          have hb12 := hb1.2
          clear hb1
          rw [HM1.out, HM2.out] at HG
          have DN := Aside0.mk ((DB.out.set2 m1).set3 m2)
          have LX := Aside0.mk DN.out.rk.left
          dsimp only at LX
          clear c0 c1 c2 c3 c4 c5 c6 c7 c8 z0 z1 z2 z3 z4 z5 z6 z7 z8 cp
          obtain ⟨c0, c1, c2, c3, c4, c5, c6, c7, c8⟩ := DB.out.bx.cells
          obtain ⟨z0, z1, z2, z3, z4, z5, z6, z7, z8⟩ := DB.out.frozen
          have cp := DB.out.cell
          obtain ⟨d0, d1, d2, d3, d4, d5, d6, d7, d8⟩ := DN.out.bx.cells
          have dp := DN.out.cell
          go_wp2_with fail
          clear hm1 hm2
          refine LX.out.mono ?_
          rintro e wg ⟨rfl, rfl⟩
          dsimp only
          obtain ⟨lm, hlm⟩ : ∃ m : Int, (ls.length : Int) = m := ⟨_, rfl⟩
          rw [hlm]
          have HLM := Aside0.mk hlm
          clear hlm
          clear d0 d1 d2 d3 d4 d5 d6 d7 d8 dp
          clear c0 c1 c2 c3 c4 c5 c6 c7 c8 z0 z1 z2 z3 z4 z5 z6 z7 z8 cp
          generalize ((wB.setCell ⟨w.heap.size, 2, none⟩ (.int .i64 m1)).setCell ⟨w.heap.size, 3, none⟩ (.int .i64 m2)) = wn at *
          have RX := Aside0.mk (cmdRight_calls 1 sym m1 m2 sd ty pz qz fl wn)
          have DZ := Aside0.mk (((((((((DN.out.set0 0).set1 0).set2 0).set3 0).set4 0).set5 0).set6 0).set7 0).set8 0)
          obtain ⟨c0, c1, c2, c3, c4, c5, c6, c7, c8⟩ := DN.out.bx.cells
          obtain ⟨z0, z1, z2, z3, z4, z5, z6, z7, z8⟩ := DN.out.frozen
          have cp := DN.out.cell
          by_cases hl : 0 < lm
          · rw [if_pos (.inl (by have := HLM.out; omega))] at HG
            have hll : decide (0 < lm) = true := by simpa using hl
            obtain rfl := HG.out
            go_wp2
            exact bodyPost_ret (results_ct (fn := Try.f72) (p := 2) (u := 3) (ty := 95) rfl _ _ w.heap.size 95 #[.int .i64 0, .int .i64 0, .int .i64 0, .int .i64 0, .int .i64 0, .int .i64 0, .int .i64 0, .int .i64 0, .int .i64 0] (0, 0) _ rfl DZ.out.bx Try.underlying95 rfl (by kernel_rfl)) rfl ⟨rfl, DZ.out.rk.bel⟩
          · have hll : decide (0 < lm) = false := by simpa using hl
            have HLN : Aside0 (¬ 0 < ls.length) := ⟨by have := HLM.out; omega⟩
            clear hl
            go_wp2_with fail
            refine RX.out.mono ?_
            rintro e wr ⟨rfl, hbr⟩
            have DR := Aside0.mk (DN.out.below (Below.mono hbr (Nat.le_refl _)))
            have DY := Aside0.mk (((((((((DR.out.set0 0).set1 0).set2 0).set3 0).set4 0).set5 0).set6 0).set7 0).set8 0)
            have DW := Aside0.mk (((((((((DR.out.set0 (1)).set1 (sym)).set2 (m1)).set3 (m2)).set4 (sd)).set5 (ty)).set6 (pz)).set7 (qz)).set8 (fl))
            clear hbr
            clear c0 c1 c2 c3 c4 c5 c6 c7 c8 z0 z1 z2 z3 z4 z5 z6 z7 z8 cp
            obtain ⟨c0, c1, c2, c3, c4, c5, c6, c7, c8⟩ := DR.out.bx.cells
            obtain ⟨z0, z1, z2, z3, z4, z5, z6, z7, z8⟩ := DR.out.frozen
            have cp := DR.out.cell
            cases hr : cmdRight ⟨1, sym, m1, m2, sd, ty, pz, qz, fl⟩ with
            | false =>
              rw [if_pos (.inr hr)] at HG
              obtain rfl := HG.out
              go_wp2
              exact bodyPost_ret (results_ct (fn := Try.f72) (p := 2) (u := 3) (ty := 95) rfl _ _ w.heap.size 95 #[.int .i64 0, .int .i64 0, .int .i64 0, .int .i64 0, .int .i64 0, .int .i64 0, .int .i64 0, .int .i64 0, .int .i64 0] (0, 0) _ rfl DY.out.bx Try.underlying95 rfl (by kernel_rfl)) rfl ⟨rfl, DY.out.rk.bel⟩
            | true =>
              rw [if_neg (by intro h; rcases h with h | h; exact HLN.out h; rw [hr] at h; cases h)] at HG
              obtain rfl := HG.out
              go_wp2
              exact bodyPost_ret (results_ct (fn := Try.f72) (p := 2) (u := 3) (ty := 95) rfl _ _ w.heap.size 95 #[.int .i64 1, .int .i64 sym, .int .i64 m1, .int .i64 m2, .int .i64 sd, .int .i64 ty, .int .i64 pz, .int .i64 qz, .int .i64 fl] (0, 0) _ rfl DW.out.bx Try.underlying95 rfl (by kernel_rfl)) rfl ⟨rfl, DW.out.rk.bel⟩
        · rw [if_pos (by simpa using hf)] at HG
          have hff : (fs != 0) = true := by simpa using hf
          clear hf
          have DZ := Aside0.mk (((((((((DB.out.set0 0).set1 0).set2 0).set3 0).set4 0).set5 0).set6 0).set7 0).set8 0)
          obtain rfl := HG.out
          go_wp2
          exact bodyPost_ret (results_ct (fn := Try.f72) (p := 2) (u := 3) (ty := 95) rfl _ _ w.heap.size 95 #[.int .i64 0, .int .i64 0, .int .i64 0, .int .i64 0, .int .i64 0, .int .i64 0, .int .i64 0, .int .i64 0, .int .i64 0] (0, 0) _ rfl DZ.out.bx Try.underlying95 rfl (by kernel_rfl)) rfl ⟨rfl, DZ.out.rk.bel⟩
      · rw [if_neg h1] at HG
        have H1 := Aside0.mk h1
        have h1b : (k == 1) = false := by simpa using h1
        clear h1
        unfold cmdMid at HG
        by_cases h2 : k = 2
        · subst h2
          rw [if_pos rfl] at HG
          clear h1b
          obtain ⟨ls, fs⟩ := s3
          have FX := Aside0.mk Dw6.out.rk.fault
          try dsimp only at *
          obtain ⟨c0, c1, c2, c3, c4, c5, c6, c7, c8⟩ := Dw6.out.bx.cells
          obtain ⟨z0, z1, z2, z3, z4, z5, z6, z7, z8⟩ := Dw6.out.frozen
          have cp := Dw6.out.cell
          go_wp2_with fail
          refine FX.out.mono ?_
          rintro e wf ⟨rfl, rfl⟩
          dsimp only
          unfold cmdFin at HG
          try dsimp only at HG
          by_cases hf : fs = 0
          · subst hf
            rw [if_neg (by decide)] at HG
            obtain ⟨m1, hm1⟩ : ∃ m, (if 4611686018427387905 < id then 4611686018427387905 else id) = m := ⟨_, rfl⟩
            have HM2 : Aside0 (mn 0 1073741825 = 0) := ⟨by decide⟩
            have HM1 := Aside0.mk (show mn id 4611686018427387905 = m1 from hm1)
            have hb1 : 0 ≤ m1 ∧ m1 ≤ 4611686018427387905 := by have := idr.out; rw [← hm1]; split <;> omega
            have hb11 := hb1.1
            have hb12 := hb1.2
            clear hb1
            rw [HM1.out, HM2.out] at HG
            have DN := Aside0.mk ((Dw6.out.set2 m1).set3 0)
            have LX := Aside0.mk DN.out.rk.left
            dsimp only at LX
            clear c0 c1 c2 c3 c4 c5 c6 c7 c8 z0 z1 z2 z3 z4 z5 z6 z7 z8 cp
            obtain ⟨c0, c1, c2, c3, c4, c5, c6, c7, c8⟩ := Dw6.out.bx.cells
            obtain ⟨z0, z1, z2, z3, z4, z5, z6, z7, z8⟩ := Dw6.out.frozen
            have cp := Dw6.out.cell
            obtain ⟨d0, d1, d2, d3, d4, d5, d6, d7, d8⟩ := DN.out.bx.cells
            have dp := DN.out.cell
            go_wp2_with fail
            clear hm1
            refine LX.out.mono ?_
            rintro e wg ⟨rfl, rfl⟩
            dsimp only
            obtain ⟨lm, hlm⟩ : ∃ m : Int, (ls.length : Int) = m := ⟨_, rfl⟩
            rw [hlm]
            have HLM := Aside0.mk hlm
            clear hlm
            clear d0 d1 d2 d3 d4 d5 d6 d7 d8 dp
            clear c0 c1 c2 c3 c4 c5 c6 c7 c8 z0 z1 z2 z3 z4 z5 z6 z7 z8 cp
            generalize ((w6.setCell ⟨w.heap.size, 2, none⟩ (.int .i64 m1)).setCell ⟨w.heap.size, 3, none⟩ (.int .i64 0)) = wn at *
            have RX := Aside0.mk (cmdRight_calls 2 sym m1 0 0 0 0 0 0 wn)
            have DZ := Aside0.mk (((((((((DN.out.set0 0).set1 0).set2 0).set3 0).set4 0).set5 0).set6 0).set7 0).set8 0)
            obtain ⟨c0, c1, c2, c3, c4, c5, c6, c7, c8⟩ := DN.out.bx.cells
            obtain ⟨z0, z1, z2, z3, z4, z5, z6, z7, z8⟩ := DN.out.frozen
            have cp := DN.out.cell
            by_cases hl : 0 < lm
            · rw [if_pos (.inl (by have := HLM.out; omega))] at HG
              have hll : decide (0 < lm) = true := by simpa using hl
              obtain rfl := HG.out
              go_wp2
              exact bodyPost_ret (results_ct (fn := Try.f72) (p := 2) (u := 3) (ty := 95) rfl _ _ w.heap.size 95 #[.int .i64 0, .int .i64 0, .int .i64 0, .int .i64 0, .int .i64 0, .int .i64 0, .int .i64 0, .int .i64 0, .int .i64 0] (0, 0) _ rfl DZ.out.bx Try.underlying95 rfl (by kernel_rfl)) rfl ⟨rfl, DZ.out.rk.bel⟩
            · have hll : decide (0 < lm) = false := by simpa using hl
              have HLN : Aside0 (¬ 0 < ls.length) := ⟨by have := HLM.out; omega⟩
              clear hl
              go_wp2_with fail
              refine RX.out.mono ?_
              rintro e wr ⟨rfl, hbr⟩
              have DR := Aside0.mk (DN.out.below (Below.mono hbr (Nat.le_refl _)))
              have DY := Aside0.mk (((((((((DR.out.set0 0).set1 0).set2 0).set3 0).set4 0).set5 0).set6 0).set7 0).set8 0)
              have DW := Aside0.mk (((((((((DR.out.set0 (2)).set1 (sym)).set2 (m1)).set3 (0)).set4 (0)).set5 (0)).set6 (0)).set7 (0)).set8 (0))
              clear hbr
              clear c0 c1 c2 c3 c4 c5 c6 c7 c8 z0 z1 z2 z3 z4 z5 z6 z7 z8 cp
              obtain ⟨c0, c1, c2, c3, c4, c5, c6, c7, c8⟩ := DR.out.bx.cells
              obtain ⟨z0, z1, z2, z3, z4, z5, z6, z7, z8⟩ := DR.out.frozen
              have cp := DR.out.cell
              cases hr : cmdRight ⟨2, sym, m1, 0, 0, 0, 0, 0, 0⟩ with
              | false =>
                rw [if_pos (.inr hr)] at HG
                obtain rfl := HG.out
                go_wp2
                exact bodyPost_ret (results_ct (fn := Try.f72) (p := 2) (u := 3) (ty := 95) rfl _ _ w.heap.size 95 #[.int .i64 0, .int .i64 0, .int .i64 0, .int .i64 0, .int .i64 0, .int .i64 0, .int .i64 0, .int .i64 0, .int .i64 0] (0, 0) _ rfl DY.out.bx Try.underlying95 rfl (by kernel_rfl)) rfl ⟨rfl, DY.out.rk.bel⟩
              | true =>
                rw [if_neg (by intro h; rcases h with h | h; exact HLN.out h; rw [hr] at h; cases h)] at HG
                obtain rfl := HG.out
                go_wp2
                exact bodyPost_ret (results_ct (fn := Try.f72) (p := 2) (u := 3) (ty := 95) rfl _ _ w.heap.size 95 #[.int .i64 2, .int .i64 sym, .int .i64 m1, .int .i64 0, .int .i64 0, .int .i64 0, .int .i64 0, .int .i64 0, .int .i64 0] (0, 0) _ rfl DW.out.bx Try.underlying95 rfl (by kernel_rfl)) rfl ⟨rfl, DW.out.rk.bel⟩
          · rw [if_pos (by simpa using hf)] at HG
            have hff : (fs != 0) = true := by simpa using hf
            clear hf
            have DZ := Aside0.mk (((((((((Dw6.out.set0 0).set1 0).set2 0).set3 0).set4 0).set5 0).set6 0).set7 0).set8 0)
            obtain rfl := HG.out
            go_wp2
            exact bodyPost_ret (results_ct (fn := Try.f72) (p := 2) (u := 3) (ty := 95) rfl _ _ w.heap.size 95 #[.int .i64 0, .int .i64 0, .int .i64 0, .int .i64 0, .int .i64 0, .int .i64 0, .int .i64 0, .int .i64 0, .int .i64 0] (0, 0) _ rfl DZ.out.bx Try.underlying95 rfl (by kernel_rfl)) rfl ⟨rfl, DZ.out.rk.bel⟩
        · rw [if_neg h2] at HG
          have H2 := Aside0.mk h2
          have h2b : (k != 2) = true := by simpa using h2
          clear h2
          obtain ⟨c0, c1, c2, c3, c4, c5, c6, c7, c8⟩ := Dw6.out.bx.cells
          obtain ⟨z0, z1, z2, z3, z4, z5, z6, z7, z8⟩ := Dw6.out.frozen
          have cp := Dw6.out.cell
          go_wp2_with fail
          clear c0 c1 c2 c3 c4 c5 c6 c7 c8 z0 z1 z2 z3 z4 z5 z6 z7 z8 cp
          have CX := Aside0.mk (Dw6.out.int)
          have CR := rUint_range _ 8 Dw6.out.rk.byt
          generalize rUint s3 8 = T at *
          obtain ⟨pr, s8⟩ := T
          try dsimp only at *
          have prr := Aside0.mk CR
          clear CR
          refine CX.out.mono ?_
          rintro e w12 ⟨rfl, hd⟩
          have Dw12 := Aside0.mk hd
          clear hd CX
          obtain ⟨c0, c1, c2, c3, c4, c5, c6, c7, c8⟩ := Dw12.out.bx.cells
          obtain ⟨z0, z1, z2, z3, z4, z5, z6, z7, z8⟩ := Dw12.out.frozen
          have cp := Dw12.out.cell
          go_wp2_with fail
          clear c0 c1 c2 c3 c4 c5 c6 c7 c8 z0 z1 z2 z3 z4 z5 z6 z7 z8 cp
          have CX := Aside0.mk (Dw12.out.int)
          have CR := rUint_range _ 8 Dw12.out.rk.byt
          generalize rUint s8 8 = T at *
          obtain ⟨qt, s9⟩ := T
          try dsimp only at *
          have qtr := Aside0.mk CR
          clear CR
          refine CX.out.mono ?_
          rintro e w13 ⟨rfl, hd⟩
          have Dw13 := Aside0.mk hd
          clear hd CX
          generalize unzig pr = pz at *
          generalize unzig qt = qz at *
          have DB := Aside0.mk ((Dw13.out.set6 pz).set7 qz)
          obtain ⟨c0, c1, c2, c3, c4, c5, c6, c7, c8⟩ := Dw13.out.bx.cells
          obtain ⟨z0, z1, z2, z3, z4, z5, z6, z7, z8⟩ := Dw13.out.frozen
          have cp := Dw13.out.cell
          obtain ⟨e0, e1, e2, e3, e4, e5, e6, e7, e8⟩ := DB.out.bx.cells
          have ep := DB.out.cell
          have FY := Aside0.mk DB.out.rk.fault
          obtain ⟨ls, fs⟩ := s9
          try dsimp only at *
          go_wp2_with fail
          clear e0 e1 e2 e3 e4 e5 e6 e7 e8 ep
          clear c0 c1 c2 c3 c4 c5 c6 c7 c8 z0 z1 z2 z3 z4 z5 z6 z7 z8 cp
          generalize ((w13.setCell ⟨w.heap.size, 6, none⟩ (.int .i64 pz)).setCell ⟨w.heap.size, 7, none⟩ (.int .i64 qz)) = wB at *
          try dsimp only at FY
          obtain ⟨c0, c1, c2, c3, c4, c5, c6, c7, c8⟩ := DB.out.bx.cells
          obtain ⟨z0, z1, z2, z3, z4, z5, z6, z7, z8⟩ := DB.out.frozen
          have cp := DB.out.cell
          refine FY.out.mono ?_
          rintro e wf ⟨rfl, rfl⟩
          dsimp only
          unfold cmdFin at HG
          try dsimp only at HG
          by_cases hf : fs = 0
          · subst hf
            rw [if_neg (by decide)] at HG
            obtain ⟨m1, hm1⟩ : ∃ m, (if 4611686018427387905 < id then 4611686018427387905 else id) = m := ⟨_, rfl⟩
            have HM2 : Aside0 (mn 0 1073741825 = 0) := ⟨by decide⟩
            have HM1 := Aside0.mk (show mn id 4611686018427387905 = m1 from hm1)
            have hb1 : 0 ≤ m1 ∧ m1 ≤ 4611686018427387905 := by have := idr.out; rw [← hm1]; split <;> omega
            have hb11 := hb1.1
            have hb12 := hb1.2
            clear hb1
            rw [HM1.out, HM2.out] at HG
            have DN := Aside0.mk ((DB.out.set2 m1).set3 0)
            have LX := Aside0.mk DN.out.rk.left
            dsimp only at LX
            clear c0 c1 c2 c3 c4 c5 c6 c7 c8 z0 z1 z2 z3 z4 z5 z6 z7 z8 cp
            obtain ⟨c0, c1, c2, c3, c4, c5, c6, c7, c8⟩ := DB.out.bx.cells
            obtain ⟨z0, z1, z2, z3, z4, z5, z6, z7, z8⟩ := DB.out.frozen
            have cp := DB.out.cell
            obtain ⟨d0, d1, d2, d3, d4, d5, d6, d7, d8⟩ := DN.out.bx.cells
            have dp := DN.out.cell
            go_wp2_with fail
            clear hm1
            refine LX.out.mono ?_
            rintro e wg ⟨rfl, rfl⟩
            dsimp only
            obtain ⟨lm, hlm⟩ : ∃ m : Int, (ls.length : Int) = m := ⟨_, rfl⟩
            rw [hlm]
            have HLM := Aside0.mk hlm
            clear hlm
            clear d0 d1 d2 d3 d4 d5 d6 d7 d8 dp
            clear c0 c1 c2 c3 c4 c5 c6 c7 c8 z0 z1 z2 z3 z4 z5 z6 z7 z8 cp
            generalize ((wB.setCell ⟨w.heap.size, 2, none⟩ (.int .i64 m1)).setCell ⟨w.heap.size, 3, none⟩ (.int .i64 0)) = wn at *
            have RX := Aside0.mk (cmdRight_calls k sym m1 0 0 0 pz qz 0 wn)
            have DZ := Aside0.mk (((((((((DN.out.set0 0).set1 0).set2 0).set3 0).set4 0).set5 0).set6 0).set7 0).set8 0)
            obtain ⟨c0, c1, c2, c3, c4, c5, c6, c7, c8⟩ := DN.out.bx.cells
            obtain ⟨z0, z1, z2, z3, z4, z5, z6, z7, z8⟩ := DN.out.frozen
            have cp := DN.out.cell
            by_cases hl : 0 < lm
            · rw [if_pos (.inl (by have := HLM.out; omega))] at HG
              have hll : decide (0 < lm) = true := by simpa using hl
              obtain rfl := HG.out
              go_wp2
              exact bodyPost_ret (results_ct (fn := Try.f72) (p := 2) (u := 3) (ty := 95) rfl _ _ w.heap.size 95 #[.int .i64 0, .int .i64 0, .int .i64 0, .int .i64 0, .int .i64 0, .int .i64 0, .int .i64 0, .int .i64 0, .int .i64 0] (0, 0) _ rfl DZ.out.bx Try.underlying95 rfl (by kernel_rfl)) rfl ⟨rfl, DZ.out.rk.bel⟩
            · have hll : decide (0 < lm) = false := by simpa using hl
              have HLN : Aside0 (¬ 0 < ls.length) := ⟨by have := HLM.out; omega⟩
              clear hl
              go_wp2_with fail
              refine RX.out.mono ?_
              rintro e wr ⟨rfl, hbr⟩
              have DR := Aside0.mk (DN.out.below (Below.mono hbr (Nat.le_refl _)))
              have DY := Aside0.mk (((((((((DR.out.set0 0).set1 0).set2 0).set3 0).set4 0).set5 0).set6 0).set7 0).set8 0)
              have DW := Aside0.mk (((((((((DR.out.set0 (k)).set1 (sym)).set2 (m1)).set3 (0)).set4 (0)).set5 (0)).set6 (pz)).set7 (qz)).set8 (0))
              clear hbr
              clear c0 c1 c2 c3 c4 c5 c6 c7 c8 z0 z1 z2 z3 z4 z5 z6 z7 z8 cp
              obtain ⟨c0, c1, c2, c3, c4, c5, c6, c7, c8⟩ := DR.out.bx.cells
              obtain ⟨z0, z1, z2, z3, z4, z5, z6, z7, z8⟩ := DR.out.frozen
              have cp := DR.out.cell
              cases hr : cmdRight ⟨k, sym, m1, 0, 0, 0, pz, qz, 0⟩ with
              | false =>
                rw [if_pos (.inr hr)] at HG
                obtain rfl := HG.out
                go_wp2
                exact bodyPost_ret (results_ct (fn := Try.f72) (p := 2) (u := 3) (ty := 95) rfl _ _ w.heap.size 95 #[.int .i64 0, .int .i64 0, .int .i64 0, .int .i64 0, .int .i64 0, .int .i64 0, .int .i64 0, .int .i64 0, .int .i64 0] (0, 0) _ rfl DY.out.bx Try.underlying95 rfl (by kernel_rfl)) rfl ⟨rfl, DY.out.rk.bel⟩
              | true =>
                rw [if_neg (by intro h; rcases h with h | h; exact HLN.out h; rw [hr] at h; cases h)] at HG
                obtain rfl := HG.out
                go_wp2
                exact bodyPost_ret (results_ct (fn := Try.f72) (p := 2) (u := 3) (ty := 95) rfl _ _ w.heap.size 95 #[.int .i64 k, .int .i64 sym, .int .i64 m1, .int .i64 0, .int .i64 0, .int .i64 0, .int .i64 pz, .int .i64 qz, .int .i64 0] (0, 0) _ rfl DW.out.bx Try.underlying95 rfl (by kernel_rfl)) rfl ⟨rfl, DW.out.rk.bel⟩
          · rw [if_pos (by simpa using hf)] at HG
            have hff : (fs != 0) = true := by simpa using hf
            clear hf
            have DZ := Aside0.mk (((((((((DB.out.set0 0).set1 0).set2 0).set3 0).set4 0).set5 0).set6 0).set7 0).set8 0)
            obtain rfl := HG.out
            go_wp2
            exact bodyPost_ret (results_ct (fn := Try.f72) (p := 2) (u := 3) (ty := 95) rfl _ _ w.heap.size 95 #[.int .i64 0, .int .i64 0, .int .i64 0, .int .i64 0, .int .i64 0, .int .i64 0, .int .i64 0, .int .i64 0, .int .i64 0] (0, 0) _ rfl DZ.out.bx Try.underlying95 rfl (by kernel_rfl)) rfl ⟨rfl, DZ.out.rk.bel⟩
def command_Decode.f (l0 : List Int) : Option (Int × Int × Int × Int × Int × Int × Int × Int × Int × Int) :=
  if bytB l0 = true ∧ l0.length ≤ 140737488355328 then some ((cmdDec l0).1.f0, (cmdDec l0).1.f1, (cmdDec l0).1.f2, (cmdDec l0).1.f3, (cmdDec l0).1.f4, (cmdDec l0).1.f5, (cmdDec l0).1.f6, (cmdDec l0).1.f7, (cmdDec l0).1.f8, (cmdDec l0).2) else none
theorem command_Decode.calls (A0 : Option Addr) (c0 : Nat) (l0 : List Int) (r1 r2 r3 r4 r5 r6 r7 r8 r9 r10 : Int) (w : World) (hr0 : Kd.C (Kd.int .u8) w A0 l0.length l0) (hc0 : l0.length ≤ c0) (h : command_Decode.f l0 = some (r1, r2, r3, r4, r5, r6, r7, r8, r9, r10)) :
    Calls Try.prog 72 #[.slice A0 l0.length c0] w fun e w' => e = .returned (.tuple #[.agg #[.int .i64 r1, .int .i64 r2, .int .i64 r3, .int .i64 r4, .int .i64 r5, .int .i64 r6, .int .i64 r7, .int .i64 r8, .int .i64 r9], .int .i64 r10]) ∧ Below w.heap.size w w' := by
  unfold command_Decode.f at h
  by_cases hp : bytB l0 = true ∧ l0.length ≤ 140737488355328
  · rw [if_pos hp] at h
    have h := Option.some.inj h
    simp only [Prod.mk.injEq] at h
    obtain ⟨rfl, rfl, rfl, rfl, rfl, rfl, rfl, rfl, rfl, rfl⟩ := h
    exact cmdDec_calls A0 c0 l0 w hr0 hp.2 (byt_of hp.1)
  · rw [if_neg hp] at h
    cases h
end Go.Proofs.Ytalpemoodollpaa.P
-- Printed by hookprint.py (the session's own program, over the kit's print.py): checked by Lean like any text.
namespace Go.Proofs.Ytalpemoodollpaa.P
open Go.RowKit Go.Proofs.YtalpemoodollpaaW.PrintWords Go.Proofs.YtalpemoodollpaaW.PrintLast Go.Proofs.YtalpemoodollpaaW.PrintMore
attribute [local go_sem] max2_int min2_int max_two min_two max_three min_three max_four min_four   -- for this text's walks alone
set_option linter.unusedVariables false
set_option linter.unusedSimpArgs false

attribute [local go_sem high] eqA95
/-! ### damperlaw05_alive: function 71 -/
def damperlaw05_alive.f  : Option (Bool) := (command_Decode.f (([2, 3, 5] : List Int))).bind fun bt509 => (if bt509.2.2.2.2.2.2.2.2.2 = 0 then (some (bt509.1 == 2 && (bt509.2.1 == 3 && (bt509.2.2.1 == 5 && (bt509.2.2.2.1 == 0 && (bt509.2.2.2.2.1 == 0 && (bt509.2.2.2.2.2.1 == 0 && (bt509.2.2.2.2.2.2.1 == 0 && (bt509.2.2.2.2.2.2.2.1 == 0 && (bt509.2.2.2.2.2.2.2.2.1 == 0)))))))))) else (some false))
set_option maxHeartbeats 8000000 in
set_option maxRecDepth 100000 in
theorem damperlaw05_alive.calls  (r : Bool) (w : World) (h : damperlaw05_alive.f  = some r) :
    Calls Try.prog 71 #[] w fun e w' => e = .returned (.bool r) ∧ Below w.heap.size w w' := by
  have hu95 := Try.underlying95
  have HB := Aside0.mk (Below.refl w.heap.size w)
  have H : ((command_Decode.f (([2, 3, 5] : List Int))).bind fun bt509 => (if bt509.2.2.2.2.2.2.2.2.2 = 0 then (some (bt509.1 == 2 && (bt509.2.1 == 3 && (bt509.2.2.1 == 5 && (bt509.2.2.2.1 == 0 && (bt509.2.2.2.2.1 == 0 && (bt509.2.2.2.2.2.1 == 0 && (bt509.2.2.2.2.2.2.1 == 0 && (bt509.2.2.2.2.2.2.2.1 == 0 && (bt509.2.2.2.2.2.2.2.2.1 == 0)))))))))) else (some false))) = some r := h
  clear h
  obtain ⟨y506, hy506⟩ : ∃ y_ : List Int, y_ = (([2, 3, 5] : List Int)) := ⟨_, rfl⟩
  replace H : ((command_Decode.f y506).bind fun bt509 => (if bt509.2.2.2.2.2.2.2.2.2 = 0 then (some (bt509.1 == 2 && (bt509.2.1 == 3 && (bt509.2.2.1 == 5 && (bt509.2.2.2.1 == 0 && (bt509.2.2.2.2.1 == 0 && (bt509.2.2.2.2.2.1 == 0 && (bt509.2.2.2.2.2.2.1 == 0 && (bt509.2.2.2.2.2.2.2.1 == 0 && (bt509.2.2.2.2.2.2.2.2.1 == 0)))))))))) else (some false))) = some r := by first | (rw [hy506]; with_reducible exact H) | (have H2_ := (Option.bind_some _ _).symm.trans H; rw [hy506]; with_reducible exact H2_) | (have H2_ := (Option.bind_some _ _).symm.trans H; with_reducible exact H2_) | with_reducible exact H | (rw [hy506]; exact H) | exact H
  have Ny506 := Aside0.mk hy506
  clear hy506
  replace H := Option.bind_eq_some_iff.mp H
  obtain ⟨⟨t509, t510, t511, t512, t513, t514, t515, t516, t517, t518⟩, A10, H⟩ := H
  replace H : (if t518 = 0 then (some (t509 == 2 && (t510 == 3 && (t511 == 5 && (t512 == 0 && (t513 == 0 && (t514 == 0 && (t515 == 0 && (t516 == 0 && (t517 == 0)))))))))) else (some false)) = some r := H
  have A1 := Aside0.mk A10
  clear A10
  by_cases c2 : t518 = 0
  · rw [if_pos c2] at H
    have c2b0 : (t518 == 0) = true := beq_iff_eq.mpr c2
    have c2b1 : (t518 != 0) = false := bne_eq_false_iff_eq.mpr c2
    clear c2
    obtain rfl := Option.some.inj H
    go_enter Try.func71, Try.ntmps71
    go_wp2_with (first | ((with_reducible refine gate_dst (N := 4) rfl ?_); refine Kd.R_lit (Kd.int .u8) _ 5 ?hg (N := 4) ?hd (xs := ([2, 3, 5] : List Int)) (inner := [.int .u8 2, .int .u8 3, .int .u8 5]) (ok := fun _ => True) (okp := fun _ => True) ?hr ?hp (fun _ hk => hk) trivial (Below.refl _ _) (Nat.le_refl _) (by simp) ?_; (case hd => rfl); (case hg => rfl); (case hr => first | (go_simp; done) | (go_simp; rfl)); (case hp => exact (Reps.one (show Kd.M (Kd.int .u8) _ _ _ 2 [.int .u8 2] from rfl) (Reps.one (show Kd.M (Kd.int .u8) _ _ _ 3 [.int .u8 3] from rfl) (Reps.one (show Kd.M (Kd.int .u8) _ _ _ 5 [.int .u8 5] from rfl) (Reps.none _ _))))); intro v507 w3 ho4 hb hg_ hnew_; clear hg_ hnew_; (first | rw [← Ny506.out] at ho4 | (simp only [Int.reduceToNat] at ho4; rw [← Ny506.out] at ho4)); have n0_ := Aside0.mk (Kd.R_lower ho4 (below_size (by repeat (first | (with_reducible first | exact HB.out | apply below_alloc | apply pw_below_drewN | apply below_drew1) | exact HB.out)))); have n1_ := Aside0.mk (below_step (by repeat (first | (with_reducible first | exact HB.out | apply below_alloc | apply pw_below_drewN | apply below_drew1) | exact HB.out)) hb); clear HB; have HO508 := n0_; have HB := n1_; clear n0_ n1_; clear hb ho4; obtain ⟨Ao5, co5, eo5⟩ := Kd.R_slice HO508.out; subst eo5) | ((with_reducible refine gate_callee (f := 72) rfl ?_); refine goesL_ (some 5) rfl rfl Try.func72 (by kernel_rfl) rfl #[.slice Ao5 y506.length co5] rfl (by (try simp only [List.map_toArray, List.map_cons, List.map_nil]); first | done | rfl | (simp only [List.length_drop, List.length_take]; rfl)) ?_; (with_reducible refine (command_Decode.calls _ _ y506 t509 t510 t511 t512 t513 t514 t515 t516 t517 t518 _ ?side1 ?side2 A1.out).mono ?_); (case side1 => repeat (first | exact (Kd.R_reads' HO508.out).2.2 | (with_reducible refine Kd.C_alloc ?_ _) | (with_reducible refine Kd.C_drewN ?_ _) | (with_reducible refine Kd.C_drew ?_))); (case side2 => exact (Kd.R_reads' HO508.out).2.1); rintro e w6 ⟨rfl, hb⟩; refine ⟨_, rfl, ?_⟩; have n0_ := Aside0.mk (Kd.R_below (by (with_reducible repeat (first | apply Kd.R_alloc | apply Kd.R_drewN | apply Kd.R_drew)); exact HO508.out) hb); have n1_ := Aside0.mk (below_step (by repeat (first | (with_reducible first | exact HB.out | apply below_alloc | apply pw_below_drewN | apply below_drew1) | exact HB.out)) hb); clear HO508; clear HB; have HO508 := n0_; have HB := n1_; clear n0_ n1_; (try clear hb); (try clear hb2); (try clear hk); (try clear hi)) | ((with_reducible refine gate_dst (N := 1) rfl ?_); refine box_event ?hg (N := 1) ?hd (cs := #[.int .i64 0, .int .i64 0, .int .i64 0, .int .i64 0, .int .i64 0, .int .i64 0, .int .i64 0, .int .i64 0, .int .i64 0]) (t := 95) ?hr ?_; (case hd => rfl); (case hg => rfl); (case hr => first | (go_simp; done) | (go_simp; rfl)); intro gb519 hg w7 hbox hb; have n0_ := Aside0.mk (Kd.R_below (by (with_reducible repeat (first | apply Kd.R_alloc | apply Kd.R_drewN | apply Kd.R_drew)); exact HO508.out) hb); have n1_ := Aside0.mk (below_step (by repeat (first | (with_reducible first | exact HB.out | apply below_alloc | apply pw_below_drewN | apply below_drew1) | exact HB.out)) hb); have n2_ := Aside0.mk (hbox); have n3_ := Aside0.mk ((by rw [hg]; exact (below_size (by repeat (first | (with_reducible first | exact HB.out | apply below_alloc | apply pw_below_drewN | apply below_drew1) | exact HB.out))) : w.heap.size ≤ gb519)); have n4_ := Aside0.mk ((by rw [hg]; exact (below_size (by repeat (first | (with_reducible first | exact HB.out | apply below_alloc | apply pw_below_drewN | apply below_drew1) | exact HB.out))) : w.heap.size ≤ gb519)); clear HO508; clear HB; have HO508 := n0_; have HB := n1_; have BK519 := n2_; have GW519 := n3_; have GE519 := n4_; clear n0_ n1_ n2_ n3_ n4_; clear hb hbox hg; have hcz8_0 : w7.cell? ⟨gb519, 0, none⟩ = some (.int .i64 0) := (blk_cell BK519.out 0).trans rfl; have hcz8_1 : w7.cell? ⟨gb519, 1, none⟩ = some (.int .i64 0) := (blk_cell BK519.out 1).trans rfl; have hcz8_2 : w7.cell? ⟨gb519, 2, none⟩ = some (.int .i64 0) := (blk_cell BK519.out 2).trans rfl; have hcz8_3 : w7.cell? ⟨gb519, 3, none⟩ = some (.int .i64 0) := (blk_cell BK519.out 3).trans rfl; have hcz8_4 : w7.cell? ⟨gb519, 4, none⟩ = some (.int .i64 0) := (blk_cell BK519.out 4).trans rfl; have hcz8_5 : w7.cell? ⟨gb519, 5, none⟩ = some (.int .i64 0) := (blk_cell BK519.out 5).trans rfl; have hcz8_6 : w7.cell? ⟨gb519, 6, none⟩ = some (.int .i64 0) := (blk_cell BK519.out 6).trans rfl; have hcz8_7 : w7.cell? ⟨gb519, 7, none⟩ = some (.int .i64 0) := (blk_cell BK519.out 7).trans rfl; have hcz8_8 : w7.cell? ⟨gb519, 8, none⟩ = some (.int .i64 0) := (blk_cell BK519.out 8).trans rfl; have hfz8_0 := blk_frozen BK519.out 0; have hfz8_1 := blk_frozen BK519.out 1; have hfz8_2 := blk_frozen BK519.out 2; have hfz8_3 := blk_frozen BK519.out 3; have hfz8_4 := blk_frozen BK519.out 4; have hfz8_5 := blk_frozen BK519.out 5; have hfz8_6 := blk_frozen BK519.out 6; have hfz8_7 := blk_frozen BK519.out 7; have hfz8_8 := blk_frozen BK519.out 8))
    go_ret
    exact ⟨by first | rfl | (simp [errW_none, errW_some] <;> rfl) | (simp [*, errW_none, errW_some] <;> rfl), by repeat (first | (with_reducible first | exact HB.out | apply below_alloc | apply pw_below_drewN | apply below_drew1 | refine below_set ?_ GE519.out) | exact HB.out)⟩
  · rw [if_neg c2] at H
    have c2b0 : (t518 == 0) = false := beq_eq_false_iff_ne.mpr c2
    have c2b1 : (t518 != 0) = true := bne_iff_ne.mpr c2
    obtain rfl := Option.some.inj H
    go_enter Try.func71, Try.ntmps71
    go_wp2_with (first | ((with_reducible refine gate_dst (N := 4) rfl ?_); refine Kd.R_lit (Kd.int .u8) _ 5 ?hg (N := 4) ?hd (xs := ([2, 3, 5] : List Int)) (inner := [.int .u8 2, .int .u8 3, .int .u8 5]) (ok := fun _ => True) (okp := fun _ => True) ?hr ?hp (fun _ hk => hk) trivial (Below.refl _ _) (Nat.le_refl _) (by simp) ?_; (case hd => rfl); (case hg => rfl); (case hr => first | (go_simp; done) | (go_simp; rfl)); (case hp => exact (Reps.one (show Kd.M (Kd.int .u8) _ _ _ 2 [.int .u8 2] from rfl) (Reps.one (show Kd.M (Kd.int .u8) _ _ _ 3 [.int .u8 3] from rfl) (Reps.one (show Kd.M (Kd.int .u8) _ _ _ 5 [.int .u8 5] from rfl) (Reps.none _ _))))); intro v507 w9 ho10 hb hg_ hnew_; clear hg_ hnew_; (first | rw [← Ny506.out] at ho10 | (simp only [Int.reduceToNat] at ho10; rw [← Ny506.out] at ho10)); have n0_ := Aside0.mk (Kd.R_lower ho10 (below_size (by repeat (first | (with_reducible first | exact HB.out | apply below_alloc | apply pw_below_drewN | apply below_drew1) | exact HB.out)))); have n1_ := Aside0.mk (below_step (by repeat (first | (with_reducible first | exact HB.out | apply below_alloc | apply pw_below_drewN | apply below_drew1) | exact HB.out)) hb); clear HB; have HO508 := n0_; have HB := n1_; clear n0_ n1_; clear hb ho10; obtain ⟨Ao11, co11, eo11⟩ := Kd.R_slice HO508.out; subst eo11) | ((with_reducible refine gate_callee (f := 72) rfl ?_); refine goesL_ (some 5) rfl rfl Try.func72 (by kernel_rfl) rfl #[.slice Ao11 y506.length co11] rfl (by (try simp only [List.map_toArray, List.map_cons, List.map_nil]); first | done | rfl | (simp only [List.length_drop, List.length_take]; rfl)) ?_; (with_reducible refine (command_Decode.calls _ _ y506 t509 t510 t511 t512 t513 t514 t515 t516 t517 t518 _ ?side1 ?side2 A1.out).mono ?_); (case side1 => repeat (first | exact (Kd.R_reads' HO508.out).2.2 | (with_reducible refine Kd.C_alloc ?_ _) | (with_reducible refine Kd.C_drewN ?_ _) | (with_reducible refine Kd.C_drew ?_))); (case side2 => exact (Kd.R_reads' HO508.out).2.1); rintro e w12 ⟨rfl, hb⟩; refine ⟨_, rfl, ?_⟩; have n0_ := Aside0.mk (Kd.R_below (by (with_reducible repeat (first | apply Kd.R_alloc | apply Kd.R_drewN | apply Kd.R_drew)); exact HO508.out) hb); have n1_ := Aside0.mk (below_step (by repeat (first | (with_reducible first | exact HB.out | apply below_alloc | apply pw_below_drewN | apply below_drew1) | exact HB.out)) hb); clear HO508; clear HB; have HO508 := n0_; have HB := n1_; clear n0_ n1_; (try clear hb); (try clear hb2); (try clear hk); (try clear hi)) | ((with_reducible refine gate_dst (N := 1) rfl ?_); refine box_event ?hg (N := 1) ?hd (cs := #[.int .i64 0, .int .i64 0, .int .i64 0, .int .i64 0, .int .i64 0, .int .i64 0, .int .i64 0, .int .i64 0, .int .i64 0]) (t := 95) ?hr ?_; (case hd => rfl); (case hg => rfl); (case hr => first | (go_simp; done) | (go_simp; rfl)); intro gb519 hg w13 hbox hb; have n0_ := Aside0.mk (Kd.R_below (by (with_reducible repeat (first | apply Kd.R_alloc | apply Kd.R_drewN | apply Kd.R_drew)); exact HO508.out) hb); have n1_ := Aside0.mk (below_step (by repeat (first | (with_reducible first | exact HB.out | apply below_alloc | apply pw_below_drewN | apply below_drew1) | exact HB.out)) hb); have n2_ := Aside0.mk (hbox); have n3_ := Aside0.mk ((by rw [hg]; exact (below_size (by repeat (first | (with_reducible first | exact HB.out | apply below_alloc | apply pw_below_drewN | apply below_drew1) | exact HB.out))) : w.heap.size ≤ gb519)); have n4_ := Aside0.mk ((by rw [hg]; exact (below_size (by repeat (first | (with_reducible first | exact HB.out | apply below_alloc | apply pw_below_drewN | apply below_drew1) | exact HB.out))) : w.heap.size ≤ gb519)); clear HO508; clear HB; have HO508 := n0_; have HB := n1_; have BK519 := n2_; have GW519 := n3_; have GE519 := n4_; clear n0_ n1_ n2_ n3_ n4_; clear hb hbox hg; have hcz14_0 : w13.cell? ⟨gb519, 0, none⟩ = some (.int .i64 0) := (blk_cell BK519.out 0).trans rfl; have hcz14_1 : w13.cell? ⟨gb519, 1, none⟩ = some (.int .i64 0) := (blk_cell BK519.out 1).trans rfl; have hcz14_2 : w13.cell? ⟨gb519, 2, none⟩ = some (.int .i64 0) := (blk_cell BK519.out 2).trans rfl; have hcz14_3 : w13.cell? ⟨gb519, 3, none⟩ = some (.int .i64 0) := (blk_cell BK519.out 3).trans rfl; have hcz14_4 : w13.cell? ⟨gb519, 4, none⟩ = some (.int .i64 0) := (blk_cell BK519.out 4).trans rfl; have hcz14_5 : w13.cell? ⟨gb519, 5, none⟩ = some (.int .i64 0) := (blk_cell BK519.out 5).trans rfl; have hcz14_6 : w13.cell? ⟨gb519, 6, none⟩ = some (.int .i64 0) := (blk_cell BK519.out 6).trans rfl; have hcz14_7 : w13.cell? ⟨gb519, 7, none⟩ = some (.int .i64 0) := (blk_cell BK519.out 7).trans rfl; have hcz14_8 : w13.cell? ⟨gb519, 8, none⟩ = some (.int .i64 0) := (blk_cell BK519.out 8).trans rfl; have hfz14_0 := blk_frozen BK519.out 0; have hfz14_1 := blk_frozen BK519.out 1; have hfz14_2 := blk_frozen BK519.out 2; have hfz14_3 := blk_frozen BK519.out 3; have hfz14_4 := blk_frozen BK519.out 4; have hfz14_5 := blk_frozen BK519.out 5; have hfz14_6 := blk_frozen BK519.out 6; have hfz14_7 := blk_frozen BK519.out 7; have hfz14_8 := blk_frozen BK519.out 8))
    go_ret
    exact ⟨by first | rfl | (simp [errW_none, errW_some] <;> rfl) | (simp [*, errW_none, errW_some] <;> rfl), by repeat (first | (with_reducible first | exact HB.out | apply below_alloc | apply pw_below_drewN | apply below_drew1 | refine below_set ?_ GE519.out) | exact HB.out)⟩

end Go.Proofs.Ytalpemoodollpaa.P
