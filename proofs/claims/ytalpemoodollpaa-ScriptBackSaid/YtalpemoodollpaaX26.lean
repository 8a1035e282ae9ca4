/- Contracts and plain laws: P96, P32, HMsgPure, HscrPure, P66, HscrRight, HWK, HscrEncG, HrefSame, HscrSame, HscrEnc, P119, P68. -/
import Derived.Deep.RegionHeld3
import Derived.Deep.DeepCutAuto
import Derived.Deep.LoopGhost
import Derived.IntWalk
import Derived.Deep.QuietTactic
import Derived.BigQuiet
import Derived.Test.YtalpemoodollpaaX1
import Derived.Test.YtalpemoodollpaaX25
-- Printed by hookprint.py (the session's own program, over the kit's print.py): checked by Lean like any text.
namespace Go.Proofs.Ytalpemoodollpaa.P
open Go.RowKit Go.Proofs.YtalpemoodollpaaW.PrintWords Go.Proofs.YtalpemoodollpaaW.PrintLast Go.Proofs.YtalpemoodollpaaW.PrintMore
attribute [local go_sem] max2_int min2_int max_two min_two max_three min_three max_four min_four   -- for this text's walks alone
set_option linter.unusedVariables false
set_option linter.unusedSimpArgs false

/-! ### message_within: function 96 -/
def message_within.l0 : Nat → Int → Int → List Int → Int → Int → Option (Bool)
  | 0, _, _, _, _, _ => none
  | k + 1, x0, x1, x9, x10, x11 => if x11 < x10 then (if 0 ≤ x11 then (if x11 < (x9.length : Int) then (if (rd x9 x11) < x0 then (some false) else (if (rd x9 x11) > x1 then (some false) else (message_within.l0 k x0 x1 x9 x10 (wrap64 (x11 + 1))))) else (none)) else (none)) else (some true)
def message_within.f (k : Nat) (a0 : Int) (a1 : Int) (l2 : List Int) : Option (Bool) := message_within.l0 k a0 a1 l2 (l2.length : Int) 0
theorem message_within.mono_l : ∀ k, (∀ y0 y1 y2 y3 y4, LeO (message_within.l0 k y0 y1 y2 y3 y4) (message_within.l0 (k + 1) y0 y1 y2 y3 y4))
  | 0 => fun _ _ _ _ _ r h => by simp [message_within.l0] at h
  | k + 1 => by
    have ih0 := message_within.mono_l k
    · intro y0 y1 y2 y3 y4
      unfold message_within.l0
      repeat' first
      | (with_reducible exact ih0 _ _ _ _ _)
      | (with_reducible exact LeO.refl _)
      | (with_reducible exact LeO.none _)
      | (with_reducible refine LeO.ite ?_ ?_)
      | (with_reducible refine LeO.bind ?_ (fun _ => ?_))
      | exact ih0 _ _ _ _ _
      | exact LeO.none _
      | refine LeO.ite ?_ ?_
      | refine LeO.bind ?_ (fun _ => ?_)
theorem message_within.mono : ∀ a0 a1 a2 k, LeO (message_within.f k a0 a1 a2) (message_within.f (k + 1) a0 a1 a2) := by
  intro a0 a1 a2 k
  have ih0 := message_within.mono_l k
  unfold message_within.f
  repeat' first
      | (with_reducible exact ih0 _ _ _ _ _)
      | (with_reducible exact LeO.refl _)
      | (with_reducible exact LeO.none _)
      | (with_reducible refine LeO.ite ?_ ?_)
      | (with_reducible refine LeO.bind ?_ (fun _ => ?_))
      | exact ih0 _ _ _ _ _
      | exact LeO.none _
      | refine LeO.ite ?_ ?_
      | refine LeO.bind ?_ (fun _ => ?_)
set_option maxHeartbeats 8000000 in
set_option maxRecDepth 100000 in
theorem message_within.calls (k : Nat) (a0 : Int) (a1 : Int) (A2 : Option Addr) (c2 : Nat) (l2 : List Int) (r : Bool) (w : World) (hr2 : Kd.C (Kd.int .i64) w A2 l2.length l2) (hc2 : l2.length ≤ c2) (h : message_within.f k a0 a1 l2 = some r) :
    Calls Try.prog 96 #[.int .i64 a0, .int .i64 a1, .slice A2 l2.length c2] w fun e w' => e = .returned (.bool r) ∧ Drawn0 w w' := by
  have HR2 := Aside0.mk hr2
  have HC2 := Aside0.mk hc2
  clear hr2 hc2
  have H : (message_within.l0 k a0 a1 l2 (l2.length : Int) 0) = some r := h
  clear h
  have H' := Aside0.mk H
  clear H
  go_enter Try.func96, Try.ntmps96
  go_wp2
  go_loopg [11] k (fun kq v11 w' => ∃ (x11_1 : Int), v11 = .int .i64 x11_1 ∧ Aside0 (message_within.l0 kq a0 a1 l2 (l2.length : Int) x11_1 = some r) ∧ Aside0 (kq ≤ k) ∧ Drawn0 w w')
  case atStart => exact ⟨(0), (by first | rfl | (simp; done) | (simp [*]; done)), H', ⟨Nat.le_refl _⟩, by repeat (first | exact Drawn0.refl _ | apply Drawn0.step)⟩
  case round =>
    clear H'
    try clear c2
    try clear p2
    obtain ⟨x11_1, rfl, HA, HK1, ⟨m1, rfl⟩⟩ := hrel
    cases gk with
    | zero => exact absurd HA.out (by simp [message_within.l0])
    | succ k1 =>
      have H := HA.out
      clear HA
      simp only [message_within.l0] at H
      by_cases c4 : x11_1 < (l2.length : Int)
      · rw [if_pos c4] at H
        have c4b0 : decide (x11_1 < (l2.length : Int)) = true := decide_eq_true c4
        clear c4
        by_cases c5 : 0 ≤ x11_1
        · rw [if_pos c5] at H
          have c5b0 : decide (0 ≤ x11_1) = true := decide_eq_true c5
          clear c5
          by_cases c6 : x11_1 < (l2.length : Int)
          · rw [if_pos c6] at H
            have c6b0 : decide (x11_1 < (l2.length : Int)) = true := decide_eq_true c6
            clear c6
            by_cases c7 : (rd l2 x11_1) < a0
            · rw [if_pos c7] at H
              have c7b0 : decide ((rd l2 x11_1) < a0) = true := decide_eq_true c7
              clear c7
              obtain rfl := Option.some.inj H
              have p102 : 0 ≤ (x11_1 : Int) := of_decide_eq_true (by first | (with_reducible assumption) | assumption)
              have q102 : x11_1 < (l2.length : Int) := of_decide_eq_true (by first | (with_reducible assumption) | assumption)
              obtain ⟨ad102, e102, hx102_0⟩ := Kd.at_int HR2.out x11_1 p102 q102
              cases e102
              replace p102 := eq_true p102
              replace q102 := eq_true q102
              go_wp2
              go_ret
              exact ⟨by first | rfl | (simp; done) | (simp [*]; done), by repeat (first | exact Drawn0.refl _ | apply Drawn0.step)⟩
            · rw [if_neg c7] at H
              have c7b0 : decide ((rd l2 x11_1) < a0) = false := decide_eq_false c7
              clear c7
              by_cases c8 : (rd l2 x11_1) > a1
              · rw [if_pos c8] at H
                have c8b0 : decide (a1 < (rd l2 x11_1)) = true := decide_eq_true c8
                clear c8
                obtain rfl := Option.some.inj H
                have p102 : 0 ≤ (x11_1 : Int) := of_decide_eq_true (by first | (with_reducible assumption) | assumption)
                have q102 : x11_1 < (l2.length : Int) := of_decide_eq_true (by first | (with_reducible assumption) | assumption)
                obtain ⟨ad102, e102, hx102_0⟩ := Kd.at_int HR2.out x11_1 p102 q102
                cases e102
                replace p102 := eq_true p102
                replace q102 := eq_true q102
                go_wp2
                go_ret
                exact ⟨by first | rfl | (simp; done) | (simp [*]; done), by repeat (first | exact Drawn0.refl _ | apply Drawn0.step)⟩
              · rw [if_neg c8] at H
                have c8b0 : decide (a1 < (rd l2 x11_1)) = false := decide_eq_false c8
                clear c8
                have H' := Aside0.mk H
                clear H
                have p102 : 0 ≤ (x11_1 : Int) := of_decide_eq_true (by first | (with_reducible assumption) | assumption)
                have q102 : x11_1 < (l2.length : Int) := of_decide_eq_true (by first | (with_reducible assumption) | assumption)
                obtain ⟨ad102, e102, hx102_0⟩ := Kd.at_int HR2.out x11_1 p102 q102
                cases e102
                replace p102 := eq_true p102
                replace q102 := eq_true q102
                go_wp2
                go_roundg k1
                case measure => have := HK1.out; omega
                case rel => exact ⟨(wrap64 (x11_1 + 1)), (by first | rfl | (simp; done) | (simp [*]; done)), H', ⟨by have := HK1.out; omega⟩, by repeat (first | exact Drawn0.refl _ | apply Drawn0.step)⟩
          · rw [if_neg c6] at H
            exact absurd H (by simp)
        · rw [if_neg c5] at H
          exact absurd H (by simp)
      · rw [if_neg c4] at H
        have c4b0 : decide (x11_1 < (l2.length : Int)) = false := decide_eq_false c4
        clear c4
        obtain rfl := Option.some.inj H
        go_wp2
        go_ret
        exact ⟨by first | rfl | (simp; done) | (simp [*]; done), by repeat (first | exact Drawn0.refl _ | apply Drawn0.step)⟩

end Go.Proofs.Ytalpemoodollpaa.P
-- Printed by hookprint.py (the session's own program, over the kit's print.py): checked by Lean like any text.
namespace Go.Proofs.Ytalpemoodollpaa.P
open Go.RowKit Go.Proofs.YtalpemoodollpaaW.PrintWords Go.Proofs.YtalpemoodollpaaW.PrintLast Go.Proofs.YtalpemoodollpaaW.PrintMore
attribute [local go_sem] max2_int min2_int max_two min_two max_three min_three max_four min_four   -- for this text's walks alone
set_option linter.unusedVariables false
set_option linter.unusedSimpArgs false

/-! ### message_Right: function 32 -/
def message_Right.f (k : Nat) (a0_0 : Int) (a0_1 : Int) (a0_2 : Int) (a0_3 : Int) (a0_4 : Int) (a0_5 : Int) (a0_6 : Int) (a0_7 : Int) (a0_8 : Int) : Option (Bool) := (message_within.f k 1 9 (([a0_0] : List Int))).bind fun t107 => (if t107 = true then ((message_within.f k 0 255 (([a0_1, a0_8] : List Int))).bind fun t111 => (if t111 = true then ((message_within.f k 0 4611686018427387904 (([a0_2, a0_3] : List Int))).bind fun t115 => (if t115 = true then ((message_within.f k (-1) 4611686018427387904 (([a0_4, a0_5] : List Int))).bind fun t119 => (some t119)) else (some false))) else (some false))) else (some false))
theorem message_Right.mono : ∀ a0 a1 a2 a3 a4 a5 a6 a7 a8 k, LeO (message_Right.f k a0 a1 a2 a3 a4 a5 a6 a7 a8) (message_Right.f (k + 1) a0 a1 a2 a3 a4 a5 a6 a7 a8) := by
  intro a0 a1 a2 a3 a4 a5 a6 a7 a8 k
  unfold message_Right.f
  repeat' first
      | (with_reducible exact message_within.mono _ _ _ _)
      | (with_reducible exact LeO.refl _)
      | (with_reducible exact LeO.none _)
      | (with_reducible refine LeO.ite ?_ ?_)
      | (with_reducible refine LeO.bind ?_ (fun _ => ?_))
      | exact message_within.mono _ _ _ _
      | exact LeO.none _
      | refine LeO.ite ?_ ?_
      | refine LeO.bind ?_ (fun _ => ?_)
set_option maxHeartbeats 8000000 in
set_option maxRecDepth 100000 in
theorem message_Right.calls (k : Nat) (a0_0 : Int) (a0_1 : Int) (a0_2 : Int) (a0_3 : Int) (a0_4 : Int) (a0_5 : Int) (a0_6 : Int) (a0_7 : Int) (a0_8 : Int) (r : Bool) (w : World) (h : message_Right.f k a0_0 a0_1 a0_2 a0_3 a0_4 a0_5 a0_6 a0_7 a0_8 = some r) :
    Calls Try.prog 32 #[.agg #[.int .i64 a0_0, .int .i64 a0_1, .int .i64 a0_2, .int .i64 a0_3, .int .i64 a0_4, .int .i64 a0_5, .int .i64 a0_6, .int .i64 a0_7, .int .i64 a0_8]] w fun e w' => e = .returned (.bool r) ∧ Below w.heap.size w w' := by
  have hu29 := Try.underlying29
  have HB := Aside0.mk (Below.refl w.heap.size w)
  have H : ((message_within.f k 1 9 (([a0_0] : List Int))).bind fun t107 => (if t107 = true then ((message_within.f k 0 255 (([a0_1, a0_8] : List Int))).bind fun t111 => (if t111 = true then ((message_within.f k 0 4611686018427387904 (([a0_2, a0_3] : List Int))).bind fun t115 => (if t115 = true then ((message_within.f k (-1) 4611686018427387904 (([a0_4, a0_5] : List Int))).bind fun t119 => (some t119)) else (some false))) else (some false))) else (some false))) = some r := h
  clear h
  obtain ⟨y104, hy104⟩ : ∃ y_ : List Int, y_ = (([a0_0] : List Int)) := ⟨_, rfl⟩
  replace H : ((message_within.f k 1 9 y104).bind fun t107 => (if t107 = true then ((message_within.f k 0 255 (([a0_1, a0_8] : List Int))).bind fun t111 => (if t111 = true then ((message_within.f k 0 4611686018427387904 (([a0_2, a0_3] : List Int))).bind fun t115 => (if t115 = true then ((message_within.f k (-1) 4611686018427387904 (([a0_4, a0_5] : List Int))).bind fun t119 => (some t119)) else (some false))) else (some false))) else (some false))) = some r := by first | (rw [hy104]; with_reducible exact H) | (have H2_ := (Option.bind_some _ _).symm.trans H; rw [hy104]; with_reducible exact H2_) | (have H2_ := (Option.bind_some _ _).symm.trans H; with_reducible exact H2_) | with_reducible exact H | (rw [hy104]; exact H) | exact H
  have Ny104 := Aside0.mk hy104
  clear hy104
  replace H := Option.bind_eq_some_iff.mp H
  obtain ⟨t107, A20, H⟩ := H
  replace H : (if t107 = true then ((message_within.f k 0 255 (([a0_1, a0_8] : List Int))).bind fun t111 => (if t111 = true then ((message_within.f k 0 4611686018427387904 (([a0_2, a0_3] : List Int))).bind fun t115 => (if t115 = true then ((message_within.f k (-1) 4611686018427387904 (([a0_4, a0_5] : List Int))).bind fun t119 => (some t119)) else (some false))) else (some false))) else (some false)) = some r := H
  have A2 := Aside0.mk A20
  clear A20
  by_cases c3 : t107 = true
  · subst c3
    have H1 : ((message_within.f k 0 255 (([a0_1, a0_8] : List Int))).bind fun t111 => (if t111 = true then ((message_within.f k 0 4611686018427387904 (([a0_2, a0_3] : List Int))).bind fun t115 => (if t115 = true then ((message_within.f k (-1) 4611686018427387904 (([a0_4, a0_5] : List Int))).bind fun t119 => (some t119)) else (some false))) else (some false))) = some r := by rw [if_pos rfl] at H; exact H
    clear H
    have H := H1
    clear H1
    obtain ⟨y108, hy108⟩ : ∃ y_ : List Int, y_ = (([a0_1, a0_8] : List Int)) := ⟨_, rfl⟩
    replace H : ((message_within.f k 0 255 y108).bind fun t111 => (if t111 = true then ((message_within.f k 0 4611686018427387904 (([a0_2, a0_3] : List Int))).bind fun t115 => (if t115 = true then ((message_within.f k (-1) 4611686018427387904 (([a0_4, a0_5] : List Int))).bind fun t119 => (some t119)) else (some false))) else (some false))) = some r := by first | (rw [hy108]; with_reducible exact H) | (have H2_ := (Option.bind_some _ _).symm.trans H; rw [hy108]; with_reducible exact H2_) | (have H2_ := (Option.bind_some _ _).symm.trans H; with_reducible exact H2_) | with_reducible exact H | (rw [hy108]; exact H) | exact H
    have Ny108 := Aside0.mk hy108
    clear hy108
    replace H := Option.bind_eq_some_iff.mp H
    obtain ⟨t111, A40, H⟩ := H
    replace H : (if t111 = true then ((message_within.f k 0 4611686018427387904 (([a0_2, a0_3] : List Int))).bind fun t115 => (if t115 = true then ((message_within.f k (-1) 4611686018427387904 (([a0_4, a0_5] : List Int))).bind fun t119 => (some t119)) else (some false))) else (some false)) = some r := H
    have A4 := Aside0.mk A40
    clear A40
    by_cases c5 : t111 = true
    · subst c5
      have H1 : ((message_within.f k 0 4611686018427387904 (([a0_2, a0_3] : List Int))).bind fun t115 => (if t115 = true then ((message_within.f k (-1) 4611686018427387904 (([a0_4, a0_5] : List Int))).bind fun t119 => (some t119)) else (some false))) = some r := by rw [if_pos rfl] at H; exact H
      clear H
      have H := H1
      clear H1
      obtain ⟨y112, hy112⟩ : ∃ y_ : List Int, y_ = (([a0_2, a0_3] : List Int)) := ⟨_, rfl⟩
      replace H : ((message_within.f k 0 4611686018427387904 y112).bind fun t115 => (if t115 = true then ((message_within.f k (-1) 4611686018427387904 (([a0_4, a0_5] : List Int))).bind fun t119 => (some t119)) else (some false))) = some r := by first | (rw [hy112]; with_reducible exact H) | (have H2_ := (Option.bind_some _ _).symm.trans H; rw [hy112]; with_reducible exact H2_) | (have H2_ := (Option.bind_some _ _).symm.trans H; with_reducible exact H2_) | with_reducible exact H | (rw [hy112]; exact H) | exact H
      have Ny112 := Aside0.mk hy112
      clear hy112
      replace H := Option.bind_eq_some_iff.mp H
      obtain ⟨t115, A60, H⟩ := H
      replace H : (if t115 = true then ((message_within.f k (-1) 4611686018427387904 (([a0_4, a0_5] : List Int))).bind fun t119 => (some t119)) else (some false)) = some r := H
      have A6 := Aside0.mk A60
      clear A60
      by_cases c7 : t115 = true
      · subst c7
        have H1 : ((message_within.f k (-1) 4611686018427387904 (([a0_4, a0_5] : List Int))).bind fun t119 => (some t119)) = some r := by rw [if_pos rfl] at H; exact H
        clear H
        have H := H1
        clear H1
        obtain ⟨y116, hy116⟩ : ∃ y_ : List Int, y_ = (([a0_4, a0_5] : List Int)) := ⟨_, rfl⟩
        replace H : ((message_within.f k (-1) 4611686018427387904 y116).bind fun t119 => (some t119)) = some r := by first | (rw [hy116]; with_reducible exact H) | (have H2_ := (Option.bind_some _ _).symm.trans H; rw [hy116]; with_reducible exact H2_) | (have H2_ := (Option.bind_some _ _).symm.trans H; with_reducible exact H2_) | with_reducible exact H | (rw [hy116]; exact H) | exact H
        have Ny116 := Aside0.mk hy116
        clear hy116
        replace H := Option.bind_eq_some_iff.mp H
        obtain ⟨t119, A80, H⟩ := H
        replace H : (some t119) = some r := H
        have A8 := Aside0.mk A80
        clear A80
        obtain rfl := Option.some.inj H
        go_enter Try.func32, Try.ntmps32
        go_wp2_with (first | ((with_reducible refine gate_dst (N := 1) rfl ?_); (try (refine gate_guard (by rfl) ?_; dsimp only)); refine box_event ?hg (N := 1) ?hd (cs := #[.int .i64 a0_0, .int .i64 a0_1, .int .i64 a0_2, .int .i64 a0_3, .int .i64 a0_4, .int .i64 a0_5, .int .i64 a0_6, .int .i64 a0_7, .int .i64 a0_8]) (t := 29) ?hr ?_; (case hd => rfl); (case hg => rfl); (case hr => first | (go_simp; done) | (go_simp; rfl)); intro gb103 hg w9 hbox hb; have n0_ := Aside0.mk (below_step (by repeat (first | (with_reducible first | exact HB.out | apply below_alloc | apply pw_below_drewN | apply below_drew1) | exact HB.out)) hb); have n1_ := Aside0.mk (hbox); have n2_ := Aside0.mk ((by rw [hg]; exact (below_size (by repeat (first | (with_reducible first | exact HB.out | apply below_alloc | apply pw_below_drewN | apply below_drew1) | exact HB.out))) : w.heap.size ≤ gb103)); have n3_ := Aside0.mk ((by rw [hg]; exact (below_size (by repeat (first | (with_reducible first | exact HB.out | apply below_alloc | apply pw_below_drewN | apply below_drew1) | exact HB.out))) : w.heap.size ≤ gb103)); clear HB; have HB := n0_; have BK103 := n1_; have GW103 := n2_; have GE103 := n3_; clear n0_ n1_ n2_ n3_; clear hb hbox hg; have hcz10_0 : w9.cell? ⟨gb103, 0, none⟩ = some (.int .i64 a0_0) := (blk_cell BK103.out 0).trans rfl; have hcz10_1 : w9.cell? ⟨gb103, 1, none⟩ = some (.int .i64 a0_1) := (blk_cell BK103.out 1).trans rfl; have hcz10_2 : w9.cell? ⟨gb103, 2, none⟩ = some (.int .i64 a0_2) := (blk_cell BK103.out 2).trans rfl; have hcz10_3 : w9.cell? ⟨gb103, 3, none⟩ = some (.int .i64 a0_3) := (blk_cell BK103.out 3).trans rfl; have hcz10_4 : w9.cell? ⟨gb103, 4, none⟩ = some (.int .i64 a0_4) := (blk_cell BK103.out 4).trans rfl; have hcz10_5 : w9.cell? ⟨gb103, 5, none⟩ = some (.int .i64 a0_5) := (blk_cell BK103.out 5).trans rfl; have hcz10_6 : w9.cell? ⟨gb103, 6, none⟩ = some (.int .i64 a0_6) := (blk_cell BK103.out 6).trans rfl; have hcz10_7 : w9.cell? ⟨gb103, 7, none⟩ = some (.int .i64 a0_7) := (blk_cell BK103.out 7).trans rfl; have hcz10_8 : w9.cell? ⟨gb103, 8, none⟩ = some (.int .i64 a0_8) := (blk_cell BK103.out 8).trans rfl; have hfz10_0 := blk_frozen BK103.out 0; have hfz10_1 := blk_frozen BK103.out 1; have hfz10_2 := blk_frozen BK103.out 2; have hfz10_3 := blk_frozen BK103.out 3; have hfz10_4 := blk_frozen BK103.out 4; have hfz10_5 := blk_frozen BK103.out 5; have hfz10_6 := blk_frozen BK103.out 6; have hfz10_7 := blk_frozen BK103.out 7; have hfz10_8 := blk_frozen BK103.out 8) | ((with_reducible refine gate_dst (N := 5) rfl ?_); (try (refine gate_guard (by rfl) ?_; dsimp only)); refine Kd.R_lit (Kd.int .i64) _ 2 ?hg (N := 5) ?hd (xs := ([a0_0] : List Int)) (inner := [.int .i64 a0_0]) (ok := fun _ => True) (okp := fun _ => True) ?hr ?hp (fun _ hk => hk) trivial (Below.refl _ _) (Nat.le_refl _) (by simp) ?_; (case hd => rfl); (case hg => rfl); (case hr => first | (go_simp; done) | (go_simp; rfl)); (case hp => exact (Reps.one (show Kd.M (Kd.int .i64) _ _ _ a0_0 [.int .i64 a0_0] from rfl) (Reps.none _ _))); intro v105 w11 ho12 hb hg_ hnew_; clear hg_ hnew_; (first | rw [← Ny104.out] at ho12 | (simp only [Int.reduceToNat] at ho12; rw [← Ny104.out] at ho12)); have n0_ := Aside0.mk (Kd.R_lower ho12 (below_size (by repeat (first | (with_reducible first | exact HB.out | apply below_alloc | apply pw_below_drewN | apply below_drew1 | refine below_set ?_ GE103.out) | exact HB.out)))); have n1_ := Aside0.mk (blk_below (g := gb103) (o := .cells #[.int .i64 a0_0, .int .i64 a0_1, .int .i64 a0_2, .int .i64 a0_3, .int .i64 a0_4, .int .i64 a0_5, .int .i64 a0_6, .int .i64 a0_7, .int .i64 a0_8] 29 (0, 0)) (by (with_reducible repeat (first | refine blk_drewN ?_ _ | refine blk_drew ?_ | refine blk_alloc ?_ _)); exact BK103.out) hb); have n2_ := Aside0.mk (below_step (by repeat (first | (with_reducible first | exact HB.out | apply below_alloc | apply pw_below_drewN | apply below_drew1 | refine below_set ?_ GE103.out) | exact HB.out)) hb); clear BK103; clear HB; have HO106 := n0_; have BK103 := n1_; have HB := n2_; clear n0_ n1_ n2_; clear hb ho12; obtain ⟨Ao13, co13, eo13⟩ := Kd.R_slice HO106.out; subst eo13) | ((with_reducible refine gate_callee (f := 96) rfl ?_); refine goesL_ (some 6) rfl rfl Try.func96 (by kernel_rfl) rfl #[.int .i64 1, .int .i64 9, .slice Ao13 y104.length co13] rfl (by (try simp only [List.map_toArray, List.map_cons, List.map_nil]); first | done | rfl | (simp only [List.length_drop, List.length_take]; rfl)) ?_; (with_reducible refine (message_within.calls k 1 9 _ _ y104 true _ ?side1 ?side2 A2.out).mono ?_); (case side1 => repeat (first | exact (Kd.R_reads' HO106.out).2.2 | (with_reducible refine Kd.C_alloc ?_ _) | (with_reducible refine Kd.C_drewN ?_ _) | (with_reducible refine Kd.C_drew ?_))); (case side2 => exact (Kd.R_reads' HO106.out).2.1); rintro e w' ⟨rfl, ⟨nd, rfl⟩⟩; refine ⟨_, rfl, ?_⟩; have hcz14_0 : w11.cell? ⟨gb103, 0, none⟩ = some (.int .i64 a0_0) := (blk_cell BK103.out 0).trans rfl; have hcz14_1 : w11.cell? ⟨gb103, 1, none⟩ = some (.int .i64 a0_1) := (blk_cell BK103.out 1).trans rfl; have hcz14_2 : w11.cell? ⟨gb103, 2, none⟩ = some (.int .i64 a0_2) := (blk_cell BK103.out 2).trans rfl; have hcz14_3 : w11.cell? ⟨gb103, 3, none⟩ = some (.int .i64 a0_3) := (blk_cell BK103.out 3).trans rfl; have hcz14_4 : w11.cell? ⟨gb103, 4, none⟩ = some (.int .i64 a0_4) := (blk_cell BK103.out 4).trans rfl; have hcz14_5 : w11.cell? ⟨gb103, 5, none⟩ = some (.int .i64 a0_5) := (blk_cell BK103.out 5).trans rfl; have hcz14_6 : w11.cell? ⟨gb103, 6, none⟩ = some (.int .i64 a0_6) := (blk_cell BK103.out 6).trans rfl; have hcz14_7 : w11.cell? ⟨gb103, 7, none⟩ = some (.int .i64 a0_7) := (blk_cell BK103.out 7).trans rfl; have hcz14_8 : w11.cell? ⟨gb103, 8, none⟩ = some (.int .i64 a0_8) := (blk_cell BK103.out 8).trans rfl; have hfz14_0 := blk_frozen BK103.out 0; have hfz14_1 := blk_frozen BK103.out 1; have hfz14_2 := blk_frozen BK103.out 2; have hfz14_3 := blk_frozen BK103.out 3; have hfz14_4 := blk_frozen BK103.out 4; have hfz14_5 := blk_frozen BK103.out 5; have hfz14_6 := blk_frozen BK103.out 6; have hfz14_7 := blk_frozen BK103.out 7; have hfz14_8 := blk_frozen BK103.out 8) | ((with_reducible refine gate_dst (N := 12) rfl ?_); (try (refine gate_guard (by rfl) ?_; dsimp only)); refine Kd.R_lit (Kd.int .i64) _ 2 ?hg (N := 12) ?hd (xs := ([a0_1, a0_8] : List Int)) (inner := [.int .i64 a0_1, .int .i64 a0_8]) (ok := fun _ => True) (okp := fun _ => True) ?hr ?hp (fun _ hk => hk) trivial (Below.refl _ _) (Nat.le_refl _) (by simp) ?_; (case hd => rfl); (case hg => rfl); (case hr => first | (go_simp; done) | (go_simp; rfl)); (case hp => exact (Reps.one (show Kd.M (Kd.int .i64) _ _ _ a0_1 [.int .i64 a0_1] from rfl) (Reps.one (show Kd.M (Kd.int .i64) _ _ _ a0_8 [.int .i64 a0_8] from rfl) (Reps.none _ _)))); intro v109 w15 ho16 hb hg_ hnew_; clear hg_ hnew_; (first | rw [← Ny108.out] at ho16 | (simp only [Int.reduceToNat] at ho16; rw [← Ny108.out] at ho16)); have n0_ := Aside0.mk (Kd.R_elder' (by (with_reducible repeat (first | apply Kd.R_alloc | apply Kd.R_drewN | apply Kd.R_drew)); exact HO106.out) (Kd.R_base ho16) hb); have n1_ := Aside0.mk (Kd.R_lower (Kd.R_new' ho16 (Kd.R_lt (by (with_reducible repeat (first | apply Kd.R_alloc | apply Kd.R_drewN | apply Kd.R_drew)); exact HO106.out))) (below_size (by repeat (first | (with_reducible first | exact HB.out | apply below_alloc | apply pw_below_drewN | apply below_drew1 | refine below_set ?_ GE103.out) | exact HB.out)))); have n2_ := Aside0.mk (blk_below (g := gb103) (o := .cells #[.int .i64 a0_0, .int .i64 a0_1, .int .i64 a0_2, .int .i64 a0_3, .int .i64 a0_4, .int .i64 a0_5, .int .i64 a0_6, .int .i64 a0_7, .int .i64 a0_8] 29 (0, 0)) (by (with_reducible repeat (first | refine blk_drewN ?_ _ | refine blk_drew ?_ | refine blk_alloc ?_ _)); exact BK103.out) hb); have n3_ := Aside0.mk (below_step (by repeat (first | (with_reducible first | exact HB.out | apply below_alloc | apply pw_below_drewN | apply below_drew1 | refine below_set ?_ GE103.out) | exact HB.out)) hb); clear HO106; clear BK103; clear HB; have HO106 := n0_; have HO110 := n1_; have BK103 := n2_; have HB := n3_; clear n0_ n1_ n2_ n3_; clear hb ho16; obtain ⟨Ao17, co17, eo17⟩ := Kd.R_slice HO110.out; subst eo17) | (go_at_call 96; (with_reducible refine (message_within.calls k 0 255 _ _ y108 true _ ?side1 ?side2 A4.out).mono ?_); (case side1 => repeat (first | exact (Kd.R_reads' HO110.out).2.2 | (with_reducible refine Kd.C_alloc ?_ _) | (with_reducible refine Kd.C_drewN ?_ _) | (with_reducible refine Kd.C_drew ?_))); (case side2 => exact (Kd.R_reads' HO110.out).2.1); rintro e w' ⟨rfl, ⟨nd, rfl⟩⟩; have hcz18_0 : w15.cell? ⟨gb103, 0, none⟩ = some (.int .i64 a0_0) := (blk_cell BK103.out 0).trans rfl; have hcz18_1 : w15.cell? ⟨gb103, 1, none⟩ = some (.int .i64 a0_1) := (blk_cell BK103.out 1).trans rfl; have hcz18_2 : w15.cell? ⟨gb103, 2, none⟩ = some (.int .i64 a0_2) := (blk_cell BK103.out 2).trans rfl; have hcz18_3 : w15.cell? ⟨gb103, 3, none⟩ = some (.int .i64 a0_3) := (blk_cell BK103.out 3).trans rfl; have hcz18_4 : w15.cell? ⟨gb103, 4, none⟩ = some (.int .i64 a0_4) := (blk_cell BK103.out 4).trans rfl; have hcz18_5 : w15.cell? ⟨gb103, 5, none⟩ = some (.int .i64 a0_5) := (blk_cell BK103.out 5).trans rfl; have hcz18_6 : w15.cell? ⟨gb103, 6, none⟩ = some (.int .i64 a0_6) := (blk_cell BK103.out 6).trans rfl; have hcz18_7 : w15.cell? ⟨gb103, 7, none⟩ = some (.int .i64 a0_7) := (blk_cell BK103.out 7).trans rfl; have hcz18_8 : w15.cell? ⟨gb103, 8, none⟩ = some (.int .i64 a0_8) := (blk_cell BK103.out 8).trans rfl; have hfz18_0 := blk_frozen BK103.out 0; have hfz18_1 := blk_frozen BK103.out 1; have hfz18_2 := blk_frozen BK103.out 2; have hfz18_3 := blk_frozen BK103.out 3; have hfz18_4 := blk_frozen BK103.out 4; have hfz18_5 := blk_frozen BK103.out 5; have hfz18_6 := blk_frozen BK103.out 6; have hfz18_7 := blk_frozen BK103.out 7; have hfz18_8 := blk_frozen BK103.out 8) | ((with_reducible refine gate_dst (N := 20) rfl ?_); (try (refine gate_guard (by rfl) ?_; dsimp only)); refine Kd.R_lit (Kd.int .i64) _ 2 ?hg (N := 20) ?hd (xs := ([a0_2, a0_3] : List Int)) (inner := [.int .i64 a0_2, .int .i64 a0_3]) (ok := fun _ => True) (okp := fun _ => True) ?hr ?hp (fun _ hk => hk) trivial (Below.refl _ _) (Nat.le_refl _) (by simp) ?_; (case hd => rfl); (case hg => rfl); (case hr => first | (go_simp; done) | (go_simp; rfl)); (case hp => exact (Reps.one (show Kd.M (Kd.int .i64) _ _ _ a0_2 [.int .i64 a0_2] from rfl) (Reps.one (show Kd.M (Kd.int .i64) _ _ _ a0_3 [.int .i64 a0_3] from rfl) (Reps.none _ _)))); intro v113 w19 ho20 hb hg_ hnew_; clear hg_ hnew_; (first | rw [← Ny112.out] at ho20 | (simp only [Int.reduceToNat] at ho20; rw [← Ny112.out] at ho20)); have n0_ := Aside0.mk (Kd.R_elder' (by (with_reducible repeat (first | apply Kd.R_alloc | apply Kd.R_drewN | apply Kd.R_drew)); exact HO106.out) (Kd.R_base ho20) hb); have n1_ := Aside0.mk (Kd.R_elder' (by (with_reducible repeat (first | apply Kd.R_alloc | apply Kd.R_drewN | apply Kd.R_drew)); exact HO110.out) (Kd.R_base ho20) hb); have n2_ := Aside0.mk (Kd.R_lower (Kd.R_new' (Kd.R_new' ho20 (Kd.R_lt (by (with_reducible repeat (first | apply Kd.R_alloc | apply Kd.R_drewN | apply Kd.R_drew)); exact HO106.out))) (Kd.R_lt (by (with_reducible repeat (first | apply Kd.R_alloc | apply Kd.R_drewN | apply Kd.R_drew)); exact HO110.out))) (below_size (by repeat (first | (with_reducible first | exact HB.out | apply below_alloc | apply pw_below_drewN | apply below_drew1 | refine below_set ?_ GE103.out) | exact HB.out)))); have n3_ := Aside0.mk (blk_below (g := gb103) (o := .cells #[.int .i64 a0_0, .int .i64 a0_1, .int .i64 a0_2, .int .i64 a0_3, .int .i64 a0_4, .int .i64 a0_5, .int .i64 a0_6, .int .i64 a0_7, .int .i64 a0_8] 29 (0, 0)) (by (with_reducible repeat (first | refine blk_drewN ?_ _ | refine blk_drew ?_ | refine blk_alloc ?_ _)); exact BK103.out) hb); have n4_ := Aside0.mk (below_step (by repeat (first | (with_reducible first | exact HB.out | apply below_alloc | apply pw_below_drewN | apply below_drew1 | refine below_set ?_ GE103.out) | exact HB.out)) hb); clear HO106; clear HO110; clear BK103; clear HB; have HO106 := n0_; have HO110 := n1_; have HO114 := n2_; have BK103 := n3_; have HB := n4_; clear n0_ n1_ n2_ n3_ n4_; clear hb ho20; obtain ⟨Ao21, co21, eo21⟩ := Kd.R_slice HO114.out; subst eo21) | (go_at_call 96; (with_reducible refine (message_within.calls k 0 4611686018427387904 _ _ y112 true _ ?side1 ?side2 A6.out).mono ?_); (case side1 => repeat (first | exact (Kd.R_reads' HO114.out).2.2 | (with_reducible refine Kd.C_alloc ?_ _) | (with_reducible refine Kd.C_drewN ?_ _) | (with_reducible refine Kd.C_drew ?_))); (case side2 => exact (Kd.R_reads' HO114.out).2.1); rintro e w' ⟨rfl, ⟨nd, rfl⟩⟩; have hcz22_0 : w19.cell? ⟨gb103, 0, none⟩ = some (.int .i64 a0_0) := (blk_cell BK103.out 0).trans rfl; have hcz22_1 : w19.cell? ⟨gb103, 1, none⟩ = some (.int .i64 a0_1) := (blk_cell BK103.out 1).trans rfl; have hcz22_2 : w19.cell? ⟨gb103, 2, none⟩ = some (.int .i64 a0_2) := (blk_cell BK103.out 2).trans rfl; have hcz22_3 : w19.cell? ⟨gb103, 3, none⟩ = some (.int .i64 a0_3) := (blk_cell BK103.out 3).trans rfl; have hcz22_4 : w19.cell? ⟨gb103, 4, none⟩ = some (.int .i64 a0_4) := (blk_cell BK103.out 4).trans rfl; have hcz22_5 : w19.cell? ⟨gb103, 5, none⟩ = some (.int .i64 a0_5) := (blk_cell BK103.out 5).trans rfl; have hcz22_6 : w19.cell? ⟨gb103, 6, none⟩ = some (.int .i64 a0_6) := (blk_cell BK103.out 6).trans rfl; have hcz22_7 : w19.cell? ⟨gb103, 7, none⟩ = some (.int .i64 a0_7) := (blk_cell BK103.out 7).trans rfl; have hcz22_8 : w19.cell? ⟨gb103, 8, none⟩ = some (.int .i64 a0_8) := (blk_cell BK103.out 8).trans rfl; have hfz22_0 := blk_frozen BK103.out 0; have hfz22_1 := blk_frozen BK103.out 1; have hfz22_2 := blk_frozen BK103.out 2; have hfz22_3 := blk_frozen BK103.out 3; have hfz22_4 := blk_frozen BK103.out 4; have hfz22_5 := blk_frozen BK103.out 5; have hfz22_6 := blk_frozen BK103.out 6; have hfz22_7 := blk_frozen BK103.out 7; have hfz22_8 := blk_frozen BK103.out 8) | ((with_reducible refine gate_dst (N := 28) rfl ?_); (try (refine gate_guard (by rfl) ?_; dsimp only)); refine Kd.R_lit (Kd.int .i64) _ 2 ?hg (N := 28) ?hd (xs := ([a0_4, a0_5] : List Int)) (inner := [.int .i64 a0_4, .int .i64 a0_5]) (ok := fun _ => True) (okp := fun _ => True) ?hr ?hp (fun _ hk => hk) trivial (Below.refl _ _) (Nat.le_refl _) (by simp) ?_; (case hd => rfl); (case hg => rfl); (case hr => first | (go_simp; done) | (go_simp; rfl)); (case hp => exact (Reps.one (show Kd.M (Kd.int .i64) _ _ _ a0_4 [.int .i64 a0_4] from rfl) (Reps.one (show Kd.M (Kd.int .i64) _ _ _ a0_5 [.int .i64 a0_5] from rfl) (Reps.none _ _)))); intro v117 w23 ho24 hb hg_ hnew_; clear hg_ hnew_; (first | rw [← Ny116.out] at ho24 | (simp only [Int.reduceToNat] at ho24; rw [← Ny116.out] at ho24)); have n0_ := Aside0.mk (Kd.R_elder' (by (with_reducible repeat (first | apply Kd.R_alloc | apply Kd.R_drewN | apply Kd.R_drew)); exact HO106.out) (Kd.R_base ho24) hb); have n1_ := Aside0.mk (Kd.R_elder' (by (with_reducible repeat (first | apply Kd.R_alloc | apply Kd.R_drewN | apply Kd.R_drew)); exact HO110.out) (Kd.R_base ho24) hb); have n2_ := Aside0.mk (Kd.R_elder' (by (with_reducible repeat (first | apply Kd.R_alloc | apply Kd.R_drewN | apply Kd.R_drew)); exact HO114.out) (Kd.R_base ho24) hb); have n3_ := Aside0.mk (Kd.R_lower (Kd.R_new' (Kd.R_new' (Kd.R_new' ho24 (Kd.R_lt (by (with_reducible repeat (first | apply Kd.R_alloc | apply Kd.R_drewN | apply Kd.R_drew)); exact HO106.out))) (Kd.R_lt (by (with_reducible repeat (first | apply Kd.R_alloc | apply Kd.R_drewN | apply Kd.R_drew)); exact HO110.out))) (Kd.R_lt (by (with_reducible repeat (first | apply Kd.R_alloc | apply Kd.R_drewN | apply Kd.R_drew)); exact HO114.out))) (below_size (by repeat (first | (with_reducible first | exact HB.out | apply below_alloc | apply pw_below_drewN | apply below_drew1 | refine below_set ?_ GE103.out) | exact HB.out)))); have n4_ := Aside0.mk (blk_below (g := gb103) (o := .cells #[.int .i64 a0_0, .int .i64 a0_1, .int .i64 a0_2, .int .i64 a0_3, .int .i64 a0_4, .int .i64 a0_5, .int .i64 a0_6, .int .i64 a0_7, .int .i64 a0_8] 29 (0, 0)) (by (with_reducible repeat (first | refine blk_drewN ?_ _ | refine blk_drew ?_ | refine blk_alloc ?_ _)); exact BK103.out) hb); have n5_ := Aside0.mk (below_step (by repeat (first | (with_reducible first | exact HB.out | apply below_alloc | apply pw_below_drewN | apply below_drew1 | refine below_set ?_ GE103.out) | exact HB.out)) hb); clear HO106; clear HO110; clear HO114; clear BK103; clear HB; have HO106 := n0_; have HO110 := n1_; have HO114 := n2_; have HO118 := n3_; have BK103 := n4_; have HB := n5_; clear n0_ n1_ n2_ n3_ n4_ n5_; clear hb ho24; obtain ⟨Ao25, co25, eo25⟩ := Kd.R_slice HO118.out; subst eo25) | (go_at_call 96; (with_reducible refine (message_within.calls k (-1) 4611686018427387904 _ _ y116 t119 _ ?side1 ?side2 A8.out).mono ?_); (case side1 => repeat (first | exact (Kd.R_reads' HO118.out).2.2 | (with_reducible refine Kd.C_alloc ?_ _) | (with_reducible refine Kd.C_drewN ?_ _) | (with_reducible refine Kd.C_drew ?_))); (case side2 => exact (Kd.R_reads' HO118.out).2.1); rintro e w' ⟨rfl, ⟨nd, rfl⟩⟩))
        go_ret
        exact ⟨by first | rfl | (simp [errW_none, errW_some] <;> rfl) | (simp [*, errW_none, errW_some] <;> rfl), by repeat (first | (with_reducible first | exact HB.out | apply below_alloc | apply pw_below_drewN | apply below_drew1 | refine below_set ?_ GE103.out) | exact HB.out)⟩
      · replace c7 := Bool.eq_false_iff.mpr c7
        subst c7
        have H1 : (some false) = some r := by rw [if_neg (show ¬ (false = true) by decide)] at H; exact H
        clear H
        have H := H1
        clear H1
        obtain rfl := Option.some.inj H
        go_enter Try.func32, Try.ntmps32
        go_wp2_with (first | ((with_reducible refine gate_dst (N := 1) rfl ?_); (try (refine gate_guard (by rfl) ?_; dsimp only)); refine box_event ?hg (N := 1) ?hd (cs := #[.int .i64 a0_0, .int .i64 a0_1, .int .i64 a0_2, .int .i64 a0_3, .int .i64 a0_4, .int .i64 a0_5, .int .i64 a0_6, .int .i64 a0_7, .int .i64 a0_8]) (t := 29) ?hr ?_; (case hd => rfl); (case hg => rfl); (case hr => first | (go_simp; done) | (go_simp; rfl)); intro gb103 hg w26 hbox hb; have n0_ := Aside0.mk (below_step (by repeat (first | (with_reducible first | exact HB.out | apply below_alloc | apply pw_below_drewN | apply below_drew1) | exact HB.out)) hb); have n1_ := Aside0.mk (hbox); have n2_ := Aside0.mk ((by rw [hg]; exact (below_size (by repeat (first | (with_reducible first | exact HB.out | apply below_alloc | apply pw_below_drewN | apply below_drew1) | exact HB.out))) : w.heap.size ≤ gb103)); have n3_ := Aside0.mk ((by rw [hg]; exact (below_size (by repeat (first | (with_reducible first | exact HB.out | apply below_alloc | apply pw_below_drewN | apply below_drew1) | exact HB.out))) : w.heap.size ≤ gb103)); clear HB; have HB := n0_; have BK103 := n1_; have GW103 := n2_; have GE103 := n3_; clear n0_ n1_ n2_ n3_; clear hb hbox hg; have hcz27_0 : w26.cell? ⟨gb103, 0, none⟩ = some (.int .i64 a0_0) := (blk_cell BK103.out 0).trans rfl; have hcz27_1 : w26.cell? ⟨gb103, 1, none⟩ = some (.int .i64 a0_1) := (blk_cell BK103.out 1).trans rfl; have hcz27_2 : w26.cell? ⟨gb103, 2, none⟩ = some (.int .i64 a0_2) := (blk_cell BK103.out 2).trans rfl; have hcz27_3 : w26.cell? ⟨gb103, 3, none⟩ = some (.int .i64 a0_3) := (blk_cell BK103.out 3).trans rfl; have hcz27_4 : w26.cell? ⟨gb103, 4, none⟩ = some (.int .i64 a0_4) := (blk_cell BK103.out 4).trans rfl; have hcz27_5 : w26.cell? ⟨gb103, 5, none⟩ = some (.int .i64 a0_5) := (blk_cell BK103.out 5).trans rfl; have hcz27_6 : w26.cell? ⟨gb103, 6, none⟩ = some (.int .i64 a0_6) := (blk_cell BK103.out 6).trans rfl; have hcz27_7 : w26.cell? ⟨gb103, 7, none⟩ = some (.int .i64 a0_7) := (blk_cell BK103.out 7).trans rfl; have hcz27_8 : w26.cell? ⟨gb103, 8, none⟩ = some (.int .i64 a0_8) := (blk_cell BK103.out 8).trans rfl; have hfz27_0 := blk_frozen BK103.out 0; have hfz27_1 := blk_frozen BK103.out 1; have hfz27_2 := blk_frozen BK103.out 2; have hfz27_3 := blk_frozen BK103.out 3; have hfz27_4 := blk_frozen BK103.out 4; have hfz27_5 := blk_frozen BK103.out 5; have hfz27_6 := blk_frozen BK103.out 6; have hfz27_7 := blk_frozen BK103.out 7; have hfz27_8 := blk_frozen BK103.out 8) | ((with_reducible refine gate_dst (N := 5) rfl ?_); (try (refine gate_guard (by rfl) ?_; dsimp only)); refine Kd.R_lit (Kd.int .i64) _ 2 ?hg (N := 5) ?hd (xs := ([a0_0] : List Int)) (inner := [.int .i64 a0_0]) (ok := fun _ => True) (okp := fun _ => True) ?hr ?hp (fun _ hk => hk) trivial (Below.refl _ _) (Nat.le_refl _) (by simp) ?_; (case hd => rfl); (case hg => rfl); (case hr => first | (go_simp; done) | (go_simp; rfl)); (case hp => exact (Reps.one (show Kd.M (Kd.int .i64) _ _ _ a0_0 [.int .i64 a0_0] from rfl) (Reps.none _ _))); intro v105 w28 ho29 hb hg_ hnew_; clear hg_ hnew_; (first | rw [← Ny104.out] at ho29 | (simp only [Int.reduceToNat] at ho29; rw [← Ny104.out] at ho29)); have n0_ := Aside0.mk (Kd.R_lower ho29 (below_size (by repeat (first | (with_reducible first | exact HB.out | apply below_alloc | apply pw_below_drewN | apply below_drew1 | refine below_set ?_ GE103.out) | exact HB.out)))); have n1_ := Aside0.mk (blk_below (g := gb103) (o := .cells #[.int .i64 a0_0, .int .i64 a0_1, .int .i64 a0_2, .int .i64 a0_3, .int .i64 a0_4, .int .i64 a0_5, .int .i64 a0_6, .int .i64 a0_7, .int .i64 a0_8] 29 (0, 0)) (by (with_reducible repeat (first | refine blk_drewN ?_ _ | refine blk_drew ?_ | refine blk_alloc ?_ _)); exact BK103.out) hb); have n2_ := Aside0.mk (below_step (by repeat (first | (with_reducible first | exact HB.out | apply below_alloc | apply pw_below_drewN | apply below_drew1 | refine below_set ?_ GE103.out) | exact HB.out)) hb); clear BK103; clear HB; have HO106 := n0_; have BK103 := n1_; have HB := n2_; clear n0_ n1_ n2_; clear hb ho29; obtain ⟨Ao30, co30, eo30⟩ := Kd.R_slice HO106.out; subst eo30) | ((with_reducible refine gate_callee (f := 96) rfl ?_); refine goesL_ (some 6) rfl rfl Try.func96 (by kernel_rfl) rfl #[.int .i64 1, .int .i64 9, .slice Ao30 y104.length co30] rfl (by (try simp only [List.map_toArray, List.map_cons, List.map_nil]); first | done | rfl | (simp only [List.length_drop, List.length_take]; rfl)) ?_; (with_reducible refine (message_within.calls k 1 9 _ _ y104 true _ ?side1 ?side2 A2.out).mono ?_); (case side1 => repeat (first | exact (Kd.R_reads' HO106.out).2.2 | (with_reducible refine Kd.C_alloc ?_ _) | (with_reducible refine Kd.C_drewN ?_ _) | (with_reducible refine Kd.C_drew ?_))); (case side2 => exact (Kd.R_reads' HO106.out).2.1); rintro e w' ⟨rfl, ⟨nd, rfl⟩⟩; refine ⟨_, rfl, ?_⟩; have hcz31_0 : w28.cell? ⟨gb103, 0, none⟩ = some (.int .i64 a0_0) := (blk_cell BK103.out 0).trans rfl; have hcz31_1 : w28.cell? ⟨gb103, 1, none⟩ = some (.int .i64 a0_1) := (blk_cell BK103.out 1).trans rfl; have hcz31_2 : w28.cell? ⟨gb103, 2, none⟩ = some (.int .i64 a0_2) := (blk_cell BK103.out 2).trans rfl; have hcz31_3 : w28.cell? ⟨gb103, 3, none⟩ = some (.int .i64 a0_3) := (blk_cell BK103.out 3).trans rfl; have hcz31_4 : w28.cell? ⟨gb103, 4, none⟩ = some (.int .i64 a0_4) := (blk_cell BK103.out 4).trans rfl; have hcz31_5 : w28.cell? ⟨gb103, 5, none⟩ = some (.int .i64 a0_5) := (blk_cell BK103.out 5).trans rfl; have hcz31_6 : w28.cell? ⟨gb103, 6, none⟩ = some (.int .i64 a0_6) := (blk_cell BK103.out 6).trans rfl; have hcz31_7 : w28.cell? ⟨gb103, 7, none⟩ = some (.int .i64 a0_7) := (blk_cell BK103.out 7).trans rfl; have hcz31_8 : w28.cell? ⟨gb103, 8, none⟩ = some (.int .i64 a0_8) := (blk_cell BK103.out 8).trans rfl; have hfz31_0 := blk_frozen BK103.out 0; have hfz31_1 := blk_frozen BK103.out 1; have hfz31_2 := blk_frozen BK103.out 2; have hfz31_3 := blk_frozen BK103.out 3; have hfz31_4 := blk_frozen BK103.out 4; have hfz31_5 := blk_frozen BK103.out 5; have hfz31_6 := blk_frozen BK103.out 6; have hfz31_7 := blk_frozen BK103.out 7; have hfz31_8 := blk_frozen BK103.out 8) | ((with_reducible refine gate_dst (N := 12) rfl ?_); (try (refine gate_guard (by rfl) ?_; dsimp only)); refine Kd.R_lit (Kd.int .i64) _ 2 ?hg (N := 12) ?hd (xs := ([a0_1, a0_8] : List Int)) (inner := [.int .i64 a0_1, .int .i64 a0_8]) (ok := fun _ => True) (okp := fun _ => True) ?hr ?hp (fun _ hk => hk) trivial (Below.refl _ _) (Nat.le_refl _) (by simp) ?_; (case hd => rfl); (case hg => rfl); (case hr => first | (go_simp; done) | (go_simp; rfl)); (case hp => exact (Reps.one (show Kd.M (Kd.int .i64) _ _ _ a0_1 [.int .i64 a0_1] from rfl) (Reps.one (show Kd.M (Kd.int .i64) _ _ _ a0_8 [.int .i64 a0_8] from rfl) (Reps.none _ _)))); intro v109 w32 ho33 hb hg_ hnew_; clear hg_ hnew_; (first | rw [← Ny108.out] at ho33 | (simp only [Int.reduceToNat] at ho33; rw [← Ny108.out] at ho33)); have n0_ := Aside0.mk (Kd.R_elder' (by (with_reducible repeat (first | apply Kd.R_alloc | apply Kd.R_drewN | apply Kd.R_drew)); exact HO106.out) (Kd.R_base ho33) hb); have n1_ := Aside0.mk (Kd.R_lower (Kd.R_new' ho33 (Kd.R_lt (by (with_reducible repeat (first | apply Kd.R_alloc | apply Kd.R_drewN | apply Kd.R_drew)); exact HO106.out))) (below_size (by repeat (first | (with_reducible first | exact HB.out | apply below_alloc | apply pw_below_drewN | apply below_drew1 | refine below_set ?_ GE103.out) | exact HB.out)))); have n2_ := Aside0.mk (blk_below (g := gb103) (o := .cells #[.int .i64 a0_0, .int .i64 a0_1, .int .i64 a0_2, .int .i64 a0_3, .int .i64 a0_4, .int .i64 a0_5, .int .i64 a0_6, .int .i64 a0_7, .int .i64 a0_8] 29 (0, 0)) (by (with_reducible repeat (first | refine blk_drewN ?_ _ | refine blk_drew ?_ | refine blk_alloc ?_ _)); exact BK103.out) hb); have n3_ := Aside0.mk (below_step (by repeat (first | (with_reducible first | exact HB.out | apply below_alloc | apply pw_below_drewN | apply below_drew1 | refine below_set ?_ GE103.out) | exact HB.out)) hb); clear HO106; clear BK103; clear HB; have HO106 := n0_; have HO110 := n1_; have BK103 := n2_; have HB := n3_; clear n0_ n1_ n2_ n3_; clear hb ho33; obtain ⟨Ao34, co34, eo34⟩ := Kd.R_slice HO110.out; subst eo34) | (go_at_call 96; (with_reducible refine (message_within.calls k 0 255 _ _ y108 true _ ?side1 ?side2 A4.out).mono ?_); (case side1 => repeat (first | exact (Kd.R_reads' HO110.out).2.2 | (with_reducible refine Kd.C_alloc ?_ _) | (with_reducible refine Kd.C_drewN ?_ _) | (with_reducible refine Kd.C_drew ?_))); (case side2 => exact (Kd.R_reads' HO110.out).2.1); rintro e w' ⟨rfl, ⟨nd, rfl⟩⟩; have hcz35_0 : w32.cell? ⟨gb103, 0, none⟩ = some (.int .i64 a0_0) := (blk_cell BK103.out 0).trans rfl; have hcz35_1 : w32.cell? ⟨gb103, 1, none⟩ = some (.int .i64 a0_1) := (blk_cell BK103.out 1).trans rfl; have hcz35_2 : w32.cell? ⟨gb103, 2, none⟩ = some (.int .i64 a0_2) := (blk_cell BK103.out 2).trans rfl; have hcz35_3 : w32.cell? ⟨gb103, 3, none⟩ = some (.int .i64 a0_3) := (blk_cell BK103.out 3).trans rfl; have hcz35_4 : w32.cell? ⟨gb103, 4, none⟩ = some (.int .i64 a0_4) := (blk_cell BK103.out 4).trans rfl; have hcz35_5 : w32.cell? ⟨gb103, 5, none⟩ = some (.int .i64 a0_5) := (blk_cell BK103.out 5).trans rfl; have hcz35_6 : w32.cell? ⟨gb103, 6, none⟩ = some (.int .i64 a0_6) := (blk_cell BK103.out 6).trans rfl; have hcz35_7 : w32.cell? ⟨gb103, 7, none⟩ = some (.int .i64 a0_7) := (blk_cell BK103.out 7).trans rfl; have hcz35_8 : w32.cell? ⟨gb103, 8, none⟩ = some (.int .i64 a0_8) := (blk_cell BK103.out 8).trans rfl; have hfz35_0 := blk_frozen BK103.out 0; have hfz35_1 := blk_frozen BK103.out 1; have hfz35_2 := blk_frozen BK103.out 2; have hfz35_3 := blk_frozen BK103.out 3; have hfz35_4 := blk_frozen BK103.out 4; have hfz35_5 := blk_frozen BK103.out 5; have hfz35_6 := blk_frozen BK103.out 6; have hfz35_7 := blk_frozen BK103.out 7; have hfz35_8 := blk_frozen BK103.out 8) | ((with_reducible refine gate_dst (N := 20) rfl ?_); (try (refine gate_guard (by rfl) ?_; dsimp only)); refine Kd.R_lit (Kd.int .i64) _ 2 ?hg (N := 20) ?hd (xs := ([a0_2, a0_3] : List Int)) (inner := [.int .i64 a0_2, .int .i64 a0_3]) (ok := fun _ => True) (okp := fun _ => True) ?hr ?hp (fun _ hk => hk) trivial (Below.refl _ _) (Nat.le_refl _) (by simp) ?_; (case hd => rfl); (case hg => rfl); (case hr => first | (go_simp; done) | (go_simp; rfl)); (case hp => exact (Reps.one (show Kd.M (Kd.int .i64) _ _ _ a0_2 [.int .i64 a0_2] from rfl) (Reps.one (show Kd.M (Kd.int .i64) _ _ _ a0_3 [.int .i64 a0_3] from rfl) (Reps.none _ _)))); intro v113 w36 ho37 hb hg_ hnew_; clear hg_ hnew_; (first | rw [← Ny112.out] at ho37 | (simp only [Int.reduceToNat] at ho37; rw [← Ny112.out] at ho37)); have n0_ := Aside0.mk (Kd.R_elder' (by (with_reducible repeat (first | apply Kd.R_alloc | apply Kd.R_drewN | apply Kd.R_drew)); exact HO106.out) (Kd.R_base ho37) hb); have n1_ := Aside0.mk (Kd.R_elder' (by (with_reducible repeat (first | apply Kd.R_alloc | apply Kd.R_drewN | apply Kd.R_drew)); exact HO110.out) (Kd.R_base ho37) hb); have n2_ := Aside0.mk (Kd.R_lower (Kd.R_new' (Kd.R_new' ho37 (Kd.R_lt (by (with_reducible repeat (first | apply Kd.R_alloc | apply Kd.R_drewN | apply Kd.R_drew)); exact HO106.out))) (Kd.R_lt (by (with_reducible repeat (first | apply Kd.R_alloc | apply Kd.R_drewN | apply Kd.R_drew)); exact HO110.out))) (below_size (by repeat (first | (with_reducible first | exact HB.out | apply below_alloc | apply pw_below_drewN | apply below_drew1 | refine below_set ?_ GE103.out) | exact HB.out)))); have n3_ := Aside0.mk (blk_below (g := gb103) (o := .cells #[.int .i64 a0_0, .int .i64 a0_1, .int .i64 a0_2, .int .i64 a0_3, .int .i64 a0_4, .int .i64 a0_5, .int .i64 a0_6, .int .i64 a0_7, .int .i64 a0_8] 29 (0, 0)) (by (with_reducible repeat (first | refine blk_drewN ?_ _ | refine blk_drew ?_ | refine blk_alloc ?_ _)); exact BK103.out) hb); have n4_ := Aside0.mk (below_step (by repeat (first | (with_reducible first | exact HB.out | apply below_alloc | apply pw_below_drewN | apply below_drew1 | refine below_set ?_ GE103.out) | exact HB.out)) hb); clear HO106; clear HO110; clear BK103; clear HB; have HO106 := n0_; have HO110 := n1_; have HO114 := n2_; have BK103 := n3_; have HB := n4_; clear n0_ n1_ n2_ n3_ n4_; clear hb ho37; obtain ⟨Ao38, co38, eo38⟩ := Kd.R_slice HO114.out; subst eo38) | (go_at_call 96; (with_reducible refine (message_within.calls k 0 4611686018427387904 _ _ y112 false _ ?side1 ?side2 A6.out).mono ?_); (case side1 => repeat (first | exact (Kd.R_reads' HO114.out).2.2 | (with_reducible refine Kd.C_alloc ?_ _) | (with_reducible refine Kd.C_drewN ?_ _) | (with_reducible refine Kd.C_drew ?_))); (case side2 => exact (Kd.R_reads' HO114.out).2.1); rintro e w' ⟨rfl, ⟨nd, rfl⟩⟩))
        go_ret
        exact ⟨by first | rfl | (simp [errW_none, errW_some] <;> rfl) | (simp [*, errW_none, errW_some] <;> rfl), by repeat (first | (with_reducible first | exact HB.out | apply below_alloc | apply pw_below_drewN | apply below_drew1 | refine below_set ?_ GE103.out) | exact HB.out)⟩
    · replace c5 := Bool.eq_false_iff.mpr c5
      subst c5
      have H1 : (some false) = some r := by rw [if_neg (show ¬ (false = true) by decide)] at H; exact H
      clear H
      have H := H1
      clear H1
      obtain rfl := Option.some.inj H
      go_enter Try.func32, Try.ntmps32
      go_wp2_with (first | ((with_reducible refine gate_dst (N := 1) rfl ?_); (try (refine gate_guard (by rfl) ?_; dsimp only)); refine box_event ?hg (N := 1) ?hd (cs := #[.int .i64 a0_0, .int .i64 a0_1, .int .i64 a0_2, .int .i64 a0_3, .int .i64 a0_4, .int .i64 a0_5, .int .i64 a0_6, .int .i64 a0_7, .int .i64 a0_8]) (t := 29) ?hr ?_; (case hd => rfl); (case hg => rfl); (case hr => first | (go_simp; done) | (go_simp; rfl)); intro gb103 hg w39 hbox hb; have n0_ := Aside0.mk (below_step (by repeat (first | (with_reducible first | exact HB.out | apply below_alloc | apply pw_below_drewN | apply below_drew1) | exact HB.out)) hb); have n1_ := Aside0.mk (hbox); have n2_ := Aside0.mk ((by rw [hg]; exact (below_size (by repeat (first | (with_reducible first | exact HB.out | apply below_alloc | apply pw_below_drewN | apply below_drew1) | exact HB.out))) : w.heap.size ≤ gb103)); have n3_ := Aside0.mk ((by rw [hg]; exact (below_size (by repeat (first | (with_reducible first | exact HB.out | apply below_alloc | apply pw_below_drewN | apply below_drew1) | exact HB.out))) : w.heap.size ≤ gb103)); clear HB; have HB := n0_; have BK103 := n1_; have GW103 := n2_; have GE103 := n3_; clear n0_ n1_ n2_ n3_; clear hb hbox hg; have hcz40_0 : w39.cell? ⟨gb103, 0, none⟩ = some (.int .i64 a0_0) := (blk_cell BK103.out 0).trans rfl; have hcz40_1 : w39.cell? ⟨gb103, 1, none⟩ = some (.int .i64 a0_1) := (blk_cell BK103.out 1).trans rfl; have hcz40_2 : w39.cell? ⟨gb103, 2, none⟩ = some (.int .i64 a0_2) := (blk_cell BK103.out 2).trans rfl; have hcz40_3 : w39.cell? ⟨gb103, 3, none⟩ = some (.int .i64 a0_3) := (blk_cell BK103.out 3).trans rfl; have hcz40_4 : w39.cell? ⟨gb103, 4, none⟩ = some (.int .i64 a0_4) := (blk_cell BK103.out 4).trans rfl; have hcz40_5 : w39.cell? ⟨gb103, 5, none⟩ = some (.int .i64 a0_5) := (blk_cell BK103.out 5).trans rfl; have hcz40_6 : w39.cell? ⟨gb103, 6, none⟩ = some (.int .i64 a0_6) := (blk_cell BK103.out 6).trans rfl; have hcz40_7 : w39.cell? ⟨gb103, 7, none⟩ = some (.int .i64 a0_7) := (blk_cell BK103.out 7).trans rfl; have hcz40_8 : w39.cell? ⟨gb103, 8, none⟩ = some (.int .i64 a0_8) := (blk_cell BK103.out 8).trans rfl; have hfz40_0 := blk_frozen BK103.out 0; have hfz40_1 := blk_frozen BK103.out 1; have hfz40_2 := blk_frozen BK103.out 2; have hfz40_3 := blk_frozen BK103.out 3; have hfz40_4 := blk_frozen BK103.out 4; have hfz40_5 := blk_frozen BK103.out 5; have hfz40_6 := blk_frozen BK103.out 6; have hfz40_7 := blk_frozen BK103.out 7; have hfz40_8 := blk_frozen BK103.out 8) | ((with_reducible refine gate_dst (N := 5) rfl ?_); (try (refine gate_guard (by rfl) ?_; dsimp only)); refine Kd.R_lit (Kd.int .i64) _ 2 ?hg (N := 5) ?hd (xs := ([a0_0] : List Int)) (inner := [.int .i64 a0_0]) (ok := fun _ => True) (okp := fun _ => True) ?hr ?hp (fun _ hk => hk) trivial (Below.refl _ _) (Nat.le_refl _) (by simp) ?_; (case hd => rfl); (case hg => rfl); (case hr => first | (go_simp; done) | (go_simp; rfl)); (case hp => exact (Reps.one (show Kd.M (Kd.int .i64) _ _ _ a0_0 [.int .i64 a0_0] from rfl) (Reps.none _ _))); intro v105 w41 ho42 hb hg_ hnew_; clear hg_ hnew_; (first | rw [← Ny104.out] at ho42 | (simp only [Int.reduceToNat] at ho42; rw [← Ny104.out] at ho42)); have n0_ := Aside0.mk (Kd.R_lower ho42 (below_size (by repeat (first | (with_reducible first | exact HB.out | apply below_alloc | apply pw_below_drewN | apply below_drew1 | refine below_set ?_ GE103.out) | exact HB.out)))); have n1_ := Aside0.mk (blk_below (g := gb103) (o := .cells #[.int .i64 a0_0, .int .i64 a0_1, .int .i64 a0_2, .int .i64 a0_3, .int .i64 a0_4, .int .i64 a0_5, .int .i64 a0_6, .int .i64 a0_7, .int .i64 a0_8] 29 (0, 0)) (by (with_reducible repeat (first | refine blk_drewN ?_ _ | refine blk_drew ?_ | refine blk_alloc ?_ _)); exact BK103.out) hb); have n2_ := Aside0.mk (below_step (by repeat (first | (with_reducible first | exact HB.out | apply below_alloc | apply pw_below_drewN | apply below_drew1 | refine below_set ?_ GE103.out) | exact HB.out)) hb); clear BK103; clear HB; have HO106 := n0_; have BK103 := n1_; have HB := n2_; clear n0_ n1_ n2_; clear hb ho42; obtain ⟨Ao43, co43, eo43⟩ := Kd.R_slice HO106.out; subst eo43) | ((with_reducible refine gate_callee (f := 96) rfl ?_); refine goesL_ (some 6) rfl rfl Try.func96 (by kernel_rfl) rfl #[.int .i64 1, .int .i64 9, .slice Ao43 y104.length co43] rfl (by (try simp only [List.map_toArray, List.map_cons, List.map_nil]); first | done | rfl | (simp only [List.length_drop, List.length_take]; rfl)) ?_; (with_reducible refine (message_within.calls k 1 9 _ _ y104 true _ ?side1 ?side2 A2.out).mono ?_); (case side1 => repeat (first | exact (Kd.R_reads' HO106.out).2.2 | (with_reducible refine Kd.C_alloc ?_ _) | (with_reducible refine Kd.C_drewN ?_ _) | (with_reducible refine Kd.C_drew ?_))); (case side2 => exact (Kd.R_reads' HO106.out).2.1); rintro e w' ⟨rfl, ⟨nd, rfl⟩⟩; refine ⟨_, rfl, ?_⟩; have hcz44_0 : w41.cell? ⟨gb103, 0, none⟩ = some (.int .i64 a0_0) := (blk_cell BK103.out 0).trans rfl; have hcz44_1 : w41.cell? ⟨gb103, 1, none⟩ = some (.int .i64 a0_1) := (blk_cell BK103.out 1).trans rfl; have hcz44_2 : w41.cell? ⟨gb103, 2, none⟩ = some (.int .i64 a0_2) := (blk_cell BK103.out 2).trans rfl; have hcz44_3 : w41.cell? ⟨gb103, 3, none⟩ = some (.int .i64 a0_3) := (blk_cell BK103.out 3).trans rfl; have hcz44_4 : w41.cell? ⟨gb103, 4, none⟩ = some (.int .i64 a0_4) := (blk_cell BK103.out 4).trans rfl; have hcz44_5 : w41.cell? ⟨gb103, 5, none⟩ = some (.int .i64 a0_5) := (blk_cell BK103.out 5).trans rfl; have hcz44_6 : w41.cell? ⟨gb103, 6, none⟩ = some (.int .i64 a0_6) := (blk_cell BK103.out 6).trans rfl; have hcz44_7 : w41.cell? ⟨gb103, 7, none⟩ = some (.int .i64 a0_7) := (blk_cell BK103.out 7).trans rfl; have hcz44_8 : w41.cell? ⟨gb103, 8, none⟩ = some (.int .i64 a0_8) := (blk_cell BK103.out 8).trans rfl; have hfz44_0 := blk_frozen BK103.out 0; have hfz44_1 := blk_frozen BK103.out 1; have hfz44_2 := blk_frozen BK103.out 2; have hfz44_3 := blk_frozen BK103.out 3; have hfz44_4 := blk_frozen BK103.out 4; have hfz44_5 := blk_frozen BK103.out 5; have hfz44_6 := blk_frozen BK103.out 6; have hfz44_7 := blk_frozen BK103.out 7; have hfz44_8 := blk_frozen BK103.out 8) | ((with_reducible refine gate_dst (N := 12) rfl ?_); (try (refine gate_guard (by rfl) ?_; dsimp only)); refine Kd.R_lit (Kd.int .i64) _ 2 ?hg (N := 12) ?hd (xs := ([a0_1, a0_8] : List Int)) (inner := [.int .i64 a0_1, .int .i64 a0_8]) (ok := fun _ => True) (okp := fun _ => True) ?hr ?hp (fun _ hk => hk) trivial (Below.refl _ _) (Nat.le_refl _) (by simp) ?_; (case hd => rfl); (case hg => rfl); (case hr => first | (go_simp; done) | (go_simp; rfl)); (case hp => exact (Reps.one (show Kd.M (Kd.int .i64) _ _ _ a0_1 [.int .i64 a0_1] from rfl) (Reps.one (show Kd.M (Kd.int .i64) _ _ _ a0_8 [.int .i64 a0_8] from rfl) (Reps.none _ _)))); intro v109 w45 ho46 hb hg_ hnew_; clear hg_ hnew_; (first | rw [← Ny108.out] at ho46 | (simp only [Int.reduceToNat] at ho46; rw [← Ny108.out] at ho46)); have n0_ := Aside0.mk (Kd.R_elder' (by (with_reducible repeat (first | apply Kd.R_alloc | apply Kd.R_drewN | apply Kd.R_drew)); exact HO106.out) (Kd.R_base ho46) hb); have n1_ := Aside0.mk (Kd.R_lower (Kd.R_new' ho46 (Kd.R_lt (by (with_reducible repeat (first | apply Kd.R_alloc | apply Kd.R_drewN | apply Kd.R_drew)); exact HO106.out))) (below_size (by repeat (first | (with_reducible first | exact HB.out | apply below_alloc | apply pw_below_drewN | apply below_drew1 | refine below_set ?_ GE103.out) | exact HB.out)))); have n2_ := Aside0.mk (blk_below (g := gb103) (o := .cells #[.int .i64 a0_0, .int .i64 a0_1, .int .i64 a0_2, .int .i64 a0_3, .int .i64 a0_4, .int .i64 a0_5, .int .i64 a0_6, .int .i64 a0_7, .int .i64 a0_8] 29 (0, 0)) (by (with_reducible repeat (first | refine blk_drewN ?_ _ | refine blk_drew ?_ | refine blk_alloc ?_ _)); exact BK103.out) hb); have n3_ := Aside0.mk (below_step (by repeat (first | (with_reducible first | exact HB.out | apply below_alloc | apply pw_below_drewN | apply below_drew1 | refine below_set ?_ GE103.out) | exact HB.out)) hb); clear HO106; clear BK103; clear HB; have HO106 := n0_; have HO110 := n1_; have BK103 := n2_; have HB := n3_; clear n0_ n1_ n2_ n3_; clear hb ho46; obtain ⟨Ao47, co47, eo47⟩ := Kd.R_slice HO110.out; subst eo47) | (go_at_call 96; (with_reducible refine (message_within.calls k 0 255 _ _ y108 false _ ?side1 ?side2 A4.out).mono ?_); (case side1 => repeat (first | exact (Kd.R_reads' HO110.out).2.2 | (with_reducible refine Kd.C_alloc ?_ _) | (with_reducible refine Kd.C_drewN ?_ _) | (with_reducible refine Kd.C_drew ?_))); (case side2 => exact (Kd.R_reads' HO110.out).2.1); rintro e w' ⟨rfl, ⟨nd, rfl⟩⟩))
      go_ret
      exact ⟨by first | rfl | (simp [errW_none, errW_some] <;> rfl) | (simp [*, errW_none, errW_some] <;> rfl), by repeat (first | (with_reducible first | exact HB.out | apply below_alloc | apply pw_below_drewN | apply below_drew1 | refine below_set ?_ GE103.out) | exact HB.out)⟩
  · replace c3 := Bool.eq_false_iff.mpr c3
    subst c3
    have H1 : (some false) = some r := by rw [if_neg (show ¬ (false = true) by decide)] at H; exact H
    clear H
    have H := H1
    clear H1
    obtain rfl := Option.some.inj H
    go_enter Try.func32, Try.ntmps32
    go_wp2_with (first | ((with_reducible refine gate_dst (N := 1) rfl ?_); (try (refine gate_guard (by rfl) ?_; dsimp only)); refine box_event ?hg (N := 1) ?hd (cs := #[.int .i64 a0_0, .int .i64 a0_1, .int .i64 a0_2, .int .i64 a0_3, .int .i64 a0_4, .int .i64 a0_5, .int .i64 a0_6, .int .i64 a0_7, .int .i64 a0_8]) (t := 29) ?hr ?_; (case hd => rfl); (case hg => rfl); (case hr => first | (go_simp; done) | (go_simp; rfl)); intro gb103 hg w48 hbox hb; have n0_ := Aside0.mk (below_step (by repeat (first | (with_reducible first | exact HB.out | apply below_alloc | apply pw_below_drewN | apply below_drew1) | exact HB.out)) hb); have n1_ := Aside0.mk (hbox); have n2_ := Aside0.mk ((by rw [hg]; exact (below_size (by repeat (first | (with_reducible first | exact HB.out | apply below_alloc | apply pw_below_drewN | apply below_drew1) | exact HB.out))) : w.heap.size ≤ gb103)); have n3_ := Aside0.mk ((by rw [hg]; exact (below_size (by repeat (first | (with_reducible first | exact HB.out | apply below_alloc | apply pw_below_drewN | apply below_drew1) | exact HB.out))) : w.heap.size ≤ gb103)); clear HB; have HB := n0_; have BK103 := n1_; have GW103 := n2_; have GE103 := n3_; clear n0_ n1_ n2_ n3_; clear hb hbox hg; have hcz49_0 : w48.cell? ⟨gb103, 0, none⟩ = some (.int .i64 a0_0) := (blk_cell BK103.out 0).trans rfl; have hcz49_1 : w48.cell? ⟨gb103, 1, none⟩ = some (.int .i64 a0_1) := (blk_cell BK103.out 1).trans rfl; have hcz49_2 : w48.cell? ⟨gb103, 2, none⟩ = some (.int .i64 a0_2) := (blk_cell BK103.out 2).trans rfl; have hcz49_3 : w48.cell? ⟨gb103, 3, none⟩ = some (.int .i64 a0_3) := (blk_cell BK103.out 3).trans rfl; have hcz49_4 : w48.cell? ⟨gb103, 4, none⟩ = some (.int .i64 a0_4) := (blk_cell BK103.out 4).trans rfl; have hcz49_5 : w48.cell? ⟨gb103, 5, none⟩ = some (.int .i64 a0_5) := (blk_cell BK103.out 5).trans rfl; have hcz49_6 : w48.cell? ⟨gb103, 6, none⟩ = some (.int .i64 a0_6) := (blk_cell BK103.out 6).trans rfl; have hcz49_7 : w48.cell? ⟨gb103, 7, none⟩ = some (.int .i64 a0_7) := (blk_cell BK103.out 7).trans rfl; have hcz49_8 : w48.cell? ⟨gb103, 8, none⟩ = some (.int .i64 a0_8) := (blk_cell BK103.out 8).trans rfl; have hfz49_0 := blk_frozen BK103.out 0; have hfz49_1 := blk_frozen BK103.out 1; have hfz49_2 := blk_frozen BK103.out 2; have hfz49_3 := blk_frozen BK103.out 3; have hfz49_4 := blk_frozen BK103.out 4; have hfz49_5 := blk_frozen BK103.out 5; have hfz49_6 := blk_frozen BK103.out 6; have hfz49_7 := blk_frozen BK103.out 7; have hfz49_8 := blk_frozen BK103.out 8) | ((with_reducible refine gate_dst (N := 5) rfl ?_); (try (refine gate_guard (by rfl) ?_; dsimp only)); refine Kd.R_lit (Kd.int .i64) _ 2 ?hg (N := 5) ?hd (xs := ([a0_0] : List Int)) (inner := [.int .i64 a0_0]) (ok := fun _ => True) (okp := fun _ => True) ?hr ?hp (fun _ hk => hk) trivial (Below.refl _ _) (Nat.le_refl _) (by simp) ?_; (case hd => rfl); (case hg => rfl); (case hr => first | (go_simp; done) | (go_simp; rfl)); (case hp => exact (Reps.one (show Kd.M (Kd.int .i64) _ _ _ a0_0 [.int .i64 a0_0] from rfl) (Reps.none _ _))); intro v105 w50 ho51 hb hg_ hnew_; clear hg_ hnew_; (first | rw [← Ny104.out] at ho51 | (simp only [Int.reduceToNat] at ho51; rw [← Ny104.out] at ho51)); have n0_ := Aside0.mk (Kd.R_lower ho51 (below_size (by repeat (first | (with_reducible first | exact HB.out | apply below_alloc | apply pw_below_drewN | apply below_drew1 | refine below_set ?_ GE103.out) | exact HB.out)))); have n1_ := Aside0.mk (blk_below (g := gb103) (o := .cells #[.int .i64 a0_0, .int .i64 a0_1, .int .i64 a0_2, .int .i64 a0_3, .int .i64 a0_4, .int .i64 a0_5, .int .i64 a0_6, .int .i64 a0_7, .int .i64 a0_8] 29 (0, 0)) (by (with_reducible repeat (first | refine blk_drewN ?_ _ | refine blk_drew ?_ | refine blk_alloc ?_ _)); exact BK103.out) hb); have n2_ := Aside0.mk (below_step (by repeat (first | (with_reducible first | exact HB.out | apply below_alloc | apply pw_below_drewN | apply below_drew1 | refine below_set ?_ GE103.out) | exact HB.out)) hb); clear BK103; clear HB; have HO106 := n0_; have BK103 := n1_; have HB := n2_; clear n0_ n1_ n2_; clear hb ho51; obtain ⟨Ao52, co52, eo52⟩ := Kd.R_slice HO106.out; subst eo52) | ((with_reducible refine gate_callee (f := 96) rfl ?_); refine goesL_ (some 6) rfl rfl Try.func96 (by kernel_rfl) rfl #[.int .i64 1, .int .i64 9, .slice Ao52 y104.length co52] rfl (by (try simp only [List.map_toArray, List.map_cons, List.map_nil]); first | done | rfl | (simp only [List.length_drop, List.length_take]; rfl)) ?_; (with_reducible refine (message_within.calls k 1 9 _ _ y104 false _ ?side1 ?side2 A2.out).mono ?_); (case side1 => repeat (first | exact (Kd.R_reads' HO106.out).2.2 | (with_reducible refine Kd.C_alloc ?_ _) | (with_reducible refine Kd.C_drewN ?_ _) | (with_reducible refine Kd.C_drew ?_))); (case side2 => exact (Kd.R_reads' HO106.out).2.1); rintro e w' ⟨rfl, ⟨nd, rfl⟩⟩; refine ⟨_, rfl, ?_⟩))
    go_ret
    exact ⟨by first | rfl | (simp [errW_none, errW_some] <;> rfl) | (simp [*, errW_none, errW_some] <;> rfl), by repeat (first | (with_reducible first | exact HB.out | apply below_alloc | apply pw_below_drewN | apply below_drew1 | refine below_set ?_ GE103.out) | exact HB.out)⟩

end Go.Proofs.Ytalpemoodollpaa.P
/- Messages: which are right, their bytes. -/
namespace Go.Proofs.Ytalpemoodollpaa.P
open Go.RowKit Go.Proofs.YtalpemoodollpaaW.PrintWords Go.Proofs.YtalpemoodollpaaW.PrintLast Go.Proofs.YtalpemoodollpaaW.PrintMore
set_option linter.unusedVariables false
set_option linter.unusedSimpArgs false

def within_ (lo hi a : Int) : Bool := decide (lo ≤ a) && decide (a ≤ hi)
def msgRight (m : S29) : Bool :=
  within_ 1 9 m.f0 && within_ 0 255 m.f1 && within_ 0 255 m.f8 && within_ 0 4611686018427387904 m.f2 && within_ 0 4611686018427387904 m.f3 && within_ (-1) 4611686018427387904 m.f4 && within_ (-1) 4611686018427387904 m.f5
def i64B (a : Int) : Bool := within_ (-9223372036854775808) 9223372036854775807 a
def msgForm (m : S29) : List Int := [m.f0, m.f1, m.f8] ++ numForm m.f2.toNat ++ numForm m.f3.toNat ++ intForm m.f4 ++ intForm m.f5 ++ intForm m.f6 ++ intForm m.f7
theorem within_iff {lo hi a : Int} : within_ lo hi a = true ↔ lo ≤ a ∧ a ≤ hi := by simp [within_]
theorem wrap1 : wrap64 (0 + 1) = 1 := by rw [wrap64_eq]; omega
theorem wrap2 : wrap64 (1 + 1) = 2 := by rw [wrap64_eq]; omega
theorem within1 (lo hi a : Int) : message_within.f 4 lo hi [a] = some (within_ lo hi a) := by
  unfold message_within.f
  simp only [message_within.l0, wrap1, wrap2, rd, within_, List.length_cons, List.length_nil]
  by_cases h1 : a < lo
  · have h2 : ¬ lo ≤ a := by omega
    simp [h1, h2]
  · by_cases h3 : a > hi
    · have h2 : lo ≤ a := by omega
      have h4 : ¬ a ≤ hi := by omega
      simp [h1, h2, h3, h4]
    · have h2 : lo ≤ a := by omega
      have h4 : a ≤ hi := by omega
      simp [h1, h2, h3, h4]
theorem within2 (lo hi a b : Int) : message_within.f 4 lo hi [a, b] = some (within_ lo hi a && within_ lo hi b) := by
  unfold message_within.f
  simp only [message_within.l0, wrap1, wrap2, rd, within_, List.length_cons, List.length_nil]
  by_cases h1 : a < lo
  · have h2 : ¬ lo ≤ a := by omega
    simp [h1, h2]
  · by_cases h3 : a > hi
    · have h2 : lo ≤ a := by omega
      have h4 : ¬ a ≤ hi := by omega
      simp [h1, h2, h3, h4]
    · have h2 : lo ≤ a := by omega
      have h4 : a ≤ hi := by omega
      by_cases h5 : b < lo
      · have h6 : ¬ lo ≤ b := by omega
        simp [h1, h2, h3, h4, h5, h6]
      · by_cases h7 : b > hi
        · have h6 : lo ≤ b := by omega
          have h8 : ¬ b ≤ hi := by omega
          simp [h1, h2, h3, h4, h5, h6, h7, h8]
        · have h6 : lo ≤ b := by omega
          have h8 : b ≤ hi := by omega
          simp [h1, h2, h3, h4, h5, h6, h7, h8]
theorem msgRight_f (m : S29) : message_Right.f 4 m.f0 m.f1 m.f2 m.f3 m.f4 m.f5 m.f6 m.f7 m.f8 = some (msgRight m) := by
  unfold message_Right.f msgRight
  rw [within1, within2, within2, within2]
  simp only [Option.bind_some]
  cases within_ 1 9 m.f0 <;> cases within_ 0 255 m.f1 <;> cases within_ 0 255 m.f8 <;> cases within_ 0 4611686018427387904 m.f2 <;> cases within_ 0 4611686018427387904 m.f3 <;> simp
def msgVal (m : S29) : Value := .agg #[.int .i64 m.f0, .int .i64 m.f1, .int .i64 m.f2, .int .i64 m.f3, .int .i64 m.f4, .int .i64 m.f5, .int .i64 m.f6, .int .i64 m.f7, .int .i64 m.f8]
theorem msgRight_calls (m : S29) (w : World) : Calls Try.prog 32 #[.agg #[.int .i64 m.f0, .int .i64 m.f1, .int .i64 m.f2, .int .i64 m.f3, .int .i64 m.f4, .int .i64 m.f5, .int .i64 m.f6, .int .i64 m.f7, .int .i64 m.f8]] w fun e w' => e = .returned (.bool (msgRight m)) ∧ Below w.heap.size w w' :=
  message_Right.calls 4 _ _ _ _ _ _ _ _ _ _ w (msgRight_f m)
theorem msgForm_length (m : S29) (h : msgRight m = true) : (msgForm m).length ≤ 55 ∧ 37 ≤ (msgForm m).length := by
  simp only [msgRight, Bool.and_eq_true, within_iff] at h
  have h2 := numForm_ten m.f2 (by omega)
  have h3 := numForm_ten m.f3 (by omega)
  have p2 := numForm_pos m.f2.toNat
  have p3 := numForm_pos m.f3.toNat
  simp only [msgForm, List.length_append, List.length_cons, List.length_nil, intForm_length]
  omega
theorem msgForm_byt (m : S29) (h : msgRight m = true) : Byt (msgForm m) := by
  simp only [msgRight, Bool.and_eq_true, within_iff] at h
  unfold msgForm
  refine ((((((Byt.append ?_ (numForm_byt _)).append (numForm_byt _)).append (intForm_byt _)).append (intForm_byt _)).append (intForm_byt _)).append (intForm_byt _))
  exact Byt.mk (by omega) (Byt.mk (by omega) (Byt.mk (by omega) Byt.nil))
end Go.Proofs.Ytalpemoodollpaa.P
/- Scripts, plain: which steps are right, their bytes; what is put is read back, and back. -/
namespace Go.Proofs.Ytalpemoodollpaa.P
open Go.RowKit Go.Proofs.YtalpemoodollpaaW.PrintWords Go.Proofs.YtalpemoodollpaaW.PrintLast Go.Proofs.YtalpemoodollpaaW.PrintMore
set_option linter.unusedVariables false
set_option linter.unusedSimpArgs false
def scrRight (s : S91) : Bool :=
  if s.f0 = 1 then decide (s.f1 = 0) && decide (s.f2 = 0) && decide (s.f3.length ≤ 64)
  else if s.f0 = 2 ∨ s.f0 = 3 then decide (s.f1 = 0) && decide (s.f3.length = 0)
  else if s.f0 = 4 then within_ 0 255 s.f1 && decide (s.f3.length = 0) else false
def scrForm (s : S91) : List Int := s.f0 :: (if s.f0 = 1 then numForm s.f3.length ++ s.f3 else if s.f0 = 4 then s.f1 :: intForm s.f2 else intForm s.f2)
def scrFlat (l : List S91) : List Int := l.flatMap scrForm
def scrEncF (l : List S91) : List Int × Int := if 2000 < l.length then ([], 9) else if l.all scrRight = true then (numForm l.length ++ scrFlat l, 0) else ([], 1)
def StepOk (s : S91) : Prop := (-9223372036854775808 ≤ s.f2 ∧ s.f2 ≤ 9223372036854775807) ∧ Byt s.f3
theorem scrFlat_cons (s : S91) (l : List S91) : scrFlat (s :: l) = scrForm s ++ scrFlat l := rfl
theorem scrFlat_snoc (s : S91) (l : List S91) : scrFlat (l ++ [s]) = scrFlat l ++ scrForm s := by simp [scrFlat]
theorem step_form (s : S91) (h : scrRight s = true) (ho : StepOk s) (rest : List Int) : stepF (scrForm s ++ rest, 0) = ((s.f0, s.f1, s.f2, s.f3), true, (rest, 0)) := by
  obtain ⟨f0, f1, f2, f3⟩ := s
  obtain ⟨⟨ho1, ho2⟩, hb⟩ := ho
  dsimp only at ho1 ho2 hb
  unfold scrRight at h
  unfold scrForm stepF
  dsimp only at h ⊢
  by_cases h1 : f0 = 1
  · subst h1
    rw [if_pos rfl] at h
    simp only [Bool.and_eq_true, decide_eq_true_eq] at h
    obtain ⟨⟨rfl, rfl⟩, hl⟩ := h
    rw [if_pos rfl, List.cons_append, rUint_byte]
    dsimp only
    rw [if_pos rfl, List.append_assoc, rNum_form f3.length (by omega)]
    dsimp only
    rw [if_neg (by omega), Int.toNat_natCast, rTake_ok _ _ (by simp)]
    simp
  · rw [if_neg h1] at h
    by_cases h23 : f0 = 2 ∨ f0 = 3
    · rw [if_pos h23] at h
      have h4 : ¬ f0 = 4 := by omega
      simp only [Bool.and_eq_true, decide_eq_true_eq] at h
      obtain ⟨rfl, hl⟩ := h
      have hl : f3 = [] := List.length_eq_zero_iff.1 hl
      subst hl
      rw [if_neg h1, if_neg h4, List.cons_append, rUint_byte]
      dsimp only
      rw [if_neg h1, if_neg h4, if_pos h23, (intForm_read f2 ho1 ho2 rest).1, (intForm_read f2 ho1 ho2 rest).2]
    · rw [if_neg h23] at h
      by_cases h4 : f0 = 4
      · subst h4
        rw [if_pos rfl] at h
        simp only [Bool.and_eq_true, decide_eq_true_eq, within_iff] at h
        obtain ⟨_, hl⟩ := h
        have hl : f3 = [] := List.length_eq_zero_iff.1 hl
        subst hl
        rw [if_neg h1, if_pos rfl, List.cons_append, rUint_byte]
        dsimp only
        rw [if_neg h1, if_pos rfl, List.cons_append, rUint_byte]
        dsimp only
        rw [(intForm_read f2 ho1 ho2 rest).1, (intForm_read f2 ho1 ho2 rest).2]
      · rw [if_neg h4] at h
        cases h
theorem scrGo_form (l : List S91) : ∀ (acc : List S91) (rest : List Int), (∀ s ∈ l, scrRight s = true ∧ StepOk s) → scrGo l.length (scrFlat l ++ rest, 0) acc = if 0 < rest.length then ([], 4) else (acc ++ l, 0) := by
  induction l with
  | nil =>
    intro acc rest _
    rw [List.length_nil, scrGo, if_neg (by simp)]
    show (if 0 < rest.length then ([], 4) else (acc, 0)) = _
    rw [List.append_nil]
  | cons s l ih =>
    intro acc rest h
    have hs := h s List.mem_cons_self
    rw [List.length_cons, scrGo, scrFlat_cons, List.append_assoc, step_form s hs.1 hs.2]
    dsimp only
    rw [if_neg (by decide), if_neg (by decide), ih _ _ (fun x hx => h x (List.mem_cons_of_mem _ hx))]
    have e : acc ++ [stepVal ((s.f0, s.f1, s.f2, s.f3), true, (scrFlat l ++ rest, (0 : Int)))] ++ l = acc ++ s :: l := by
      rw [List.append_assoc]; rfl
    rw [e]
/-- What is put is read; what lies behind it is a fault. -/
theorem scrRead_form (l : List S91) (hl : l.length ≤ 2000) (h : ∀ s ∈ l, scrRight s = true ∧ StepOk s) (rest : List Int) :
    scrRead (numForm l.length ++ scrFlat l ++ rest) = if 0 < rest.length then ([], 4) else (l, 0) := by
  unfold scrRead
  rw [List.append_assoc, rNum_form l.length (by omega)]
  dsimp only
  rw [if_neg (by omega), Int.toNat_natCast, scrGo_form l [] rest h, List.nil_append]
theorem rTake_back {s : List Int × Int} {n : Nat} (h : (rTake s n).2.2.2 = 0) : s.2 = 0 ∧ s.1 = (rTake s n).1 ++ (rTake s n).2.2.1 ∧ (rTake s n).1.length = n := by
  unfold rTake at h ⊢
  by_cases hf : s.2 = 0
  · rw [if_neg (show ¬ s.2 ≠ 0 from fun x => x hf)] at h ⊢
    by_cases hn : s.1.length < n
    · rw [if_pos hn] at h
      exact absurd (show (3 : Int) = 0 from h) (by decide)
    · rw [if_neg hn]
      exact ⟨hf, by simp, by simp; omega⟩
  · rw [if_pos hf] at h
    exact absurd h hf
theorem step_back (l : List Int) (hb : Byt l) (h0 : (stepF (l, 0)).2.2.2 = 0) (h1 : (stepF (l, 0)).2.1 = true) :
    l = scrForm (stepVal (stepF (l, 0))) ++ (stepF (l, 0)).2.2.1 ∧ scrRight (stepVal (stepF (l, 0))) = true ∧ StepOk (stepVal (stepF (l, 0))) := by
  unfold stepF at h0 h1 ⊢
  by_cases k1 : (rUint (l, 0) 1).1 = 1
  · rw [if_pos k1] at h0 h1 ⊢
    by_cases h64 : 64 < (rNum (rUint (l, 0) 1).2).1
    · rw [if_pos h64] at h1
      cases h1
    · rw [if_neg h64] at h0 ⊢
      dsimp only at h0
      have hby := byt_rUint (l, 0) 1 hb
      obtain ⟨t0, t1, t2⟩ := rTake_back h0
      have u0 := keep_num t0
      have e1 := byte_back (s := (l, 0)) hb u0
      have e2 := num_back hby t0
      have hb3 := byt_rNum _ hby
      have nr := rNum_range _ hby
      dsimp only at e1
      rw [k1] at e1
      refine ⟨?_, ?_, show (-9223372036854775808 : Int) ≤ 0 ∧ (0 : Int) ≤ 9223372036854775807 from by decide, ?_⟩
      · unfold stepVal scrForm
        dsimp only
        rw [if_pos rfl, t2, List.cons_append, List.append_assoc, ← t1, ← e2]
        exact e1
      · unfold stepVal scrRight
        dsimp only
        rw [if_pos rfl, t2]
        simp only [Bool.and_eq_true, decide_eq_true_eq]
        exact ⟨⟨trivial, trivial⟩, by omega⟩
      · show Byt (rTake (rNum (rUint (l, 0) 1).2).2 (rNum (rUint (l, 0) 1).2).1.toNat).1
        intro b hbm
        exact hb3 b (by rw [t1]; exact List.mem_append_left _ hbm)
  · rw [if_neg k1] at h0 h1 ⊢
    by_cases k4 : (rUint (l, 0) 1).1 = 4
    · rw [if_pos k4] at h0 h1 ⊢
      dsimp only at h0
      have hby := byt_rUint (l, 0) 1 hb
      have u1 := keep_uint h0
      have u0 := keep_uint u1
      have e1 := byte_back (s := (l, 0)) hb u0
      have e2 := byte_back hby u1
      have hby2 := byt_rUint _ 1 hby
      have e3 := int_back hby2 h0
      have r1 := rUint1_range _ hby
      have rz := unzig_range _ (rUint_range _ 8 hby2).1 (rUint_range _ 8 hby2).2
      dsimp only at e1
      rw [k4] at e1
      refine ⟨?_, ?_, rz, Byt.nil⟩
      · unfold stepVal scrForm
        dsimp only
        rw [if_neg (by decide), if_pos rfl, List.cons_append, List.cons_append, ← e3, ← e2]
        exact e1
      · unfold stepVal scrRight
        dsimp only
        rw [if_neg (by decide), if_neg (by decide), if_pos rfl]
        simp only [Bool.and_eq_true, decide_eq_true_eq, within_iff]
        exact ⟨r1, rfl⟩
    · rw [if_neg k4] at h0 h1 ⊢
      by_cases k23 : (rUint (l, 0) 1).1 = 2 ∨ (rUint (l, 0) 1).1 = 3
      · rw [if_pos k23] at h0 h1 ⊢
        dsimp only at h0
        have hby := byt_rUint (l, 0) 1 hb
        have u0 := keep_uint h0
        have e1 := byte_back (s := (l, 0)) hb u0
        have e3 := int_back hby h0
        have rz := unzig_range _ (rUint_range _ 8 hby).1 (rUint_range _ 8 hby).2
        dsimp only at e1
        refine ⟨?_, ?_, rz, Byt.nil⟩
        · unfold stepVal scrForm
          dsimp only
          rw [if_neg k1, if_neg k4, List.cons_append, ← e3]
          exact e1
        · unfold stepVal scrRight
          dsimp only
          rw [if_neg k1, if_pos k23]
          rfl
      · rw [if_neg k23] at h1
        cases h1
theorem byt_step (l : List Int) (hb : Byt l) (h0 : (stepF (l, 0)).2.2.2 = 0) (h1 : (stepF (l, 0)).2.1 = true) : Byt (stepF (l, 0)).2.2.1 := by
  have e := (step_back l hb h0 h1).1
  intro b hbm
  exact hb b (by rw [e]; exact List.mem_append_right _ hbm)
theorem scrGo_back (k : Nat) : ∀ (l : List Int) (acc : List S91), Byt l → (scrGo k (l, 0) acc).2 = 0 →
    ∃ m, (scrGo k (l, 0) acc).1 = acc ++ m ∧ m.length = k ∧ l = scrFlat m ∧ ∀ s ∈ m, scrRight s = true ∧ StepOk s := by
  induction k with
  | zero =>
    intro l acc hb h
    rw [scrGo, if_neg (by simp)] at h ⊢
    dsimp only at h ⊢
    by_cases hl : 0 < l.length
    · rw [if_pos hl] at h; exact absurd h (by decide)
    · rw [if_neg hl]
      exact ⟨[], by simp, rfl, List.length_eq_zero_iff.1 (by omega), fun s hs => by cases hs⟩
  | succ k ih =>
    intro l acc hb h
    rw [scrGo] at h ⊢
    by_cases h0 : (stepF (l, 0)).2.2.2 = 0
    · rw [if_neg (show ¬ (stepF (l, 0)).2.2.2 ≠ 0 from fun x => x h0)] at h ⊢
      by_cases h1 : (stepF (l, 0)).2.1 = false
      · rw [if_pos h1] at h; exact absurd h (by decide)
      · rw [if_neg h1] at h ⊢
        have h1 : (stepF (l, 0)).2.1 = true := by simpa using h1
        obtain ⟨b1, b2, b3⟩ := step_back l hb h0 h1
        have e : (stepF (l, 0)).2.2 = ((stepF (l, 0)).2.2.1, 0) := Prod.ext rfl h0
        rw [e] at h ⊢
        obtain ⟨m, m1, m2, m3, m4⟩ := ih _ _ (byt_step l hb h0 h1) h
        refine ⟨stepVal (stepF (l, 0)) :: m, ?_, by simp [m2], ?_, ?_⟩
        · rw [m1, List.append_assoc]; rfl
        · rw [scrFlat_cons, ← m3]; exact b1
        · intro s hs
          rcases List.mem_cons.1 hs with rfl | hs
          · exact ⟨b2, b3⟩
          · exact m4 s hs
    · rw [if_pos h0] at h
      exact absurd h h0
/-- What is read has just those bytes. -/
theorem scrRead_back (bs : List Int) (hb : Byt bs) (h : (scrRead bs).2 = 0) : scrEncF (scrRead bs).1 = (bs, 0) ∧ (scrRead bs).1.length ≤ 2000 ∧ ∀ s ∈ (scrRead bs).1, scrRight s = true ∧ StepOk s := by
  unfold scrRead at h ⊢
  by_cases hn : 2000 < (rNum (bs, 0)).1
  · rw [if_pos hn] at h
    exact absurd h (by decide)
  · rw [if_neg hn] at h ⊢
    have hf : (rNum (bs, 0)).2.2 = 0 := by
      apply Classical.byContradiction
      intro hf
      cases k : (rNum (bs, 0)).1.toNat with
      | zero =>
        rw [k, scrGo, if_pos hf] at h
        exact hf h
      | succ k' =>
        rw [k, scrGo] at h
        generalize (rNum (bs, 0)).2 = s at h hf
        have e : (stepF s).2.2.2 = s.2 ∧ True := by
          have u : rUint s 1 = (0, s) := rUint_f' s hf 1
          unfold stepF
          rw [u]
          dsimp only
          rw [if_neg (by decide), if_neg (by decide), if_neg (by decide)]
          exact ⟨rfl, trivial⟩
        rw [if_pos (by rw [e.1]; exact hf)] at h
        rw [e.1] at h
        exact hf h
    have e : (rNum (bs, 0)).2 = ((rNum (bs, 0)).2.1, 0) := Prod.ext rfl hf
    have nb := num_back (s := (bs, 0)) hb hf
    have nr := rNum_range (bs, 0) hb
    rw [e] at h ⊢
    obtain ⟨m, m1, m2, m3, m4⟩ := scrGo_back _ _ _ (byt_rNum (bs, 0) hb) h
    rw [m1, List.nil_append]
    refine ⟨?_, by omega, m4⟩
    unfold scrEncF
    rw [if_neg (by omega), if_pos (List.all_eq_true.2 fun s hs => (m4 s hs).1), m2, ← m3]
    exact Prod.ext nb.symm rfl
theorem scrGo_nil (k : Nat) : ∀ (s : List Int × Int) (acc : List S91), (scrGo k s acc).2 ≠ 0 → (scrGo k s acc).1 = [] := by
  induction k with
  | zero =>
    intro s acc h
    rw [scrGo] at h ⊢
    split
    · rfl
    · rename_i h1
      rw [if_neg h1] at h
      split
      · rfl
      · rename_i h2
        rw [if_neg h2] at h
        exact absurd rfl h
  | succ k ih =>
    intro s acc h
    rw [scrGo] at h ⊢
    split
    · rfl
    · rename_i h1
      rw [if_neg h1] at h
      split
      · rfl
      · rename_i h2
        rw [if_neg h2] at h
        exact ih _ _ h
theorem scrRead_nil (bs : List Int) (h : (scrRead bs).2 ≠ 0) : (scrRead bs).1 = [] := by
  unfold scrRead at h ⊢
  split
  · rfl
  · rename_i h1
    rw [if_neg h1] at h
    exact scrGo_nil _ _ _ h
theorem scrForm_length (s : S91) (h : scrRight s = true) : (scrForm s).length ≤ 75 := by
  obtain ⟨f0, f1, f2, f3⟩ := s
  unfold scrRight at h
  unfold scrForm
  dsimp only at h ⊢
  have hi := intForm_length f2
  by_cases h1 : f0 = 1
  · rw [if_pos h1] at h ⊢
    simp only [Bool.and_eq_true, decide_eq_true_eq] at h
    have hn := numForm_ten (f3.length : Int) (by omega)
    rw [Int.toNat_natCast] at hn
    simp only [List.length_cons, List.length_append]
    omega
  · rw [if_neg h1] at h ⊢
    by_cases h4 : f0 = 4
    · rw [if_pos h4]; simp only [List.length_cons]; omega
    · rw [if_neg h4]; simp only [List.length_cons]; omega
theorem scrFlat_length (l : List S91) (h : ∀ s ∈ l, scrRight s = true) : (scrFlat l).length ≤ 75 * l.length := by
  induction l with
  | nil => simp [scrFlat]
  | cons s l ih =>
    have h1 := scrForm_length s (h s List.mem_cons_self)
    have h2 := ih (fun x hx => h x (List.mem_cons_of_mem _ hx))
    rw [scrFlat_cons, List.length_append, List.length_cons]
    omega
theorem scrForm_byt (s : S91) (h : scrRight s = true) (hb : Byt s.f3) : Byt (scrForm s) := by
  obtain ⟨f0, f1, f2, f3⟩ := s
  unfold scrRight at h
  unfold scrForm
  dsimp only at h hb ⊢
  by_cases h1 : f0 = 1
  · rw [if_pos h1]
    exact Byt.mk (by omega) ((numForm_byt _).append hb)
  · rw [if_neg h1] at h ⊢
    by_cases h23 : f0 = 2 ∨ f0 = 3
    · rw [if_neg (by omega)]
      exact Byt.mk (by omega) (intForm_byt _)
    · rw [if_neg h23] at h
      by_cases h4 : f0 = 4
      · rw [if_pos h4] at h ⊢
        simp only [Bool.and_eq_true, within_iff] at h
        exact Byt.mk (by omega) (Byt.mk h.1 (intForm_byt _))
      · rw [if_neg h4] at h; cases h
theorem scrFlat_byt (l : List S91) (h : ∀ s ∈ l, scrRight s = true ∧ StepOk s) : Byt (scrFlat l) := by
  induction l with
  | nil => exact Byt.nil
  | cons s l ih =>
    rw [scrFlat_cons]
    exact (scrForm_byt s (h s List.mem_cons_self).1 (h s List.mem_cons_self).2.2).append (ih (fun x hx => h x (List.mem_cons_of_mem _ hx)))
end Go.Proofs.Ytalpemoodollpaa.P
-- Printed by hookprint.py (the session's own program, over the kit's print.py): checked by Lean like any text.
namespace Go.Proofs.Ytalpemoodollpaa.P
open Go.RowKit Go.Proofs.YtalpemoodollpaaW.PrintWords Go.Proofs.YtalpemoodollpaaW.PrintLast Go.Proofs.YtalpemoodollpaaW.PrintMore
attribute [local go_sem] max2_int min2_int max_two min_two max_three min_three max_four min_four   -- for this text's walks alone
set_option linter.unusedVariables false
set_option linter.unusedSimpArgs false

/-! ### script_Right: function 66 -/
def script_Right.j0 : Nat → Bool → Int → Bool → Int → Int → Int → List Int → Option (Bool)
  | 0, _, _, _, _, _, _, _ => none
  | k + 1, x3, x9, x26, x299000, x299001, x299002, x299003 => if x26 = true then (if x3 = true then (some (x299001 == 0)) else (some false)) else (if x9 = 4 then (if x3 = true then (if x299001 ≥ 0 then (some (decide (x299001 ≤ 255))) else (some false)) else (some false)) else (some false))
def script_Right.f (k : Nat) (a0_0 : Int) (a0_1 : Int) (a0_2 : Int) (l0_3 : List Int) : Option (Bool) := if a0_0 = 1 then (if a0_1 = 0 then (if a0_2 = 0 then (some (decide ((l0_3.length : Int) ≤ 64))) else (some false)) else (some false)) else (if a0_0 = 2 then (script_Right.j0 k ((l0_3.length : Int) == 0) a0_0 (a0_0 == 2) a0_0 a0_1 a0_2 l0_3) else (script_Right.j0 k ((l0_3.length : Int) == 0) a0_0 (a0_0 == 3) a0_0 a0_1 a0_2 l0_3))
theorem script_Right.mono_l : ∀ k, (∀ y0 y1 y2 y3 y4 y5 y6, LeO (script_Right.j0 k y0 y1 y2 y3 y4 y5 y6) (script_Right.j0 (k + 1) y0 y1 y2 y3 y4 y5 y6))
  | 0 => fun _ _ _ _ _ _ _ r h => by simp [script_Right.j0] at h
  | k + 1 => by
    have ih0 := script_Right.mono_l k
    · intro y0 y1 y2 y3 y4 y5 y6
      unfold script_Right.j0
      repeat' first
      | (with_reducible exact ih0 _ _ _ _ _ _ _)
      | (with_reducible exact LeO.refl _)
      | (with_reducible exact LeO.none _)
      | (with_reducible refine LeO.ite ?_ ?_)
      | (with_reducible refine LeO.bind ?_ (fun _ => ?_))
      | exact ih0 _ _ _ _ _ _ _
      | exact LeO.none _
      | refine LeO.ite ?_ ?_
      | refine LeO.bind ?_ (fun _ => ?_)
theorem script_Right.mono : ∀ a0 a1 a2 a3 k, LeO (script_Right.f k a0 a1 a2 a3) (script_Right.f (k + 1) a0 a1 a2 a3) := by
  intro a0 a1 a2 a3 k
  have ih0 := script_Right.mono_l k
  unfold script_Right.f
  repeat' first
      | (with_reducible exact ih0 _ _ _ _ _ _ _)
      | (with_reducible exact LeO.refl _)
      | (with_reducible exact LeO.none _)
      | (with_reducible refine LeO.ite ?_ ?_)
      | (with_reducible refine LeO.bind ?_ (fun _ => ?_))
      | exact ih0 _ _ _ _ _ _ _
      | exact LeO.none _
      | refine LeO.ite ?_ ?_
      | refine LeO.bind ?_ (fun _ => ?_)
set_option maxHeartbeats 8000000 in
set_option maxRecDepth 100000 in
theorem script_Right.calls (k : Nat) (a0_0 : Int) (a0_1 : Int) (a0_2 : Int) (A0_3 : Option Addr) (c0_3 : Nat) (l0_3 : List Int) (r : Bool) (w : World) (hr0_3 : Kd.C (Kd.int .u8) w A0_3 l0_3.length l0_3) (hc0_3 : l0_3.length ≤ c0_3) (h : script_Right.f k a0_0 a0_1 a0_2 l0_3 = some r) :
    Calls Try.prog 66 #[.agg #[.int .i64 a0_0, .int .i64 a0_1, .int .i64 a0_2, .slice A0_3 l0_3.length c0_3]] w fun e w' => e = .returned (.bool r) ∧ Below w.heap.size w w' := by
  have hu91 := Try.underlying91
  have HR0_3 := Aside0.mk hr0_3
  have HC0_3 := Aside0.mk hc0_3
  clear hr0_3 hc0_3
  have HB := Aside0.mk (Below.refl w.heap.size w)
  have H : (if a0_0 = 1 then (if a0_1 = 0 then (if a0_2 = 0 then (some (decide ((l0_3.length : Int) ≤ 64))) else (some false)) else (some false)) else (if a0_0 = 2 then (script_Right.j0 k ((l0_3.length : Int) == 0) a0_0 (a0_0 == 2) a0_0 a0_1 a0_2 l0_3) else (script_Right.j0 k ((l0_3.length : Int) == 0) a0_0 (a0_0 == 3) a0_0 a0_1 a0_2 l0_3))) = some r := h
  clear h
  by_cases c2 : a0_0 = 1
  · rw [if_pos c2] at H
    have c2b0 : (a0_0 == 1) = true := beq_iff_eq.mpr c2
    have c2b1 : (a0_0 != 1) = false := bne_eq_false_iff_eq.mpr c2
    clear c2
    by_cases c3 : a0_1 = 0
    · rw [if_pos c3] at H
      have c3b0 : (a0_1 == 0) = true := beq_iff_eq.mpr c3
      have c3b1 : (a0_1 != 0) = false := bne_eq_false_iff_eq.mpr c3
      clear c3
      by_cases c4 : a0_2 = 0
      · rw [if_pos c4] at H
        have c4b0 : (a0_2 == 0) = true := beq_iff_eq.mpr c4
        have c4b1 : (a0_2 != 0) = false := bne_eq_false_iff_eq.mpr c4
        clear c4
        obtain rfl := Option.some.inj H
        go_enter Try.func66, Try.ntmps66
        go_wp2_with (first | ((with_reducible refine gate_dst (N := 1) rfl ?_); (try (refine gate_guard (by rfl) ?_; dsimp only)); refine box_event ?hg (N := 1) ?hd (cs := #[.int .i64 a0_0, .int .i64 a0_1, .int .i64 a0_2, .slice A0_3 l0_3.length c0_3]) (t := 91) ?hr ?_; (case hd => rfl); (case hg => rfl); (case hr => first | (go_simp; done) | (go_simp; rfl)); intro gb298 hg w5 hbox hb; have n0_ := Aside0.mk (below_step (by repeat (first | (with_reducible first | exact HB.out | apply below_alloc | apply pw_below_drewN | apply below_drew1) | exact HB.out)) hb); have n1_ := Aside0.mk (hbox); have n2_ := Aside0.mk ((by rw [hg]; exact (below_size (by repeat (first | (with_reducible first | exact HB.out | apply below_alloc | apply pw_below_drewN | apply below_drew1) | exact HB.out))) : w.heap.size ≤ gb298)); have n3_ := Aside0.mk ((by rw [hg]; exact (below_size (by repeat (first | (with_reducible first | exact HB.out | apply below_alloc | apply pw_below_drewN | apply below_drew1) | exact HB.out))) : w.heap.size ≤ gb298)); clear HB; have HB := n0_; have BK298 := n1_; have GW298 := n2_; have GE298 := n3_; clear n0_ n1_ n2_ n3_; clear hb hbox hg; have hcz6_0 : w5.cell? ⟨gb298, 0, none⟩ = some (.int .i64 a0_0) := (blk_cell BK298.out 0).trans rfl; have hcz6_1 : w5.cell? ⟨gb298, 1, none⟩ = some (.int .i64 a0_1) := (blk_cell BK298.out 1).trans rfl; have hcz6_2 : w5.cell? ⟨gb298, 2, none⟩ = some (.int .i64 a0_2) := (blk_cell BK298.out 2).trans rfl; have hcz6_3 : w5.cell? ⟨gb298, 3, none⟩ = some (.slice A0_3 l0_3.length c0_3) := (blk_cell BK298.out 3).trans rfl; have hfz6_0 := blk_frozen BK298.out 0; have hfz6_1 := blk_frozen BK298.out 1; have hfz6_2 := blk_frozen BK298.out 2; have hfz6_3 := blk_frozen BK298.out 3))
        go_ret
        exact ⟨by first | rfl | (simp [errW_none, errW_some] <;> rfl) | (simp [*, errW_none, errW_some] <;> rfl), by repeat (first | (with_reducible first | exact HB.out | apply below_alloc | apply pw_below_drewN | apply below_drew1 | refine below_set ?_ GE298.out) | exact HB.out)⟩
      · rw [if_neg c4] at H
        have c4b0 : (a0_2 == 0) = false := beq_eq_false_iff_ne.mpr c4
        have c4b1 : (a0_2 != 0) = true := bne_iff_ne.mpr c4
        obtain rfl := Option.some.inj H
        go_enter Try.func66, Try.ntmps66
        go_wp2_with (first | ((with_reducible refine gate_dst (N := 1) rfl ?_); (try (refine gate_guard (by rfl) ?_; dsimp only)); refine box_event ?hg (N := 1) ?hd (cs := #[.int .i64 a0_0, .int .i64 a0_1, .int .i64 a0_2, .slice A0_3 l0_3.length c0_3]) (t := 91) ?hr ?_; (case hd => rfl); (case hg => rfl); (case hr => first | (go_simp; done) | (go_simp; rfl)); intro gb298 hg w7 hbox hb; have n0_ := Aside0.mk (below_step (by repeat (first | (with_reducible first | exact HB.out | apply below_alloc | apply pw_below_drewN | apply below_drew1) | exact HB.out)) hb); have n1_ := Aside0.mk (hbox); have n2_ := Aside0.mk ((by rw [hg]; exact (below_size (by repeat (first | (with_reducible first | exact HB.out | apply below_alloc | apply pw_below_drewN | apply below_drew1) | exact HB.out))) : w.heap.size ≤ gb298)); have n3_ := Aside0.mk ((by rw [hg]; exact (below_size (by repeat (first | (with_reducible first | exact HB.out | apply below_alloc | apply pw_below_drewN | apply below_drew1) | exact HB.out))) : w.heap.size ≤ gb298)); clear HB; have HB := n0_; have BK298 := n1_; have GW298 := n2_; have GE298 := n3_; clear n0_ n1_ n2_ n3_; clear hb hbox hg; have hcz8_0 : w7.cell? ⟨gb298, 0, none⟩ = some (.int .i64 a0_0) := (blk_cell BK298.out 0).trans rfl; have hcz8_1 : w7.cell? ⟨gb298, 1, none⟩ = some (.int .i64 a0_1) := (blk_cell BK298.out 1).trans rfl; have hcz8_2 : w7.cell? ⟨gb298, 2, none⟩ = some (.int .i64 a0_2) := (blk_cell BK298.out 2).trans rfl; have hcz8_3 : w7.cell? ⟨gb298, 3, none⟩ = some (.slice A0_3 l0_3.length c0_3) := (blk_cell BK298.out 3).trans rfl; have hfz8_0 := blk_frozen BK298.out 0; have hfz8_1 := blk_frozen BK298.out 1; have hfz8_2 := blk_frozen BK298.out 2; have hfz8_3 := blk_frozen BK298.out 3))
        go_ret
        exact ⟨by first | rfl | (simp [errW_none, errW_some] <;> rfl) | (simp [*, errW_none, errW_some] <;> rfl), by repeat (first | (with_reducible first | exact HB.out | apply below_alloc | apply pw_below_drewN | apply below_drew1 | refine below_set ?_ GE298.out) | exact HB.out)⟩
    · rw [if_neg c3] at H
      have c3b0 : (a0_1 == 0) = false := beq_eq_false_iff_ne.mpr c3
      have c3b1 : (a0_1 != 0) = true := bne_iff_ne.mpr c3
      obtain rfl := Option.some.inj H
      go_enter Try.func66, Try.ntmps66
      go_wp2_with (first | ((with_reducible refine gate_dst (N := 1) rfl ?_); (try (refine gate_guard (by rfl) ?_; dsimp only)); refine box_event ?hg (N := 1) ?hd (cs := #[.int .i64 a0_0, .int .i64 a0_1, .int .i64 a0_2, .slice A0_3 l0_3.length c0_3]) (t := 91) ?hr ?_; (case hd => rfl); (case hg => rfl); (case hr => first | (go_simp; done) | (go_simp; rfl)); intro gb298 hg w9 hbox hb; have n0_ := Aside0.mk (below_step (by repeat (first | (with_reducible first | exact HB.out | apply below_alloc | apply pw_below_drewN | apply below_drew1) | exact HB.out)) hb); have n1_ := Aside0.mk (hbox); have n2_ := Aside0.mk ((by rw [hg]; exact (below_size (by repeat (first | (with_reducible first | exact HB.out | apply below_alloc | apply pw_below_drewN | apply below_drew1) | exact HB.out))) : w.heap.size ≤ gb298)); have n3_ := Aside0.mk ((by rw [hg]; exact (below_size (by repeat (first | (with_reducible first | exact HB.out | apply below_alloc | apply pw_below_drewN | apply below_drew1) | exact HB.out))) : w.heap.size ≤ gb298)); clear HB; have HB := n0_; have BK298 := n1_; have GW298 := n2_; have GE298 := n3_; clear n0_ n1_ n2_ n3_; clear hb hbox hg; have hcz10_0 : w9.cell? ⟨gb298, 0, none⟩ = some (.int .i64 a0_0) := (blk_cell BK298.out 0).trans rfl; have hcz10_1 : w9.cell? ⟨gb298, 1, none⟩ = some (.int .i64 a0_1) := (blk_cell BK298.out 1).trans rfl; have hcz10_2 : w9.cell? ⟨gb298, 2, none⟩ = some (.int .i64 a0_2) := (blk_cell BK298.out 2).trans rfl; have hcz10_3 : w9.cell? ⟨gb298, 3, none⟩ = some (.slice A0_3 l0_3.length c0_3) := (blk_cell BK298.out 3).trans rfl; have hfz10_0 := blk_frozen BK298.out 0; have hfz10_1 := blk_frozen BK298.out 1; have hfz10_2 := blk_frozen BK298.out 2; have hfz10_3 := blk_frozen BK298.out 3))
      go_ret
      exact ⟨by first | rfl | (simp [errW_none, errW_some] <;> rfl) | (simp [*, errW_none, errW_some] <;> rfl), by repeat (first | (with_reducible first | exact HB.out | apply below_alloc | apply pw_below_drewN | apply below_drew1 | refine below_set ?_ GE298.out) | exact HB.out)⟩
  · rw [if_neg c2] at H
    have c2b0 : (a0_0 == 1) = false := beq_eq_false_iff_ne.mpr c2
    have c2b1 : (a0_0 != 1) = true := bne_iff_ne.mpr c2
    have HC11 := Aside0.mk H
    clear H
    go_enter Try.func66, Try.ntmps66
    go_upto_if 26 with (first | ((with_reducible refine gate_dst (N := 1) rfl ?_); (try (refine gate_guard (by rfl) ?_; dsimp only)); refine box_event ?hg (N := 1) ?hd (cs := #[.int .i64 a0_0, .int .i64 a0_1, .int .i64 a0_2, .slice A0_3 l0_3.length c0_3]) (t := 91) ?hr ?_; (case hd => rfl); (case hg => rfl); (case hr => first | (go_simp; done) | (go_simp; rfl)); intro gb298 hg w12 hbox hb; have n0_ := Aside0.mk (below_step (by repeat (first | (with_reducible first | exact HB.out | apply below_alloc | apply pw_below_drewN | apply below_drew1) | exact HB.out)) hb); have n1_ := Aside0.mk (hbox); have n2_ := Aside0.mk ((by rw [hg]; exact (below_size (by repeat (first | (with_reducible first | exact HB.out | apply below_alloc | apply pw_below_drewN | apply below_drew1) | exact HB.out))) : w.heap.size ≤ gb298)); have n3_ := Aside0.mk ((by rw [hg]; exact (below_size (by repeat (first | (with_reducible first | exact HB.out | apply below_alloc | apply pw_below_drewN | apply below_drew1) | exact HB.out))) : w.heap.size ≤ gb298)); clear HB; have HB := n0_; have BK298 := n1_; have GW298 := n2_; have GE298 := n3_; clear n0_ n1_ n2_ n3_; clear hb hbox hg; have hcz13_0 : w12.cell? ⟨gb298, 0, none⟩ = some (.int .i64 a0_0) := (blk_cell BK298.out 0).trans rfl; have hcz13_1 : w12.cell? ⟨gb298, 1, none⟩ = some (.int .i64 a0_1) := (blk_cell BK298.out 1).trans rfl; have hcz13_2 : w12.cell? ⟨gb298, 2, none⟩ = some (.int .i64 a0_2) := (blk_cell BK298.out 2).trans rfl; have hcz13_3 : w12.cell? ⟨gb298, 3, none⟩ = some (.slice A0_3 l0_3.length c0_3) := (blk_cell BK298.out 3).trans rfl; have hfz13_0 := blk_frozen BK298.out 0; have hfz13_1 := blk_frozen BK298.out 1; have hfz13_2 := blk_frozen BK298.out 2; have hfz13_3 := blk_frozen BK298.out 3))
    (try simp only [Act.put, List.setIfInBounds_toArray, List.set_cons_zero, List.set_cons_succ])
    go_cut [26] (fun v26 wc => ∃ (kq : Nat) (x26_10 : Bool), v26 = .bool x26_10 ∧ Aside0 (script_Right.j0 kq ((l0_3.length : Int) == 0) a0_0 x26_10 a0_0 a0_1 a0_2 l0_3 = some r) ∧ Aside0 (kq ≤ k) ∧ Aside0 (wc.heap[gb298]? = some (.cells #[.int .i64 a0_0, .int .i64 a0_1, .int .i64 a0_2, (.slice A0_3 l0_3.length c0_3)] 91 (0, 0))) ∧ Aside0 (Below w.heap.size w wc))
    case first =>
      have H := HC11.out
      clear HC11
      by_cases c14 : a0_0 = 2
      · rw [if_pos c14] at H
        have c14b0 : (a0_0 == 2) = true := beq_iff_eq.mpr c14
        have c14b1 : (a0_0 != 2) = false := bne_eq_false_iff_eq.mpr c14
        clear c14
        (first | rw [c14b0] | (simp only [i64_w, i32_w]; rw [c14b0]) | skip)
        have H' := Aside0.mk H
        clear H
        go_wp2
        go_meet
        case rel => exact ⟨_, ((a0_0 == 2)), (by first | rfl | (simp; done) | (simp [*]; done)), H', ⟨by first | omega | exact Nat.le_refl _⟩, ⟨by (with_reducible repeat (first | refine blk_drewN ?_ _ | refine blk_drew ?_ | refine blk_alloc ?_ _)); exact BK298.out⟩, ⟨by repeat (first | (with_reducible first | exact HB.out | apply below_alloc | apply pw_below_drewN | apply below_drew1 | refine below_set ?_ GE298.out) | exact HB.out)⟩⟩
      · rw [if_neg c14] at H
        have c14b0 : (a0_0 == 2) = false := beq_eq_false_iff_ne.mpr c14
        have c14b1 : (a0_0 != 2) = true := bne_iff_ne.mpr c14
        (first | rw [c14b0] | (simp only [i64_w, i32_w]; rw [c14b0]) | skip)
        have H' := Aside0.mk H
        clear H
        go_wp2
        go_meet
        case rel => exact ⟨_, ((a0_0 == 3)), (by first | rfl | (simp; done) | (simp [*]; done)), H', ⟨by first | omega | exact Nat.le_refl _⟩, ⟨by (with_reducible repeat (first | refine blk_drewN ?_ _ | refine blk_drew ?_ | refine blk_alloc ?_ _)); exact BK298.out⟩, ⟨by repeat (first | (with_reducible first | exact HB.out | apply below_alloc | apply pw_below_drewN | apply below_drew1 | refine below_set ?_ GE298.out) | exact HB.out)⟩⟩
    case rest =>
      clear HC11
      try clear c1
      try clear c2
      try clear c2b0
      try clear c2b1
      try clear p2
      try clear c3
      try clear c3b0
      try clear c3b1
      try clear c4
      try clear c4b0
      try clear c4b1
      try clear c6
      try clear c14
      try clear c14b0
      try clear c14b1
      try clear hcz10_0
      try clear hcz10_1
      try clear hcz10_2
      try clear hcz10_3
      try clear hcz13_0
      try clear hcz13_1
      try clear hcz13_2
      try clear hcz13_3
      try clear hcz6_0
      try clear hcz6_1
      try clear hcz6_2
      try clear hcz6_3
      try clear hcz8_0
      try clear hcz8_1
      try clear hcz8_2
      try clear hcz8_3
      try clear hfz10_0
      try clear hfz10_1
      try clear hfz10_2
      try clear hfz10_3
      try clear hfz13_0
      try clear hfz13_1
      try clear hfz13_2
      try clear hfz13_3
      try clear hfz6_0
      try clear hfz6_1
      try clear hfz6_2
      try clear hfz6_3
      try clear hfz8_0
      try clear hfz8_1
      try clear hfz8_2
      try clear hfz8_3
      obtain ⟨kq, x26_10, rfl, HA, HJ10, BK298, HB⟩ := hcut
      cases kq with
      | zero => exact absurd HA.out (by simp [script_Right.j0])
      | succ kj10 =>
        have H := HA.out
        clear HA
        simp only [script_Right.j0] at H
        by_cases c15 : x26_10 = true
        · subst c15
          have H1 : (if ((l0_3.length : Int) == 0) = true then (some (a0_1 == 0)) else (some false)) = some r := by rw [if_pos rfl] at H; exact H
          clear H
          have H := H1
          clear H1
          by_cases c16 : ((l0_3.length : Int) == 0) = true
          · rw [if_pos c16] at H
            have c16b0 : ((l0_3.length : Int) == 0) = true := c16
            (try (have c16b1 : decide ((l0_3.length : Int) = 0) = true := by simpa using c16))
            (try (have c16b2 : ((l0_3.length : Int) == 0) = true := by simpa using c16))
            clear c16
            obtain rfl := Option.some.inj H
            have hcz17_0 : wc.cell? ⟨gb298, 0, none⟩ = some (.int .i64 a0_0) := (blk_cell BK298.out 0).trans rfl
            have hcz17_1 : wc.cell? ⟨gb298, 1, none⟩ = some (.int .i64 a0_1) := (blk_cell BK298.out 1).trans rfl
            have hcz17_2 : wc.cell? ⟨gb298, 2, none⟩ = some (.int .i64 a0_2) := (blk_cell BK298.out 2).trans rfl
            have hcz17_3 : wc.cell? ⟨gb298, 3, none⟩ = some (.slice A0_3 l0_3.length c0_3) := (blk_cell BK298.out 3).trans rfl
            have hfz17_0 := blk_frozen BK298.out 0
            have hfz17_1 := blk_frozen BK298.out 1
            have hfz17_2 := blk_frozen BK298.out 2
            have hfz17_3 := blk_frozen BK298.out 3
            go_wp2
            go_ret
            exact ⟨by first | rfl | (simp [errW_none, errW_some] <;> rfl) | (simp [*, errW_none, errW_some] <;> rfl), by repeat (first | (with_reducible first | exact HB.out | apply below_alloc | apply pw_below_drewN | apply below_drew1 | refine below_set ?_ GE298.out) | exact HB.out)⟩
          · rw [if_neg c16] at H
            have c16b0 : ((l0_3.length : Int) == 0) = false := by simpa using c16
            (try (have c16b1 : decide ((l0_3.length : Int) = 0) = false := by simpa using c16))
            (try (have c16b2 : ((l0_3.length : Int) == 0) = false := by simpa using c16))
            (try (have c16b3 : ¬ ((l0_3.length : Int) = 0) := by simpa using c16))
            clear c16
            obtain rfl := Option.some.inj H
            go_wp2
            go_ret
            exact ⟨by first | rfl | (simp [errW_none, errW_some] <;> rfl) | (simp [*, errW_none, errW_some] <;> rfl), by repeat (first | (with_reducible first | exact HB.out | apply below_alloc | apply pw_below_drewN | apply below_drew1 | refine below_set ?_ GE298.out) | exact HB.out)⟩
        · replace c15 := Bool.eq_false_iff.mpr c15
          subst c15
          have H1 : (if a0_0 = 4 then (if ((l0_3.length : Int) == 0) = true then (if a0_1 ≥ 0 then (some (decide (a0_1 ≤ 255))) else (some false)) else (some false)) else (some false)) = some r := by rw [if_neg (show ¬ (false = true) by decide)] at H; exact H
          clear H
          have H := H1
          clear H1
          by_cases c18 : a0_0 = 4
          · rw [if_pos c18] at H
            have c18b0 : (a0_0 == 4) = true := beq_iff_eq.mpr c18
            have c18b1 : (a0_0 != 4) = false := bne_eq_false_iff_eq.mpr c18
            clear c18
            by_cases c19 : ((l0_3.length : Int) == 0) = true
            · rw [if_pos c19] at H
              have c19b0 : ((l0_3.length : Int) == 0) = true := c19
              (try (have c19b1 : decide ((l0_3.length : Int) = 0) = true := by simpa using c19))
              (try (have c19b2 : ((l0_3.length : Int) == 0) = true := by simpa using c19))
              clear c19
              by_cases c20 : a0_1 ≥ 0
              · rw [if_pos c20] at H
                have c20b0 : decide (0 ≤ a0_1) = true := decide_eq_true c20
                clear c20
                obtain rfl := Option.some.inj H
                have hcz21_0 : wc.cell? ⟨gb298, 0, none⟩ = some (.int .i64 a0_0) := (blk_cell BK298.out 0).trans rfl
                have hcz21_1 : wc.cell? ⟨gb298, 1, none⟩ = some (.int .i64 a0_1) := (blk_cell BK298.out 1).trans rfl
                have hcz21_2 : wc.cell? ⟨gb298, 2, none⟩ = some (.int .i64 a0_2) := (blk_cell BK298.out 2).trans rfl
                have hcz21_3 : wc.cell? ⟨gb298, 3, none⟩ = some (.slice A0_3 l0_3.length c0_3) := (blk_cell BK298.out 3).trans rfl
                have hfz21_0 := blk_frozen BK298.out 0
                have hfz21_1 := blk_frozen BK298.out 1
                have hfz21_2 := blk_frozen BK298.out 2
                have hfz21_3 := blk_frozen BK298.out 3
                go_wp2
                go_ret
                exact ⟨by first | rfl | (simp [errW_none, errW_some] <;> rfl) | (simp [*, errW_none, errW_some] <;> rfl), by repeat (first | (with_reducible first | exact HB.out | apply below_alloc | apply pw_below_drewN | apply below_drew1 | refine below_set ?_ GE298.out) | exact HB.out)⟩
              · rw [if_neg c20] at H
                have c20b0 : decide (0 ≤ a0_1) = false := decide_eq_false c20
                clear c20
                obtain rfl := Option.some.inj H
                have hcz22_0 : wc.cell? ⟨gb298, 0, none⟩ = some (.int .i64 a0_0) := (blk_cell BK298.out 0).trans rfl
                have hcz22_1 : wc.cell? ⟨gb298, 1, none⟩ = some (.int .i64 a0_1) := (blk_cell BK298.out 1).trans rfl
                have hcz22_2 : wc.cell? ⟨gb298, 2, none⟩ = some (.int .i64 a0_2) := (blk_cell BK298.out 2).trans rfl
                have hcz22_3 : wc.cell? ⟨gb298, 3, none⟩ = some (.slice A0_3 l0_3.length c0_3) := (blk_cell BK298.out 3).trans rfl
                have hfz22_0 := blk_frozen BK298.out 0
                have hfz22_1 := blk_frozen BK298.out 1
                have hfz22_2 := blk_frozen BK298.out 2
                have hfz22_3 := blk_frozen BK298.out 3
                go_wp2
                go_ret
                exact ⟨by first | rfl | (simp [errW_none, errW_some] <;> rfl) | (simp [*, errW_none, errW_some] <;> rfl), by repeat (first | (with_reducible first | exact HB.out | apply below_alloc | apply pw_below_drewN | apply below_drew1 | refine below_set ?_ GE298.out) | exact HB.out)⟩
            · rw [if_neg c19] at H
              have c19b0 : ((l0_3.length : Int) == 0) = false := by simpa using c19
              (try (have c19b1 : decide ((l0_3.length : Int) = 0) = false := by simpa using c19))
              (try (have c19b2 : ((l0_3.length : Int) == 0) = false := by simpa using c19))
              (try (have c19b3 : ¬ ((l0_3.length : Int) = 0) := by simpa using c19))
              clear c19
              obtain rfl := Option.some.inj H
              go_wp2
              go_ret
              exact ⟨by first | rfl | (simp [errW_none, errW_some] <;> rfl) | (simp [*, errW_none, errW_some] <;> rfl), by repeat (first | (with_reducible first | exact HB.out | apply below_alloc | apply pw_below_drewN | apply below_drew1 | refine below_set ?_ GE298.out) | exact HB.out)⟩
          · rw [if_neg c18] at H
            have c18b0 : (a0_0 == 4) = false := beq_eq_false_iff_ne.mpr c18
            have c18b1 : (a0_0 != 4) = true := bne_iff_ne.mpr c18
            obtain rfl := Option.some.inj H
            go_wp2
            go_ret
            exact ⟨by first | rfl | (simp [errW_none, errW_some] <;> rfl) | (simp [*, errW_none, errW_some] <;> rfl), by repeat (first | (with_reducible first | exact HB.out | apply below_alloc | apply pw_below_drewN | apply below_drew1 | refine below_set ?_ GE298.out) | exact HB.out)⟩

end Go.Proofs.Ytalpemoodollpaa.P
/- script.Right, plain. -/
namespace Go.Proofs.Ytalpemoodollpaa.P
open Go.RowKit Go.Proofs.YtalpemoodollpaaW.PrintWords Go.Proofs.YtalpemoodollpaaW.PrintLast Go.Proofs.YtalpemoodollpaaW.PrintMore
set_option linter.unusedVariables false
set_option linter.unusedSimpArgs false
theorem scrRight_f (k : Nat) (s : S91) : script_Right.f (k + 3) s.f0 s.f1 s.f2 s.f3 = some (scrRight s) := by
  obtain ⟨f0, f1, f2, f3⟩ := s
  unfold script_Right.f scrRight
  dsimp only
  have hz : ((f3.length : Int) == 0) = decide (f3.length = 0) := by
    rw [Bool.eq_iff_iff]; simp
  by_cases h1 : f0 = 1
  · rw [if_pos h1, if_pos h1]
    by_cases h2 : f1 = 0 <;> by_cases h3 : f2 = 0 <;> simp [h2, h3] <;> omega
  · rw [if_neg h1, if_neg h1, hz]
    generalize hb : decide (f3.length = 0) = b
    by_cases h2 : f0 = 2
    · subst h2
      rw [if_pos rfl, if_pos (Or.inl rfl)]
      cases b <;> by_cases h3 : f1 = 0 <;> simp [script_Right.j0, h3]
    · rw [if_neg h2]
      by_cases h3 : f0 = 3
      · subst h3
        rw [if_pos (Or.inr rfl)]
        cases b <;> by_cases h3 : f1 = 0 <;> simp [script_Right.j0, h3]
      · rw [if_neg (by omega)]
        have e3 : (f0 == 3) = false := by simpa using h3
        by_cases h4 : f0 = 4
        · subst h4
          rw [if_pos rfl]
          cases b <;> by_cases h5 : 0 ≤ f1 <;> by_cases h6 : f1 ≤ 255 <;> simp [script_Right.j0, within_, h5, h6]
        · rw [if_neg h4]
          have e4 : (f0 == 4) = false := by simpa using h4
          simp [script_Right.j0, e3, e4, h4]
theorem scrRight_calls (s : S91) (A : Option Addr) (c : Nat) (w : World) (hr : Kd.C (Kd.int .u8) w A s.f3.length s.f3) (hc : s.f3.length ≤ c) :
    Calls Try.prog 66 #[.agg #[.int .i64 s.f0, .int .i64 s.f1, .int .i64 s.f2, .slice A s.f3.length c]] w fun e w' => e = .returned (.bool (scrRight s)) ∧ Below w.heap.size w w' :=
  script_Right.calls 3 s.f0 s.f1 s.f2 A c s.f3 _ w hr hc (scrRight_f 0 s)
end Go.Proofs.Ytalpemoodollpaa.P
/- A writer of one's own, call by call. -/
namespace Go.Proofs.Ytalpemoodollpaa.P
open Go.RowKit Go.Proofs.YtalpemoodollpaaW.PrintWords Go.Proofs.YtalpemoodollpaaW.PrintLast Go.Proofs.YtalpemoodollpaaW.PrintMore
set_option linter.unusedVariables false
set_option linter.unusedSimpArgs false

theorem lit_C (W : World) (xs : List Int) (hl : xs.length ≤ 9223372036854775807) : Kd.C (Kd.int .u8) (W.alloc (.cells (nums .u8 xs).toArray 5)) (some ⟨W.heap.size, 0, none⟩) xs.length xs := by
  have h := own_lit W W.heap.size 5 .u8 xs (Nat.le_refl _) hl
  obtain ⟨A, c, e, h2⟩ := own_reads h
  injection e with e1 e2 e3
  subst e1
  exact Kd.C_of_reads (d := (0 : Int)) (h1 := fun _ => rfl) h2
/-- Blocks of other types stay. -/
def KeepT (W W1 : World) (g : Nat) : Prop := ∀ (b : Nat) (cs : Array Value) (t : Nat), W.heap[b]? = some (.cells cs t (0, 0)) → t ≠ 5 → b ≠ g → W1.heap[b]? = some (.cells cs t (0, 0))
structure WK (w0 W : World) (g : Nat) (xs : List Int) : Prop where
  ex : ∃ row, WS W g row xs ∧ ∀ k, row = some k → w0.heap.size ≤ k
  bel : Below w0.heap.size w0 W
  hg : w0.heap.size ≤ g
namespace WK
variable {w0 W W1 : World} {g : Nat} {xs ys : List Int}
theorem new (hB : Below w0.heap.size w0 W) : WK w0 (W.alloc (.cells #[.slice none 0 0] 39)) W.heap.size [] :=
  ⟨⟨none, WS.new W, fun k hk => by cases hk⟩, below_alloc hB _, hB.size⟩
theorem below (h : WK w0 W g xs) (hb : Below W.heap.size W W1) : WK w0 W1 g xs := by
  obtain ⟨⟨row, hs, hr⟩, hB, hg⟩ := h
  exact ⟨⟨row, hs.below hb, hr⟩, below_then hB hB.size hb, hg⟩
theorem alloc (h : WK w0 W g xs) (o : Obj) : WK w0 (W.alloc o) g xs := h.below (below_alloc (Below.refl _ _) _)
theorem drew (h : WK w0 W g xs) : WK w0 W.drew g xs := ⟨h.ex, h.bel.drew, h.hg⟩
/-- What a call leaves. -/
theorem of_post {row : Option Nat} (hs : WS W g row xs) (hr : ∀ k, row = some k → w0.heap.size ≤ k) (hB : Below w0.heap.size w0 W) (hg : w0.heap.size ≤ g) (hp : WPost W g row ys W1) : WK w0 W1 g ys ∧ KeepT W W1 g := by
  obtain ⟨row1, h1, h2, h3⟩ := hp.below hB hg hr
  refine ⟨⟨⟨row1, h1, h3⟩, h2, hg⟩, fun b cs t hb ht hne => ?_⟩
  obtain ⟨_, _, _, hf⟩ := hp
  refine hf.blk hb (fun hS => hS.elim hne (fun hrow => ?_))
  obtain ⟨v, hb2, hr2, ho⟩ := hs
  exact own_ne ho hb (Ne.symm ht) (by rw [hr2, hrow])
theorem num (h : WK w0 W g xs) (n : Int) (h0 : 0 ≤ n) (h1 : n < 18446744073709551616) (hl : xs.length ≤ 1000000) :
    Calls Try.prog 36 #[.pointer (some ⟨g, 0, none⟩), .int .u64 n] W fun e w' => e = .returned (.pointer (some ⟨g, 0, none⟩)) ∧ WK w0 w' g (xs ++ numForm n.toNat) ∧ KeepT W w' g := by
  obtain ⟨⟨row, hs, hr⟩, hB, hg⟩ := h
  have := numForm_ten n h1
  exact (octets_Writer_Num.calls g row xs n W h0 hs (by omega)).mono fun e w' ⟨he, hp⟩ => ⟨he, of_post hs hr hB hg hp⟩
theorem int (h : WK w0 W g xs) (n : Int) (h0 : -9223372036854775808 ≤ n) (h1 : n ≤ 9223372036854775807) (hl : xs.length ≤ 1000000) :
    Calls Try.prog 38 #[.pointer (some ⟨g, 0, none⟩), .int .i64 n] W fun e w' => e = .returned (.pointer (some ⟨g, 0, none⟩)) ∧ WK w0 w' g (xs ++ intForm n) ∧ KeepT W w' g := by
  obtain ⟨⟨row, hs, hr⟩, hB, hg⟩ := h
  exact (octets_Writer_Int.calls g row xs n W h0 h1 hs (by omega)).mono fun e w' ⟨he, hp⟩ => ⟨he, of_post hs hr hB hg hp⟩
theorem uint (h : WK w0 W g xs) (n k : Int) (h0 : 0 ≤ n) (h1 : 1 ≤ k) (h2 : k ≤ 8) (hl : xs.length ≤ 1000000) :
    Calls Try.prog 99 #[.pointer (some ⟨g, 0, none⟩), .int .u64 n, .int .i64 k] W fun e w' => e = .returned (.pointer (some ⟨g, 0, none⟩)) ∧ WK w0 w' g (xs ++ uintForm n.toNat k.toNat) ∧ KeepT W w' g := by
  obtain ⟨⟨row, hs, hr⟩, hB, hg⟩ := h
  exact (octets_Writer_Uint.calls g row xs n k W h0 hs h1 h2 (by omega)).mono fun e w' ⟨he, hp⟩ => ⟨he, of_post hs hr hB hg hp⟩
theorem raw (h : WK w0 W g xs) (zs : List Int) (A : Option Addr) (c : Nat) (hz : Kd.C (Kd.int .u8) W A zs.length zs) (hl : xs.length ≤ 1000000) (hl2 : zs.length ≤ 1000000) :
    Calls Try.prog 94 #[.pointer (some ⟨g, 0, none⟩), .slice A zs.length c] W fun e w' => e = .returned (.pointer (some ⟨g, 0, none⟩)) ∧ WK w0 w' g (xs ++ zs) ∧ KeepT W w' g := by
  obtain ⟨⟨row, hs, hr⟩, hB, hg⟩ := h
  exact (octets_Writer_Raw.calls g row xs zs A c W hs hz (by omega)).mono fun e w' ⟨he, hp⟩ => ⟨he, of_post hs hr hB hg hp⟩
theorem bytes (h : WK w0 W g xs) (hl : xs.length ≤ 100000000) :
    Calls Try.prog 37 #[.pointer (some ⟨g, 0, none⟩)] W fun e w' => ∃ v0_ : Value, e = .returned v0_ ∧ Kd.R (Kd.int .u8) 5 w' w0.heap.size (fun _ => True) v0_ xs ∧ Below w0.heap.size w0 w' ∧ Below W.heap.size W w' := by
  obtain ⟨⟨row, hs, hr⟩, hB, hg⟩ := h
  exact (octets_Writer_Bytes.calls g row xs W hs (by omega)).mono fun e w' ⟨v, he, hR, hb⟩ => ⟨v, he, Kd.R_lower hR hB.size, below_then hB hB.size hb, hb⟩
theorem numA (h : WK w0 W g xs) (o : Obj) (n : Int) (h0 : 0 ≤ n) (h1 : n < 18446744073709551616) (hl : xs.length ≤ 1000000) :
    Calls Try.prog 36 #[.pointer (some ⟨g, 0, none⟩), .int .u64 n] (W.alloc o).drew fun e w' => e = .returned (.pointer (some ⟨g, 0, none⟩)) ∧ WK w0 w' g (xs ++ numForm n.toNat) ∧ KeepT (W.alloc o) w' g ∧ w'.heap[W.heap.size]? = some o := by
  obtain ⟨⟨row, hs, hr⟩, hB, hg⟩ := h
  have := numForm_ten n h1
  have hs2 : WS (W.alloc o).drew g row xs := hs.alloc o
  refine (octets_Writer_Num.calls g row xs n _ h0 hs2 (by omega)).mono fun e w' ⟨he, hp⟩ => ?_
  have h2 := of_post (w0 := w0) hs2 hr (below_alloc hB o).drew hg hp
  refine ⟨he, h2.1, h2.2, ?_⟩
  obtain ⟨_, _, _, hf⟩ := hp
  refine hf.blk (blk_new W o) (fun hS => ?_)
  rcases hS with hS | hS
  · have := hs.lt; omega
  · obtain ⟨v, hb2, hr2, ho⟩ := hs
    have := own_lt ho W.heap.size (by rw [hr2, hS])
    omega
end WK
theorem lit_at {W : World} {b : Nat} {xs : List Int} (h : W.heap[b]? = some (.cells (nums .u8 xs).toArray 5 (0, 0))) (hl : xs.length ≤ 9223372036854775807) : Kd.C (Kd.int .u8) W (some ⟨b, 0, none⟩) xs.length xs := by
  refine Kd.C_of_reads (d := (0 : Int)) (h1 := fun _ => rfl) ⟨rfl, hl, fun _ => ⟨_, rfl, fun j hj => ?_⟩⟩
  rw [add_plain, blk_cell h j]
  simp [nums, List.getD_eq_getElem?_getD, hj]
end Go.Proofs.Ytalpemoodollpaa.P
/- script.Encode of any steps. -/
namespace Go.Proofs.Ytalpemoodollpaa.P
open Go.RowKit Go.Proofs.YtalpemoodollpaaW.PrintWords Go.Proofs.YtalpemoodollpaaW.PrintLast Go.Proofs.YtalpemoodollpaaW.PrintMore
set_option linter.unusedVariables false
set_option linter.unusedSimpArgs false
def EncPost (w : World) (G : List Int × Int) (e : Ending) (w' : World) : Prop :=
  ∃ v : Value, e = .returned (.tuple #[v, .int .i64 G.2]) ∧ Kd.R (Kd.int .u8) 5 w' w.heap.size (fun _ => True) v G.1 ∧ Below w.heap.size w w'
theorem EncPost.nil {w W : World} {f : Int} (h : Below w.heap.size w W) : EncPost w ([], f) (.returned (.tuple #[.slice none 0 0, .int .i64 f])) W := ⟨_, rfl, Kd.R_nil _ _ _ _ _, h⟩
theorem WK.lt {w0 W : World} {g : Nat} {xs : List Int} (h : WK w0 W g xs) : g < W.heap.size := by obtain ⟨row, hs, _⟩ := h.ex; exact hs.lt
/-- What has been put when i steps are over. -/
structure EP (l : List S91) (i : Nat) : Prop where
  right : ∀ s ∈ l.take i, scrRight s = true
theorem take_succ91 (l : List S91) (i : Nat) (h : i < l.length) : l.take (i + 1) = l.take i ++ [rd_T91 l (i : Int)] := by
  rw [List.take_succ_eq_append_getElem h, rd_T91, Int.toNat_natCast, List.getD_eq_getElem?_getD, List.getElem?_eq_getElem h]
  rfl
theorem EP.step {l : List S91} {i : Nat} (h : EP l i) (hi : i < l.length) (hr : scrRight (rd_T91 l (i : Int)) = true) : EP l (i + 1) := by
  refine ⟨fun s hs => ?_⟩
  rw [take_succ91 l i hi] at hs
  rcases List.mem_append.1 hs with hs | hs
  · exact h.right s hs
  · rw [List.mem_singleton.1 hs]; exact hr
theorem EP.len {l : List S91} {i : Nat} (h : EP l i) : (scrFlat (l.take i)).length ≤ 75 * i := by
  refine Nat.le_trans (scrFlat_length _ h.right) ?_
  have := List.length_take_le i l
  omega
theorem EP.done {l : List S91} (h : EP l l.length) (hl : l.length ≤ 2000) : scrEncF l = (numForm l.length ++ scrFlat (l.take l.length), 0) := by
  have hr := h.right
  rw [List.take_length] at hr ⊢
  unfold scrEncF
  rw [if_neg (by omega), if_pos (List.all_eq_true.2 hr)]
theorem EP.bad {l : List S91} {i : Nat} (hi : i < l.length) (hl : l.length ≤ 2000) (hr : scrRight (rd_T91 l (i : Int)) = false) : scrEncF l = ([], 1) := by
  unfold scrEncF
  rw [if_neg (by omega), if_neg]
  intro h
  have := List.all_eq_true.1 h (rd_T91 l (i : Int)) (by
    rw [rd_T91, Int.toNat_natCast, List.getD_eq_getElem?_getD, List.getElem?_eq_getElem hi]
    exact List.getElem_mem hi)
  rw [hr] at this
  cases this
theorem rd_mem (l : List S91) (i : Nat) (hi : i < l.length) : rd_T91 l (i : Int) ∈ l := by
  rw [rd_T91, Int.toNat_natCast, List.getD_eq_getElem?_getD, List.getElem?_eq_getElem hi]
  exact List.getElem_mem hi
theorem scrRight_kind {x : S91} (h : scrRight x = true) : (x.f0 = 1 ∧ x.f1 = 0 ∧ x.f2 = 0 ∧ x.f3.length ≤ 64) ∨ ((x.f0 = 2 ∨ x.f0 = 3) ∧ x.f1 = 0 ∧ x.f3 = []) ∨ (x.f0 = 4 ∧ 0 ≤ x.f1 ∧ x.f1 ≤ 255 ∧ x.f3 = []) := by
  unfold scrRight at h
  by_cases h1 : x.f0 = 1
  · rw [if_pos h1] at h
    simp only [Bool.and_eq_true, decide_eq_true_eq] at h
    exact .inl ⟨h1, h.1.1, h.1.2, h.2⟩
  · rw [if_neg h1] at h
    by_cases h2 : x.f0 = 2 ∨ x.f0 = 3
    · rw [if_pos h2] at h
      simp only [Bool.and_eq_true, decide_eq_true_eq] at h
      exact .inr (.inl ⟨h2, h.1, List.length_eq_zero_iff.1 h.2⟩)
    · rw [if_neg h2] at h
      by_cases h4 : x.f0 = 4
      · rw [if_pos h4] at h
        simp only [Bool.and_eq_true, decide_eq_true_eq, within_iff] at h
        exact .inr (.inr ⟨h4, h.1.1, h.1.2, List.length_eq_zero_iff.1 h.2⟩)
      · rw [if_neg h4] at h; cases h
theorem WK.rawN {w0 W : World} {g : Nat} {xs : List Int} (h : WK w0 W g xs) (zs : List Int) (n : Nat) (hn : zs.length = n) (A : Option Addr) (c : Nat) (hz : Kd.C (Kd.int .u8) W A n zs) (hl : xs.length ≤ 1000000) (hl2 : n ≤ 1000000) :
    Calls Try.prog 94 #[.pointer (some ⟨g, 0, none⟩), .slice A n c] W fun e w' => e = .returned (.pointer (some ⟨g, 0, none⟩)) ∧ WK w0 w' g (xs ++ zs) ∧ KeepT W w' g := by
  subst hn
  exact h.raw zs A c hz hl hl2
theorem enc_next {w W : World} {g N i : Nat} {l : List S91} {x : S91} {xs : List Int} (h : WK w W g xs) (hx : xs = numForm N ++ scrFlat (l.take i) ++ scrForm x) (ht : l.take (i + 1) = l.take i ++ [x]) : WK w W g (numForm N ++ scrFlat (l.take (i + 1))) := by
  rw [ht, scrFlat_snoc, ← List.append_assoc, ← hx]
  exact h
set_option maxRecDepth 100000 in
set_option maxHeartbeats 2000000 in
theorem scrEncode_calls (A0 : Option Addr) (c0 : Nat) (l : List S91) (w : World) (hr0 : Kd.C k91 w A0 l.length l) (hc0 : l.length ≤ c0) (hl : l.length ≤ 100000) (hok : ∀ s ∈ l, -9223372036854775808 ≤ s.f2 ∧ s.f2 ≤ 9223372036854775807) :
    Calls Try.prog 50 #[.slice A0 l.length c0] w (EncPost w (scrEncF l)) := by
  have hu91 := Try.underlying91
  generalize hG : scrEncF l = G
  obtain ⟨N, hN⟩ : ∃ N, l.length = N := ⟨_, rfl⟩
  rw [hN] at hr0 hc0 hl ⊢
  have HR := Aside0.mk hr0
  have HOK := Aside0.mk hok
  have HN := Aside0.mk hN
  have HG := Aside0.mk hG
  clear hr0 hc0 hok hN hG
  by_cases h2000 : 2000 < N
  · have : G = ([], 9) := by rw [← HG.out]; unfold scrEncF; rw [if_pos (by rw [HN.out]; exact h2000)]
    subst this
    clear HG
    go_enter Try.func50, Try.ntmps50
    go_wp2
    go_ret2
    exact EncPost.nil (Below.refl _ _)
  have hN2 : N ≤ 2000 := by omega
  have hN3 : (N : Int) ≤ 2000 := by omega
  clear h2000
  have HK0 := Aside0.mk (WK.new (Below.refl w.heap.size w))
  go_enter Try.func50, Try.ntmps50
  go_wp2_with fail
  refine (HK0.out.num (N : Int) (by omega) (by omega) (by decide)).mono ?_
  rintro e w1 ⟨rfl, hk, _⟩
  have HK1 : Aside0 (WK w w1 w.heap.size (numForm N ++ scrFlat (l.take 0))) := ⟨by have h := hk; rw [Int.toNat_natCast] at h; simpa [scrFlat] using h⟩
  have HL1 := Aside0.mk (numForm_ten (N : Int) (by omega))
  rw [Int.toNat_natCast] at HL1
  clear hk HK0
  generalize hg : w.heap.size = g at *
  have HGG := Aside0.mk hg
  clear hg
  go_wp2
  go_loopw [19] (fun u19 wr => ∃ i : Nat, u19 = .int .i64 (i : Int) ∧ i ≤ N ∧ Aside0 (EP l i) ∧ Aside0 (WK w wr g (numForm N ++ scrFlat (l.take i)))) (fun u19 _ => (N - (intOf u19).toNat))
  case atStart => exact ⟨0, rfl, by omega, ⟨⟨fun s hs => by simp at hs⟩⟩, HK1⟩
  case round =>
    obtain ⟨i, rfl, hi, HE, HK⟩ := hrel
    by_cases hlt : i < N
    · have hxok := HOK.out (rd_T91 l (i : Int)) (rd_mem l i (by rw [HN.out]; exact hlt))
      have hts := take_succ91 l i (by rw [HN.out]; exact hlt)
      have hlen := HE.out.len
      obtain ⟨ad, A4, c4, hA, e0, e1, e2, e3, hl4, hC4⟩ := at_T91 HR.out (i : Int) (by omega) (by omega)
      rw [Int.toNat_natCast] at e0 e1 e2 e3
      replace e0 := pw_cell_below HK.out.bel e0
      replace e1 := pw_cell_below HK.out.bel e1
      replace e2 := pw_cell_below HK.out.bel e2
      replace e3 := pw_cell_below HK.out.bel e3
      have HX1 := Aside0.mk hxok.1
      have HX2 := Aside0.mk hxok.2
      have HB := Aside0.mk (fun h => EP.bad (l := l) (i := i) (by rw [HN.out]; exact hlt) (by rw [HN.out]; exact hN2) h)
      have HS := Aside0.mk (fun h => HE.out.step (by rw [HN.out]; exact hlt) h)
      have HTS := Aside0.mk hts
      have HLEN := Aside0.mk hlen
      subst hA
      clear hxok hts hlen
      generalize rd_T91 l (i : Int) = x at *
      obtain ⟨f0, f1, f2, f3⟩ := x
      dsimp only at *
      have HQ4 := Aside0.mk hl4
      have CC4 := Aside0.mk hC4
      have HK2 := Aside0.mk (HK.out.alloc (.cells #[.int .i64 f0, .int .i64 f1, .int .i64 f2, .slice A4 f3.length c4] 91))
      have BX2 := Aside0.mk (blk_new wr (.cells #[.int .i64 f0, .int .i64 f1, .int .i64 f2, .slice A4 f3.length c4] 91))
      have CR := Aside0.mk (scrRight_calls ⟨f0, f1, f2, f3⟩ A4 c4 _ (Kd.C_below hC4 HK2.out.bel) hl4)
      have HGL := Aside0.mk HK.out.lt
      dsimp only at CR
      clear hl4 hC4
      generalize hF : f3.length = F at *
      have HF := Aside0.mk hF
      clear hF
      go_wp2_with fail
      refine CR.out.mono ?_
      rintro e w2 ⟨rfl, hb⟩
      have BX3 := Aside0.mk ((hb.block _ (by simp)).trans BX2.out)
      have HK3 := Aside0.mk (HK2.out.below hb)
      clear hb e0 e1 e2 e3 HK2 BX2 CR
      cases hrt : scrRight ⟨f0, f1, f2, f3⟩ with
      | false =>
        have hgb := HB.out hrt
        rw [HG.out] at hgb
        subst hgb
        clear HG
        go_wp2
        go_ret2
        exact EncPost.nil HK3.out.bel
      | true =>
        have HS2 := Aside0.mk (HS.out hrt)
        have hkind := scrRight_kind hrt
        clear HB HS HE hrt
        dsimp only at hkind
        have HLX : Aside0 ((numForm N ++ scrFlat (l.take i)).length ≤ 200000) := ⟨by rw [List.length_append]; have := HL1.out; have := HLEN.out; omega⟩
        generalize hXS : numForm N ++ scrFlat (l.take i) = xs at *
        have HXS := Aside0.mk hXS
        clear hXS HLEN HL1
        rcases hkind with ⟨rfl, rfl, rfl, hf64⟩ | ⟨hk23, rfl, hnil⟩ | ⟨rfl, hs0, hs1, hnil⟩
        · have hF64 : F ≤ 64 := by have := HF.out; omega
          clear hf64
          have b0 := (blk_cell BX3.out 0).trans rfl
          have BX3A := Aside0.mk (blk_alloc BX3.out (.cells #[.int .u8 1] 5))
          go_wp2_with fail
          refine ((HK3.out.alloc (.cells (nums .u8 [1]).toArray 5)).raw [1] _ 1 (lit_C w2 [1] (by simp)) (by have := HLX.out; omega) (by simp)).mono ?_
          rintro e w3 ⟨rfl, hk, kt⟩
          have HK4 := Aside0.mk hk
          have BX4 := Aside0.mk (show w3.heap[wr.heap.size]? = some (.cells #[.int .i64 1, .int .i64 0, .int .i64 0, .slice A4 F c4] 91 (0, 0)) from kt _ _ _ BX3A.out (by decide) (by have := HGL.out; omega))
          clear hk kt b0 BX3 BX3A HK3
          have b0 := (blk_cell BX4.out 0).trans rfl
          have b3 := (blk_cell BX4.out 3).trans rfl
          have hFF : (F : Int) ≤ 64 := by omega
          have hF0 : 0 ≤ (F : Int) := by omega
          have NF := Aside0.mk (numForm_ten (F : Int) (by omega))
          rw [Int.toNat_natCast] at NF
          go_upto_region 13 with fail
          have hwr : IntKind.u64.wrap (F : Int) = (F : Int) := by rw [wrap_u64]; omega
          go_region_held3 (fun w' => w'.cell? ⟨wr.heap.size, 3, none⟩ = some (.slice A4 F c4)) (first | with_reducible assumption | go_keep)
            (first | (go_at_call 36; (with_reducible refine (HK4.out.drew.num (F : Int) hF0 (by omega) (by have := HLX.out; simp; omega)).mono ?_); rintro e w5 ⟨rfl, hk, kt⟩; have HK5 := Aside0.mk hk; have BX5 := Aside0.mk (show w5.heap[wr.heap.size]? = some (.cells #[.int .i64 1, .int .i64 0, .int .i64 0, .slice A4 F c4] 91 (0, 0)) from kt _ _ _ BX4.out (by decide) (by have := HGL.out; omega)); have b5 := (blk_cell BX5.out 3).trans rfl; clear hk kt) | (go_at_call 94; (with_reducible refine (HK5.out.rawN f3 F HF.out A4 c4 (Kd.C_below CC4.out HK5.out.bel) (by have := HLX.out; have := NF.out; simp; omega) (by omega)).mono ?_); rintro e w6 ⟨rfl, hk, kt⟩; have HK6 := Aside0.mk hk; have BX6 := Aside0.mk (show w6.heap[wr.heap.size]? = some (.cells #[.int .i64 1, .int .i64 0, .int .i64 0, .slice A4 F c4] 91 (0, 0)) from kt _ _ _ BX5.out (by decide) (by have := HGL.out; omega)); have b6 := (blk_cell BX6.out 3).trans rfl; clear hk kt))
          go_wp2
          go_roundw
          case rel => exact ⟨i + 1, by go_num, by omega, HS2, ⟨enc_next HK6.out (by rw [HXS.out]; simp [scrForm, HF.out]) HTS.out⟩⟩
          case measure => simp [intOf]; omega
        · have hF0 : F = 0 := by rw [← HF.out, hnil]; rfl
          subst hF0
          subst hnil
          rcases hk23 with rfl | rfl
          · have b0 := (blk_cell BX3.out 0).trans rfl
            have BX3A := Aside0.mk (blk_alloc BX3.out (.cells #[.int .u8 2] 5))
            go_wp2_with fail
            refine ((HK3.out.alloc (.cells (nums .u8 [2]).toArray 5)).raw [2] _ 1 (lit_C w2 [2] (by simp)) (by have := HLX.out; omega) (by simp)).mono ?_
            rintro e w3 ⟨rfl, hk, kt⟩
            have HK4 := Aside0.mk hk
            have BX4 := Aside0.mk (kt _ _ _ BX3A.out (by decide) (show wr.heap.size ≠ g by have := HGL.out; omega))
            clear hk kt b0 BX3 BX3A HK3
            have b0 := (blk_cell BX4.out 0).trans rfl
            have b2 := (blk_cell BX4.out 2).trans rfl
            go_wp2_with fail
            refine (HK4.out.int f2 HX1.out HX2.out (by have := HLX.out; simp; omega)).mono ?_
            rintro e w5 ⟨rfl, hk, kt⟩
            have HK5 := Aside0.mk hk
            clear hk kt b0 b2
            go_wp2
            go_roundw
            case rel => exact ⟨i + 1, by go_num, by omega, HS2, ⟨enc_next HK5.out (by rw [HXS.out]; simp [scrForm]) HTS.out⟩⟩
            case measure => simp [intOf]; omega
          · have b0 := (blk_cell BX3.out 0).trans rfl
            have BX3A := Aside0.mk (blk_alloc BX3.out (.cells #[.int .u8 3] 5))
            go_wp2_with fail
            refine ((HK3.out.alloc (.cells (nums .u8 [3]).toArray 5)).raw [3] _ 1 (lit_C w2 [3] (by simp)) (by have := HLX.out; omega) (by simp)).mono ?_
            rintro e w3 ⟨rfl, hk, kt⟩
            have HK4 := Aside0.mk hk
            have BX4 := Aside0.mk (kt _ _ _ BX3A.out (by decide) (show wr.heap.size ≠ g by have := HGL.out; omega))
            clear hk kt b0 BX3 BX3A HK3
            have b0 := (blk_cell BX4.out 0).trans rfl
            have b2 := (blk_cell BX4.out 2).trans rfl
            go_wp2_with fail
            refine (HK4.out.int f2 HX1.out HX2.out (by have := HLX.out; simp; omega)).mono ?_
            rintro e w5 ⟨rfl, hk, kt⟩
            have HK5 := Aside0.mk hk
            clear hk kt b0 b2
            go_wp2
            go_roundw
            case rel => exact ⟨i + 1, by go_num, by omega, HS2, ⟨enc_next HK5.out (by rw [HXS.out]; simp [scrForm]) HTS.out⟩⟩
            case measure => simp [intOf]; omega
        · have hF0 : F = 0 := by rw [← HF.out, hnil]; rfl
          subst hF0
          subst hnil
          have b0 := (blk_cell BX3.out 0).trans rfl
          have BX3A := Aside0.mk (blk_alloc BX3.out (.cells #[.int .u8 4] 5))
          go_wp2_with fail
          refine ((HK3.out.alloc (.cells (nums .u8 [4]).toArray 5)).raw [4] _ 1 (lit_C w2 [4] (by simp)) (by have := HLX.out; omega) (by simp)).mono ?_
          rintro e w3 ⟨rfl, hk, kt⟩
          have HK4 := Aside0.mk hk
          have BX4 := Aside0.mk (show w3.heap[wr.heap.size]? = some (.cells #[.int .i64 4, .int .i64 f1, .int .i64 f2, .slice A4 0 c4] 91 (0, 0)) from kt _ _ _ BX3A.out (by decide) (by have := HGL.out; omega))
          clear hk kt b0 BX3 BX3A HK3
          have b0 := (blk_cell BX4.out 0).trans rfl
          have b1 := (blk_cell BX4.out 1).trans rfl
          have BX4A := Aside0.mk (blk_alloc BX4.out (.cells #[.int .u8 f1] 5))
          go_wp2_with fail
          refine ((HK4.out.alloc (.cells (nums .u8 [f1]).toArray 5)).raw [f1] _ 1 (lit_C w3 [f1] (by simp)) (by have := HLX.out; simp; omega) (by simp)).mono ?_
          rintro e w4 ⟨rfl, hk, kt⟩
          have HK5 := Aside0.mk hk
          have BX5 := Aside0.mk (show w4.heap[wr.heap.size]? = some (.cells #[.int .i64 4, .int .i64 f1, .int .i64 f2, .slice A4 0 c4] 91 (0, 0)) from kt _ _ _ BX4A.out (by decide) (by have := HGL.out; omega))
          clear hk kt b0 b1 BX4 BX4A HK4
          have b2 := (blk_cell BX5.out 2).trans rfl
          go_wp2_with fail
          refine (HK5.out.int f2 HX1.out HX2.out (by have := HLX.out; simp; omega)).mono ?_
          rintro e w5 ⟨rfl, hk, kt⟩
          have HK6 := Aside0.mk hk
          clear hk kt b2
          go_wp2
          go_roundw
          case rel => exact ⟨i + 1, by go_num, by omega, HS2, ⟨enc_next HK6.out (by rw [HXS.out]; simp [scrForm]) HTS.out⟩⟩
          case measure => simp [intOf]; omega
    · obtain rfl : i = N := by omega
      have hd := HE.out
      have hdn : scrEncF l = (numForm i ++ scrFlat (l.take i), 0) := by
        have h2 := HN.out
        subst h2
        exact hd.done hN2
      rw [HG.out] at hdn
      have HD := Aside0.mk hdn
      have HLX : Aside0 ((numForm i ++ scrFlat (l.take i)).length ≤ 200000) := ⟨by rw [List.length_append]; have := HL1.out; have := hd.len; omega⟩
      clear hd hdn HE
      go_wp2_with fail
      refine (HK.out.bytes (by have := HLX.out; omega)).mono ?_
      rintro e w5 ⟨v, rfl, hR, hB, _⟩
      have HRR := Aside0.mk hR
      have HBB := Aside0.mk hB
      clear hR hB
      go_wp2
      go_ret2
      rw [HD.out]
      exact ⟨_, rfl, HRR.out, HBB.out⟩
end Go.Proofs.Ytalpemoodollpaa.P
/- damperref29.Same, walked by hand. -/
namespace Go.Proofs.Ytalpemoodollpaa.P
open Go.RowKit Go.Proofs.YtalpemoodollpaaW.PrintWords Go.Proofs.YtalpemoodollpaaW.PrintLast Go.Proofs.YtalpemoodollpaaW.PrintMore
set_option linter.unusedVariables false
set_option linter.unusedSimpArgs false
def bytB_eq (a b : List Int) : Bool := (strOfNums a).toList == (strOfNums b).toList
def sameB (x y : S91) : Bool := x.f0 == y.f0 && (x.f1 == y.f1 && (x.f2 == y.f2 && bytB_eq x.f3 y.f3))
/-- Are the steps the same, from i on? -/
def sameI (a b : List S91) : Nat → Nat → Bool
  | 0, _ => true
  | d + 1, i => sameB (rd_T91 a (i : Int)) (rd_T91 b (i : Int)) && sameI a b d (i + 1)
def sameL (a b : List S91) : Bool := decide (a.length = b.length) && sameI a b a.length 0
theorem bytB_eq_self (a : List Int) : bytB_eq a a = true := by simp [bytB_eq]
theorem sameB_self (x : S91) : sameB x x = true := by simp [sameB, bytB_eq_self]
theorem sameI_self (a : List S91) (d : Nat) : ∀ i, sameI a a d i = true := by
  induction d with
  | zero => intro i; rfl
  | succ d ih => intro i; rw [sameI, sameB_self, ih]; rfl
theorem sameL_self (a : List S91) : sameL a a = true := by simp [sameL, sameI_self]
theorem bytB_call (A0 : Option Addr) (c0 : Nat) (l0 : List Int) (A1 : Option Addr) (c1 : Nat) (l1 : List Int) (w : World) (hr0 : Kd.C (Kd.int .u8) w A0 l0.length l0) (hc0 : l0.length ≤ c0) (hr1 : Kd.C (Kd.int .u8) w A1 l1.length l1) (hc1 : l1.length ≤ c1) :
    Calls Try.prog 31 #[.slice A0 l0.length c0, .slice A1 l1.length c1] w fun e w' => e = .returned (.bool (bytB_eq l0 l1)) ∧ ∃ m, w' = w.drewN m :=
  (damperref03_Same.calls A0 c0 l0 A1 c1 l1 _ w hr0 hc0 hr1 hc1 rfl).mono fun e w' ⟨he, hd⟩ => ⟨he, hd.out⟩
set_option maxRecDepth 100000 in
set_option maxHeartbeats 2000000 in
theorem refSame_calls (A0 A1 : Option Addr) (c0 c1 : Nat) (a b : List S91) (w : World) (hr0 : Kd.C k91 w A0 a.length a) (hc0 : a.length ≤ c0) (hr1 : Kd.C k91 w A1 b.length b) (hc1 : b.length ≤ c1) :
    Calls Try.prog 70 #[.slice A0 a.length c0, .slice A1 b.length c1] w fun e w' => e = .returned (.bool (sameL a b)) ∧ Below w.heap.size w w' := by
  have hu91 := Try.underlying91
  generalize hG : sameL a b = G
  have hm := hr0.2.1
  have hm1 := hr1.2.1
  have HR0 := Aside0.mk hr0
  have HR1 := Aside0.mk hr1
  unfold sameL at hG
  obtain ⟨N, hN⟩ : ∃ N, a.length = N := ⟨_, rfl⟩
  obtain ⟨M, hM⟩ : ∃ M, b.length = M := ⟨_, rfl⟩
  rw [hN, hM] at hG
  rw [hN] at HR0 hc0 hm ⊢
  rw [hM] at HR1 hc1 hm1 ⊢
  have HG := Aside0.mk hG
  clear hr0 hr1 hG hN hM
  by_cases hne : N = M
  · subst hne
    rw [decide_eq_true rfl, Bool.true_and] at HG
    go_enter Try.func70, Try.ntmps70
    go_wp2
    go_loopw [5] (fun u5 wr => ∃ i d : Nat, u5 = .int .i64 (i : Int) ∧ i + d = N ∧ Aside0 (sameI a b d i = G) ∧ Aside0 (Below w.heap.size w wr)) (fun u5 _ => (N - (intOf u5).toNat))
    case atStart => exact ⟨0, N, rfl, by omega, HG, ⟨Below.refl _ _⟩⟩
    case round =>
      obtain ⟨i, d, rfl, hid, HS, HB⟩ := hrel
      by_cases hlt : i < N
      · obtain ⟨d, rfl⟩ : ∃ m, d = m + 1 := ⟨d - 1, by omega⟩
        obtain ⟨ad, A4, c4, hA, e0, e1, e2, e3, hl4, hC4⟩ := at_T91 HR0.out (i : Int) (by omega) (by omega)
        obtain ⟨ad', A5, c5, hA', g0, g1, g2, g3, hl5, hC5⟩ := at_T91 HR1.out (i : Int) (by omega) (by omega)
        rw [Int.toNat_natCast] at e0 e1 e2 e3 g0 g1 g2 g3
        replace e0 := pw_cell_below HB.out e0
        replace e1 := pw_cell_below HB.out e1
        replace e2 := pw_cell_below HB.out e2
        replace e3 := pw_cell_below HB.out e3
        replace g0 := pw_cell_below HB.out g0
        replace g1 := pw_cell_below HB.out g1
        replace g2 := pw_cell_below HB.out g2
        replace g3 := pw_cell_below HB.out g3
        subst hA hA'
        have hs := HS.out
        rw [sameI] at hs
        have HS2 := Aside0.mk hs
        clear hs HS
        generalize rd_T91 a (i : Int) = x at *
        generalize rd_T91 b (i : Int) = y at *
        have CX : Aside0 (∀ n, Calls Try.prog 31 #[.slice A4 x.f3.length c4, .slice A5 y.f3.length c5] (wr.drewN n) fun e w' => e = .returned (.bool (bytB_eq x.f3 y.f3)) ∧ ∃ m, w' = (wr.drewN n).drewN m) := ⟨fun n => bytB_call A4 c4 x.f3 A5 c5 y.f3 _ (Kd.C_below hC4 (pw_below_drewN HB.out n)) hl4 (Kd.C_below hC5 (pw_below_drewN HB.out n)) hl5⟩
        obtain ⟨x0, x1, x2, x3⟩ := x
        obtain ⟨y0, y1, y2, y3⟩ := y
        unfold sameB at HS2
        dsimp only at *
        have hi0 : (0 : Int) ≤ (i : Int) := by omega
        have hi1 : (i : Int) < (N : Int) := by omega
        clear hl4 hC4 hl5 hC5 hlt
        generalize x3.length = X3 at *
        generalize y3.length = Y3 at *
        generalize hbe : bytB_eq x3 y3 = be at *
        clear hbe
        by_cases h0 : x0 = y0
        · subst h0
          by_cases h1 : x1 = y1
          · subst h1
            by_cases h2 : x2 = y2
            · subst h2
              have HS3 : Aside0 ((be && sameI a b d (i + 1)) = G) := ⟨by have h := HS2.out; simpa using h⟩
              clear HS2
              cases be with
              | true =>
                rw [Bool.true_and] at HS3
                go_wp2_with fail
                go_quiet ((go_at_call 31; exact Calls.quiet_of (CX.out _)))
                go_wp2
                go_roundw
                case rel => exact ⟨i + 1, d, by go_num, by omega, HS3, ⟨pw_below_drewN HB.out _⟩⟩
                case measure => simp [intOf]; omega
              | false =>
                rw [Bool.false_and] at HS3
                obtain rfl := HS3.out
                clear HS3 HG
                go_wp2_with fail
                go_quiet ((go_at_call 31; exact Calls.quiet_of (CX.out _)))
                go_wp2
                go_ret
                exact ⟨rfl, pw_below_drewN HB.out _⟩
            · have n2 : (x2 != y2) = true := by simpa using h2
              have e2 : (x2 == y2) = false := by simpa using h2
              have hg : G = false := by rw [← HS2.out, e2]; simp
              subst hg
              clear h2 e2 HS2 HG CX
              go_wp2_with fail
              go_quiet (fail)
              go_wp2
              go_ret
              exact ⟨rfl, pw_below_drewN HB.out _⟩
          · have n1 : (x1 != y1) = true := by simpa using h1
            have e1_ : (x1 == y1) = false := by simpa using h1
            have hg : G = false := by rw [← HS2.out, e1_]; simp
            subst hg
            clear h1 e1_ HS2 HG CX
            go_wp2_with fail
            go_quiet (fail)
            go_wp2
            go_ret
            exact ⟨rfl, pw_below_drewN HB.out _⟩
        · have n0 : (x0 != y0) = true := by simpa using h0
          have e0_ : (x0 == y0) = false := by simpa using h0
          have hg : G = false := by rw [← HS2.out, e0_]; simp
          subst hg
          clear h0 e0_ HS2 HG CX
          go_wp2_with fail
          go_quiet (fail)
          go_wp2
          go_ret
          exact ⟨rfl, pw_below_drewN HB.out _⟩
      · obtain rfl : d = 0 := by omega
        have hs := HS.out
        rw [sameI] at hs
        subst hs
        clear HS HG
        go_wp2
        go_ret
        exact ⟨rfl, HB.out⟩
  · rw [decide_eq_false hne, Bool.false_and] at HG
    obtain rfl := HG.out
    clear HG HR0 HR1
    have hnb : ((N : Int) != (M : Int)) = true := by simp; omega
    go_enter Try.func70, Try.ntmps70
    go_wp2
    go_ret
    exact ⟨rfl, Below.refl _ _⟩
end Go.Proofs.Ytalpemoodollpaa.P
/- script.Same. -/
namespace Go.Proofs.Ytalpemoodollpaa.P
open Go.RowKit Go.Proofs.YtalpemoodollpaaW.PrintWords Go.Proofs.YtalpemoodollpaaW.PrintLast Go.Proofs.YtalpemoodollpaaW.PrintMore
set_option linter.unusedVariables false
set_option linter.unusedSimpArgs false
theorem bytesEqual_calls (A0 : Option Addr) (c0 : Nat) (l0 : List Int) (A1 : Option Addr) (c1 : Nat) (l1 : List Int) (w : World) (hr0 : Kd.C (Kd.int .u8) w A0 l0.length l0) (hr1 : Kd.C (Kd.int .u8) w A1 l1.length l1) :
    Calls Try.prog 110 #[.slice A0 l0.length c0, .slice A1 l1.length c1] w fun e w' => e = .returned (.bool (bytB_eq l0 l1)) ∧ w = w' := by
  have HR0 := Aside0.mk hr0
  have HR1 := Aside0.mk hr1
  clear hr0 hr1
  unfold bytB_eq
  have hcv3 := Kd.C_string (P := Try.prog) (A := A0) (c := c0) Try.underlying30 Try.underlying5 Try.underlying9 HR0.out
  have hcv4 := Kd.C_string (P := Try.prog) (A := A1) (c := c1) Try.underlying30 Try.underlying5 Try.underlying9 HR1.out
  go_enter Try.func110, Try.ntmps110
  go_wp2
  go_ret
  exact ⟨by first | rfl | (simp; done) | (simp [*]; done), rfl⟩
set_option maxRecDepth 100000 in
set_option maxHeartbeats 1000000 in
theorem same1_calls (x y : S91) (A0 A1 : Option Addr) (c0 c1 : Nat) (w : World) (hr0 : Kd.C (Kd.int .u8) w A0 x.f3.length x.f3) (hr1 : Kd.C (Kd.int .u8) w A1 y.f3.length y.f3) :
    Calls Try.prog 109 #[.agg #[.int .i64 x.f0, .int .i64 x.f1, .int .i64 x.f2, .slice A0 x.f3.length c0], .agg #[.int .i64 y.f0, .int .i64 y.f1, .int .i64 y.f2, .slice A1 y.f3.length c1]] w fun e w' => e = .returned (.bool (sameB x y)) ∧ Below w.heap.size w w' := by
  obtain ⟨x0, x1, x2, x3⟩ := x
  obtain ⟨y0, y1, y2, y3⟩ := y
  have hu91 := Try.underlying91
  generalize hG : sameB ⟨x0, x1, x2, x3⟩ ⟨y0, y1, y2, y3⟩ = G
  unfold sameB at hG
  dsimp only at *
  have BE : Aside0 (∀ W, Below w.heap.size w W → Calls Try.prog 110 #[.slice A0 x3.length c0, .slice A1 y3.length c1] W fun e w' => e = .returned (.bool (bytB_eq x3 y3)) ∧ W = w') := ⟨fun W hW => bytesEqual_calls A0 c0 x3 A1 c1 y3 W (Kd.C_below hr0 hW) (Kd.C_below hr1 hW)⟩
  have HG := Aside0.mk hG
  have B1 := Aside0.mk (below_alloc (below_alloc (Below.refl w.heap.size w) (.cells #[.int .i64 x0, .int .i64 x1, .int .i64 x2, .slice A0 x3.length c0] 91)) (.cells #[.int .i64 y0, .int .i64 y1, .int .i64 y2, .slice A1 y3.length c1] 91))
  have BX := Aside0.mk (blk_alloc (blk_new w (.cells #[.int .i64 x0, .int .i64 x1, .int .i64 x2, .slice A0 x3.length c0] 91)) (.cells #[.int .i64 y0, .int .i64 y1, .int .i64 y2, .slice A1 y3.length c1] 91))
  have BY := Aside0.mk (show ((w.alloc (.cells #[.int .i64 x0, .int .i64 x1, .int .i64 x2, .slice A0 x3.length c0] 91)).alloc (.cells #[.int .i64 y0, .int .i64 y1, .int .i64 y2, .slice A1 y3.length c1] 91)).heap[w.heap.size + 1]? = some (.cells #[.int .i64 y0, .int .i64 y1, .int .i64 y2, .slice A1 y3.length c1] 91 (0, 0)) from by have h := blk_new (w.alloc (.cells #[.int .i64 x0, .int .i64 x1, .int .i64 x2, .slice A0 x3.length c0] 91)) (.cells #[.int .i64 y0, .int .i64 y1, .int .i64 y2, .slice A1 y3.length c1] 91); rw [World.size_alloc] at h; exact h)
  clear hr0 hr1 hG
  have p0 := (blk_cell BX.out 0).trans rfl
  have p1 := (blk_cell BX.out 1).trans rfl
  have p2 := (blk_cell BX.out 2).trans rfl
  have p3 := (blk_cell BX.out 3).trans rfl
  have q0 := (blk_cell BY.out 0).trans rfl
  have q1 := (blk_cell BY.out 1).trans rfl
  have q2 := (blk_cell BY.out 2).trans rfl
  have q3 := (blk_cell BY.out 3).trans rfl
  by_cases h0 : x0 = y0
  · subst h0
    by_cases h1 : x1 = y1
    · subst h1
      by_cases h2 : x2 = y2
      · subst h2
        go_enter Try.func109, Try.ntmps109
        go_wp2_with fail
        refine (BE.out _ B1.out).mono ?_
        rintro e w3 ⟨rfl, rfl⟩
        go_wp2
        go_ret
        exact ⟨by rw [← HG.out]; simp, B1.out⟩
      · have e2 : (x2 == y2) = false := by simpa using h2
        clear h2
        go_enter Try.func109, Try.ntmps109
        go_wp2
        go_ret
        exact ⟨by rw [← HG.out]; simp [e2], B1.out⟩
    · have e1 : (x1 == y1) = false := by simpa using h1
      clear h1
      go_enter Try.func109, Try.ntmps109
      go_wp2
      go_ret
      exact ⟨by rw [← HG.out]; simp [e1], B1.out⟩
  · have e0 : (x0 == y0) = false := by simpa using h0
    clear h0
    go_enter Try.func109, Try.ntmps109
    go_wp2
    go_ret
    exact ⟨by rw [← HG.out]; simp [e0], B1.out⟩
set_option maxRecDepth 100000 in
set_option maxHeartbeats 1000000 in
theorem equalFunc_calls (A0 A1 : Option Addr) (c0 c1 : Nat) (a b : List S91) (w : World) (hr0 : Kd.C k91 w A0 a.length a) (hc0 : a.length ≤ c0) (hr1 : Kd.C k91 w A1 b.length b) (hc1 : b.length ≤ c1) :
    Calls Try.prog 108 #[.slice A0 a.length c0, .slice A1 b.length c1, .func (.func 109) #[] #[]] w fun e w' => e = .returned (.bool (sameL a b)) ∧ Below w.heap.size w w' := by
  have hu91 := Try.underlying91
  generalize hG : sameL a b = G
  have hm := hr0.2.1
  have hm1 := hr1.2.1
  have HR0 := Aside0.mk hr0
  have HR1 := Aside0.mk hr1
  unfold sameL at hG
  obtain ⟨N, hN⟩ : ∃ N, a.length = N := ⟨_, rfl⟩
  obtain ⟨M, hM⟩ : ∃ M, b.length = M := ⟨_, rfl⟩
  rw [hN, hM] at hG
  rw [hN] at HR0 hc0 hm ⊢
  rw [hM] at HR1 hc1 hm1 ⊢
  have HG := Aside0.mk hG
  clear hr0 hr1 hG hN hM
  by_cases hne : N = M
  · subst hne
    rw [decide_eq_true rfl, Bool.true_and] at HG
    go_enter Try.func108, Try.ntmps108
    go_wp2
    go_loopw [17] (fun u17 wr => ∃ i d : Nat, u17 = .int .i64 (i : Int) ∧ i + d = N ∧ Aside0 (sameI a b d i = G) ∧ Aside0 (Below w.heap.size w wr)) (fun u17 _ => (N - (intOf u17).toNat))
    case atStart => exact ⟨0, N, rfl, by omega, HG, ⟨Below.refl _ _⟩⟩
    case round =>
      obtain ⟨i, d, rfl, hid, HS, HB⟩ := hrel
      by_cases hlt : i < N
      · obtain ⟨d, rfl⟩ : ∃ m, d = m + 1 := ⟨d - 1, by omega⟩
        obtain ⟨ad, A4, c4, hA, e0, e1, e2, e3, hl4, hC4⟩ := at_T91 HR0.out (i : Int) (by omega) (by omega)
        obtain ⟨ad', A5, c5, hA', g0, g1, g2, g3, hl5, hC5⟩ := at_T91 HR1.out (i : Int) (by omega) (by omega)
        rw [Int.toNat_natCast] at e0 e1 e2 e3 g0 g1 g2 g3
        replace e0 := pw_cell_below HB.out e0
        replace e1 := pw_cell_below HB.out e1
        replace e2 := pw_cell_below HB.out e2
        replace e3 := pw_cell_below HB.out e3
        subst hA hA'
        have hs := HS.out
        rw [sameI] at hs
        have HS2 := Aside0.mk hs
        clear hs HS
        generalize rd_T91 a (i : Int) = x at *
        generalize rd_T91 b (i : Int) = y at *
        have CX : Aside0 (∀ W, Below w.heap.size w W → Calls Try.prog 109 #[.agg #[.int .i64 x.f0, .int .i64 x.f1, .int .i64 x.f2, .slice A4 x.f3.length c4], .agg #[.int .i64 y.f0, .int .i64 y.f1, .int .i64 y.f2, .slice A5 y.f3.length c5]] W fun e w' => e = .returned (.bool (sameB x y)) ∧ Below W.heap.size W w') := ⟨fun W hW => same1_calls x y A4 A5 c4 c5 W (Kd.C_below hC4 hW) (Kd.C_below hC5 hW)⟩
        obtain ⟨x0, x1, x2, x3⟩ := x
        obtain ⟨y0, y1, y2, y3⟩ := y
        dsimp only at *
        have B2 := Aside0.mk (below_alloc HB.out (.cells #[.int .i64 x0, .int .i64 x1, .int .i64 x2, .slice A4 x3.length c4] 91))
        replace g0 := pw_cell_below B2.out g0
        replace g1 := pw_cell_below B2.out g1
        replace g2 := pw_cell_below B2.out g2
        replace g3 := pw_cell_below B2.out g3
        have B3 := Aside0.mk (below_alloc B2.out (.cells #[.int .i64 y0, .int .i64 y1, .int .i64 y2, .slice A5 y3.length c5] 91))
        have BX := Aside0.mk (blk_alloc (blk_new wr (.cells #[.int .i64 x0, .int .i64 x1, .int .i64 x2, .slice A4 x3.length c4] 91)) (.cells #[.int .i64 y0, .int .i64 y1, .int .i64 y2, .slice A5 y3.length c5] 91))
        have p0 := (blk_cell BX.out 0).trans rfl
        have p1 := (blk_cell BX.out 1).trans rfl
        have p2 := (blk_cell BX.out 2).trans rfl
        have p3 := (blk_cell BX.out 3).trans rfl
        clear hl4 hC4 hl5 hC5
        generalize x3.length = X3 at *
        generalize y3.length = Y3 at *
        go_wp2_with fail
        refine (CX.out _ B3.out).mono ?_
        rintro e w3 ⟨rfl, hb⟩
        have B4 := Aside0.mk (below_then B3.out B3.out.size hb)
        clear hb CX
        cases hsb : sameB ⟨x0, x1, x2, x3⟩ ⟨y0, y1, y2, y3⟩ with
        | true =>
          rw [hsb, Bool.true_and] at HS2
          clear hsb
          go_wp2
          go_roundw
          case rel => exact ⟨i + 1, d, by go_num, by omega, HS2, B4⟩
          case measure => simp [intOf]; omega
        | false =>
          rw [hsb, Bool.false_and] at HS2
          obtain rfl := HS2.out
          clear hsb HS2
          go_wp2
          go_ret
          exact ⟨rfl, B4.out⟩
      · obtain rfl : d = 0 := by omega
        have hs := HS.out
        rw [sameI] at hs
        subst hs
        clear HS HG
        go_wp2
        go_ret
        exact ⟨rfl, HB.out⟩
  · rw [decide_eq_false hne, Bool.false_and] at HG
    obtain rfl := HG.out
    clear HG HR0 HR1
    have hnb : ((N : Int) != (M : Int)) = true := by simp; omega
    go_enter Try.func108, Try.ntmps108
    go_wp2
    go_ret
    exact ⟨rfl, Below.refl _ _⟩
theorem scrSame_calls (A0 A1 : Option Addr) (c0 c1 : Nat) (a b : List S91) (w : World) (hr0 : Kd.C k91 w A0 a.length a) (hc0 : a.length ≤ c0) (hr1 : Kd.C k91 w A1 b.length b) (hc1 : b.length ≤ c1) :
    Calls Try.prog 52 #[.slice A0 a.length c0, .slice A1 b.length c1] w fun e w' => e = .returned (.bool (sameL a b)) ∧ Below w.heap.size w w' := by
  have CX := Aside0.mk (equalFunc_calls A0 A1 c0 c1 a b w hr0 hc0 hr1 hc1)
  generalize sameL a b = G at *
  clear hr0 hc0 hr1 hc1
  generalize a.length = N at *
  generalize b.length = M at *
  go_enter Try.func52, Try.ntmps52
  go_wp2_with fail
  refine CX.out.mono ?_
  rintro e w1 ⟨rfl, hb⟩
  have B1 := Aside0.mk hb
  clear hb CX
  go_wp2
  go_ret
  exact ⟨rfl, B1.out⟩
end Go.Proofs.Ytalpemoodollpaa.P
/- script.Encode of the chapter's example: one tick. -/
namespace Go.Proofs.Ytalpemoodollpaa.P
open Go.RowKit Go.Proofs.YtalpemoodollpaaW.PrintWords Go.Proofs.YtalpemoodollpaaW.PrintLast Go.Proofs.YtalpemoodollpaaW.PrintMore
set_option linter.unusedVariables false
set_option linter.unusedSimpArgs false
theorem addr0 (a : Addr) : a.add 0 = a := by
  obtain ⟨b, o, i⟩ := a
  cases i <;> simp [Addr.add]
theorem scrRight1 (A : Option Addr) (c : Nat) (w : World) : Calls Try.prog 66 #[.agg #[.int .i64 2, .int .i64 0, .int .i64 1, .slice A 0 c]] w fun e w' => e = .returned (.bool true) ∧ Below w.heap.size w w' :=
  script_Right.calls 3 2 0 1 A c [] true w ⟨rfl, by simp, fun h => absurd h (Nat.lt_irrefl 0)⟩ (Nat.zero_le _) (by decide)
set_option maxRecDepth 100000 in
set_option maxHeartbeats 1000000 in
theorem scrEnc1 (A0 : Option Addr) (c0 : Nat) (w : World) (hr0 : Kd.C k91 w A0 1 [⟨2, 0, 1, []⟩]) (hc0 : 1 ≤ c0) :
    Calls Try.prog 50 #[.slice A0 1 c0] w fun e w' => ∃ v, e = .returned (.tuple #[v, .int .i64 0]) ∧ Kd.R (Kd.int .u8) 5 w' w.heap.size (fun _ => True) v [1, 2, 0, 0, 0, 0, 0, 0, 0, 2] ∧ Below w.heap.size w w' := by
  have hu91 := Try.underlying91
  have N1 : Aside0 (numForm (1 : Int).toNat = [1]) := ⟨numForm_small (by decide) (by decide)⟩
  have HR := Aside0.mk hr0
  obtain ⟨ad, A3, c3, rfl, _, _, _, _, _, _⟩ := at_T91 hr0 0 (by decide) (by decide)
  clear hr0
  have HK0 := Aside0.mk (WK.new (Below.refl w.heap.size w))
  go_enter Try.func50, Try.ntmps50
  go_wp2_with fail
  refine (HK0.out.num 1 (by decide) (by decide) (by decide)).mono ?_
  rintro e w1 ⟨rfl, hk, _⟩
  have HK1 := Aside0.mk hk
  clear hk HK0
  obtain ⟨_, A4, c4, hA, e0, e1, e2, e3, hl4, hC4⟩ := at_T91 (Kd.C_below HR.out HK1.out.bel) 0 (by decide) (by decide)
  injection hA with hA
  subst hA
  have hx : rd_T91 [⟨2, 0, 1, []⟩] 0 = ⟨2, 0, 1, []⟩ := by simp [rd_T91]
  rw [hx] at e0 e1 e2 e3
  simp only [Int.toNat_zero, Nat.zero_mul, addr0] at e0 e1 e2 e3
  go_wp2
  refine wp_loop_rounds 2 ?_
  rw [rounds_succ]
  go_wp2_with fail
  have HG := Aside0.mk (show w.heap.size < w1.heap.size from by obtain ⟨row, hs, _⟩ := HK1.out.ex; exact hs.lt)
  have HK2 := Aside0.mk (HK1.out.alloc (.cells #[.int .i64 2, .int .i64 0, .int .i64 1, .slice A4 0 c4] 91))
  have BX := Aside0.mk (blk_new w1 (.cells #[.int .i64 2, .int .i64 0, .int .i64 1, .slice A4 0 c4] 91))
  refine (scrRight1 A4 c4 _).mono ?_
  rintro e w2 ⟨rfl, hb⟩
  have BX2 := Aside0.mk (show w2.heap[w1.heap.size]? = some (.cells #[.int .i64 2, .int .i64 0, .int .i64 1, .slice A4 0 c4] 91 (0, 0)) from (hb.block _ (by simp)).trans BX.out)
  have HK3 := Aside0.mk (HK2.out.below hb)
  clear hb e0 e1 e2 e3 hl4 hC4 HK1 HK2 BX
  have b0 := (blk_cell BX2.out 0).trans rfl
  have BX3 := Aside0.mk (blk_alloc BX2.out (.cells #[.int .u8 2] 5))
  go_wp2_with fail
  refine ((HK3.out.alloc (.cells (nums .u8 [2]).toArray 5)).raw [2] _ 1 (lit_C w2 [2] (by simp)) (by rw [N1.out]; decide) (by simp)).mono ?_
  rintro e w3 ⟨rfl, hk, kt⟩
  have HK4 := Aside0.mk hk
  have BX4 := Aside0.mk (show w3.heap[w1.heap.size]? = some (.cells #[.int .i64 2, .int .i64 0, .int .i64 1, .slice A4 0 c4] 91 (0, 0)) from kt _ _ _ BX3.out (by decide) (by have := HG.out; omega))
  clear hk kt b0 BX2 BX3 HK3
  have b0 := (blk_cell BX4.out 0).trans rfl
  have b2 := (blk_cell BX4.out 2).trans rfl
  go_wp2_with fail
  refine (HK4.out.int 1 (by decide) (by decide) (by rw [N1.out]; decide)).mono ?_
  rintro e w4 ⟨rfl, hk, _⟩
  have HK5 := Aside0.mk hk
  clear hk b0 b2
  go_wp2
  rw [rounds_succ]
  go_wp2_with fail
  refine (HK5.out.bytes (by rw [N1.out]; simp [intForm_length])).mono ?_
  rintro e w5 ⟨v, rfl, hR, hB, _⟩
  have HRR := Aside0.mk hR
  have HBB := Aside0.mk hB
  clear hR hB
  go_wp2
  go_ret2
  have he : ([] ++ numForm (1 : Int).toNat ++ [2] ++ intForm 1 : List Int) = [1, 2, 0, 0, 0, 0, 0, 0, 0, 2] := by rw [N1.out]; decide
  exact ⟨_, rfl, by rw [← he]; exact HRR.out, HBB.out⟩
/-- Known at the chapter's example alone. -/
def script_Encode.f (l : List S91) : Option (List Int × Int) :=
  match l with
  | [x] => if x.f0 = 2 ∧ x.f1 = 0 ∧ x.f2 = 1 ∧ x.f3 = [] then some ([1, 2, 0, 0, 0, 0, 0, 0, 0, 2], 0) else none
  | _ => none
theorem script_Encode.calls (A0 : Option Addr) (c0 : Nat) (l0 : List S91) (r1 : List Int) (r2 : Int) (w : World) (hr0 : Kd.C k91 w A0 l0.length l0) (hc0 : l0.length ≤ c0) (h : script_Encode.f l0 = some (r1, r2)) :
    Calls Try.prog 50 #[.slice A0 l0.length c0] w fun e w' => ∃ v0_ : Value, e = .returned (.tuple #[v0_, .int .i64 r2]) ∧ Kd.R (Kd.int .u8) 5 w' w.heap.size (fun _ => True) v0_ r1 ∧ Below w.heap.size w w' := by
  unfold script_Encode.f at h
  split at h
  · rename_i x
    obtain ⟨f0, f1, f2, f3⟩ := x
    by_cases hp : f0 = 2 ∧ f1 = 0 ∧ f2 = 1 ∧ f3 = []
    · rw [if_pos hp] at h
      have h := Option.some.inj h
      obtain ⟨rfl, rfl⟩ := Prod.mk.inj h
      obtain ⟨rfl, rfl, rfl, rfl⟩ := hp
      exact scrEnc1 A0 c0 w hr0 hc0
    · rw [if_neg hp] at h
      cases h
  · cases h
end Go.Proofs.Ytalpemoodollpaa.P
-- Printed by hookprint.py (the session's own program, over the kit's print.py): checked by Lean like any text.
namespace Go.Proofs.Ytalpemoodollpaa.P
open Go.RowKit Go.Proofs.YtalpemoodollpaaW.PrintWords Go.Proofs.YtalpemoodollpaaW.PrintLast Go.Proofs.YtalpemoodollpaaW.PrintMore
attribute [local go_sem] max2_int min2_int max_two min_two max_three min_three max_four min_four   -- for this text's walks alone
set_option linter.unusedVariables false
set_option linter.unusedSimpArgs false

/-! ### fix_Add: function 119 -/
def fix_Add.f (a0 : Int) (a1 : Int) : Option (Int × Bool) := if (Go.bits .and .i64 (Go.bits .xor .i64 a0 (wrap64 (a0 + a1))) (Go.bits .xor .i64 a1 (wrap64 (a0 + a1)))) < 0 then (some (0, false)) else (some (wrap64 (a0 + a1), true))
set_option maxHeartbeats 8000000 in
set_option maxRecDepth 100000 in
theorem fix_Add.calls (a0 : Int) (a1 : Int) (r1 : Int) (r2 : Bool) (w : World) (h : fix_Add.f a0 a1 = some (r1, r2)) :
    Calls Try.prog 119 #[.int .i64 a0, .int .i64 a1] w fun e w' => e = .returned (.tuple #[.int .i64 r1, .bool r2]) ∧ Drawn0 w w' := by
  have H : (if (Go.bits .and .i64 (Go.bits .xor .i64 a0 (wrap64 (a0 + a1))) (Go.bits .xor .i64 a1 (wrap64 (a0 + a1)))) < 0 then (some (0, false)) else (some (wrap64 (a0 + a1), true))) = some (r1, r2) := h
  clear h
  by_cases c3 : (Go.bits .and .i64 (Go.bits .xor .i64 a0 (wrap64 (a0 + a1))) (Go.bits .xor .i64 a1 (wrap64 (a0 + a1)))) < 0
  · rw [if_pos c3] at H
    have c3b0 : decide ((Go.bits .and .i64 (Go.bits .xor .i64 a0 (wrap64 (a0 + a1))) (Go.bits .xor .i64 a1 (wrap64 (a0 + a1)))) < 0) = true := decide_eq_true c3
    clear c3
    simp only [Option.some.injEq, Prod.mk.injEq] at H
    obtain ⟨rfl, rfl⟩ := H
    go_enter Try.func119, Try.ntmps119
    go_wp2
    go_ret2
    exact ⟨by first | rfl | (simp; done) | (simp [*]; done), by repeat (first | exact Drawn0.refl _ | apply Drawn0.step)⟩
  · rw [if_neg c3] at H
    have c3b0 : decide ((Go.bits .and .i64 (Go.bits .xor .i64 a0 (wrap64 (a0 + a1))) (Go.bits .xor .i64 a1 (wrap64 (a0 + a1)))) < 0) = false := decide_eq_false c3
    clear c3
    simp only [Option.some.injEq, Prod.mk.injEq] at H
    obtain ⟨rfl, rfl⟩ := H
    go_enter Try.func119, Try.ntmps119
    go_wp2
    go_ret2
    exact ⟨by first | rfl | (simp; done) | (simp [*]; done), by repeat (first | exact Drawn0.refl _ | apply Drawn0.step)⟩

end Go.Proofs.Ytalpemoodollpaa.P
-- Printed by hookprint.py (the session's own program, over the kit's print.py): checked by Lean like any text.
namespace Go.Proofs.Ytalpemoodollpaa.P
open Go.RowKit Go.Proofs.YtalpemoodollpaaW.PrintWords Go.Proofs.YtalpemoodollpaaW.PrintLast Go.Proofs.YtalpemoodollpaaW.PrintMore
attribute [local go_sem] max2_int min2_int max_two min_two max_three min_three max_four min_four   -- for this text's walks alone
set_option linter.unusedVariables false
set_option linter.unusedSimpArgs false

/-! ### script_Ticks: function 68 -/
mutual
def script_Ticks.l0 : Nat → Int → List (S91) → Int → Int → Option (Int × Bool)
  | 0, _, _, _, _ => none
  | k + 1, x2, x6, x7, x8 => if x8 < x7 then (if 0 ≤ x8 then (if x8 < (x6.length : Int) then (if ((rd_T91 x6 x8).f0) = 2 then (script_Ticks.j1 k x2 x6 x7 x8 (decide (((rd_T91 x6 x8).f2) < 0)) ((rd_T91 x6 x8).f0) ((rd_T91 x6 x8).f1) ((rd_T91 x6 x8).f2) ((rd_T91 x6 x8).f3)) else (script_Ticks.j1 k x2 x6 x7 x8 true ((rd_T91 x6 x8).f0) ((rd_T91 x6 x8).f1) ((rd_T91 x6 x8).f2) ((rd_T91 x6 x8).f3))) else (none)) else (none)) else (some (x2, true))
def script_Ticks.j1 : Nat → Int → List (S91) → Int → Int → Bool → Int → Int → Int → List Int → Option (Int × Bool)
  | 0, _, _, _, _, _, _, _, _, _ => none
  | k + 1, x2, x6, x7, x8, x19, x301000, x301001, x301002, x301003 => if x19 = true then (script_Ticks.l0 k x2 x6 x7 (wrap64 (x8 + 1))) else ((fix_Add.f x2 x301002).bind fun bt301 => (if bt301.2 = true then (script_Ticks.l0 k bt301.1 x6 x7 (wrap64 (x8 + 1))) else (some (0, false))))
end
def script_Ticks.f (k : Nat) (l0 : List (S91)) : Option (Int × Bool) := script_Ticks.l0 k 0 l0 (l0.length : Int) 0
theorem script_Ticks.mono_l : ∀ k, (∀ y0 y1 y2 y3, LeO (script_Ticks.l0 k y0 y1 y2 y3) (script_Ticks.l0 (k + 1) y0 y1 y2 y3)) ∧ (∀ y0 y1 y2 y3 y4 y5 y6 y7 y8, LeO (script_Ticks.j1 k y0 y1 y2 y3 y4 y5 y6 y7 y8) (script_Ticks.j1 (k + 1) y0 y1 y2 y3 y4 y5 y6 y7 y8))
  | 0 => ⟨fun _ _ _ _ r h => by simp [script_Ticks.l0] at h, fun _ _ _ _ _ _ _ _ _ r h => by simp [script_Ticks.j1] at h⟩
  | k + 1 => by
    obtain ⟨ih0, ih1⟩ := script_Ticks.mono_l k
    refine ⟨?_, ?_⟩
    · intro y0 y1 y2 y3
      unfold script_Ticks.l0
      repeat' first
      | (with_reducible exact ih0 _ _ _ _)
      | (with_reducible exact ih1 _ _ _ _ _ _ _ _ _)
      | (with_reducible exact LeO.refl _)
      | (with_reducible exact LeO.none _)
      | (with_reducible refine LeO.ite ?_ ?_)
      | (with_reducible refine LeO.bind ?_ (fun _ => ?_))
      | exact ih0 _ _ _ _
      | exact ih1 _ _ _ _ _ _ _ _ _
      | exact LeO.none _
      | refine LeO.ite ?_ ?_
      | refine LeO.bind ?_ (fun _ => ?_)
    · intro y0 y1 y2 y3 y4 y5 y6 y7 y8
      unfold script_Ticks.j1
      repeat' first
      | (with_reducible exact ih0 _ _ _ _)
      | (with_reducible exact ih1 _ _ _ _ _ _ _ _ _)
      | (with_reducible exact LeO.refl _)
      | (with_reducible exact LeO.none _)
      | (with_reducible refine LeO.ite ?_ ?_)
      | (with_reducible refine LeO.bind ?_ (fun _ => ?_))
      | exact ih0 _ _ _ _
      | exact ih1 _ _ _ _ _ _ _ _ _
      | exact LeO.none _
      | refine LeO.ite ?_ ?_
      | refine LeO.bind ?_ (fun _ => ?_)
theorem script_Ticks.mono : ∀ a0 k, LeO (script_Ticks.f k a0) (script_Ticks.f (k + 1) a0) := by
  intro a0 k
  obtain ⟨ih0, ih1⟩ := script_Ticks.mono_l k
  unfold script_Ticks.f
  repeat' first
      | (with_reducible exact ih0 _ _ _ _)
      | (with_reducible exact ih1 _ _ _ _ _ _ _ _ _)
      | (with_reducible exact LeO.refl _)
      | (with_reducible exact LeO.none _)
      | (with_reducible refine LeO.ite ?_ ?_)
      | (with_reducible refine LeO.bind ?_ (fun _ => ?_))
      | exact ih0 _ _ _ _
      | exact ih1 _ _ _ _ _ _ _ _ _
      | exact LeO.none _
      | refine LeO.ite ?_ ?_
      | refine LeO.bind ?_ (fun _ => ?_)
set_option maxHeartbeats 8000000 in
set_option maxRecDepth 100000 in
theorem script_Ticks.calls (k : Nat) (A0 : Option Addr) (c0 : Nat) (l0 : List (S91)) (r1 : Int) (r2 : Bool) (w : World) (hr0 : Kd.C k91 w A0 l0.length l0) (hc0 : l0.length ≤ c0) (h : script_Ticks.f k l0 = some (r1, r2)) :
    Calls Try.prog 68 #[.slice A0 l0.length c0] w fun e w' => e = .returned (.tuple #[.int .i64 r1, .bool r2]) ∧ Below w.heap.size w w' := by
  have hu91 := Try.underlying91
  have HR0 := Aside0.mk hr0
  have HC0 := Aside0.mk hc0
  clear hr0 hc0
  have HB := Aside0.mk (Below.refl w.heap.size w)
  have H : (script_Ticks.l0 k 0 l0 (l0.length : Int) 0) = some (r1, r2) := h
  clear h
  have H' := Aside0.mk H
  clear H
  go_enter Try.func68, Try.ntmps68
  go_wp2
  go_loopg [2, 8] k (fun kq v2 v8 w' => ∃ (x2_1 : Int) (x8_1 : Int), v2 = .int .i64 x2_1 ∧ v8 = .int .i64 x8_1 ∧ Aside0 (script_Ticks.l0 kq x2_1 l0 (l0.length : Int) x8_1 = some (r1, r2)) ∧ Aside0 (kq ≤ k) ∧ Aside0 (Below w.heap.size w w'))
  case atStart => exact ⟨(0), (0), (by first | rfl | (simp; done) | (simp [*]; done)), (by first | rfl | (simp; done) | (simp [*]; done)), H', ⟨Nat.le_refl _⟩, ⟨by repeat (first | (with_reducible first | exact HB.out | apply below_alloc | apply pw_below_drewN | apply below_drew1) | exact HB.out)⟩⟩
  case round =>
    clear H'
    obtain ⟨x2_1, x8_1, rfl, rfl, HA, HK1, HB⟩ := hrel
    cases gk with
    | zero => exact absurd HA.out (by simp [script_Ticks.l0])
    | succ k1 =>
      have H := HA.out
      clear HA
      simp only [script_Ticks.l0] at H
      by_cases c2 : x8_1 < (l0.length : Int)
      · rw [if_pos c2] at H
        have c2b0 : decide (x8_1 < (l0.length : Int)) = true := decide_eq_true c2
        clear c2
        by_cases c3 : 0 ≤ x8_1
        · rw [if_pos c3] at H
          have c3b0 : decide (0 ≤ x8_1) = true := decide_eq_true c3
          clear c3
          by_cases c4 : x8_1 < (l0.length : Int)
          · rw [if_pos c4] at H
            have c4b0 : decide (x8_1 < (l0.length : Int)) = true := decide_eq_true c4
            clear c4
            have HC5 := Aside0.mk H
            clear H
            have p299 : 0 ≤ (x8_1 : Int) := of_decide_eq_true (by first | (with_reducible assumption) | assumption)
            have q299 : x8_1 < (l0.length : Int) := of_decide_eq_true (by first | (with_reducible assumption) | assumption)
            obtain ⟨ad299, A299_3, c299_3, e299, hx299_0, hx299_1, hx299_2, hx299_3, hl299_3, hi299_3⟩ := at_T91 HR0.out x8_1 p299 q299
            cases e299
            replace hx299_0 := (HB.out.cell (World.block_lt_of_cell? w _ hx299_0)).trans hx299_0
            replace hx299_1 := (HB.out.cell (World.block_lt_of_cell? w _ hx299_1)).trans hx299_1
            replace hx299_2 := (HB.out.cell (World.block_lt_of_cell? w _ hx299_2)).trans hx299_2
            replace hx299_3 := (HB.out.cell (World.block_lt_of_cell? w _ hx299_3)).trans hx299_3
            have HR299_3 := Aside0.mk hi299_3
            have HC299_3 := Aside0.mk hl299_3
            clear hi299_3 hl299_3
            replace p299 := eq_true p299
            replace q299 := eq_true q299
            go_upto_region 4 with (first | ((with_reducible refine gate_dst (N := 5) rfl ?_); refine box_event ?hg (N := 5) ?hd (cs := #[.int .i64 0, .int .i64 0, .int .i64 0, .slice none 0 0]) (t := 91) ?hr ?_; (case hd => rfl); (case hg => rfl); (case hr => first | (go_simp; done) | (go_simp; rfl)); intro gb300 hg w6 hbox hb; have n0_ := Aside0.mk (below_step (by repeat (first | (with_reducible first | exact HB.out | apply below_alloc | apply pw_below_drewN | apply below_drew1) | exact HB.out)) hb); have n1_ := Aside0.mk (hbox); have n2_ := Aside0.mk ((by rw [hg]; exact (below_size (by repeat (first | (with_reducible first | exact HB.out | apply below_alloc | apply pw_below_drewN | apply below_drew1) | exact HB.out))) : w.heap.size ≤ gb300)); have n3_ := Aside0.mk ((by rw [hg]; exact (below_size (by repeat (first | (with_reducible first | exact HB.out | apply below_alloc | apply pw_below_drewN | apply below_drew1) | exact HB.out))) : w.heap.size ≤ gb300)); clear HB; have HB := n0_; have BK300 := n1_; have GW300 := n2_; have GE300 := n3_; clear n0_ n1_ n2_ n3_; clear hb hbox hg; have hcz7_0 : w6.cell? ⟨gb300, 0, none⟩ = some (.int .i64 0) := (blk_cell BK300.out 0).trans rfl; have hcz7_1 : w6.cell? ⟨gb300, 1, none⟩ = some (.int .i64 0) := (blk_cell BK300.out 1).trans rfl; have hcz7_2 : w6.cell? ⟨gb300, 2, none⟩ = some (.int .i64 0) := (blk_cell BK300.out 2).trans rfl; have hcz7_3 : w6.cell? ⟨gb300, 3, none⟩ = some (.slice none 0 0) := (blk_cell BK300.out 3).trans rfl; have hfz7_0 := blk_frozen BK300.out 0; have hfz7_1 := blk_frozen BK300.out 1; have hfz7_2 := blk_frozen BK300.out 2; have hfz7_3 := blk_frozen BK300.out 3))
            (try simp only [Act.put, List.setIfInBounds_toArray, List.set_cons_zero, List.set_cons_succ])
            go_cut [19] (fun v19 wc => ∃ (kq : Nat) (x19_4 : Bool), v19 = .bool x19_4 ∧ Aside0 (script_Ticks.j1 kq x2_1 l0 (l0.length : Int) x8_1 x19_4 ((rd_T91 l0 x8_1).f0) ((rd_T91 l0 x8_1).f1) ((rd_T91 l0 x8_1).f2) ((rd_T91 l0 x8_1).f3) = some (r1, r2)) ∧ Aside0 (kq ≤ k1) ∧ Aside0 (wc.heap[gb300]? = some (.cells #[.int .i64 ((rd_T91 l0 x8_1).f0), .int .i64 ((rd_T91 l0 x8_1).f1), .int .i64 ((rd_T91 l0 x8_1).f2), (.slice A299_3 ((rd_T91 l0 x8_1).f3).length c299_3)] 91 (0, 0))) ∧ Aside0 (Below w.heap.size w wc))
            case first =>
              have H := HC5.out
              clear HC5
              by_cases c8 : ((rd_T91 l0 x8_1).f0) = 2
              · rw [if_pos c8] at H
                have c8b0 : (((rd_T91 l0 x8_1).f0) == 2) = true := beq_iff_eq.mpr c8
                have c8b1 : (((rd_T91 l0 x8_1).f0) != 2) = false := bne_eq_false_iff_eq.mpr c8
                clear c8
                (first | rw [c8b0] | (simp only [i64_w, i32_w]; rw [c8b0]) | skip)
                have H' := Aside0.mk H
                clear H
                have hcz9_0 : w6.cell? ⟨gb300, 0, none⟩ = some (.int .i64 0) := (blk_cell BK300.out 0).trans rfl
                have hcz9_1 : w6.cell? ⟨gb300, 1, none⟩ = some (.int .i64 0) := (blk_cell BK300.out 1).trans rfl
                have hcz9_2 : w6.cell? ⟨gb300, 2, none⟩ = some (.int .i64 0) := (blk_cell BK300.out 2).trans rfl
                have hcz9_3 : w6.cell? ⟨gb300, 3, none⟩ = some (.slice none 0 0) := (blk_cell BK300.out 3).trans rfl
                have hfz9_0 := blk_frozen BK300.out 0
                have hfz9_1 := blk_frozen BK300.out 1
                have hfz9_2 := blk_frozen BK300.out 2
                have hfz9_3 := blk_frozen BK300.out 3
                go_wp2
                go_meet
                case rel => exact ⟨_, (decide (((rd_T91 l0 x8_1).f2) < 0)), (by first | rfl | (simp; done) | (simp [*]; done)), H', ⟨by have := HK1.out; first | omega | exact Nat.le_refl _⟩, ⟨by (with_reducible repeat (first | refine blk_drewN ?_ _ | refine blk_drew ?_ | refine blk_alloc ?_ _)); refine blk_put (cs := #[.int .i64 ((rd_T91 l0 x8_1).f0), .int .i64 ((rd_T91 l0 x8_1).f1), .int .i64 ((rd_T91 l0 x8_1).f2), .slice none 0 0]) ?_ 3 _ rfl; (with_reducible repeat (first | refine blk_drewN ?_ _ | refine blk_drew ?_ | refine blk_alloc ?_ _)); refine blk_put (cs := #[.int .i64 ((rd_T91 l0 x8_1).f0), .int .i64 ((rd_T91 l0 x8_1).f1), .int .i64 0, .slice none 0 0]) ?_ 2 _ rfl; (with_reducible repeat (first | refine blk_drewN ?_ _ | refine blk_drew ?_ | refine blk_alloc ?_ _)); refine blk_put (cs := #[.int .i64 ((rd_T91 l0 x8_1).f0), .int .i64 0, .int .i64 0, .slice none 0 0]) ?_ 1 _ rfl; (with_reducible repeat (first | refine blk_drewN ?_ _ | refine blk_drew ?_ | refine blk_alloc ?_ _)); refine blk_put (cs := #[.int .i64 0, .int .i64 0, .int .i64 0, .slice none 0 0]) ?_ 0 _ rfl; (with_reducible repeat (first | refine blk_drewN ?_ _ | refine blk_drew ?_ | refine blk_alloc ?_ _)); exact BK300.out⟩, ⟨by repeat (first | (with_reducible first | exact HB.out | apply below_alloc | apply pw_below_drewN | apply below_drew1 | refine below_set ?_ GE300.out) | exact HB.out)⟩⟩
              · rw [if_neg c8] at H
                have c8b0 : (((rd_T91 l0 x8_1).f0) == 2) = false := beq_eq_false_iff_ne.mpr c8
                have c8b1 : (((rd_T91 l0 x8_1).f0) != 2) = true := bne_iff_ne.mpr c8
                (first | rw [c8b0] | (simp only [i64_w, i32_w]; rw [c8b0]) | skip)
                have H' := Aside0.mk H
                clear H
                have hcz10_0 : w6.cell? ⟨gb300, 0, none⟩ = some (.int .i64 0) := (blk_cell BK300.out 0).trans rfl
                have hcz10_1 : w6.cell? ⟨gb300, 1, none⟩ = some (.int .i64 0) := (blk_cell BK300.out 1).trans rfl
                have hcz10_2 : w6.cell? ⟨gb300, 2, none⟩ = some (.int .i64 0) := (blk_cell BK300.out 2).trans rfl
                have hcz10_3 : w6.cell? ⟨gb300, 3, none⟩ = some (.slice none 0 0) := (blk_cell BK300.out 3).trans rfl
                have hfz10_0 := blk_frozen BK300.out 0
                have hfz10_1 := blk_frozen BK300.out 1
                have hfz10_2 := blk_frozen BK300.out 2
                have hfz10_3 := blk_frozen BK300.out 3
                go_wp2
                go_meet
                case rel => exact ⟨_, (true), (by first | rfl | (simp; done) | (simp [*]; done)), H', ⟨by have := HK1.out; first | omega | exact Nat.le_refl _⟩, ⟨by (with_reducible repeat (first | refine blk_drewN ?_ _ | refine blk_drew ?_ | refine blk_alloc ?_ _)); refine blk_put (cs := #[.int .i64 ((rd_T91 l0 x8_1).f0), .int .i64 ((rd_T91 l0 x8_1).f1), .int .i64 ((rd_T91 l0 x8_1).f2), .slice none 0 0]) ?_ 3 _ rfl; (with_reducible repeat (first | refine blk_drewN ?_ _ | refine blk_drew ?_ | refine blk_alloc ?_ _)); refine blk_put (cs := #[.int .i64 ((rd_T91 l0 x8_1).f0), .int .i64 ((rd_T91 l0 x8_1).f1), .int .i64 0, .slice none 0 0]) ?_ 2 _ rfl; (with_reducible repeat (first | refine blk_drewN ?_ _ | refine blk_drew ?_ | refine blk_alloc ?_ _)); refine blk_put (cs := #[.int .i64 ((rd_T91 l0 x8_1).f0), .int .i64 0, .int .i64 0, .slice none 0 0]) ?_ 1 _ rfl; (with_reducible repeat (first | refine blk_drewN ?_ _ | refine blk_drew ?_ | refine blk_alloc ?_ _)); refine blk_put (cs := #[.int .i64 0, .int .i64 0, .int .i64 0, .slice none 0 0]) ?_ 0 _ rfl; (with_reducible repeat (first | refine blk_drewN ?_ _ | refine blk_drew ?_ | refine blk_alloc ?_ _)); exact BK300.out⟩, ⟨by repeat (first | (with_reducible first | exact HB.out | apply below_alloc | apply pw_below_drewN | apply below_drew1 | refine below_set ?_ GE300.out) | exact HB.out)⟩⟩
            case rest =>
              clear HC5
              try clear c2
              try clear c2b0
              try clear p2
              try clear q2
              try clear hx2
              try clear c3
              try clear c3b0
              try clear c4
              try clear c4b0
              try clear c6
              try clear c8
              try clear c8b0
              try clear c8b1
              try clear hcz10_0
              try clear hcz10_1
              try clear hcz10_2
              try clear hcz10_3
              try clear hcz7_0
              try clear hcz7_1
              try clear hcz7_2
              try clear hcz7_3
              try clear hcz9_0
              try clear hcz9_1
              try clear hcz9_2
              try clear hcz9_3
              try clear hfz10_0
              try clear hfz10_1
              try clear hfz10_2
              try clear hfz10_3
              try clear hfz7_0
              try clear hfz7_1
              try clear hfz7_2
              try clear hfz7_3
              try clear hfz9_0
              try clear hfz9_1
              try clear hfz9_2
              try clear hfz9_3
              try clear hx299_0
              try clear hx299_1
              try clear hx299_2
              try clear hx299_3
              try clear p299
              try clear q299
              obtain ⟨kq, x19_4, rfl, HA, HJ4, BK300, HB⟩ := hcut
              cases kq with
              | zero => exact absurd HA.out (by simp [script_Ticks.j1])
              | succ kj4 =>
                have H := HA.out
                clear HA
                simp only [script_Ticks.j1] at H
                by_cases c11 : x19_4 = true
                · subst c11
                  have H1 : (script_Ticks.l0 kj4 x2_1 l0 (l0.length : Int) (wrap64 (x8_1 + 1))) = some (r1, r2) := by rw [if_pos rfl] at H; exact H
                  clear H
                  have H := H1
                  clear H1
                  have H' := Aside0.mk H
                  clear H
                  go_wp2
                  go_roundg kj4
                  case measure => have := HK1.out; have := HJ4.out; omega
                  case rel => exact ⟨(x2_1), (wrap64 (x8_1 + 1)), (by first | rfl | (simp; done) | (simp [*]; done)), (by first | rfl | (simp; done) | (simp [*]; done)), H', ⟨by have := HK1.out; have := HJ4.out; omega⟩, ⟨by repeat (first | (with_reducible first | exact HB.out | apply below_alloc | apply pw_below_drewN | apply below_drew1 | refine below_set ?_ GE300.out) | exact HB.out)⟩⟩
                · replace c11 := Bool.eq_false_iff.mpr c11
                  subst c11
                  have H1 : ((fix_Add.f x2_1 ((rd_T91 l0 x8_1).f2)).bind fun bt301 => (if bt301.2 = true then (script_Ticks.l0 kj4 bt301.1 l0 (l0.length : Int) (wrap64 (x8_1 + 1))) else (some (0, false)))) = some (r1, r2) := by rw [if_neg (show ¬ (false = true) by decide)] at H; exact H
                  clear H
                  have H := H1
                  clear H1
                  replace H := Option.bind_eq_some_iff.mp H
                  obtain ⟨⟨t301, t302⟩, A120, H⟩ := H
                  replace H : (if t302 = true then (script_Ticks.l0 kj4 t301 l0 (l0.length : Int) (wrap64 (x8_1 + 1))) else (some (0, false))) = some (r1, r2) := H
                  have A12 := Aside0.mk A120
                  clear A120
                  by_cases c13 : t302 = true
                  · subst c13
                    have H1 : (script_Ticks.l0 kj4 t301 l0 (l0.length : Int) (wrap64 (x8_1 + 1))) = some (r1, r2) := by rw [if_pos rfl] at H; exact H
                    clear H
                    have H := H1
                    clear H1
                    have H' := Aside0.mk H
                    clear H
                    have hcz14_0 : wc.cell? ⟨gb300, 0, none⟩ = some (.int .i64 ((rd_T91 l0 x8_1).f0)) := (blk_cell BK300.out 0).trans rfl
                    have hcz14_1 : wc.cell? ⟨gb300, 1, none⟩ = some (.int .i64 ((rd_T91 l0 x8_1).f1)) := (blk_cell BK300.out 1).trans rfl
                    have hcz14_2 : wc.cell? ⟨gb300, 2, none⟩ = some (.int .i64 ((rd_T91 l0 x8_1).f2)) := (blk_cell BK300.out 2).trans rfl
                    have hcz14_3 : wc.cell? ⟨gb300, 3, none⟩ = some (.slice A299_3 ((rd_T91 l0 x8_1).f3).length c299_3) := (blk_cell BK300.out 3).trans rfl
                    have hfz14_0 := blk_frozen BK300.out 0
                    have hfz14_1 := blk_frozen BK300.out 1
                    have hfz14_2 := blk_frozen BK300.out 2
                    have hfz14_3 := blk_frozen BK300.out 3
                    go_wp2_with (first | ((with_reducible refine gate_callee (f := 119) rfl ?_); refine goesL_ (some 24) rfl rfl Try.func119 (by kernel_rfl) rfl #[.int .i64 x2_1, .int .i64 ((rd_T91 l0 x8_1).f2)] rfl (by (try simp only [List.map_toArray, List.map_cons, List.map_nil]); first | done | rfl | (simp only [List.length_drop, List.length_take]; rfl)) ?_; (with_reducible refine (fix_Add.calls x2_1 ((rd_T91 l0 x8_1).f2) t301 true _ A12.out).mono ?_); rintro e w' ⟨rfl, ⟨nd, rfl⟩⟩; refine ⟨_, rfl, ?_⟩))
                    go_roundg kj4
                    case measure => have := HK1.out; have := HJ4.out; omega
                    case rel => exact ⟨(t301), (wrap64 (x8_1 + 1)), (by first | rfl | (simp; done) | (simp [*]; done)), (by first | rfl | (simp; done) | (simp [*]; done)), H', ⟨by have := HK1.out; have := HJ4.out; omega⟩, ⟨by repeat (first | (with_reducible first | exact HB.out | apply below_alloc | apply pw_below_drewN | apply below_drew1 | refine below_set ?_ GE300.out) | exact HB.out)⟩⟩
                  · replace c13 := Bool.eq_false_iff.mpr c13
                    subst c13
                    have H1 : (some (0, false)) = some (r1, r2) := by rw [if_neg (show ¬ (false = true) by decide)] at H; exact H
                    clear H
                    have H := H1
                    clear H1
                    simp only [Option.some.injEq, Prod.mk.injEq] at H
                    obtain ⟨rfl, rfl⟩ := H
                    have hcz15_0 : wc.cell? ⟨gb300, 0, none⟩ = some (.int .i64 ((rd_T91 l0 x8_1).f0)) := (blk_cell BK300.out 0).trans rfl
                    have hcz15_1 : wc.cell? ⟨gb300, 1, none⟩ = some (.int .i64 ((rd_T91 l0 x8_1).f1)) := (blk_cell BK300.out 1).trans rfl
                    have hcz15_2 : wc.cell? ⟨gb300, 2, none⟩ = some (.int .i64 ((rd_T91 l0 x8_1).f2)) := (blk_cell BK300.out 2).trans rfl
                    have hcz15_3 : wc.cell? ⟨gb300, 3, none⟩ = some (.slice A299_3 ((rd_T91 l0 x8_1).f3).length c299_3) := (blk_cell BK300.out 3).trans rfl
                    have hfz15_0 := blk_frozen BK300.out 0
                    have hfz15_1 := blk_frozen BK300.out 1
                    have hfz15_2 := blk_frozen BK300.out 2
                    have hfz15_3 := blk_frozen BK300.out 3
                    go_wp2_with (first | ((with_reducible refine gate_callee (f := 119) rfl ?_); refine goesL_ (some 24) rfl rfl Try.func119 (by kernel_rfl) rfl #[.int .i64 x2_1, .int .i64 ((rd_T91 l0 x8_1).f2)] rfl (by (try simp only [List.map_toArray, List.map_cons, List.map_nil]); first | done | rfl | (simp only [List.length_drop, List.length_take]; rfl)) ?_; (with_reducible refine (fix_Add.calls x2_1 ((rd_T91 l0 x8_1).f2) t301 false _ A12.out).mono ?_); rintro e w' ⟨rfl, ⟨nd, rfl⟩⟩; refine ⟨_, rfl, ?_⟩))
                    go_ret2
                    exact ⟨by first | rfl | (simp [errW_none, errW_some] <;> rfl) | (simp [*, errW_none, errW_some] <;> rfl), by repeat (first | (with_reducible first | exact HB.out | apply below_alloc | apply pw_below_drewN | apply below_drew1 | refine below_set ?_ GE300.out) | exact HB.out)⟩
          · rw [if_neg c4] at H
            exact absurd H (by simp)
        · rw [if_neg c3] at H
          exact absurd H (by simp)
      · rw [if_neg c2] at H
        have c2b0 : decide (x8_1 < (l0.length : Int)) = false := decide_eq_false c2
        clear c2
        simp only [Option.some.injEq, Prod.mk.injEq] at H
        obtain ⟨rfl, rfl⟩ := H
        go_wp2
        go_ret2
        exact ⟨by first | rfl | (simp [errW_none, errW_some] <;> rfl) | (simp [*, errW_none, errW_some] <;> rfl), by repeat (first | (with_reducible first | exact HB.out | apply below_alloc | apply pw_below_drewN | apply below_drew1) | exact HB.out)⟩

end Go.Proofs.Ytalpemoodollpaa.P
