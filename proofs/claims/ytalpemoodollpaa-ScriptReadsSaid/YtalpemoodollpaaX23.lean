/- Contracts and plain laws: HrefSame, P40, HPuts, HReads, HFS, HscrStep, HrefOne, HoneA, HoneW, HscrRead, HrefGo, HrefReadW, HWK, P66, HscrEnc, P119, P68. -/
import Derived.Deep.LoopGhost
import Derived.Deep.QuietTactic
import Derived.BigQuiet
import Derived.LaidEqlPtr
import Derived.RegionTactic
import Derived.Deep.RegionHeld3
import Derived.Deep.DeepCutAuto
import Derived.IntWalk
import Derived.WalkMore
import Derived.Test.YtalpemoodollpaaX1
import Derived.Test.YtalpemoodollpaaX19
/- damperref29.Same, walked by hand. -/
namespace Go.Proofs.Ytalpemoodollpaa.P
open Go.RowKit Go.Proofs.YtalpemoodollpaaW.PrintWords Go.Proofs.YtalpemoodollpaaW.PrintLast Go.Proofs.YtalpemoodollpaaW.PrintMore
set_option linter.unusedVariables false
set_option linter.unusedSimpArgs false
def bytB_eq (a b : List Int) : Bool := (strOfNums a).toList == (strOfNums b).toList
def sameB (x y : S91) : Bool := x.f0 == y.f0 && (x.f1 == y.f1 && (x.f2 == y.f2 && bytB_eq x.f3 y.f3))
/-- Are the steps the same, from i on? -/
def sameI (a b : List S91) : Nat → Nat → Bool
  | 0, _ => true
  | d + 1, i => sameB (rd_T91 a (i : Int)) (rd_T91 b (i : Int)) && sameI a b d (i + 1)
def sameL (a b : List S91) : Bool := decide (a.length = b.length) && sameI a b a.length 0
theorem bytB_eq_self (a : List Int) : bytB_eq a a = true := by simp [bytB_eq]
theorem sameB_self (x : S91) : sameB x x = true := by simp [sameB, bytB_eq_self]
theorem sameI_self (a : List S91) (d : Nat) : ∀ i, sameI a a d i = true := by
  induction d with
  | zero => intro i; rfl
  | succ d ih => intro i; rw [sameI, sameB_self, ih]; rfl
theorem sameL_self (a : List S91) : sameL a a = true := by simp [sameL, sameI_self]
theorem bytB_call (A0 : Option Addr) (c0 : Nat) (l0 : List Int) (A1 : Option Addr) (c1 : Nat) (l1 : List Int) (w : World) (hr0 : Kd.C (Kd.int .u8) w A0 l0.length l0) (hc0 : l0.length ≤ c0) (hr1 : Kd.C (Kd.int .u8) w A1 l1.length l1) (hc1 : l1.length ≤ c1) :
    Calls Try.prog 31 #[.slice A0 l0.length c0, .slice A1 l1.length c1] w fun e w' => e = .returned (.bool (bytB_eq l0 l1)) ∧ ∃ m, w' = w.drewN m :=
  (damperref03_Same.calls A0 c0 l0 A1 c1 l1 _ w hr0 hc0 hr1 hc1 rfl).mono fun e w' ⟨he, hd⟩ => ⟨he, hd.out⟩
set_option maxRecDepth 100000 in
set_option maxHeartbeats 2000000 in
theorem refSame_calls (A0 A1 : Option Addr) (c0 c1 : Nat) (a b : List S91) (w : World) (hr0 : Kd.C k91 w A0 a.length a) (hc0 : a.length ≤ c0) (hr1 : Kd.C k91 w A1 b.length b) (hc1 : b.length ≤ c1) :
    Calls Try.prog 70 #[.slice A0 a.length c0, .slice A1 b.length c1] w fun e w' => e = .returned (.bool (sameL a b)) ∧ Below w.heap.size w w' := by
  have hu91 := Try.underlying91
  generalize hG : sameL a b = G
  have hm := hr0.2.1
  have hm1 := hr1.2.1
  have HR0 := Aside0.mk hr0
  have HR1 := Aside0.mk hr1
  unfold sameL at hG
  obtain ⟨N, hN⟩ : ∃ N, a.length = N := ⟨_, rfl⟩
  obtain ⟨M, hM⟩ : ∃ M, b.length = M := ⟨_, rfl⟩
  rw [hN, hM] at hG
  rw [hN] at HR0 hc0 hm ⊢
  rw [hM] at HR1 hc1 hm1 ⊢
  have HG := Aside0.mk hG
  clear hr0 hr1 hG hN hM
  by_cases hne : N = M
  · subst hne
    rw [decide_eq_true rfl, Bool.true_and] at HG
    go_enter Try.func70, Try.ntmps70
    go_wp2
    go_loopw [5] (fun u5 wr => ∃ i d : Nat, u5 = .int .i64 (i : Int) ∧ i + d = N ∧ Aside0 (sameI a b d i = G) ∧ Aside0 (Below w.heap.size w wr)) (fun u5 _ => (N - (intOf u5).toNat))
    case atStart => exact ⟨0, N, rfl, by omega, HG, ⟨Below.refl _ _⟩⟩
    case round =>
      obtain ⟨i, d, rfl, hid, HS, HB⟩ := hrel
      by_cases hlt : i < N
      · obtain ⟨d, rfl⟩ : ∃ m, d = m + 1 := ⟨d - 1, by omega⟩
        obtain ⟨ad, A4, c4, hA, e0, e1, e2, e3, hl4, hC4⟩ := at_T91 HR0.out (i : Int) (by omega) (by omega)
        obtain ⟨ad', A5, c5, hA', g0, g1, g2, g3, hl5, hC5⟩ := at_T91 HR1.out (i : Int) (by omega) (by omega)
        rw [Int.toNat_natCast] at e0 e1 e2 e3 g0 g1 g2 g3
        replace e0 := pw_cell_below HB.out e0
        replace e1 := pw_cell_below HB.out e1
        replace e2 := pw_cell_below HB.out e2
        replace e3 := pw_cell_below HB.out e3
        replace g0 := pw_cell_below HB.out g0
        replace g1 := pw_cell_below HB.out g1
        replace g2 := pw_cell_below HB.out g2
        replace g3 := pw_cell_below HB.out g3
        subst hA hA'
        have hs := HS.out
        rw [sameI] at hs
        have HS2 := Aside0.mk hs
        clear hs HS
        generalize rd_T91 a (i : Int) = x at *
        generalize rd_T91 b (i : Int) = y at *
        have CX : Aside0 (∀ n, Calls Try.prog 31 #[.slice A4 x.f3.length c4, .slice A5 y.f3.length c5] (wr.drewN n) fun e w' => e = .returned (.bool (bytB_eq x.f3 y.f3)) ∧ ∃ m, w' = (wr.drewN n).drewN m) := ⟨fun n => bytB_call A4 c4 x.f3 A5 c5 y.f3 _ (Kd.C_below hC4 (pw_below_drewN HB.out n)) hl4 (Kd.C_below hC5 (pw_below_drewN HB.out n)) hl5⟩
        obtain ⟨x0, x1, x2, x3⟩ := x
        obtain ⟨y0, y1, y2, y3⟩ := y
        unfold sameB at HS2
        dsimp only at *
        have hi0 : (0 : Int) ≤ (i : Int) := by omega
        have hi1 : (i : Int) < (N : Int) := by omega
        clear hl4 hC4 hl5 hC5 hlt
        generalize x3.length = X3 at *
        generalize y3.length = Y3 at *
        generalize hbe : bytB_eq x3 y3 = be at *
        clear hbe
        by_cases h0 : x0 = y0
        · subst h0
          by_cases h1 : x1 = y1
          · subst h1
            by_cases h2 : x2 = y2
            · subst h2
              have HS3 : Aside0 ((be && sameI a b d (i + 1)) = G) := ⟨by have h := HS2.out; simpa using h⟩
              clear HS2
              cases be with
              | true =>
                rw [Bool.true_and] at HS3
                go_wp2_with fail
                go_quiet ((go_at_call 31; exact Calls.quiet_of (CX.out _)))
                go_wp2
                go_roundw
                case rel => exact ⟨i + 1, d, by go_num, by omega, HS3, ⟨pw_below_drewN HB.out _⟩⟩
                case measure => simp [intOf]; omega
              | false =>
                rw [Bool.false_and] at HS3
                obtain rfl := HS3.out
                clear HS3 HG
                go_wp2_with fail
                go_quiet ((go_at_call 31; exact Calls.quiet_of (CX.out _)))
                go_wp2
                go_ret
                exact ⟨rfl, pw_below_drewN HB.out _⟩
            · have n2 : (x2 != y2) = true := by simpa using h2
              have e2 : (x2 == y2) = false := by simpa using h2
              have hg : G = false := by rw [← HS2.out, e2]; simp
              subst hg
              clear h2 e2 HS2 HG CX
              go_wp2_with fail
              go_quiet (fail)
              go_wp2
              go_ret
              exact ⟨rfl, pw_below_drewN HB.out _⟩
          · have n1 : (x1 != y1) = true := by simpa using h1
            have e1_ : (x1 == y1) = false := by simpa using h1
            have hg : G = false := by rw [← HS2.out, e1_]; simp
            subst hg
            clear h1 e1_ HS2 HG CX
            go_wp2_with fail
            go_quiet (fail)
            go_wp2
            go_ret
            exact ⟨rfl, pw_below_drewN HB.out _⟩
        · have n0 : (x0 != y0) = true := by simpa using h0
          have e0_ : (x0 == y0) = false := by simpa using h0
          have hg : G = false := by rw [← HS2.out, e0_]; simp
          subst hg
          clear h0 e0_ HS2 HG CX
          go_wp2_with fail
          go_quiet (fail)
          go_wp2
          go_ret
          exact ⟨rfl, pw_below_drewN HB.out _⟩
      · obtain rfl : d = 0 := by omega
        have hs := HS.out
        rw [sameI] at hs
        subst hs
        clear HS HG
        go_wp2
        go_ret
        exact ⟨rfl, HB.out⟩
  · rw [decide_eq_false hne, Bool.false_and] at HG
    obtain rfl := HG.out
    clear HG HR0 HR1
    have hnb : ((N : Int) != (M : Int)) = true := by simp; omega
    go_enter Try.func70, Try.ntmps70
    go_wp2
    go_ret
    exact ⟨rfl, Below.refl _ _⟩
end Go.Proofs.Ytalpemoodollpaa.P
-- Printed by hookprint.py (the session's own program, over the kit's print.py): checked by Lean like any text.
namespace Go.Proofs.Ytalpemoodollpaa.P
open Go.RowKit Go.Proofs.YtalpemoodollpaaW.PrintWords Go.Proofs.YtalpemoodollpaaW.PrintLast Go.Proofs.YtalpemoodollpaaW.PrintMore
attribute [local go_sem] max2_int min2_int max_two min_two max_three min_three max_four min_four   -- for this text's walks alone
set_option linter.unusedVariables false
set_option linter.unusedSimpArgs false

/-! ### damperlaw03_light: function 40 -/
def damperlaw03_light.l0 : Nat → List (S49) → Int → Option (Bool)
  | 0, _, _ => none
  | k + 1, x0, x3 => if x3 < (x0.length : Int) then (if 0 ≤ x3 then (if (((rd_T49 x0 x3).f4).length : Int) > 60 then (some false) else (damperlaw03_light.l0 k x0 (wrap64 (x3 + 1)))) else (none)) else (some true)
def damperlaw03_light.f (k : Nat) (l0 : List (S49)) : Option (Bool) := if (l0.length : Int) > 40 then (some false) else (damperlaw03_light.l0 k l0 0)
theorem damperlaw03_light.mono_l : ∀ k, (∀ y0 y1, LeO (damperlaw03_light.l0 k y0 y1) (damperlaw03_light.l0 (k + 1) y0 y1))
  | 0 => fun _ _ r h => by simp [damperlaw03_light.l0] at h
  | k + 1 => by
    have ih0 := damperlaw03_light.mono_l k
    · intro y0 y1
      unfold damperlaw03_light.l0
      repeat' first
      | (with_reducible exact ih0 _ _)
      | (with_reducible exact LeO.refl _)
      | (with_reducible exact LeO.none _)
      | (with_reducible refine LeO.ite ?_ ?_)
      | (with_reducible refine LeO.bind ?_ (fun _ => ?_))
      | exact ih0 _ _
      | exact LeO.none _
      | refine LeO.ite ?_ ?_
      | refine LeO.bind ?_ (fun _ => ?_)
theorem damperlaw03_light.mono : ∀ a0 k, LeO (damperlaw03_light.f k a0) (damperlaw03_light.f (k + 1) a0) := by
  intro a0 k
  have ih0 := damperlaw03_light.mono_l k
  unfold damperlaw03_light.f
  repeat' first
      | (with_reducible exact ih0 _ _)
      | (with_reducible exact LeO.refl _)
      | (with_reducible exact LeO.none _)
      | (with_reducible refine LeO.ite ?_ ?_)
      | (with_reducible refine LeO.bind ?_ (fun _ => ?_))
      | exact ih0 _ _
      | exact LeO.none _
      | refine LeO.ite ?_ ?_
      | refine LeO.bind ?_ (fun _ => ?_)
set_option maxHeartbeats 8000000 in
set_option maxRecDepth 100000 in
theorem damperlaw03_light.calls (k : Nat) (A0 : Option Addr) (c0 : Nat) (l0 : List (S49)) (r : Bool) (w : World) (hr0 : Kd.C k49 w A0 l0.length l0) (hc0 : l0.length ≤ c0) (h : damperlaw03_light.f k l0 = some r) :
    Calls Try.prog 40 #[.slice A0 l0.length c0] w fun e w' => e = .returned (.bool r) ∧ Drawn0 w w' := by
  have HR0 := Aside0.mk hr0
  have HC0 := Aside0.mk hc0
  clear hr0 hc0
  have H : (if (l0.length : Int) > 40 then (some false) else (damperlaw03_light.l0 k l0 0)) = some r := h
  clear h
  by_cases c2 : (l0.length : Int) > 40
  · rw [if_pos c2] at H
    have c2b0 : decide (40 < (l0.length : Int)) = true := decide_eq_true c2
    have c2b1 : decide (40 < l0.length) = true := decide_eq_true (by omega)
    clear c2
    obtain rfl := Option.some.inj H
    go_enter Try.func40, Try.ntmps40
    go_wp2
    go_ret
    exact ⟨by first | rfl | (simp; done) | (simp [*]; done), by repeat (first | exact Drawn0.refl _ | apply Drawn0.step)⟩
  · rw [if_neg c2] at H
    have c2b0 : decide (40 < (l0.length : Int)) = false := decide_eq_false c2
    have c2b1 : decide (40 < l0.length) = false := decide_eq_false (by omega)
    clear c2
    have H' := Aside0.mk H
    clear H
    go_enter Try.func40, Try.ntmps40
    go_wp2
    go_loopg [3] k (fun kq v3 w' => ∃ (x3_1 : Int), v3 = .int .i64 x3_1 ∧ Aside0 (damperlaw03_light.l0 kq l0 x3_1 = some r) ∧ Aside0 (kq ≤ k) ∧ Drawn0 w w')
    case atStart => exact ⟨(0), (by first | rfl | (simp; done) | (simp [*]; done)), H', ⟨Nat.le_refl _⟩, by repeat (first | exact Drawn0.refl _ | apply Drawn0.step)⟩
    case round =>
      clear H'
      try clear c2
      try clear c2b0
      try clear c2b1
      try clear p2
      obtain ⟨x3_1, rfl, HA, HK1, ⟨m1, rfl⟩⟩ := hrel
      cases gk with
      | zero => exact absurd HA.out (by simp [damperlaw03_light.l0])
      | succ k1 =>
        have H := HA.out
        clear HA
        simp only [damperlaw03_light.l0] at H
        by_cases c3 : x3_1 < (l0.length : Int)
        · rw [if_pos c3] at H
          have c3b0 : decide (x3_1 < (l0.length : Int)) = true := decide_eq_true c3
          clear c3
          by_cases c4 : 0 ≤ x3_1
          · rw [if_pos c4] at H
            have c4b0 : decide (0 ≤ x3_1) = true := decide_eq_true c4
            clear c4
            by_cases c5 : (((rd_T49 l0 x3_1).f4).length : Int) > 60
            · rw [if_pos c5] at H
              have c5b0 : decide (60 < (((rd_T49 l0 x3_1).f4).length : Int)) = true := decide_eq_true c5
              have c5b1 : decide (60 < ((rd_T49 l0 x3_1).f4).length) = true := decide_eq_true (by omega)
              clear c5
              obtain rfl := Option.some.inj H
              have p235 : 0 ≤ (x3_1 : Int) := of_decide_eq_true (by first | (with_reducible assumption) | assumption)
              have q235 : x3_1 < (l0.length : Int) := of_decide_eq_true (by first | (with_reducible assumption) | assumption)
              obtain ⟨ad235, A235_4, c235_4, e235, hx235_0, hx235_1, hx235_2, hx235_3, hx235_4, hl235_4, hi235_4⟩ := at_T49 HR0.out x3_1 p235 q235
              cases e235
              have HR235_4 := Aside0.mk hi235_4
              have HC235_4 := Aside0.mk hl235_4
              clear hi235_4 hl235_4
              replace p235 := eq_true p235
              replace q235 := eq_true q235
              go_wp2
              go_ret
              exact ⟨by first | rfl | (simp; done) | (simp [*]; done), by repeat (first | exact Drawn0.refl _ | apply Drawn0.step)⟩
            · rw [if_neg c5] at H
              have c5b0 : decide (60 < (((rd_T49 l0 x3_1).f4).length : Int)) = false := decide_eq_false c5
              have c5b1 : decide (60 < ((rd_T49 l0 x3_1).f4).length) = false := decide_eq_false (by omega)
              clear c5
              have H' := Aside0.mk H
              clear H
              have p235 : 0 ≤ (x3_1 : Int) := of_decide_eq_true (by first | (with_reducible assumption) | assumption)
              have q235 : x3_1 < (l0.length : Int) := of_decide_eq_true (by first | (with_reducible assumption) | assumption)
              obtain ⟨ad235, A235_4, c235_4, e235, hx235_0, hx235_1, hx235_2, hx235_3, hx235_4, hl235_4, hi235_4⟩ := at_T49 HR0.out x3_1 p235 q235
              cases e235
              have HR235_4 := Aside0.mk hi235_4
              have HC235_4 := Aside0.mk hl235_4
              clear hi235_4 hl235_4
              replace p235 := eq_true p235
              replace q235 := eq_true q235
              go_wp2
              go_roundg k1
              case measure => have := HK1.out; omega
              case rel => exact ⟨(wrap64 (x3_1 + 1)), (by first | rfl | (simp; done) | (simp [*]; done)), H', ⟨by have := HK1.out; omega⟩, by repeat (first | exact Drawn0.refl _ | apply Drawn0.step)⟩
          · rw [if_neg c4] at H
            exact absurd H (by simp)
        · rw [if_neg c3] at H
          have c3b0 : decide (x3_1 < (l0.length : Int)) = false := decide_eq_false c3
          clear c3
          obtain rfl := Option.some.inj H
          go_wp2
          go_ret
          exact ⟨by first | rfl | (simp; done) | (simp [*]; done), by repeat (first | exact Drawn0.refl _ | apply Drawn0.step)⟩

end Go.Proofs.Ytalpemoodollpaa.P
/- The walk of OctetsPuts. -/
namespace Go.Proofs.Ytalpemoodollpaa.P
open Go.RowKit Go.Proofs.YtalpemoodollpaaW.PrintWords Go.Proofs.YtalpemoodollpaaW.PrintLast Go.Proofs.YtalpemoodollpaaW.PrintMore
set_option linter.unusedVariables false
set_option linter.unusedSimpArgs false

theorem info39_ : (Try.prog.info? 39).isSome = true := by kernel_rfl
theorem info39 : ∃ j, Try.prog.info? 39 = some j := Option.isSome_iff_exists.1 info39_
theorem neq_ptr_same (w : World) (a : Addr) : (binOp .neq 40 (.pointer (some a)) (.pointer (some a))).run Try.prog w = .ok (.bool false) w := by
  obtain ⟨j, hj⟩ := info39
  have h : ∀ d : Nat, (Op.equalIn (d + 1) 40 (.pointer (some a)) (.pointer (some a))).run Try.prog w = .ok true w := fun d => by
    simp [Op.equalIn, run_underlying Try.underlying40, sizeOf, typeInfo, hj, run_sameAddr_same]
  simp only [binOp]
  simp [Op.equal, Op.maxDepth, h 9999]
theorem rdT49_eq (l : List S49) (i : Nat) (h : i < l.length) : rd_T49 l (i : Int) = l[i] := by
  simp [rd_T49, List.getD_eq_getElem?_getD, h]
theorem light_go (ps : List S49) (hl : ps.length ≤ 40) : ∀ (j i : Nat), i + j = ps.length →
    ∃ b, damperlaw03_light.l0 (j + 1) ps (i : Int) = some b ∧ (b = true → ∀ n (h : n < ps.length), i ≤ n → (ps[n]).f4.length ≤ 60) := by
  intro j
  induction j with
  | zero =>
    intro i hi
    unfold damperlaw03_light.l0
    rw [if_neg (by omega)]
    exact ⟨true, rfl, fun _ n h hn => by omega⟩
  | succ j ih =>
    intro i hi
    obtain ⟨b, hb, hall⟩ := ih (i + 1) (by omega)
    unfold damperlaw03_light.l0
    rw [if_pos (by omega), if_pos (by omega), rdT49_eq ps i (by omega)]
    by_cases h6 : ((ps[i]'(by omega)).f4.length : Int) > 60
    · rw [if_pos h6]
      exact ⟨false, rfl, fun h => by cases h⟩
    · rw [if_neg h6, show wrap64 ((i : Int) + 1) = ((i + 1 : Nat) : Int) by rw [wrap64_eq]; omega]
      refine ⟨b, hb, fun ht n hn hin => ?_⟩
      by_cases he : n = i
      · subst he; omega
      · exact hall ht n hn (by omega)
theorem light_f (ps : List S49) : ∃ b, damperlaw03_light.f 64 ps = some b ∧ (b = true → ps.length ≤ 40 ∧ ∀ n (h : n < ps.length), (ps[n]).f4.length ≤ 60) := by
  show ∃ b, damperlaw03_light.f 64 ps = some b ∧ _
  by_cases h : (ps.length : Int) > 40
  · refine ⟨false, ?_, fun h => by cases h⟩
    unfold damperlaw03_light.f
    rw [if_pos h]
  · obtain ⟨b, hb, hall⟩ := light_go ps (by omega) ps.length 0 (by omega)
    refine ⟨b, ?_, fun ht => ⟨by omega, fun n hn => hall ht n hn (by omega)⟩⟩
    have hup := up_ (f := fun k => damperlaw03_light.f k ps) (k := ps.length + 1) (r := b) (fun k => damperlaw03_light.mono ps k) (by
      show damperlaw03_light.f (ps.length + 1) ps = some b
      unfold damperlaw03_light.f
      rw [if_neg h]
      exact hb) 64 (by omega)
    exact hup
/-- A writer, and a list of bytes of one's own beside it. -/
structure PW (w W : World) (g : Nat) (want : Value) (xs ys : List Int) : Prop where
  ex : ∃ row, WS W g row xs ∧ (∀ k, row = some k → w.heap.size ≤ k) ∧ (∀ k, want.ownBlock = some k → k ≠ g ∧ row ≠ some k)
  own : W.ownsRow w.heap.size 5 1 want ys.length (nums .u8 ys)
  bel : Below w.heap.size w W
  hg : w.heap.size ≤ g
namespace PW
variable {w W W1 : World} {g : Nat} {want v1 : Value} {xs ys F : List Int}
theorem new (hB : Below w.heap.size w W) : PW w (W.alloc (.cells #[.slice none 0 0] 39)) W.heap.size (.slice none 0 0) [] [] :=
  ⟨⟨none, WS.new W, (fun k hk => by cases hk), (fun k hk => by simp [Value.ownBlock] at hk)⟩, own_nil _ _ _ _, below_alloc hB _, hB.size⟩
theorem below (h : PW w W g want xs ys) (hb : Below W.heap.size W W1) : PW w W1 g want xs ys := by
  obtain ⟨⟨row, hs, hr, hne⟩, ho, hB, hg⟩ := h
  exact ⟨⟨row, hs.below hb, hr, hne⟩, (Fr.of_below hb (fun _ => False)).own ho (fun _ _ h => h), below_then hB hB.size hb, hg⟩
theorem append (h : PW w W g want xs ys) (hown : W1.ownsRow w.heap.size 5 1 v1 (ys ++ F).length (nums .u8 (ys ++ F))) (hB : Below w.heap.size w W1) (hg : W.grownBy W1 want.ownBlock)
    (hat : v1.ownBlock = want.ownBlock ∨ ∃ b, v1.ownBlock = some b ∧ W.heap.size ≤ b) : PW w W1 g v1 xs (ys ++ F) := by
  obtain ⟨⟨row, hs, hr, hne⟩, ho, _, hgg⟩ := h
  have hf : Fr W W1 (fun k => want.ownBlock = some k) := (Fr.refl W _).grown hg (fun k _ hk => hk)
  have hlt := hs.lt
  have hrlt : ∀ k, row = some k → k < W.heap.size := fun k hk => by
    obtain ⟨v, hb2, hr2, ho2⟩ := hs
    exact own_lt ho2 k (by rw [hr2, hk])
  refine ⟨⟨row, hs.fr hf (fun hS => (hne g hS).1 rfl) (fun k hk hS => (hne k hS).2 hk), hr, fun k hk => ?_⟩, hown, hB, hgg⟩
  rcases hat with hat | ⟨b, hb, hbl⟩
  · rw [hat] at hk
    exact hne k hk
  · rw [hb] at hk
    injection hk with hk
    subst hk
    exact ⟨by omega, fun hrb => by have := hrlt b hrb; omega⟩
theorem post {row : Option Nat} (hs : WS W g row xs) (hr : ∀ k, row = some k → w.heap.size ≤ k) (hne : ∀ k, want.ownBlock = some k → k ≠ g ∧ row ≠ some k) (ho : W.ownsRow w.heap.size 5 1 want ys.length (nums .u8 ys))
    (hB : Below w.heap.size w W) (hg : w.heap.size ≤ g) {zs : List Int} (hp : WPost W g row zs W1) : PW w W1 g want zs ys := by
  obtain ⟨row', hs', hr', hf⟩ := hp
  refine ⟨⟨row', hs', fun k hk => ?_, fun k hk => ⟨(hne k hk).1, ?_⟩⟩, hf.own ho (fun k hk hS => hS.elim (hne k hk).1 (hne k hk).2), ?_, hg⟩
  · rcases hr' with rfl | ⟨b, rfl, hb⟩
    · exact hr k hk
    · injection hk with hk
      have := hB.size
      omega
  · rcases hr' with rfl | ⟨b, rfl, hb⟩
    · exact (hne k hk).2
    · intro e
      injection e with e
      have := own_lt ho k hk
      omega
  · exact Below.trans hB (hf.below hB.size (fun k hS => hS.elim (fun e => by omega) (fun e => hr k e)))
theorem put (h : PW w W g want xs ys) (p : S49) (A : Option Addr) (c : Nat) (hf : WF49 p) (hC : Kd.C (Kd.int .u8) W A p.f4.length p.f4) (hl : xs.length + p.f4.length + 100 ≤ 140737488355328) :
    Calls Try.prog 42 #[.pointer (some ⟨g, 0, none⟩), .agg #[.int .i64 p.f0, .int .i64 p.f1, .int .u64 p.f2, .int .i64 p.f3, .slice A p.f4.length c]] W fun e w' => e = .returned (.pointer (some ⟨g, 0, none⟩)) ∧ PW w w' g want (xs ++ partForm p) ys := by
  obtain ⟨⟨row, hs, hr, hne⟩, ho, hB, hg⟩ := h
  exact (law03_put_calls g row xs p A c W hs hf hC hl).mono fun e w' ⟨he, hp⟩ => ⟨he, post hs hr hne ho hB hg hp⟩
theorem bytes (h : PW w W g want xs ys) (hl : xs.length ≤ 140737488355328) :
    Calls Try.prog 37 #[.pointer (some ⟨g, 0, none⟩)] W fun e w' => ∃ A c, e = .returned (.slice A xs.length c) ∧ xs.length ≤ c ∧ Kd.C (Kd.int .u8) w' A xs.length xs ∧ Below W.heap.size W w' := by
  obtain ⟨⟨row, hs, hr, hne⟩, ho, hB, hg⟩ := h
  refine (octets_Writer_Bytes.calls g row xs W hs hl).mono ?_
  rintro e w' ⟨v, rfl, hR, hb⟩
  obtain ⟨A, c, rfl, hq, hC⟩ := Kd.R_reads hR
  exact ⟨A, c, rfl, hq, hC, hb⟩
theorem want_C (h : PW w W g want xs ys) : ∃ A c, want = .slice A ys.length c ∧ ys.length ≤ c ∧ Kd.C (Kd.int .u8) W A ys.length ys := by
  obtain ⟨A, c, e, hq, hR⟩ := own_reads_of_le (enc := Value.int .u8) (d := (0 : Int)) h.own
  exact ⟨A, c, e, hq, Kd.C_of_reads hR⟩
end PW
theorem partForm_le (p : S49) (hf : WF49 p) (h : p.f4.length ≤ 60) : (partForm p).length ≤ 70 := by
  unfold partForm
  have := numForm_ten p.f2 hf.n.2
  split
  · split
    · simp
    · rw [uintForm_length]; omega
  · split
    · rw [intForm_length]; omega
    · split
      · omega
      · split <;> simp <;> omega
/-- The cells of an element, in a world that has kept what was. -/
theorem at_part {w W : World} {ad : Addr} {ps : List S49} {p : S49} {n : Nat} (h : Kd.C k49 w (some ad) ps.length ps) (hb : Below w.heap.size w W) (hlt : n < ps.length) (hp : ps[n] = p) :
    ∃ A4 c4, W.cell? (ad.add (n * 5)) = some (.int .i64 p.f0) ∧ W.cell? ⟨(ad.add (n * 5)).block, (ad.add (n * 5)).off + 1, none⟩ = some (.int .i64 p.f1) ∧ W.cell? ⟨(ad.add (n * 5)).block, (ad.add (n * 5)).off + 2, none⟩ = some (.int .u64 p.f2) ∧
      W.cell? ⟨(ad.add (n * 5)).block, (ad.add (n * 5)).off + 3, none⟩ = some (.int .i64 p.f3) ∧ W.cell? ⟨(ad.add (n * 5)).block, (ad.add (n * 5)).off + 4, none⟩ = some (.slice A4 p.f4.length c4) ∧ p.f4.length ≤ c4 ∧ Kd.C (Kd.int .u8) W A4 p.f4.length p.f4 := by
  obtain ⟨ad', A4, c4, hA0, e0, e1, e2, e3, e4, hl4, hC4⟩ := at_T49 (Kd.C_below h hb) (n : Int) (by omega) (by omega)
  injection hA0 with hA0
  subst hA0
  rw [rdT49_eq ps n hlt, hp] at e0 e1 e2 e3 e4 hl4 hC4
  rw [Int.toNat_natCast] at e0 e1 e2 e3 e4
  exact ⟨A4, c4, e0, e1, e2, e3, e4, hl4, hC4⟩
set_option maxRecDepth 100000 in
set_option maxHeartbeats 4000000 in
theorem octetsPuts_calls (A0 : Option Addr) (c0 : Nat) (ps : List S49) (w : World) (hr0 : Kd.C k49 w A0 ps.length ps) (hc0 : ps.length ≤ c0) (hwf : ∀ p ∈ ps, WF49 p) :
    Calls Try.prog 6 #[.slice A0 ps.length c0] w fun e w' => e = .returned (.bool true) ∧ Below w.heap.size w w' := by
  obtain ⟨b, hb, hlight⟩ := light_f ps
  have HR := Aside0.mk hr0
  have HC0 := Aside0.mk hc0
  have HB := Aside0.mk hb
  clear hr0 hc0 hb
  go_enter Try.func6, Try.ntmps6
  go_wp2_with fail
  refine (damperlaw03_light.calls 64 A0 c0 ps b w HR.out HC0.out HB.out).mono ?_
  rintro e w1 ⟨rfl, hd⟩
  have B1 := Aside0.mk hd.below
  have HR1 := Aside0.mk (Kd.C_below HR.out hd.below)
  clear hd
  cases b with
  | false =>
    go_wp2_with fail
    refine (damperlaw03_alive.calls true w1 rfl).mono ?_
    rintro e w2 ⟨rfl, hd⟩
    have B2 := Aside0.mk (Below.trans B1.out (Below.mono hd B1.out.size))
    clear hd
    go_wp2
    go_ret
    exact ⟨rfl, B2.out⟩
  | true =>
    obtain ⟨hlen, hraw⟩ := hlight rfl
    have HRAW := Aside0.mk hraw
    clear hlight hraw
    go_wp2_with fail
    have P0 := Aside0.mk (PW.new B1.out)
    have HC := Aside0.mk HR.out
    clear HB HR1 HR B1
    go_loopw [5, 6] (fun u5 u6 wr => ∃ (n : Nat) (xs : List Int), u6 = .int .i64 (n : Int) ∧ n ≤ ps.length ∧ Aside0 (xs.length ≤ n * 70) ∧ Aside0 (PW w wr w1.heap.size u5 xs xs)) (fun _ u6 _ => (ps.length - intOf u6).toNat)
    case atStart => exact ⟨0, [], rfl, by omega, ⟨by simp⟩, P0⟩
    case round =>
      obtain ⟨n, xs, rfl, hn, HXL, HP⟩ := hrel
      by_cases hlt : n < ps.length
      · obtain ⟨ad, hA0⟩ : ∃ ad, A0 = some ad := by obtain ⟨ad, e, _⟩ := HC.out.2.2 (by omega); exact ⟨ad, e⟩
        subst hA0
        have hraw := HRAW.out n hlt
        have hpf := hwf ps[n] (List.getElem_mem hlt)
        have hat := fun W hb => at_part (W := W) (p := ps[n]) HC.out hb hlt rfl
        generalize ps[n] = p at *
        have HAT := Aside0.mk hat
        have HPF := Aside0.mk hpf
        have HFL := Aside0.mk (partForm_le p hpf hraw)
        have HRW := Aside0.mk hraw
        clear hat hpf hraw
        obtain ⟨A4, c4, e0, e1, e2, e3, e4, hl4, hC4⟩ := HAT.out wr HP.out.bel
        have HQ4 := Aside0.mk hl4
        have HC4 := Aside0.mk hC4
        clear hl4 hC4
        go_wp2_with fail
        refine (law03_form_calls p A4 c4 wr HPF.out HQ4.out HC4.out).mono ?_
        rintro e w2 ⟨B2, m2, rfl, hq, hC2, hb⟩
        have HP2 := Aside0.mk (HP.out.below hb)
        have HF2 := Aside0.mk (Kd.reads_of_C (d := (0 : Int)) hC2)
        have hlen2 : (xs.length + (partForm p).length) * 1 ≤ 140737488355328 := by have := HFL.out; have := HXL.out; omega
        have HL2 := Aside0.mk hlen2
        clear hq hC2 hb HQ4 HC4 e0 e1 e2 e3 e4 HP hlen2
        go_wp2_with (at_builtin; refine print_append_row (w0 := w) w.heap.size rfl (.tmp 17) (.tmp 22) 30 5 .u8 1 rfl Try.underlying30 info5 (by decide) u5 xs (partForm p) B2 (partForm p).length m2 rfl rfl HP2.out.own HF2.out HP2.out.bel HP2.out.bel.size HL2.out ?_; intro v3 w3 hown hb hg hat; have HP3 := Aside0.mk (HP2.out.append hown hb hg hat); clear hown hb hg hat HP2 HF2; obtain ⟨A4, c4, e0, e1, e2, e3, e4, hl4, hC4⟩ := HAT.out w3 HP3.out.bel; have HQ4 := Aside0.mk hl4; have HC4 := Aside0.mk hC4; clear hl4 hC4)
        refine (HP3.out.put p A4 c4 HPF.out HC4.out (by have := HFL.out; have := HXL.out; have := HRW.out; omega)).mono ?_
        rintro e w4 ⟨rfl, hp4⟩
        have HP4 := Aside0.mk hp4
        clear hp4 HP3 HQ4 HC4 e0 e1 e2 e3 e4
        have kp := fun w => neq_ptr_same w ⟨w1.heap.size, 0, none⟩
        obtain ⟨A5, c5, e0, e1, e2, e3, e4, hl4, hC4⟩ := HAT.out w4 HP4.out.bel
        clear hl4 hC4
        go_wp2_with fail
        refine (law03_put_nil p.f0 p.f1 p.f2 p.f3 p.f4.length c5 A5 w4).mono ?_
        rintro e w5 ⟨rfl, hb⟩
        have HP5 := Aside0.mk (HP4.out.below hb)
        clear hb HP4 e0 e1 e2 e3 e4
        have HXF : Aside0 ((xs ++ partForm p).length ≤ (n + 1) * 70) := ⟨by have := HFL.out; have := HXL.out; rw [List.length_append]; omega⟩
        generalize xs ++ partForm p = ys at *
        go_wp2_with fail
        refine (HP5.out.bytes (by have := HXF.out; omega)).mono ?_
        rintro e w6 ⟨B6, m6, rfl, hq6, hC6, hb⟩
        have HP6 := Aside0.mk (HP5.out.below hb)
        obtain ⟨B7, m7, hv, hq7, hC7⟩ := HP6.out.want_C
        subst hv
        have HQ6 := Aside0.mk hq6
        have HQ7 := Aside0.mk hq7
        have HC6 := Aside0.mk hC6
        have HC7 := Aside0.mk hC7
        clear hb HP5 hq6 hC6 hq7 hC7
        go_wp2_with fail
        refine (damperref03_Same.calls B6 m6 ys B7 m7 ys true w6 HC6.out HQ6.out HC7.out HQ7.out (same_of_eq ys)).mono ?_
        rintro e w7 ⟨rfl, hd⟩
        have HP7 := Aside0.mk (HP6.out.below hd.below)
        clear hd HP6 HC6 HC7 HQ6 HQ7
        go_wp2
        go_roundw
        case rel => exact ⟨n + 1, ys, rfl, by omega, HXF, HP7⟩
        case measure => simp [intOf]; omega
      · have hB := HP.out.bel
        have HB := Aside0.mk hB
        clear hB HP
        go_wp2_with fail
        refine (octets_Writer_Bytes.nil wr).mono ?_
        rintro e w2 ⟨rfl, rfl⟩
        go_wp2_with fail
        refine (damperlaw03_alive.calls true wr rfl).mono ?_
        rintro e w3 ⟨rfl, hd⟩
        have B3 := Aside0.mk (Below.trans HB.out (Below.mono hd HB.out.size))
        clear hd
        go_wp2
        go_ret
        exact ⟨rfl, B3.out⟩
end Go.Proofs.Ytalpemoodollpaa.P
/- What is got is what the document reads. -/
namespace Go.Proofs.Ytalpemoodollpaa.P
open Go.RowKit Go.Proofs.YtalpemoodollpaaW.PrintWords Go.Proofs.YtalpemoodollpaaW.PrintLast Go.Proofs.YtalpemoodollpaaW.PrintMore
set_option linter.unusedVariables false
set_option linter.unusedSimpArgs false
theorem rTake_0 (l : List Int) (n : Nat) : rTake (l, 0) n = if l.length < n then ([], false, (l, 3)) else (l.take n, true, (l.drop n, 0)) := by
  unfold rTake
  rw [if_neg (by simp)]
theorem rTake_f (l : List Int) (f : Int) (hf : f ≠ 0) (n : Nat) : rTake (l, f) n = ([], false, (l, f)) := by
  unfold rTake
  rw [if_pos hf]
theorem numGo_fin (k : Nat) : ∀ (i : Nat) (n : Int) (l : List Int), ((numGo k i n l).2.2 ≠ 0 → (numGo k i n l).1 = 0) ∧ ((numGo k i n l).2.2 = 0 → ∃ m, m ≤ l.length ∧ (numGo k i n l).2.1 = l.drop m) := by
  induction k with
  | zero => intro i n l; exact ⟨fun _ => rfl, fun h => absurd h (by simp [numGo])⟩
  | succ k ih =>
    intro i n l
    cases l with
    | nil => exact ⟨fun _ => rfl, fun h => absurd h (by simp [numGo])⟩
    | cons b bs =>
      rw [numGo]
      split
      · exact ⟨fun _ => rfl, fun h => absurd h (by simp)⟩
      · split
        · obtain ⟨h1, h2⟩ := ih (i + 1) (n + b % 128 * ((128 ^ i : Nat) : Int)) bs
          refine ⟨h1, fun h => ?_⟩
          obtain ⟨m, hm, he⟩ := h2 h
          exact ⟨m + 1, by simp; omega, by rw [he]; rfl⟩
        · split
          · exact ⟨fun _ => rfl, fun h => absurd h (by simp)⟩
          · exact ⟨fun h => absurd rfl h, fun _ => ⟨1, by simp, rfl⟩⟩
theorem got_read (l : List Int) (p : S49) : (gotF (l, 0) p).1 = (readF l p).1 ∧ (gotF (l, 0) p).2.1 = (readF l p).2.1 ∧ (gotF (l, 0) p).2.2.1 = (readF l p).2.2.1 ∧ (gotF (l, 0) p).2.2.2.2 = (readF l p).2.2.2.2 ∧
    0 ≤ (readF l p).2.2.2.1 ∧ (readF l p).2.2.2.1 ≤ l.length ∧ ((readF l p).2.2.2.2 = 0 → (gotF (l, 0) p).2.2.2.1 = l.drop (readF l p).2.2.2.1.toNat) := by
  unfold gotF readF
  by_cases h1 : p.f0 = 1
  · rw [if_pos h1, if_pos h1]
    unfold rUint rdUint
    by_cases hk : p.f1 < 1 ∨ 8 < p.f1
    · rw [if_pos hk, if_pos hk]
      exact ⟨rfl, rfl, rfl, rfl, by simp, by simp, fun _ => rfl⟩
    · rw [if_neg hk, if_neg hk, rTake_0]
      by_cases hl : l.length < p.f1.toNat
      · rw [if_pos hl, if_pos (show (l.length : Int) < p.f1 by omega)]
        exact ⟨rfl, rfl, rfl, rfl, by simp, by simp, fun h => absurd h (by simp)⟩
      · rw [if_neg hl, if_neg (show ¬ (l.length : Int) < p.f1 by omega)]
        exact ⟨rfl, rfl, rfl, rfl, by show 0 ≤ p.f1; omega, by show p.f1 ≤ (l.length : Int); omega, fun _ => rfl⟩
  · rw [if_neg h1, if_neg h1]
    by_cases h2 : p.f0 = 2
    · rw [if_pos h2, if_pos h2]
      unfold rUint rdInt
      rw [if_neg (show ¬ ((8 : Int) < 1 ∨ (8 : Int) < 8) by decide), show (8 : Int).toNat = 8 from rfl, rTake_0]
      by_cases hl : l.length < 8
      · rw [if_pos hl, if_pos hl]
        exact ⟨rfl, by show unzig 0 = 0; decide, rfl, rfl, by simp, by simp, fun h => absurd h (by simp)⟩
      · rw [if_neg hl, if_neg hl]
        exact ⟨rfl, rfl, rfl, rfl, by simp, by show (8 : Int) ≤ (l.length : Int); omega, fun _ => rfl⟩
    · rw [if_neg h2, if_neg h2]
      by_cases h3 : p.f0 = 3
      · rw [if_pos h3, if_pos h3]
        unfold rNum fin3
        rw [if_neg (by simp)]
        obtain ⟨hz, hd⟩ := numGo_fin 10 0 0 l
        by_cases hf : (numGo 10 0 0 l).2.2 = 0
        · rw [if_pos hf]
          obtain ⟨m, hm, he⟩ := hd hf
          refine ⟨rfl, rfl, rfl, hf, ?_, ?_, fun _ => ?_⟩
          · show 0 ≤ (l.length : Int) - ((numGo 10 0 0 l).2.1.length : Int)
            rw [he, List.length_drop]; omega
          · show (l.length : Int) - ((numGo 10 0 0 l).2.1.length : Int) ≤ _
            omega
          · show (numGo 10 0 0 l).2.1 = l.drop ((l.length : Int) - ((numGo 10 0 0 l).2.1.length : Int)).toNat
            rw [he, List.length_drop]
            congr 1
            omega
        · rw [if_neg hf]
          exact ⟨hz hf, rfl, rfl, rfl, by simp, by simp, fun h => absurd h hf⟩
      · rw [if_neg h3, if_neg h3]
        by_cases h4 : p.f0 = 4
        · rw [if_pos h4, if_pos h4]
          unfold rdRaw
          by_cases hn : p.f1 < 0
          · rw [if_pos hn, if_pos hn]
            exact ⟨rfl, rfl, rfl, rfl, by simp, by simp, fun _ => rfl⟩
          · rw [if_neg hn, if_neg hn, rTake_0]
            by_cases hl : l.length < p.f1.toNat
            · rw [if_pos hl, if_pos (show (l.length : Int) < p.f1 by omega)]
              exact ⟨rfl, rfl, rfl, rfl, by simp, by simp, fun h => absurd h (by simp)⟩
            · rw [if_neg hl, if_neg (show ¬ (l.length : Int) < p.f1 by omega)]
              exact ⟨rfl, rfl, rfl, rfl, by show 0 ≤ p.f1; omega, by show p.f1 ≤ (l.length : Int); omega, fun _ => rfl⟩
        · rw [if_neg h4, if_neg h4]
          exact ⟨rfl, rfl, rfl, rfl, by simp, by simp, fun _ => rfl⟩
theorem got_fault (l : List Int) (f : Int) (hf : f ≠ 0) (p : S49) : gotF (l, f) p = (0, 0, [], (l, f)) := by
  unfold gotF rUint rNum
  have e := rTake_f l f hf
  split
  · split
    · rfl
    · rw [e]; rfl
  · split
    · rw [if_neg (by decide), e]; rfl
    · split
      · rfl
      · split
        · split
          · rfl
          · rw [e]
        · rfl
end Go.Proofs.Ytalpemoodollpaa.P
/- The state of damperref06.Decode: nine parts in an array, the result's box. -/
namespace Go.Proofs.Ytalpemoodollpaa.P
open Go.RowKit Go.Proofs.YtalpemoodollpaaW.PrintWords Go.Proofs.YtalpemoodollpaaW.PrintLast Go.Proofs.YtalpemoodollpaaW.PrintMore
set_option linter.unusedVariables false
set_option linter.unusedSimpArgs false
theorem rUint_ff (l : List Int) (f : Int) (hf : f ≠ 0) (k : Int) : rUint (l, f) k = (0, (l, f)) := by
  unfold rUint
  rw [rTake_f l f hf]
  split <;> rfl
theorem rNum_ff (l : List Int) (f : Int) (hf : f ≠ 0) : rNum (l, f) = (0, (l, f)) := by
  unfold rNum
  rw [if_pos hf]
def zero5 (j : Nat) : Value := if j % 5 = 0 then .int .u64 0 else if j % 5 = 2 then .slice none 0 0 else .int .i64 0
def arr45 (f : Nat → Value) : Array Value := ((List.range 45).map f).toArray
theorem arr_set (f : Nat → Value) (k : Nat) (v : Value) : (arr45 f).setIfInBounds k v = arr45 (fun j => if j = k then v else f j) := by
  apply Array.ext'
  show ((arr45 f).setIfInBounds k v).toList = (List.range 45).map (fun j => if j = k then v else f j)
  rw [Array.toList_setIfInBounds]
  show ((List.range 45).map f).set k v = _
  apply List.ext_getElem
  · simp
  · intro i h1 h2
    rw [List.getElem_set, List.getElem_map, List.getElem_map, List.getElem_range]
    by_cases e : k = i
    · rw [if_pos e, if_pos e.symm]
    · rw [if_neg e, if_neg (fun x => e x.symm)]
structure FS (w W : World) (ba : Nat) (f : Nat → Value) : Prop where
  arr : W.heap[ba]? = some (.cells (arr45 f) 153 (0, 0))
  zx : Box9 W 29 w.heap.size 0 0 0 0 0 0 0 0 0
  bel : Below w.heap.size w W
  hba : w.heap.size < ba
namespace FS
variable {w W W1 : World} {ba : Nat} {f : Nat → Value}
theorem below (h : FS w W ba f) (hb : Below W.heap.size W W1) : FS w W1 ba f := ⟨(hb.block _ (blk_lt h.arr)).trans h.arr, (hb.block _ (blk_lt h.zx)).trans h.zx, below_then h.bel h.bel.size hb, h.hba⟩
theorem cell (h : FS w W ba f) (j : Nat) (hj : j < 45) : W.cell? ⟨ba, j, none⟩ = some (f j) := by
  rw [blk_cell h.arr j]
  simp [arr45, hj]
theorem frozen (h : FS w W ba f) (j : Nat) : W.frozen? ⟨ba, j, none⟩ = false := blk_frozen h.arr j
theorem set (h : FS w W ba f) (k : Nat) (v : Value) : FS w (W.setCell ⟨ba, k, none⟩ v) ba (fun j => if j = k then v else f j) := by
  refine ⟨?_, blk_far h.zx (by have := h.hba; show w.heap.size ≠ ba; omega) v, h.bel.setCell (p := ⟨ba, k, none⟩) (by have := h.hba; show w.heap.size ≤ ba; omega) v, h.hba⟩
  refine (blk_set h.arr k v).trans ?_
  rw [arr_set]
theorem store5 (h : FS w W ba f) (k : Nat) (n s z q : Int) (v : Value) :
    ∃ f', FS w (((((W.setCell ⟨ba, k, none⟩ (.int .u64 n)).setCell ⟨ba, k + 1, none⟩ (.int .i64 s)).setCell ⟨ba, k + 2, none⟩ v).setCell ⟨ba, k + 3, none⟩ (.int .i64 z)).setCell ⟨ba, k + 4, none⟩ (.int .i64 q)) ba f' ∧
      f' k = .int .u64 n ∧ f' (k + 1) = .int .i64 s ∧ f' (k + 3) = .int .i64 z ∧ f' (k + 4) = .int .i64 q ∧ ∀ j, (j < k ∨ k + 5 ≤ j) → f' j = f j := by
  refine ⟨_, ((((h.set k (.int .u64 n)).set (k + 1) (.int .i64 s)).set (k + 2) v).set (k + 3) (.int .i64 z)).set (k + 4) (.int .i64 q), ?_, ?_, ?_, ?_, ?_⟩
  · simp
  · simp
  · simp
  · simp
  · intro j hj
    rw [if_neg (by omega), if_neg (by omega), if_neg (by omega), if_neg (by omega), if_neg (by omega)]
end FS
/-- The end, as the document says it. -/
def refMFin (k sym seq tick id wi price qty code : Int) (s : List Int × Int) : S29 × Int :=
  if s.2 ≠ 0 then (⟨0, 0, 0, 0, 0, 0, 0, 0, 0⟩, s.2)
  else if 0 < s.1.length ∨ 4611686018427387904 < seq ∨ 4611686018427387904 < tick then (⟨0, 0, 0, 0, 0, 0, 0, 0, 0⟩, 4)
  else if msgRight ⟨k, sym, seq, tick, id, wi, price, qty, code⟩ = false then (⟨0, 0, 0, 0, 0, 0, 0, 0, 0⟩, 4)
  else (⟨k, sym, seq, tick, id, wi, price, qty, code⟩, 0)
theorem mn_le2 {a b : Int} (h : ¬ b < a) : mn a b = a := by unfold mn; rw [if_neg (by omega)]
theorem mfin_eq (k sym seq tick id wi price qty code : Int) (s : List Int × Int) : msgFin k sym seq tick id wi price qty code s = refMFin k sym seq tick id wi price qty code s := by
  unfold msgFin refMFin
  by_cases hs : s.2 = 0
  · rw [if_neg (show ¬ s.2 ≠ 0 from fun h => h hs), if_neg (show ¬ s.2 ≠ 0 from fun h => h hs)]
    by_cases hl : 0 < s.1.length
    · rw [if_pos (Or.inl hl), if_pos (Or.inl hl)]
    · by_cases hi : 4611686018427387904 < seq
      · have e : mn seq 4611686018427387905 = 4611686018427387905 := by unfold mn; split <;> omega
        rw [if_pos (Or.inr (by rw [e]; simp [msgRight, within_])), if_pos (Or.inr (Or.inl hi))]
      · have e : mn seq 4611686018427387905 = seq := mn_le2 (by omega)
        rw [e]
        by_cases ho : 4611686018427387904 < tick
        · have e2 : mn tick 4611686018427387905 = 4611686018427387905 := by unfold mn; split <;> omega
          rw [if_pos (Or.inr (by rw [e2]; simp [msgRight, within_])), if_pos (Or.inr (Or.inr ho))]
        · have e2 : mn tick 4611686018427387905 = tick := mn_le2 (by omega)
          rw [e2, if_neg (show ¬ (0 < s.1.length ∨ 4611686018427387904 < seq ∨ 4611686018427387904 < tick) by omega)]
          by_cases hr : msgRight ⟨k, sym, seq, tick, id, wi, price, qty, code⟩ = false
          · rw [if_pos (Or.inr hr), if_pos hr]
          · rw [if_neg (by intro h; rcases h with h | h; exact hl h; exact hr h), if_neg hr]
  · rw [if_pos (show s.2 ≠ 0 from hs), if_pos (show s.2 ≠ 0 from hs)]
/-- A read, as the document's part tells it. -/
theorem rd_uint (l : List Int) (hb : Byt l) : (rUint (l, 0) 1).1 = (rdUint l 1).1 ∧ (rUint (l, 0) 1).2.2 = (rdUint l 1).2.2.2.2 ∧ 0 ≤ (rdUint l 1).2.2.2.1 ∧ (rdUint l 1).2.2.2.1 ≤ l.length ∧ ((rdUint l 1).2.2.2.2 = 0 → (rUint (l, 0) 1).2.1 = l.drop (rdUint l 1).2.2.2.1.toNat) := by
  have h := got_read l ⟨1, 1, 0, 0, []⟩
  rw [show gotF (l, 0) ⟨1, 1, 0, 0, []⟩ = ((rUint (l, 0) 1).1, 0, [], (rUint (l, 0) 1).2) from rfl, show readF l ⟨1, 1, 0, 0, []⟩ = rdUint l 1 from rfl] at h
  exact ⟨h.1, h.2.2.2.1, h.2.2.2.2.1, h.2.2.2.2.2.1, h.2.2.2.2.2.2⟩
theorem rd_num (l : List Int) (hb : Byt l) : (rNum (l, 0)).1 = (fin3 l (numGo 10 0 0 l)).1 ∧ (rNum (l, 0)).2.2 = (fin3 l (numGo 10 0 0 l)).2.2.2.2 ∧ 0 ≤ (fin3 l (numGo 10 0 0 l)).2.2.2.1 ∧ (fin3 l (numGo 10 0 0 l)).2.2.2.1 ≤ l.length ∧ ((fin3 l (numGo 10 0 0 l)).2.2.2.2 = 0 → (rNum (l, 0)).2.1 = l.drop (fin3 l (numGo 10 0 0 l)).2.2.2.1.toNat) := by
  have h := got_read l ⟨3, 0, 0, 0, []⟩
  rw [show gotF (l, 0) ⟨3, 0, 0, 0, []⟩ = ((rNum (l, 0)).1, 0, [], (rNum (l, 0)).2) from rfl, show readF l ⟨3, 0, 0, 0, []⟩ = fin3 l (numGo 10 0 0 l) from rfl] at h
  exact ⟨h.1, h.2.2.2.1, h.2.2.2.2.1, h.2.2.2.2.2.1, h.2.2.2.2.2.2⟩
theorem rd_int (l : List Int) (hb : Byt l) : unzig (rUint (l, 0) 8).1 = (rdInt l).2.1 ∧ (rUint (l, 0) 8).2.2 = (rdInt l).2.2.2.2 ∧ 0 ≤ (rdInt l).2.2.2.1 ∧ (rdInt l).2.2.2.1 ≤ l.length ∧ ((rdInt l).2.2.2.2 = 0 → (rUint (l, 0) 8).2.1 = l.drop (rdInt l).2.2.2.1.toNat) := by
  have h := got_read l ⟨2, 0, 0, 0, []⟩
  rw [show gotF (l, 0) ⟨2, 0, 0, 0, []⟩ = (0, unzig (rUint (l, 0) 8).1, [], (rUint (l, 0) 8).2) from rfl, show readF l ⟨2, 0, 0, 0, []⟩ = rdInt l from rfl] at h
  exact ⟨h.2.1, h.2.2.2.1, h.2.2.2.2.1, h.2.2.2.2.2.1, h.2.2.2.2.2.2⟩
end Go.Proofs.Ytalpemoodollpaa.P
/- script.step: the next step of bytes. -/
namespace Go.Proofs.Ytalpemoodollpaa.P
open Go.RowKit Go.Proofs.YtalpemoodollpaaW.PrintWords Go.Proofs.YtalpemoodollpaaW.PrintLast Go.Proofs.YtalpemoodollpaaW.PrintMore
set_option linter.unusedVariables false
set_option linter.unusedSimpArgs false
/-- The state of script.step: the reader at g, the step's box at b. -/
structure SS (w W : World) (b g : Nat) (row : Option Nat) (s : List Int × Int) (x0 x1 x2 : Int) (v : Value) : Prop where
  rs : RS W g row s
  bx : W.heap[b]? = some (.cells #[.int .i64 x0, .int .i64 x1, .int .i64 x2, v] 91 (0, 0))
  fr : Fr w W (fun k => k = g)
  hb : w.heap.size ≤ b
  hg : g < w.heap.size
  hr : ∀ k, row = some k → k < w.heap.size
namespace SS
variable {w W W1 : World} {b g : Nat} {row : Option Nat} {s s1 : List Int × Int} {x0 x1 x2 : Int} {v : Value}
theorem call (h : SS w W b g row s x0 x1 x2 v) (hp : RPost W g row s1 W1) : SS w W1 b g row s1 x0 x1 x2 v :=
  ⟨hp.1, hp.2.blk h.bx (by have := h.hb; have := h.hg; omega), h.fr.trans hp.2 (fun _ _ hk => hk), h.hb, h.hg, h.hr⟩
theorem byt (h : SS w W b g row s x0 x1 x2 v) : Byt s.1 := by
  obtain ⟨A, c, _, _, _, _, _, hb⟩ := h.rs
  exact hb
theorem setAny (h : SS w W b g row s x0 x1 x2 v) (j : Nat) (u : Value) : RS (W.setCell ⟨b, j, none⟩ u) g row s ∧ Fr w (W.setCell ⟨b, j, none⟩ u) (fun k => k = g) :=
  ⟨h.rs.far (by have := h.hb; have := h.hg; omega) (fun e => by have := h.hr b e; have := h.hb; omega) u, h.fr.setCell ⟨b, j, none⟩ u (fun hl => absurd hl (by have := h.hb; show ¬ b < _; omega))⟩
theorem set0 (h : SS w W b g row s x0 x1 x2 v) (y : Int) : SS w (W.setCell ⟨b, 0, none⟩ (.int .i64 y)) b g row s y x1 x2 v := ⟨(h.setAny 0 _).1, (blk_set h.bx 0 (.int .i64 y)).trans (by simp), (h.setAny 0 _).2, h.hb, h.hg, h.hr⟩
theorem set1 (h : SS w W b g row s x0 x1 x2 v) (y : Int) : SS w (W.setCell ⟨b, 1, none⟩ (.int .i64 y)) b g row s x0 y x2 v := ⟨(h.setAny 1 _).1, (blk_set h.bx 1 (.int .i64 y)).trans (by simp), (h.setAny 1 _).2, h.hb, h.hg, h.hr⟩
theorem set2 (h : SS w W b g row s x0 x1 x2 v) (y : Int) : SS w (W.setCell ⟨b, 2, none⟩ (.int .i64 y)) b g row s x0 x1 y v := ⟨(h.setAny 2 _).1, (blk_set h.bx 2 (.int .i64 y)).trans (by simp), (h.setAny 2 _).2, h.hb, h.hg, h.hr⟩
theorem set3 (h : SS w W b g row s x0 x1 x2 v) (u : Value) : SS w (W.setCell ⟨b, 3, none⟩ u) b g row s x0 x1 x2 u := ⟨(h.setAny 3 _).1, (blk_set h.bx 3 u).trans (by simp), (h.setAny 3 _).2, h.hb, h.hg, h.hr⟩
theorem cells (h : SS w W b g row s x0 x1 x2 v) : W.cell? ⟨b, 0, none⟩ = some (.int .i64 x0) ∧ W.cell? ⟨b, 1, none⟩ = some (.int .i64 x1) ∧ W.cell? ⟨b, 2, none⟩ = some (.int .i64 x2) ∧ W.cell? ⟨b, 3, none⟩ = some v :=
  ⟨(blk_cell h.bx 0).trans rfl, (blk_cell h.bx 1).trans rfl, (blk_cell h.bx 2).trans rfl, (blk_cell h.bx 3).trans rfl⟩
theorem frozen (h : SS w W b g row s x0 x1 x2 v) : W.frozen? ⟨b, 0, none⟩ = false ∧ W.frozen? ⟨b, 1, none⟩ = false ∧ W.frozen? ⟨b, 2, none⟩ = false ∧ W.frozen? ⟨b, 3, none⟩ = false := ⟨blk_frozen h.bx 0, blk_frozen h.bx 1, blk_frozen h.bx 2, blk_frozen h.bx 3⟩
end SS
/-- What script.step tells and leaves: kind, symbol, number, frame, is it one, what is left. -/
def stepF (s : List Int × Int) : (Int × Int × Int × List Int) × Bool × (List Int × Int) :=
  if (rUint s 1).1 = 1 then (if 64 < (rNum (rUint s 1).2).1 then ((1, 0, 0, []), false, (rNum (rUint s 1).2).2) else ((1, 0, 0, (rTake (rNum (rUint s 1).2).2 (rNum (rUint s 1).2).1.toNat).1), true, (rTake (rNum (rUint s 1).2).2 (rNum (rUint s 1).2).1.toNat).2.2))
  else if (rUint s 1).1 = 4 then ((4, (rUint (rUint s 1).2 1).1, unzig (rUint (rUint (rUint s 1).2 1).2 8).1, []), true, (rUint (rUint (rUint s 1).2 1).2 8).2)
  else if (rUint s 1).1 = 2 ∨ (rUint s 1).1 = 3 then (((rUint s 1).1, 0, unzig (rUint (rUint s 1).2 8).1, []), true, (rUint (rUint s 1).2 8).2)
  else (((rUint s 1).1, 0, 0, []), false, (rUint s 1).2)
def StepPost (w : World) (g : Nat) (row : Option Nat) (T : (Int × Int × Int × List Int) × Bool × (List Int × Int)) (e : Ending) (w' : World) : Prop :=
  ∃ v, e = .returned (.tuple #[.agg #[.int .i64 T.1.1, .int .i64 T.1.2.1, .int .i64 T.1.2.2.1, v], .bool T.2.1]) ∧ Kd.R (Kd.int .u8) 5 w' w.heap.size (fun k => w.heap.size < k) v T.1.2.2.2 ∧ RPost w g row T.2.2 w'
theorem StepPost.nil {w W : World} {b g : Nat} {row : Option Nat} {s : List Int × Int} {x0 x1 x2 : Int} {is : Bool} (h : SS w W b g row s x0 x1 x2 (.slice none 0 0)) : StepPost w g row ((x0, x1, x2, []), is, s) (.returned (.tuple #[.agg #[.int .i64 x0, .int .i64 x1, .int .i64 x2, .slice none 0 0], .bool is])) W :=
  ⟨.slice none 0 0, rfl, Kd.R_nil _ _ _ _ _, h.rs, h.fr⟩
set_option maxRecDepth 100000 in
set_option maxHeartbeats 1000000 in
theorem scrStep_calls (g : Nat) (row : Option Nat) (s : List Int × Int) (w : World) (hs : RS w g row s) (hrow : ∀ k, row = some k → k < w.heap.size) :
    Calls Try.prog 107 #[.pointer (some ⟨g, 0, none⟩)] w (StepPost w g row (stepF s)) := by
  have hu91 := Try.underlying91
  have S0 := Aside0.mk (show SS w (w.alloc (.cells #[.int .i64 0, .int .i64 0, .int .i64 0, .slice none 0 0] 91)) w.heap.size g row s 0 0 0 (.slice none 0 0) from
    ⟨hs.below (below_alloc (Below.refl _ _) _), blk_new w _, (Fr.refl _ _).alloc _, Nat.le_refl _, hs.lt, hrow⟩)
  clear hs hrow
  generalize hG : stepF s = G
  unfold stepF at hG
  have HG := Aside0.mk hG
  clear hG
  go_enter Try.func107, Try.ntmps107
  go_wp2_with fail
  have CX := Aside0.mk (octets_Reader_Uint.calls g row s 1 _ S0.out.rs)
  have kr := Aside0.mk (rUint1_range s S0.out.byt)
  generalize rUint s 1 = T at *
  obtain ⟨k, s1⟩ := T
  try dsimp only at *
  refine CX.out.mono ?_
  rintro e w1 ⟨rfl, hp⟩
  have S1 := Aside0.mk (S0.out.call hp)
  have S2 := Aside0.mk (S1.out.set0 k)
  clear hp CX
  have k0 := kr.out.1
  have k255 := kr.out.2
  obtain ⟨c0, c1, c2, c3⟩ := S1.out.cells
  obtain ⟨z0, z1, z2, z3⟩ := S1.out.frozen
  obtain ⟨d0, d1, d2, d3⟩ := S2.out.cells
  obtain ⟨y0, y1, y2, y3⟩ := S2.out.frozen
  by_cases h1 : k = 1
  · subst h1
    rw [if_pos rfl] at HG
    go_wp2_with fail
    clear c0 c1 c2 c3 z0 z1 z2 z3 d0 d1 d2 d3 y0 y1 y2 y3
    have CX := Aside0.mk (octets_Reader_Num.calls g row s1 _ S2.out.rs)
    have nr := Aside0.mk (rNum_range s1 S2.out.byt)
    generalize rNum s1 = T at *
    obtain ⟨n, s2⟩ := T
    try dsimp only at *
    refine CX.out.mono ?_
    rintro e w2 ⟨rfl, hp⟩
    have S3 := Aside0.mk (S2.out.call hp)
    clear hp CX
    obtain ⟨c0, c1, c2, c3⟩ := S3.out.cells
    obtain ⟨z0, z1, z2, z3⟩ := S3.out.frozen
    by_cases h64 : 64 < n
    · rw [if_pos h64] at HG
      have SZ := Aside0.mk ((((S3.out.set0 (1)).set1 (0)).set2 (0)).set3 (.slice none 0 0))
      obtain rfl := HG.out
      go_wp2
      exact bodyPost_ret (results_ct (fn := Try.f107) (p := 2) (u := 3) (ty := 91) rfl _ _ w.heap.size 91 #[.int .i64 (1), .int .i64 (0), .int .i64 (0), .slice none 0 0] (0, 0) _ rfl SZ.out.bx Try.underlying91 rfl (by kernel_rfl)) rfl (StepPost.nil (is := false) SZ.out)
    · rw [if_neg h64] at HG
      have n0 := nr.out.1
      obtain ⟨n, rfl⟩ := Int.eq_ofNat_of_zero_le n0
      rw [Int.toNat_natCast] at HG
      have n64 : (n : Int) ≤ 64 := by omega
      have n64' : n ≤ 64 := by omega
      have CX := Aside0.mk (octets_Reader_Raw.calls g row s2 n _ (by omega) S3.out.rs)
      clear h64 n0
      go_wp2_with fail
      generalize rTake s2 n = T at *
      obtain ⟨fr, tb, s3⟩ := T
      try dsimp only at *
      refine CX.out.mono ?_
      rintro e w3 ⟨v, rfl, hR, hp⟩
      have HLT := Aside0.mk (show w.heap.size < w2.heap.size from blk_lt S3.out.bx)
      have HRR := Aside0.mk (Kd.R_lower (Kd.R_mono (Kd.R_bound hR) (ok' := fun k => w.heap.size < k) (fun k hk => by have := hk.2.1; have := HLT.out; omega)) (Nat.le_of_lt HLT.out) : Kd.R (Kd.int .u8) 5 w3 w.heap.size (fun k => w.heap.size < k) v fr)
      obtain ⟨X, m, rfl, hq, hC⟩ := Kd.R_reads hR
      have S4 := Aside0.mk (S3.out.call hp)
      clear hp hR hq hC CX c0 c1 c2 c3 z0 z1 z2 z3
      obtain ⟨c0, c1, c2, c3⟩ := S4.out.cells
      obtain ⟨z0, z1, z2, z3⟩ := S4.out.frozen
      have S5 := Aside0.mk (S4.out.set3 (.slice X fr.length m))
      obtain ⟨d0, d1, d2, d3⟩ := S5.out.cells
      obtain ⟨y0, y1, y2, y3⟩ := S5.out.frozen
      have SZ := Aside0.mk ((((S5.out.set0 (1)).set1 (0)).set2 (0)).set3 (.slice X fr.length m))
      have FRC := Aside0.mk (Kd.R_far (Kd.R_far (Kd.R_far (Kd.R_far (Kd.R_far HRR.out (p := ⟨w.heap.size, 3, none⟩) (fun k hk => by show k ≠ w.heap.size; omega) (.slice X fr.length m)) (p := ⟨w.heap.size, 0, none⟩) (fun k hk => by show k ≠ w.heap.size; omega) (.int .i64 1)) (p := ⟨w.heap.size, 1, none⟩) (fun k hk => by show k ≠ w.heap.size; omega) (.int .i64 0)) (p := ⟨w.heap.size, 2, none⟩) (fun k hk => by show k ≠ w.heap.size; omega) (.int .i64 0)) (p := ⟨w.heap.size, 3, none⟩) (fun k hk => by show k ≠ w.heap.size; omega) (.slice X fr.length m))
      obtain rfl := HG.out
      go_wp2
      exact bodyPost_ret (results_ct (fn := Try.f107) (p := 2) (u := 3) (ty := 91) rfl _ _ w.heap.size 91 #[.int .i64 (1), .int .i64 (0), .int .i64 (0), .slice X fr.length m] (0, 0) _ rfl SZ.out.bx Try.underlying91 rfl (by kernel_rfl)) rfl ⟨_, rfl, FRC.out, SZ.out.rs, SZ.out.fr⟩
  · rw [if_neg h1] at HG
    have h1b : (k == 1) = false := by simpa using h1
    clear h1
    by_cases h4 : k = 4
    · subst h4
      rw [if_pos rfl] at HG
      go_wp2_with fail
      clear c0 c1 c2 c3 z0 z1 z2 z3 d0 d1 d2 d3 y0 y1 y2 y3
      have CX := Aside0.mk (octets_Reader_Uint.calls g row s1 1 _ S2.out.rs)
      have syr := Aside0.mk (rUint1_range s1 S2.out.byt)
      generalize rUint s1 1 = T at *
      obtain ⟨sy, s2⟩ := T
      try dsimp only at *
      refine CX.out.mono ?_
      rintro e w2 ⟨rfl, hp⟩
      have S3 := Aside0.mk (S2.out.call hp)
      clear hp CX
      have sy0 := syr.out.1
      have sy1 := syr.out.2
      obtain ⟨c0, c1, c2, c3⟩ := S3.out.cells
      obtain ⟨z0, z1, z2, z3⟩ := S3.out.frozen
      have S4 := Aside0.mk (S3.out.set1 sy)
      obtain ⟨d0, d1, d2, d3⟩ := S4.out.cells
      obtain ⟨y0, y1, y2, y3⟩ := S4.out.frozen
      go_wp2_with fail
      clear c0 c1 c2 c3 z0 z1 z2 z3 d0 d1 d2 d3 y0 y1 y2 y3
      have CX := Aside0.mk (octets_Reader_Int.calls g row s2 _ S4.out.rs)
      generalize rUint s2 8 = T at *
      obtain ⟨nn, s3⟩ := T
      try dsimp only at *
      refine CX.out.mono ?_
      rintro e w3 ⟨rfl, hp⟩
      have S5 := Aside0.mk (S4.out.call hp)
      clear hp CX
      generalize unzig nn = nz at *
      obtain ⟨c0, c1, c2, c3⟩ := S5.out.cells
      obtain ⟨z0, z1, z2, z3⟩ := S5.out.frozen
      have S6 := Aside0.mk (S5.out.set2 nz)
      obtain ⟨d0, d1, d2, d3⟩ := S6.out.cells
      obtain ⟨y0, y1, y2, y3⟩ := S6.out.frozen
      have SZ := Aside0.mk ((((S6.out.set0 (4)).set1 (sy)).set2 (nz)).set3 (.slice none 0 0))
      obtain rfl := HG.out
      go_wp2
      exact bodyPost_ret (results_ct (fn := Try.f107) (p := 2) (u := 3) (ty := 91) rfl _ _ w.heap.size 91 #[.int .i64 (4), .int .i64 (sy), .int .i64 (nz), .slice none 0 0] (0, 0) _ rfl SZ.out.bx Try.underlying91 rfl (by kernel_rfl)) rfl (StepPost.nil (is := true) SZ.out)
    · rw [if_neg h4] at HG
      have h4b : (k == 4) = false := by simpa using h4
      clear h4
      by_cases h23 : k = 2 ∨ k = 3
      · rw [if_pos h23] at HG
        by_cases hk : k = 2
        · clear h23
          subst hk
          go_wp2_with fail
          clear c0 c1 c2 c3 z0 z1 z2 z3 d0 d1 d2 d3 y0 y1 y2 y3
          have CX := Aside0.mk (octets_Reader_Int.calls g row s1 _ S2.out.rs)
          generalize rUint s1 8 = T at *
          obtain ⟨nn, s3⟩ := T
          try dsimp only at *
          refine CX.out.mono ?_
          rintro e w3 ⟨rfl, hp⟩
          have S5 := Aside0.mk (S2.out.call hp)
          clear hp CX
          generalize unzig nn = nz at *
          obtain ⟨c0, c1, c2, c3⟩ := S5.out.cells
          obtain ⟨z0, z1, z2, z3⟩ := S5.out.frozen
          have S6 := Aside0.mk (S5.out.set2 nz)
          obtain ⟨d0, d1, d2, d3⟩ := S6.out.cells
          obtain ⟨y0, y1, y2, y3⟩ := S6.out.frozen
          have SZ := Aside0.mk ((((S6.out.set0 (2)).set1 (0)).set2 (nz)).set3 (.slice none 0 0))
          obtain rfl := HG.out
          go_wp2
          exact bodyPost_ret (results_ct (fn := Try.f107) (p := 2) (u := 3) (ty := 91) rfl _ _ w.heap.size 91 #[.int .i64 (2), .int .i64 (0), .int .i64 (nz), .slice none 0 0] (0, 0) _ rfl SZ.out.bx Try.underlying91 rfl (by kernel_rfl)) rfl (StepPost.nil (is := true) SZ.out)
        · replace hk : k = 3 := h23.resolve_left hk
          clear h23
          subst hk
          go_wp2_with fail
          clear c0 c1 c2 c3 z0 z1 z2 z3 d0 d1 d2 d3 y0 y1 y2 y3
          have CX := Aside0.mk (octets_Reader_Int.calls g row s1 _ S2.out.rs)
          generalize rUint s1 8 = T at *
          obtain ⟨nn, s3⟩ := T
          try dsimp only at *
          refine CX.out.mono ?_
          rintro e w3 ⟨rfl, hp⟩
          have S5 := Aside0.mk (S2.out.call hp)
          clear hp CX
          generalize unzig nn = nz at *
          obtain ⟨c0, c1, c2, c3⟩ := S5.out.cells
          obtain ⟨z0, z1, z2, z3⟩ := S5.out.frozen
          have S6 := Aside0.mk (S5.out.set2 nz)
          obtain ⟨d0, d1, d2, d3⟩ := S6.out.cells
          obtain ⟨y0, y1, y2, y3⟩ := S6.out.frozen
          have SZ := Aside0.mk ((((S6.out.set0 (3)).set1 (0)).set2 (nz)).set3 (.slice none 0 0))
          obtain rfl := HG.out
          go_wp2
          exact bodyPost_ret (results_ct (fn := Try.f107) (p := 2) (u := 3) (ty := 91) rfl _ _ w.heap.size 91 #[.int .i64 (3), .int .i64 (0), .int .i64 (nz), .slice none 0 0] (0, 0) _ rfl SZ.out.bx Try.underlying91 rfl (by kernel_rfl)) rfl (StepPost.nil (is := true) SZ.out)
      · rw [if_neg h23] at HG
        have h2b : (k == 2) = false := beq_false_of_ne (fun e => h23 (.inl e))
        have h3b : (k == 3) = false := beq_false_of_ne (fun e => h23 (.inr e))
        clear h23
        have SZ := Aside0.mk ((((S2.out.set0 (k)).set1 (0)).set2 (0)).set3 (.slice none 0 0))
        obtain rfl := HG.out
        go_wp2
        exact bodyPost_ret (results_ct (fn := Try.f107) (p := 2) (u := 3) (ty := 91) rfl _ _ w.heap.size 91 #[.int .i64 (k), .int .i64 (0), .int .i64 (0), .slice none 0 0] (0, 0) _ rfl SZ.out.bx Try.underlying91 rfl (by kernel_rfl)) rfl (StepPost.nil (is := false) SZ.out)
end Go.Proofs.Ytalpemoodollpaa.P
/- damperref29.one, plain: it is the program's step. -/
namespace Go.Proofs.Ytalpemoodollpaa.P
open Go.RowKit Go.Proofs.YtalpemoodollpaaW.PrintWords Go.Proofs.YtalpemoodollpaaW.PrintLast Go.Proofs.YtalpemoodollpaaW.PrintMore
set_option linter.unusedVariables false
set_option linter.unusedSimpArgs false
/-- What damperref29.one tells of bytes that do not end at once: the step, its bytes, the fault. -/
def oneF (l : List Int) : S91 × Int × Int :=
  match l with
  | [] => (⟨0, 0, 0, []⟩, 0, 3)
  | k :: t =>
    if k = 1 then
      if (fin3 t (numGo 10 0 0 t)).2.2.2.2 ≠ 0 then (⟨0, 0, 0, []⟩, 0, (fin3 t (numGo 10 0 0 t)).2.2.2.2)
      else if 64 < (fin3 t (numGo 10 0 0 t)).1 then (⟨0, 0, 0, []⟩, 0, 4)
      else if (rdRaw (t.drop (fin3 t (numGo 10 0 0 t)).2.2.2.1.toNat) (fin3 t (numGo 10 0 0 t)).1).2.2.2.2 ≠ 0 then (⟨0, 0, 0, []⟩, 0, (rdRaw (t.drop (fin3 t (numGo 10 0 0 t)).2.2.2.1.toNat) (fin3 t (numGo 10 0 0 t)).1).2.2.2.2)
      else (⟨1, 0, 0, (rdRaw (t.drop (fin3 t (numGo 10 0 0 t)).2.2.2.1.toNat) (fin3 t (numGo 10 0 0 t)).1).2.2.1⟩, 1 + (fin3 t (numGo 10 0 0 t)).2.2.2.1 + (rdRaw (t.drop (fin3 t (numGo 10 0 0 t)).2.2.2.1.toNat) (fin3 t (numGo 10 0 0 t)).1).2.2.2.1, 0)
    else if k = 4 then
      if (rdUint t 1).2.2.2.2 ≠ 0 then (⟨0, 0, 0, []⟩, 0, (rdUint t 1).2.2.2.2)
      else (⟨4, (rdUint t 1).1, (rdInt (t.drop 1)).2.1, []⟩, 2 + (rdInt (t.drop 1)).2.2.2.1, (rdInt (t.drop 1)).2.2.2.2)
    else if k = 2 ∨ k = 3 then (⟨k, 0, (rdInt t).2.1, []⟩, 1 + (rdInt t).2.2.2.1, (rdInt t).2.2.2.2)
    else (⟨0, 0, 0, []⟩, 0, 4)
/-- The program's step, as the document's tells it. -/
def Alike1 (l : List Int) : Prop :=
  ((oneF l).2.2 = 0 → (stepF (l, 0)).2.2.2 = 0 ∧ (stepF (l, 0)).2.1 = true ∧ (⟨(stepF (l, 0)).1.1, (stepF (l, 0)).1.2.1, (stepF (l, 0)).1.2.2.1, (stepF (l, 0)).1.2.2.2⟩ : S91) = (oneF l).1 ∧ (stepF (l, 0)).2.2.1 = l.drop (oneF l).2.1.toNat ∧ 0 ≤ (oneF l).2.1 ∧ (oneF l).2.1 ≤ l.length) ∧
  ((oneF l).2.2 ≠ 0 → (stepF (l, 0)).2.2.2 = (oneF l).2.2 ∨ ((stepF (l, 0)).2.2.2 = 0 ∧ (stepF (l, 0)).2.1 = false ∧ (oneF l).2.2 = 4))
theorem rUint_byte_ (x : Int) (t : List Int) : rUint (x :: t, 0) 1 = (x, (t, 0)) := by
  unfold rUint
  rw [if_neg (by decide), show (1 : Int).toNat = 1 from rfl, rTake_one]
  simp [beNum]
theorem step_int (t : List Int) (ht : Byt t) : ((rdInt t).2.2.2.2 = 0 → (rUint (t, 0) 8).2 = (t.drop (rdInt t).2.2.2.1.toNat, 0)) ∧ (rUint (t, 0) 8).2.2 = (rdInt t).2.2.2.2 ∧ unzig (rUint (t, 0) 8).1 = (rdInt t).2.1 ∧ 0 ≤ (rdInt t).2.2.2.1 ∧ (rdInt t).2.2.2.1 ≤ t.length := by
  obtain ⟨e1, e2, e3, e4, e5⟩ := rd_int t ht
  exact ⟨fun h => Prod.ext (e5 h) (e2.trans h), e2, e1, e3, e4⟩
theorem alike_23 (k : Int) (t : List Int) (ht : Byt t) (hk : k = 2 ∨ k = 3) : Alike1 (k :: t) := by
  have h1 : ¬ k = 1 := by omega
  have h4 : ¬ k = 4 := by omega
  obtain ⟨a, b, c, d, e⟩ := step_int t ht
  have ho : oneF (k :: t) = (⟨k, 0, (rdInt t).2.1, []⟩, 1 + (rdInt t).2.2.2.1, (rdInt t).2.2.2.2) := by
    unfold oneF
    simp only []
    rw [if_neg h1, if_neg h4, if_pos hk]
  have hst : stepF (k :: t, 0) = ((k, 0, unzig (rUint (t, 0) 8).1, []), true, (rUint (t, 0) 8).2) := by
    unfold stepF
    rw [rUint_byte_]
    dsimp only
    rw [if_neg h1, if_neg h4, if_pos hk]
  unfold Alike1
  rw [ho, hst]
  dsimp only
  refine ⟨fun hf => ⟨by rw [b]; exact hf, rfl, by rw [c], ?_, by omega, by simp; omega⟩, fun hf => .inl b⟩
  rw [a hf]
  have : (1 + (rdInt t).2.2.2.1).toNat = (rdInt t).2.2.2.1.toNat + 1 := by omega
  rw [this, List.drop_succ_cons]
theorem alike_nil : Alike1 [] := ⟨fun h => absurd h (by decide), fun _ => .inl rfl⟩
theorem alike_other (k : Int) (t : List Int) (h1 : ¬ k = 1) (h4 : ¬ k = 4) (h23 : ¬ (k = 2 ∨ k = 3)) : Alike1 (k :: t) := by
  have ho : oneF (k :: t) = (⟨0, 0, 0, []⟩, 0, 4) := by
    unfold oneF
    simp only []
    rw [if_neg h1, if_neg h4, if_neg h23]
  have hst : stepF (k :: t, 0) = ((k, 0, 0, []), false, (t, 0)) := by
    unfold stepF
    rw [rUint_byte_]
    dsimp only
    rw [if_neg h1, if_neg h4, if_neg h23]
  unfold Alike1
  rw [ho, hst]
  exact ⟨fun h => absurd h (by decide), fun _ => .inr ⟨rfl, rfl, rfl⟩⟩
theorem alike_4 (t : List Int) (ht : Byt t) : Alike1 (4 :: t) := by
  obtain ⟨e1, e2, e3, e4, e5⟩ := rd_uint t ht
  have hst : stepF (4 :: t, 0) = ((4, (rUint (t, 0) 1).1, unzig (rUint (rUint (t, 0) 1).2 8).1, []), true, (rUint (rUint (t, 0) 1).2 8).2) := by
    unfold stepF
    rw [rUint_byte_]
    dsimp only
    rw [if_neg (by decide), if_pos rfl]
  by_cases hf : (rdUint t 1).2.2.2.2 = 0
  · cases t with
    | nil => exact absurd hf (by decide)
    | cons y u =>
      have hu := (Byt.cons ht).2
      obtain ⟨a, b, c, d, e⟩ := step_int u hu
      have hr : rdUint (y :: u) 1 = (y, 0, [], 1, 0) := by
        unfold rdUint
        rw [if_neg (by decide), if_neg (show ¬ (((y :: u).length : Nat) : Int) < 1 by simp; omega), show (1 : Int).toNat = 1 from rfl]
        simp [beNum]
      have ho : oneF (4 :: y :: u) = (⟨4, y, (rdInt u).2.1, []⟩, 2 + (rdInt u).2.2.2.1, (rdInt u).2.2.2.2) := by
        unfold oneF
        simp only []
        rw [if_neg (by decide), if_pos trivial, hr]
        rfl
      rw [rUint_byte_] at hst
      unfold Alike1
      rw [ho, hst]
      dsimp only
      refine ⟨fun hf => ⟨by rw [b]; exact hf, rfl, by rw [c], ?_, by omega, by simp; omega⟩, fun hf => .inl b⟩
      rw [a hf]
      have : (2 + (rdInt u).2.2.2.1).toNat = (rdInt u).2.2.2.1.toNat + 1 + 1 := by omega
      rw [this, List.drop_succ_cons, List.drop_succ_cons]
  · have ho : oneF (4 :: t) = (⟨0, 0, 0, []⟩, 0, (rdUint t 1).2.2.2.2) := by
      unfold oneF
      simp only []
      rw [if_neg (by decide), if_pos trivial, if_pos hf]
    unfold Alike1
    rw [ho, hst]
    dsimp only
    refine ⟨fun h => absurd h hf, fun _ => .inl ?_⟩
    have h2 : (rUint (t, 0) 1).2.2 ≠ 0 := by rw [e2]; exact hf
    have : rUint (rUint (t, 0) 1).2 8 = (0, (rUint (t, 0) 1).2) := rUint_ff _ _ h2 8
    rw [this]
    exact e2
theorem alike_1 (t : List Int) (ht : Byt t) : Alike1 (1 :: t) := by
  obtain ⟨e1, e2, e3, e4, e5⟩ := rd_num t ht
  have hn := rNum_range (t, 0) ht
  have hst : stepF (1 :: t, 0) = (if 64 < (rNum (t, 0)).1 then ((1, 0, 0, []), false, (rNum (t, 0)).2) else ((1, 0, 0, (rTake (rNum (t, 0)).2 (rNum (t, 0)).1.toNat).1), true, (rTake (rNum (t, 0)).2 (rNum (t, 0)).1.toNat).2.2)) := by
    unfold stepF
    rw [rUint_byte_]
    dsimp only
    rw [if_pos rfl]
  by_cases hf : (fin3 t (numGo 10 0 0 t)).2.2.2.2 = 0
  · have hs : (rNum (t, 0)).2 = (t.drop (fin3 t (numGo 10 0 0 t)).2.2.2.1.toNat, 0) := Prod.ext (e5 hf) (e2.trans hf)
    rw [e1] at hn
    rw [e1, hs] at hst
    unfold Alike1
    rw [hst]
    unfold oneF
    simp only []
    rw [if_pos trivial, if_neg (show ¬ (fin3 t (numGo 10 0 0 t)).2.2.2.2 ≠ 0 from fun h => h hf)]
    clear hst e1 e2 e5 hs
    generalize (fin3 t (numGo 10 0 0 t)).1 = n at *
    generalize (fin3 t (numGo 10 0 0 t)).2.2.2.1 = z at *
    by_cases h64 : 64 < n
    · rw [if_pos h64, if_pos h64]
      exact ⟨fun h => absurd h (by decide), fun _ => .inr ⟨rfl, rfl, rfl⟩⟩
    · rw [if_neg h64, if_neg h64]
      have hdl : (t.drop z.toNat).length = t.length - z.toNat := List.length_drop
      generalize hu : t.drop z.toNat = u at *
      have hrw : rdRaw u n = if (u.length : Int) < n then (0, 0, [], 0, 3) else (0, 0, u.take n.toNat, n, 0) := by unfold rdRaw; rw [if_neg (by omega)]
      rw [hrw]
      by_cases hl : (u.length : Int) < n
      · rw [if_pos hl, if_pos (by decide), rTake_few u n.toNat (by omega)]
        exact ⟨fun h => absurd h (by decide), fun _ => .inl rfl⟩
      · rw [if_neg hl, if_neg (by simp), rTake_ok u n.toNat (by omega)]
        refine ⟨fun _ => ⟨rfl, rfl, rfl, ?_, by show 0 ≤ 1 + z + n; omega, by show 1 + z + n ≤ _; simp; omega⟩, fun h => absurd rfl h⟩
        show u.drop n.toNat = (1 :: t).drop (1 + z + n).toNat
        have : (1 + z + n).toNat = z.toNat + n.toNat + 1 := by omega
        rw [this, List.drop_succ_cons, ← hu, List.drop_drop]
  · have h2 : (rNum (t, 0)).2.2 ≠ 0 := by rw [e2]; exact hf
    have h0 : (rNum (t, 0)).1 = 0 := by
      rw [e1]
      unfold fin3 at hf ⊢
      split
      · rename_i hz; rw [if_pos hz] at hf; exact absurd rfl hf
      · rfl
    have ho : oneF (1 :: t) = (⟨0, 0, 0, []⟩, 0, (fin3 t (numGo 10 0 0 t)).2.2.2.2) := by
      unfold oneF
      simp only []
      rw [if_pos trivial, if_pos hf]
    unfold Alike1
    rw [ho, hst, h0, if_neg (by decide)]
    refine ⟨fun h => absurd h hf, fun _ => .inl ?_⟩
    show (rTake (rNum (t, 0)).2 (0 : Int).toNat).2.2.2 = _
    have : rTake (rNum (t, 0)).2 (0 : Int).toNat = ([], false, (rNum (t, 0)).2) := rTake_f _ _ h2 _
    rw [this]
    exact e2
/-- The document's step is the program's. -/
theorem alike (l : List Int) (hb : Byt l) : Alike1 l := by
  cases l with
  | nil => exact alike_nil
  | cons k t =>
    have ht := (Byt.cons hb).2
    by_cases h1 : k = 1
    · subst h1; exact alike_1 t ht
    · by_cases h4 : k = 4
      · subst h4; exact alike_4 t ht
      · by_cases h23 : k = 2 ∨ k = 3
        · exact alike_23 k t ht h23
        · exact alike_other k t h1 h4 h23
end Go.Proofs.Ytalpemoodollpaa.P
/- damperref29.one: the kinds 4 and 1. -/
namespace Go.Proofs.Ytalpemoodollpaa.P
open Go.RowKit Go.Proofs.YtalpemoodollpaaW.PrintWords Go.Proofs.YtalpemoodollpaaW.PrintLast Go.Proofs.YtalpemoodollpaaW.PrintMore
set_option linter.unusedVariables false
set_option linter.unusedSimpArgs false
/-- Bytes that are read at A. -/
def CC (w : World) (A : Option Addr) (l : List Int) : Prop := Kd.C (Kd.int .u8) w A l.length l
def OnePost (w : World) (A0 : Option Addr) (l : List Int) (O : S91 × Int × Int) (e : Ending) (w' : World) : Prop :=
  ∃ X m, e = .returned (.tuple #[.agg #[.int .i64 O.1.f0, .int .i64 O.1.f1, .int .i64 O.1.f2, .slice X O.1.f3.length m], .int .i64 O.2.1, .int .i64 O.2.2]) ∧ O.1.f3.length ≤ m ∧ (∀ w0, CC w0 A0 l → CC w0 X O.1.f3) ∧ Below w.heap.size w w'
theorem addr0_ (a : Addr) : a.add 0 = a := by
  obtain ⟨b, o, i⟩ := a
  cases i <;> simp [Addr.add]
theorem one_byte (t : List Int) : (t = [] ∧ rdUint t 1 = (0, 0, [], 0, 3)) ∨ ∃ y u, t = y :: u ∧ rdUint t 1 = (y, 0, [], 1, 0) := by
  cases t with
  | nil => exact .inl ⟨rfl, by unfold rdUint; rw [if_neg (by decide), if_pos (by decide)]⟩
  | cons y u =>
    refine .inr ⟨y, u, rfl, ?_⟩
    unfold rdUint
    rw [if_neg (by decide), if_neg (show ¬ (((y :: u).length : Nat) : Int) < 1 by simp; omega), show (1 : Int).toNat = 1 from rfl]
    simp [beNum]
structure F14 (w W : World) (p7 : Nat) (o7 : Obj) : Prop where
  x7 : W.heap[p7]? = some o7
  x2 : W.heap[w.heap.size]? = some (.cells #[.int .i64 0, .int .i64 0, .int .i64 0, .slice none 0 0] 91 (0, 0))
  x5 : W.heap[w.heap.size + 1]? = some (.cells #[.int .i64 1, .int .i64 0, .int .i64 0, .slice none 0 0] 91 (0, 0))
  bel : Below w.heap.size w W
  ne : p7 ≠ w.heap.size ∧ p7 ≠ w.heap.size + 1
namespace F14
variable {w W W1 : World} {p7 : Nat} {o7 : Obj}
theorem below (h : F14 w W p7 o7) (hb : Below W.heap.size W W1) : F14 w W1 p7 o7 := ⟨(hb.block _ (blk_lt h.x7)).trans h.x7, (hb.block _ (blk_lt h.x2)).trans h.x2, (hb.block _ (blk_lt h.x5)).trans h.x5, below_then h.bel h.bel.size hb, h.ne⟩
theorem alloc (h : F14 w W p7 o7) (o : Obj) : F14 w (W.alloc o) p7 o7 := h.below (below_alloc (Below.refl _ _) o)
theorem drew (h : F14 w W p7 o7) : F14 w W.drew p7 o7 := h.below (Below.refl _ _).drew
end F14
theorem raw_C {w : World} {A2 : Option Addr} {l2 : List Int} (hC : Kd.C (Kd.int .u8) w A2 l2.length l2) {n : Int} (A : Option Addr) (h : A = A2 ∨ (rdRaw l2 n).2.2.1 = []) : Kd.C (Kd.int .u8) w A (rdRaw l2 n).2.2.1.length (rdRaw l2 n).2.2.1 := by
  rcases h with rfl | h
  · unfold rdRaw
    split
    · exact C_empty w A
    · split
      · exact C_empty w A
      · rename_i h1 h2
        exact Kd.C_take hC (by omega)
  · rw [h]; exact C_empty w A
theorem raw_size (l2 : List Int) (n : Int) : 0 ≤ (rdRaw l2 n).2.2.2.1 ∧ (rdRaw l2 n).2.2.2.1 ≤ l2.length := by
  unfold rdRaw
  split
  · exact ⟨by decide, Int.natCast_nonneg _⟩
  · split
    · exact ⟨by decide, Int.natCast_nonneg _⟩
    · dsimp only; omega
def R14 (w : World) (A2 : Option Addr) (n2 s2 z2 q2 : Int) (raw2 : List Int) (s8 : Value) (wx : World) : Prop :=
  ∃ (W : World) (p : Nat) (B : Option Addr) (mm : Nat), W = wx ∧ s8 = .pointer (some ⟨p, 0, none⟩) ∧ Aside0 (W.heap[p]? = some (.cells #[.int .u64 n2, .int .i64 s2, .slice B raw2.length mm, .int .i64 z2, .int .i64 q2] 81 (0, 0))) ∧
    Aside0 (W.heap[w.heap.size]? = some (.cells #[.int .i64 0, .int .i64 0, .int .i64 0, .slice none 0 0] 91 (0, 0))) ∧ Aside0 (W.heap[w.heap.size + 1]? = some (.cells #[.int .i64 1, .int .i64 0, .int .i64 0, .slice none 0 0] 91 (0, 0))) ∧
    Aside0 (Below w.heap.size w W) ∧ Aside0 (p ≠ w.heap.size ∧ p ≠ w.heap.size + 1) ∧ Aside0 (raw2.length ≤ mm ∧ (B = A2 ∨ raw2 = []))
theorem F14.new5 {w w6 : World} {p7 : Nat} {o7 : Obj} (h : F14 w w6 p7 o7) {A2 B : Option Addr} {mm : Nat} {raw2 : List Int} (n2 s2 z2 q2 : Int) (hq : raw2.length ≤ mm) (hB : B = A2 ∨ raw2 = []) :
    R14 w A2 n2 s2 z2 q2 raw2 (.pointer (some ⟨w6.heap.size, 0, none⟩)) (w6.alloc (.cells #[.int .u64 n2, .int .i64 s2, .slice B raw2.length mm, .int .i64 z2, .int .i64 q2] 81)) :=
  ⟨_, _, B, mm, rfl, rfl, ⟨blk_new w6 _⟩, ⟨blk_alloc h.x2 _⟩, ⟨blk_alloc h.x5 _⟩, ⟨below_alloc h.bel _⟩, ⟨by have := blk_lt h.x5; omega⟩, ⟨hq, hB⟩⟩
theorem F14.set5 {w w6 : World} {p7 p8 : Nat} {o7 : Obj} (h : F14 w w6 p7 o7) (hp : w.heap.size + 1 < p8) (h8 : w6.heap[p8]? = some (.cells #[.int .u64 0, .int .i64 0, .slice none 0 0, .int .i64 0, .int .i64 0] 81 (0, 0))) {A2 B : Option Addr} {mm : Nat} {raw2 : List Int} (n2 s2 z2 q2 : Int) (hq : raw2.length ≤ mm) (hB : B = A2 ∨ raw2 = []) :
    R14 w A2 n2 s2 z2 q2 raw2 (.pointer (some ⟨p8, 0, none⟩)) (((((w6.setCell ⟨p8, 0, none⟩ (.int .u64 n2)).setCell ⟨p8, 1, none⟩ (.int .i64 s2)).setCell ⟨p8, 2, none⟩ (.slice B raw2.length mm)).setCell ⟨p8, 3, none⟩ (.int .i64 z2)).setCell ⟨p8, 4, none⟩ (.int .i64 q2)) := by
  refine ⟨_, _, B, mm, rfl, rfl, ⟨?_⟩, ⟨?_⟩, ⟨?_⟩, ⟨?_⟩, ⟨by omega⟩, ⟨hq, hB⟩⟩
  · exact (blk_set (blk_set (blk_set (blk_set (blk_set h8 0 (.int .u64 n2)) 1 (.int .i64 s2)) 2 (.slice B raw2.length mm)) 3 (.int .i64 z2)) 4 (.int .i64 q2)).trans (by simp)
  · exact blk_far (blk_far (blk_far (blk_far (blk_far h.x2 (p := ⟨p8, 0, none⟩) (by show w.heap.size ≠ p8; omega) _) (p := ⟨p8, 1, none⟩) (by show w.heap.size ≠ p8; omega) _) (p := ⟨p8, 2, none⟩) (by show w.heap.size ≠ p8; omega) _) (p := ⟨p8, 3, none⟩) (by show w.heap.size ≠ p8; omega) _) (p := ⟨p8, 4, none⟩) (by show w.heap.size ≠ p8; omega) _
  · exact blk_far (blk_far (blk_far (blk_far (blk_far h.x5 (p := ⟨p8, 0, none⟩) (by show w.heap.size + 1 ≠ p8; omega) _) (p := ⟨p8, 1, none⟩) (by show w.heap.size + 1 ≠ p8; omega) _) (p := ⟨p8, 2, none⟩) (by show w.heap.size + 1 ≠ p8; omega) _) (p := ⟨p8, 3, none⟩) (by show w.heap.size + 1 ≠ p8; omega) _) (p := ⟨p8, 4, none⟩) (by show w.heap.size + 1 ≠ p8; omega) _
  · exact ((((h.bel.setCell (p := ⟨p8, 0, none⟩) (by show w.heap.size ≤ p8; omega) _).setCell (p := ⟨p8, 1, none⟩) (by show w.heap.size ≤ p8; omega) _).setCell (p := ⟨p8, 2, none⟩) (by show w.heap.size ≤ p8; omega) _).setCell (p := ⟨p8, 3, none⟩) (by show w.heap.size ≤ p8; omega) _).setCell (p := ⟨p8, 4, none⟩) (by show w.heap.size ≤ p8; omega) _
set_option maxRecDepth 100000 in
set_option maxHeartbeats 1000000 in
theorem one4_calls (A0 : Option Addr) (c0 : Nat) (t : List Int) (w : World) (hr0 : Kd.C (Kd.int .u8) w A0 (4 :: t).length (4 :: t)) (hc0 : (4 :: t).length ≤ c0) (hl : (4 :: t).length ≤ 140737488355328) (hb : Byt (4 :: t)) :
    Calls Try.prog 131 #[.slice A0 (4 :: t).length c0] w (OnePost w A0 (4 :: t) (oneF (4 :: t))) := by
  have hu91 := Try.underlying91
  have HR := Aside0.mk hr0
  have HY := Aside0.mk hb
  have HC := Aside0.mk hc0
  have X2 := Aside0.mk (blk_new w (.cells #[.int .i64 0, .int .i64 0, .int .i64 0, .slice none 0 0] 91))
  have B0 := Aside0.mk (below_alloc (Below.refl w.heap.size w) (.cells #[.int .i64 0, .int .i64 0, .int .i64 0, .slice none 0 0] 91))
  obtain ⟨_, _, had⟩ := Kd.reads_of_C (d := (0 : Int)) (Kd.C_below hr0 B0.out)
  obtain ⟨ad, rfl, hcell⟩ := had (by simp)
  have h0 := hcell 0 (by simp)
  have h00 : (w.alloc (.cells #[.int .i64 0, .int .i64 0, .int .i64 0, .slice none 0 0] 91)).cell? ad = some (.int .u8 4) := by
    rw [addr0_] at h0
    exact h0
  clear hcell hr0 hb had h0
  obtain ⟨A1, hcut, _, hR1⟩ := cut_ (some ad) (4 :: t).length c0 1 (by simp)
  have CT := Aside0.mk (hR1 w (4 :: t) hc0 HR.out)
  have hcut1 : ∀ W : World, (Instr.slice 30 (.slice (some ad) (4 :: t).length c0) (some (.int .i64 1)) none none).run Try.prog W = .ok (.slice A1 t.length (c0 - 1)) W := fun W => hcut W
  have hlen : (0 : Int) < ((4 :: t).length : Int) := by simp
  have hlen2 : 0 < (4 :: t).length := by simp
  have hmax : ((4 :: t).length : Int) ≤ 140737488355328 := by omega
  have HLT := Aside0.mk (show t.length ≤ c0 - 1 by simp at hc0; omega)
  have HLL := Aside0.mk (show t.length ≤ 140737488355328 by simp at hl; omega)
  have CT2 := Aside0.mk (show Kd.C (Kd.int .u8) w A1 t.length t from CT.out)
  clear hcut hR1 CT hc0 hl
  have X3 := Aside0.mk (blk_alloc X2.out (.cells #[.int .i64 4, .int .i64 0, .int .i64 0, .slice none 0 0] 91))
  have B3 := Aside0.mk (below_alloc B0.out (.cells #[.int .i64 4, .int .i64 0, .int .i64 0, .slice none 0 0] 91))
  have X5 := Aside0.mk (show ((w.alloc (.cells #[.int .i64 0, .int .i64 0, .int .i64 0, .slice none 0 0] 91)).alloc (.cells #[.int .i64 4, .int .i64 0, .int .i64 0, .slice none 0 0] 91)).heap[w.heap.size + 1]? = some (.cells #[.int .i64 4, .int .i64 0, .int .i64 0, .slice none 0 0] 91 (0, 0)) from by have h := blk_new (w.alloc (.cells #[.int .i64 0, .int .i64 0, .int .i64 0, .slice none 0 0] 91)) (.cells #[.int .i64 4, .int .i64 0, .int .i64 0, .slice none 0 0] 91); rw [World.size_alloc] at h; exact h)
  have CX := Aside0.mk (RD.uint A1 (c0 - 1) t 1 _ (Kd.C_below CT2.out B3.out) HLT.out (Byt.cons HY.out).2)
  unfold RD at CX
  rcases one_byte t with ⟨ht, hr⟩ | ⟨y, u, ht, hr⟩
  · rw [show oneF (4 :: t) = (⟨0, 0, 0, []⟩, 0, 3) by rw [ht]; rfl]
    rw [hr] at CX
    clear ht hr
    generalize (4 :: t).length = N at *
    generalize t.length = M at *
    obtain ⟨raw, hraw⟩ : ∃ r : List Int, r = [] := ⟨_, rfl⟩
    rw [← hraw] at CX
    clear hraw
    dsimp only at *
    go_enter Try.func131, Try.ntmps131
    go_wp2_with fail
    refine CX.out.mono ?_
    rintro e w4 ⟨B, mm, rfl, hq, hBA, hb4⟩
    have X2b := Aside0.mk ((hb4.block _ (blk_lt X3.out)).trans X3.out)
    have X5b := Aside0.mk ((hb4.block _ (blk_lt X5.out)).trans X5.out)
    have B4 := Aside0.mk (below_then B3.out B3.out.size hb4)
    clear hq hBA hb4 CX X3 X5 B3
    have HNE := Aside0.mk (show w4.heap.size ≠ w.heap.size by have := blk_lt X5b.out; omega)
    have HNE5 := Aside0.mk (show w4.heap.size ≠ w.heap.size + 1 by have := blk_lt X5b.out; omega)
    have X2c := Aside0.mk (blk_alloc X2b.out (.cells #[.int .u64 0, .int .i64 0, .slice B raw.length mm, .int .i64 0, .int .i64 3] 81))
    have X5c := Aside0.mk (blk_alloc X5b.out (.cells #[.int .u64 0, .int .i64 0, .slice B raw.length mm, .int .i64 0, .int .i64 3] 81))
    have B5 := Aside0.mk (below_alloc B4.out (.cells #[.int .u64 0, .int .i64 0, .slice B raw.length mm, .int .i64 0, .int .i64 3] 81))
    have X7 := Aside0.mk (blk_new w4 (.cells #[.int .u64 0, .int .i64 0, .slice B raw.length mm, .int .i64 0, .int .i64 3] 81))
    have r0 := (blk_cell X7.out 0).trans rfl
    have r1 := (blk_cell X7.out 1).trans rfl
    have r2 := (blk_cell X7.out 2).trans rfl
    have r3 := (blk_cell X7.out 3).trans rfl
    have r4 := (blk_cell X7.out 4).trans rfl
    go_wp2
    clear r0 r1 r2 r3 r4
    generalize w4.alloc (.cells #[.int .u64 0, .int .i64 0, .slice B raw.length mm, .int .i64 0, .int .i64 3] 81) = w5 at *
    clear X2b X5b B4
    have r0 := (blk_cell X7.out 0).trans rfl
    have r1 := (blk_cell X7.out 1).trans rfl
    have r2 := (blk_cell X7.out 2).trans rfl
    have r3 := (blk_cell X7.out 3).trans rfl
    have r4 := (blk_cell X7.out 4).trans rfl
    have q0 := (blk_cell X2c.out 0).trans rfl
    have q1 := (blk_cell X2c.out 1).trans rfl
    have q2 := (blk_cell X2c.out 2).trans rfl
    have q3 := (blk_cell X2c.out 3).trans rfl
    have y0 := blk_frozen X2c.out 0
    have y1 := blk_frozen X2c.out 1
    have y2 := blk_frozen X2c.out 2
    have y3 := blk_frozen X2c.out 3
    have XF := Aside0.mk (blk_far (blk_far (blk_far (blk_far X7.out (p := ⟨w.heap.size, 0, none⟩) (fun e => HNE.out e) (.int .i64 0)) (p := ⟨w.heap.size, 1, none⟩) (fun e => HNE.out e) (.int .i64 0)) (p := ⟨w.heap.size, 2, none⟩) (fun e => HNE.out e) (.int .i64 0)) (p := ⟨w.heap.size, 3, none⟩) (fun e => HNE.out e) (.slice none 0 0))
    have s0 := (blk_cell XF.out 0).trans rfl
    have s1 := (blk_cell XF.out 1).trans rfl
    have s2 := (blk_cell XF.out 2).trans rfl
    have s3 := (blk_cell XF.out 3).trans rfl
    have s4 := (blk_cell XF.out 4).trans rfl
    have hne := HNE.out
    have XR : Aside0 (((((w5.setCell ⟨w.heap.size, 0, none⟩ (.int .i64 0)).setCell ⟨w.heap.size, 1, none⟩ (.int .i64 0)).setCell ⟨w.heap.size, 2, none⟩ (.int .i64 0)).setCell ⟨w.heap.size, 3, none⟩ (.slice none 0 0)).drew.heap[w.heap.size]? = some (.cells #[.int .i64 0, .int .i64 0, .int .i64 0, .slice none 0 0] 91 (0, 0))) := ⟨(blk_set (blk_set (blk_set (blk_set X2c.out 0 (.int .i64 0)) 1 (.int .i64 0)) 2 (.int .i64 0)) 3 (.slice none 0 0)).trans (by simp)⟩
    have BR : Aside0 (Below w.heap.size w ((((w5.setCell ⟨w.heap.size, 0, none⟩ (.int .i64 0)).setCell ⟨w.heap.size, 1, none⟩ (.int .i64 0)).setCell ⟨w.heap.size, 2, none⟩ (.int .i64 0)).setCell ⟨w.heap.size, 3, none⟩ (.slice none 0 0)).drew) := ⟨(((((B5.out.setCell (p := ⟨w.heap.size, 0, none⟩) (Nat.le_refl _) (.int .i64 0)).setCell (p := ⟨w.heap.size, 1, none⟩) (Nat.le_refl _) (.int .i64 0)).setCell (p := ⟨w.heap.size, 2, none⟩) (Nat.le_refl _) (.int .i64 0)).setCell (p := ⟨w.heap.size, 3, none⟩) (Nat.le_refl _) (.slice none 0 0))).drew⟩
    go_region
    go_wp2
    exact bodyPost_ret (results_ctt (fn := Try.f131) (p := 2) (u := 3) (v := 4) (ty := 91) rfl _ _ w.heap.size 91 #[.int .i64 0, .int .i64 0, .int .i64 0, .slice none 0 0] (0, 0) _ rfl XR.out Try.underlying91 rfl (by kernel_rfl)) rfl ⟨none, 0, rfl, Nat.le_refl _, fun _ _ => Kd.C_nil _ _, BR.out⟩
  · subst ht
    have hy := (Byt.cons (Byt.cons HY.out).2).1
    have hy0 := hy.1
    have hy1 := hy.2
    obtain ⟨A2, hcutb, _, hR2⟩ := cut_ (some ad) (4 :: y :: u).length c0 2 (by simp)
    have CU := Aside0.mk (show Kd.C (Kd.int .u8) w A2 u.length u from hR2 w (4 :: y :: u) HC.out HR.out)
    have hcut2 : ∀ W : World, (Instr.slice 30 (.slice (some ad) (4 :: y :: u).length c0) (some (.int .i64 2)) none none).run Try.prog W = .ok (.slice A2 u.length (c0 - 2)) W := fun W => hcutb W
    have HLU := Aside0.mk (show u.length ≤ c0 - 2 by have := HC.out; simp at this; omega)
    have hlen3 : 2 ≤ (4 :: y :: u).length := by simp
    have hlen4 : (2 : Int) ≤ ((4 :: y :: u).length : Int) := by simp; omega
    clear hcutb hR2 hy
    rw [show oneF (4 :: y :: u) = (⟨4, y, (rdInt u).2.1, []⟩, 2 + (rdInt u).2.2.2.1, (rdInt u).2.2.2.2) from ?_]
    rotate_left
    · unfold oneF
      simp only []
      rw [if_neg (by decide), if_pos trivial, hr]
      rfl
    have HYU := Aside0.mk (Byt.cons (Byt.cons HY.out).2).2
    obtain ⟨_, _, g3, g4, _⟩ := rd_int u HYU.out
    have HG4 := Aside0.mk (show (rdInt u).2.2.2.1 ≤ ((4 :: y :: u).length : Int) by simp; omega)
    have HG3 := Aside0.mk g3
    clear g3 g4
    rw [hr] at CX
    clear hr
    have RU : Aside0 (∀ W, Below w.heap.size w W → RD 114 #[.slice A2 u.length (c0 - 2)] W A2 (rdInt u)) := ⟨fun W hW => RD.int A2 (c0 - 2) u W (Kd.C_below CU.out hW) HLU.out HYU.out⟩
    unfold RD at RU
    clear HLU HYU CU HC HR HY
    generalize (4 :: y :: u).length = N at *
    generalize (y :: u).length = M at *
    obtain ⟨raw, hraw⟩ : ∃ r : List Int, r = [] := ⟨_, rfl⟩
    rw [← hraw] at CX
    clear hraw
    generalize rdInt u = T at *
    obtain ⟨tn, sg, raw2, z, q⟩ := T
    dsimp only at *
    go_enter Try.func131, Try.ntmps131
    go_wp2_with fail
    refine CX.out.mono ?_
    rintro e w4 ⟨B, mm, rfl, hq, hBA, hb4⟩
    have X2b := Aside0.mk ((hb4.block _ (blk_lt X3.out)).trans X3.out)
    have X5b := Aside0.mk ((hb4.block _ (blk_lt X5.out)).trans X5.out)
    have B4 := Aside0.mk (below_then B3.out B3.out.size hb4)
    clear hq hBA hb4 CX X3 X5 B3
    have HNE := Aside0.mk (show w4.heap.size ≠ w.heap.size by have := blk_lt X5b.out; omega)
    have HNE5 := Aside0.mk (show w4.heap.size ≠ w.heap.size + 1 by have := blk_lt X5b.out; omega)
    have X2c := Aside0.mk (blk_alloc X2b.out (.cells #[.int .u64 y, .int .i64 0, .slice B raw.length mm, .int .i64 1, .int .i64 0] 81))
    have X5c := Aside0.mk (blk_alloc X5b.out (.cells #[.int .u64 y, .int .i64 0, .slice B raw.length mm, .int .i64 1, .int .i64 0] 81))
    have B5 := Aside0.mk (below_alloc B4.out (.cells #[.int .u64 y, .int .i64 0, .slice B raw.length mm, .int .i64 1, .int .i64 0] 81))
    have X7 := Aside0.mk (blk_new w4 (.cells #[.int .u64 y, .int .i64 0, .slice B raw.length mm, .int .i64 1, .int .i64 0] 81))
    have r0 := (blk_cell X7.out 0).trans rfl
    have r1 := (blk_cell X7.out 1).trans rfl
    have r2 := (blk_cell X7.out 2).trans rfl
    have r3 := (blk_cell X7.out 3).trans rfl
    have r4 := (blk_cell X7.out 4).trans rfl
    have f1_ := blk_frozen X5c.out 1
    have e1_ := (blk_cell X5c.out 1).trans rfl
    go_wp2_with fail
    clear r0 r1 r2 r3 r4 f1_ e1_
    have X2d := Aside0.mk (blk_far X2c.out (p := ⟨w.heap.size + 1, 1, none⟩) (by show w.heap.size ≠ w.heap.size + 1; omega) (.int .i64 y))
    have X5d := Aside0.mk (((blk_set X5c.out 1 (.int .i64 y))).trans (show some (Obj.cells _ 91 (0, 0)) = some (.cells #[.int .i64 4, .int .i64 y, .int .i64 0, .slice none 0 0] 91 (0, 0)) by simp))
    have B6 := Aside0.mk (B5.out.setCell (p := ⟨w.heap.size + 1, 1, none⟩) (by show w.heap.size ≤ w.heap.size + 1; omega) (.int .i64 y))
    generalize ((w4.alloc (.cells #[.int .u64 y, .int .i64 0, .slice B raw.length mm, .int .i64 1, .int .i64 0] 81)).setCell ⟨w.heap.size + 1, 1, none⟩ (.int .i64 y)) = w5 at *
    clear X2b X5b B4 X2c X5c B5 HNE HNE5 X7
    refine (RU.out _ B6.out).mono ?_
    rintro e w6 ⟨B', mm', rfl, hq, hBA, hb4⟩
    have X2b := Aside0.mk ((hb4.block _ (blk_lt X2d.out)).trans X2d.out)
    have X5b := Aside0.mk ((hb4.block _ (blk_lt X5d.out)).trans X5d.out)
    have B4 := Aside0.mk (below_then B6.out B6.out.size hb4)
    clear hq hBA hb4 RU X2d X5d B6
    have HNE := Aside0.mk (show w6.heap.size ≠ w.heap.size by have := blk_lt X5b.out; omega)
    have HNE5 := Aside0.mk (show w6.heap.size ≠ w.heap.size + 1 by have := blk_lt X5b.out; omega)
    have X2c := Aside0.mk (blk_alloc X2b.out (.cells #[.int .u64 tn, .int .i64 sg, .slice B' raw2.length mm', .int .i64 z, .int .i64 q] 81))
    have X5c := Aside0.mk (blk_alloc X5b.out (.cells #[.int .u64 tn, .int .i64 sg, .slice B' raw2.length mm', .int .i64 z, .int .i64 q] 81))
    have B5 := Aside0.mk (below_alloc B4.out (.cells #[.int .u64 tn, .int .i64 sg, .slice B' raw2.length mm', .int .i64 z, .int .i64 q] 81))
    have X10 := Aside0.mk (blk_new w6 (.cells #[.int .u64 tn, .int .i64 sg, .slice B' raw2.length mm', .int .i64 z, .int .i64 q] 81))
    have r0 := (blk_cell X10.out 0).trans rfl
    have r1 := (blk_cell X10.out 1).trans rfl
    have r2 := (blk_cell X10.out 2).trans rfl
    have r3 := (blk_cell X10.out 3).trans rfl
    have r4 := (blk_cell X10.out 4).trans rfl
    have f2_ := blk_frozen X5c.out 2
    have e2_ := (blk_cell X5c.out 2).trans rfl
    have g3 := HG3.out
    have g4 := HG4.out
    go_wp2
    clear r0 r1 r2 r3 r4 f2_ e2_
    have X2d := Aside0.mk (blk_far X2c.out (p := ⟨w.heap.size + 1, 2, none⟩) (by show w.heap.size ≠ w.heap.size + 1; omega) (.int .i64 sg))
    have X5d := Aside0.mk (((blk_set X5c.out 2 (.int .i64 sg))).trans (show some (Obj.cells _ 91 (0, 0)) = some (.cells #[.int .i64 4, .int .i64 y, .int .i64 sg, .slice none 0 0] 91 (0, 0)) by simp))
    have X7d := Aside0.mk (blk_far X10.out (p := ⟨w.heap.size + 1, 2, none⟩) (fun e => HNE5.out e) (.int .i64 sg))
    have B6 := Aside0.mk (B5.out.setCell (p := ⟨w.heap.size + 1, 2, none⟩) (by show w.heap.size ≤ w.heap.size + 1; omega) (.int .i64 sg))
    generalize ((w6.alloc (.cells #[.int .u64 tn, .int .i64 sg, .slice B' raw2.length mm', .int .i64 z, .int .i64 q] 81)).setCell ⟨w.heap.size + 1, 2, none⟩ (.int .i64 sg)) = w7 at *
    have e0 := (blk_cell X5d.out 0).trans rfl
    have e1 := (blk_cell X5d.out 1).trans rfl
    have e2 := (blk_cell X5d.out 2).trans rfl
    have e3 := (blk_cell X5d.out 3).trans rfl
    have r0 := (blk_cell X7d.out 0).trans rfl
    have r1 := (blk_cell X7d.out 1).trans rfl
    have r2 := (blk_cell X7d.out 2).trans rfl
    have r3 := (blk_cell X7d.out 3).trans rfl
    have r4 := (blk_cell X7d.out 4).trans rfl
    have q0 := (blk_cell X2d.out 0).trans rfl
    have q1 := (blk_cell X2d.out 1).trans rfl
    have q2 := (blk_cell X2d.out 2).trans rfl
    have q3 := (blk_cell X2d.out 3).trans rfl
    have y0 := blk_frozen X2d.out 0
    have y1 := blk_frozen X2d.out 1
    have y2 := blk_frozen X2d.out 2
    have y3 := blk_frozen X2d.out 3
    have XF := Aside0.mk (blk_far (blk_far (blk_far (blk_far X7d.out (p := ⟨w.heap.size, 0, none⟩) (fun e => HNE.out e) (.int .i64 4)) (p := ⟨w.heap.size, 1, none⟩) (fun e => HNE.out e) (.int .i64 y)) (p := ⟨w.heap.size, 2, none⟩) (fun e => HNE.out e) (.int .i64 sg)) (p := ⟨w.heap.size, 3, none⟩) (fun e => HNE.out e) (.slice none 0 0))
    have s0 := (blk_cell XF.out 0).trans rfl
    have s1 := (blk_cell XF.out 1).trans rfl
    have s2 := (blk_cell XF.out 2).trans rfl
    have s3 := (blk_cell XF.out 3).trans rfl
    have s4 := (blk_cell XF.out 4).trans rfl
    have hne := HNE.out
    have XR : Aside0 (((((w7.setCell ⟨w.heap.size, 0, none⟩ (.int .i64 4)).setCell ⟨w.heap.size, 1, none⟩ (.int .i64 y)).setCell ⟨w.heap.size, 2, none⟩ (.int .i64 sg)).setCell ⟨w.heap.size, 3, none⟩ (.slice none 0 0)).drew.heap[w.heap.size]? = some (.cells #[.int .i64 4, .int .i64 y, .int .i64 sg, .slice none 0 0] 91 (0, 0))) := ⟨(blk_set (blk_set (blk_set (blk_set X2d.out 0 (.int .i64 4)) 1 (.int .i64 y)) 2 (.int .i64 sg)) 3 (.slice none 0 0)).trans (by simp)⟩
    have BR : Aside0 (Below w.heap.size w ((((w7.setCell ⟨w.heap.size, 0, none⟩ (.int .i64 4)).setCell ⟨w.heap.size, 1, none⟩ (.int .i64 y)).setCell ⟨w.heap.size, 2, none⟩ (.int .i64 sg)).setCell ⟨w.heap.size, 3, none⟩ (.slice none 0 0)).drew) := ⟨(((((B6.out.setCell (p := ⟨w.heap.size, 0, none⟩) (Nat.le_refl _) (.int .i64 4)).setCell (p := ⟨w.heap.size, 1, none⟩) (Nat.le_refl _) (.int .i64 y)).setCell (p := ⟨w.heap.size, 2, none⟩) (Nat.le_refl _) (.int .i64 sg)).setCell (p := ⟨w.heap.size, 3, none⟩) (Nat.le_refl _) (.slice none 0 0))).drew⟩
    go_region
    go_wp2
    exact bodyPost_ret (results_ctt (fn := Try.f131) (p := 2) (u := 3) (v := 4) (ty := 91) rfl _ _ w.heap.size 91 #[.int .i64 4, .int .i64 y, .int .i64 sg, .slice none 0 0] (0, 0) _ rfl XR.out Try.underlying91 rfl (by kernel_rfl)) rfl ⟨none, 0, rfl, Nat.le_refl _, fun _ _ => Kd.C_nil _ _, BR.out⟩
set_option maxRecDepth 100000 in
set_option maxHeartbeats 1000000 in
theorem one1_calls (A0 : Option Addr) (c0 : Nat) (t : List Int) (w : World) (hr0 : Kd.C (Kd.int .u8) w A0 (1 :: t).length (1 :: t)) (hc0 : (1 :: t).length ≤ c0) (hl : (1 :: t).length ≤ 140737488355328) (hb : Byt (1 :: t)) :
    Calls Try.prog 131 #[.slice A0 (1 :: t).length c0] w (OnePost w A0 (1 :: t) (oneF (1 :: t))) := by
  have hu91 := Try.underlying91
  have HR := Aside0.mk hr0
  have HY := Aside0.mk hb
  have HC := Aside0.mk hc0
  have X2 := Aside0.mk (blk_new w (.cells #[.int .i64 0, .int .i64 0, .int .i64 0, .slice none 0 0] 91))
  have B0 := Aside0.mk (below_alloc (Below.refl w.heap.size w) (.cells #[.int .i64 0, .int .i64 0, .int .i64 0, .slice none 0 0] 91))
  obtain ⟨_, _, had⟩ := Kd.reads_of_C (d := (0 : Int)) (Kd.C_below hr0 B0.out)
  obtain ⟨ad, rfl, hcell⟩ := had (by simp)
  have h0 := hcell 0 (by simp)
  have h00 : (w.alloc (.cells #[.int .i64 0, .int .i64 0, .int .i64 0, .slice none 0 0] 91)).cell? ad = some (.int .u8 1) := by
    rw [addr0_] at h0
    exact h0
  clear hcell hr0 hb had h0
  obtain ⟨A1, hcut, _, hR1⟩ := cut_ (some ad) (1 :: t).length c0 1 (by simp)
  have CT := Aside0.mk (hR1 w (1 :: t) hc0 HR.out)
  have hcut1 : ∀ W : World, (Instr.slice 30 (.slice (some ad) (1 :: t).length c0) (some (.int .i64 1)) none none).run Try.prog W = .ok (.slice A1 t.length (c0 - 1)) W := fun W => hcut W
  have hlen : (0 : Int) < ((1 :: t).length : Int) := by simp
  have hlen2 : 0 < (1 :: t).length := by simp
  have hmax : ((1 :: t).length : Int) ≤ 140737488355328 := by omega
  have HLT := Aside0.mk (show t.length ≤ c0 - 1 by simp at hc0; omega)
  have HLL := Aside0.mk (show t.length ≤ 140737488355328 by simp at hl; omega)
  have CT2 := Aside0.mk (show Kd.C (Kd.int .u8) w A1 t.length t from CT.out)
  clear hcut hR1 CT hc0 hl
  have X3 := Aside0.mk (blk_alloc X2.out (.cells #[.int .i64 1, .int .i64 0, .int .i64 0, .slice none 0 0] 91))
  have B3 := Aside0.mk (below_alloc B0.out (.cells #[.int .i64 1, .int .i64 0, .int .i64 0, .slice none 0 0] 91))
  have X5 := Aside0.mk (show ((w.alloc (.cells #[.int .i64 0, .int .i64 0, .int .i64 0, .slice none 0 0] 91)).alloc (.cells #[.int .i64 1, .int .i64 0, .int .i64 0, .slice none 0 0] 91)).heap[w.heap.size + 1]? = some (.cells #[.int .i64 1, .int .i64 0, .int .i64 0, .slice none 0 0] 91 (0, 0)) from by have h := blk_new (w.alloc (.cells #[.int .i64 0, .int .i64 0, .int .i64 0, .slice none 0 0] 91)) (.cells #[.int .i64 1, .int .i64 0, .int .i64 0, .slice none 0 0] 91); rw [World.size_alloc] at h; exact h)
  have CX := Aside0.mk (RD.num A1 (c0 - 1) t _ (Kd.C_below CT2.out B3.out) HLT.out (Byt.cons HY.out).2 HLL.out)
  unfold RD at CX
  obtain ⟨e1, _, g3, g4, _⟩ := rd_num t (Byt.cons HY.out).2
  have hn := rNum_range (t, 0) (Byt.cons HY.out).2
  rw [e1] at hn
  clear e1
  generalize hO : oneF (1 :: t) = O
  unfold oneF at hO
  simp only [] at hO
  rw [if_pos trivial] at hO
  generalize fin3 t (numGo 10 0 0 t) = T at *
  obtain ⟨n, s, raw, z, q⟩ := T
  dsimp only at *
  obtain ⟨z, rfl⟩ := Int.eq_ofNat_of_zero_le g3
  have HO := Aside0.mk hO
  have hn0 := hn.1
  have hn1 := hn.2
  clear hO hn g3
  have HZ := Aside0.mk (show z ≤ t.length by omega)
  clear g4
  obtain ⟨A2, hcutb, _, hR2⟩ := cut_ (some ad) (1 :: t).length c0 (1 + z) (by have := HZ.out; simp; omega)
  have e2 : (1 :: t).length - (1 + z) = (t.drop z).length := by rw [List.length_drop]; simp; omega
  have e3 : (1 :: t).drop (1 + z) = t.drop z := by rw [Nat.add_comm, List.drop_succ_cons]
  rw [e2] at hcutb hR2
  have CU := Aside0.mk (show Kd.C (Kd.int .u8) w A2 (t.drop z).length (t.drop z) from e3 ▸ hR2 w (1 :: t) HC.out HR.out)
  have hcut2 : ∀ W : World, (Instr.slice 30 (.slice (some ad) (1 :: t).length c0) (some (.int .i64 (1 + (z : Int)))) none none).run Try.prog W = .ok (.slice A2 (t.drop z).length (c0 - (1 + z))) W := fun W => by have h := hcutb W; rw [Int.natCast_add] at h; exact h
  have HRWc : Aside0 (∀ w0, CC w0 (some ad) (1 :: t) → CC w0 A2 (t.drop z)) := ⟨fun w0 h0 => show Kd.C (Kd.int .u8) w0 A2 (t.drop z).length (t.drop z) from e3 ▸ hR2 w0 (1 :: t) HC.out h0⟩
  have HLU := Aside0.mk (show (t.drop z).length ≤ c0 - (1 + z) by have := HC.out; rw [List.length_drop]; simp at this; omega)
  have hzz : 1 + (z : Int) ≤ ((1 :: t).length : Int) := by have := HZ.out; simp; omega
  clear hcutb hR2 e2 e3
  rw [Int.toNat_natCast] at HO
  have HDL := Aside0.mk (show (t.drop z).length ≤ t.length - z by rw [List.length_drop]; omega)
  have HN := Aside0.mk (show (1 :: t).length = t.length + 1 by simp)
  clear HR HY HC HLT HLL CT2
  generalize hl2 : t.drop z = l2 at *
  clear hl2
  generalize hc2 : c0 - (1 + z) = c2 at *
  clear hc2
  generalize (1 :: t).length = N at *
  generalize t.length = M at *
  go_enter Try.func131, Try.ntmps131
  go_wp2_with fail
  refine CX.out.mono ?_
  rintro e w4 ⟨B, mm, rfl, hq, hBA, hb4⟩
  have X2b := Aside0.mk ((hb4.block _ (blk_lt X3.out)).trans X3.out)
  have X5b := Aside0.mk ((hb4.block _ (blk_lt X5.out)).trans X5.out)
  have B4 := Aside0.mk (below_then B3.out B3.out.size hb4)
  clear hq hBA hb4 CX X3 X5 B3
  have HNE := Aside0.mk (show w4.heap.size ≠ w.heap.size by have := blk_lt X5b.out; omega)
  have HNE5 := Aside0.mk (show w4.heap.size ≠ w.heap.size + 1 by have := blk_lt X5b.out; omega)
  have X2c := Aside0.mk (blk_alloc X2b.out (.cells #[.int .u64 n, .int .i64 s, .slice B raw.length mm, .int .i64 (z : Int), .int .i64 q] 81))
  have X5c := Aside0.mk (blk_alloc X5b.out (.cells #[.int .u64 n, .int .i64 s, .slice B raw.length mm, .int .i64 (z : Int), .int .i64 q] 81))
  have B5 := Aside0.mk (below_alloc B4.out (.cells #[.int .u64 n, .int .i64 s, .slice B raw.length mm, .int .i64 (z : Int), .int .i64 q] 81))
  have X7 := Aside0.mk (blk_new w4 (.cells #[.int .u64 n, .int .i64 s, .slice B raw.length mm, .int .i64 (z : Int), .int .i64 q] 81))
  by_cases hq : q = 0
  rotate_left
  · have HP := HO.out
    rw [if_pos (show q ≠ 0 from hq)] at HP
    subst HP
    have hqb : (q != 0) = true := by simpa using hq
    clear hq HO hcut2
    have r0 := (blk_cell X7.out 0).trans rfl
    have r1 := (blk_cell X7.out 1).trans rfl
    have r2 := (blk_cell X7.out 2).trans rfl
    have r3 := (blk_cell X7.out 3).trans rfl
    have r4 := (blk_cell X7.out 4).trans rfl
    go_wp2
    clear r0 r1 r2 r3 r4
    generalize w4.alloc (.cells #[.int .u64 n, .int .i64 s, .slice B raw.length mm, .int .i64 (z : Int), .int .i64 q] 81) = w5 at *
    clear X2b X5b B4
    have r0 := (blk_cell X7.out 0).trans rfl
    have r1 := (blk_cell X7.out 1).trans rfl
    have r2 := (blk_cell X7.out 2).trans rfl
    have r3 := (blk_cell X7.out 3).trans rfl
    have r4 := (blk_cell X7.out 4).trans rfl
    have q0 := (blk_cell X2c.out 0).trans rfl
    have q1 := (blk_cell X2c.out 1).trans rfl
    have q2 := (blk_cell X2c.out 2).trans rfl
    have q3 := (blk_cell X2c.out 3).trans rfl
    have y0 := blk_frozen X2c.out 0
    have y1 := blk_frozen X2c.out 1
    have y2 := blk_frozen X2c.out 2
    have y3 := blk_frozen X2c.out 3
    have XF := Aside0.mk (blk_far (blk_far (blk_far (blk_far X7.out (p := ⟨w.heap.size, 0, none⟩) (fun e => HNE.out e) (.int .i64 0)) (p := ⟨w.heap.size, 1, none⟩) (fun e => HNE.out e) (.int .i64 0)) (p := ⟨w.heap.size, 2, none⟩) (fun e => HNE.out e) (.int .i64 0)) (p := ⟨w.heap.size, 3, none⟩) (fun e => HNE.out e) (.slice none 0 0))
    have s0 := (blk_cell XF.out 0).trans rfl
    have s1 := (blk_cell XF.out 1).trans rfl
    have s2 := (blk_cell XF.out 2).trans rfl
    have s3 := (blk_cell XF.out 3).trans rfl
    have s4 := (blk_cell XF.out 4).trans rfl
    have hne := HNE.out
    have XR : Aside0 (((((w5.setCell ⟨w.heap.size, 0, none⟩ (.int .i64 0)).setCell ⟨w.heap.size, 1, none⟩ (.int .i64 0)).setCell ⟨w.heap.size, 2, none⟩ (.int .i64 0)).setCell ⟨w.heap.size, 3, none⟩ (.slice none 0 0)).drew.heap[w.heap.size]? = some (.cells #[.int .i64 0, .int .i64 0, .int .i64 0, .slice none 0 0] 91 (0, 0))) := ⟨(blk_set (blk_set (blk_set (blk_set X2c.out 0 (.int .i64 0)) 1 (.int .i64 0)) 2 (.int .i64 0)) 3 (.slice none 0 0)).trans (by simp)⟩
    have BR : Aside0 (Below w.heap.size w ((((w5.setCell ⟨w.heap.size, 0, none⟩ (.int .i64 0)).setCell ⟨w.heap.size, 1, none⟩ (.int .i64 0)).setCell ⟨w.heap.size, 2, none⟩ (.int .i64 0)).setCell ⟨w.heap.size, 3, none⟩ (.slice none 0 0)).drew) := ⟨(((((B5.out.setCell (p := ⟨w.heap.size, 0, none⟩) (Nat.le_refl _) (.int .i64 0)).setCell (p := ⟨w.heap.size, 1, none⟩) (Nat.le_refl _) (.int .i64 0)).setCell (p := ⟨w.heap.size, 2, none⟩) (Nat.le_refl _) (.int .i64 0)).setCell (p := ⟨w.heap.size, 3, none⟩) (Nat.le_refl _) (.slice none 0 0))).drew⟩
    go_region
    go_wp2
    exact bodyPost_ret (results_ctt (fn := Try.f131) (p := 2) (u := 3) (v := 4) (ty := 91) rfl _ _ w.heap.size 91 #[.int .i64 0, .int .i64 0, .int .i64 0, .slice none 0 0] (0, 0) _ rfl XR.out Try.underlying91 rfl (by kernel_rfl)) rfl ⟨none, 0, rfl, Nat.le_refl _, fun _ _ => Kd.C_nil _ _, BR.out⟩
  subst hq
  rw [if_neg (show ¬ (0 : Int) ≠ 0 from fun h => h rfl)] at HO
  by_cases h64 : 64 < n
  · have HP := HO.out
    rw [if_pos h64] at HP
    subst HP
    clear HO hcut2
    have r0 := (blk_cell X7.out 0).trans rfl
    have r1 := (blk_cell X7.out 1).trans rfl
    have r2 := (blk_cell X7.out 2).trans rfl
    have r3 := (blk_cell X7.out 3).trans rfl
    have r4 := (blk_cell X7.out 4).trans rfl
    have q0 := (blk_cell X2c.out 0).trans rfl
    have q1 := (blk_cell X2c.out 1).trans rfl
    have q2 := (blk_cell X2c.out 2).trans rfl
    have q3 := (blk_cell X2c.out 3).trans rfl
    have y0 := blk_frozen X2c.out 0
    have y1 := blk_frozen X2c.out 1
    have y2 := blk_frozen X2c.out 2
    have y3 := blk_frozen X2c.out 3
    have hne := HNE.out
    have XR : Aside0 ((((((w4.alloc (.cells #[.int .u64 n, .int .i64 s, .slice B raw.length mm, .int .i64 (z : Int), .int .i64 0] 81)).setCell ⟨w.heap.size, 0, none⟩ (.int .i64 0)).setCell ⟨w.heap.size, 1, none⟩ (.int .i64 0)).setCell ⟨w.heap.size, 2, none⟩ (.int .i64 0)).setCell ⟨w.heap.size, 3, none⟩ (.slice none 0 0)).heap[w.heap.size]? = some (.cells #[.int .i64 0, .int .i64 0, .int .i64 0, .slice none 0 0] 91 (0, 0))) := ⟨(blk_set (blk_set (blk_set (blk_set X2c.out 0 (.int .i64 0)) 1 (.int .i64 0)) 2 (.int .i64 0)) 3 (.slice none 0 0)).trans (by simp)⟩
    have BR : Aside0 (Below w.heap.size w (((((w4.alloc (.cells #[.int .u64 n, .int .i64 s, .slice B raw.length mm, .int .i64 (z : Int), .int .i64 0] 81)).setCell ⟨w.heap.size, 0, none⟩ (.int .i64 0)).setCell ⟨w.heap.size, 1, none⟩ (.int .i64 0)).setCell ⟨w.heap.size, 2, none⟩ (.int .i64 0)).setCell ⟨w.heap.size, 3, none⟩ (.slice none 0 0))) := ⟨(((((B5.out.setCell (p := ⟨w.heap.size, 0, none⟩) (Nat.le_refl _) (.int .i64 0)).setCell (p := ⟨w.heap.size, 1, none⟩) (Nat.le_refl _) (.int .i64 0)).setCell (p := ⟨w.heap.size, 2, none⟩) (Nat.le_refl _) (.int .i64 0)).setCell (p := ⟨w.heap.size, 3, none⟩) (Nat.le_refl _) (.slice none 0 0)))⟩
    go_wp2
    exact bodyPost_ret (results_ctt (fn := Try.f131) (p := 2) (u := 3) (v := 4) (ty := 91) rfl _ _ w.heap.size 91 #[.int .i64 0, .int .i64 0, .int .i64 0, .slice none 0 0] (0, 0) _ rfl XR.out Try.underlying91 rfl (by kernel_rfl)) rfl ⟨none, 0, rfl, Nat.le_refl _, fun _ _ => Kd.C_nil _ _, BR.out⟩
  rw [if_neg h64] at HO
  obtain ⟨n, rfl⟩ := Int.eq_ofNat_of_zero_le hn0
  have RU : Aside0 (∀ W, Below w.heap.size w W → Calls Try.prog 116 #[.slice A2 l2.length c2, .int .i64 (n : Int)] W fun e w' => ∃ A c, e = .returned (.agg #[.int .u64 (rdRaw l2 n).1, .int .i64 (rdRaw l2 n).2.1, .slice A (rdRaw l2 n).2.2.1.length c, .int .i64 (rdRaw l2 n).2.2.2.1, .int .i64 (rdRaw l2 n).2.2.2.2]) ∧ (rdRaw l2 n).2.2.1.length ≤ c ∧ (A = A2 ∨ (rdRaw l2 n).2.2.1 = []) ∧ Below W.heap.size W w') := ⟨fun W hW => refReadRaw_calls A2 c2 l2 n W (Kd.C_below CU.out hW) HLU.out⟩
  have HRW : Aside0 (∀ A, (A = A2 ∨ (rdRaw l2 n).2.2.1 = []) → ∀ w0, CC w0 (some ad) (1 :: t) → CC w0 A (rdRaw l2 n).2.2.1) := ⟨fun A h w0 h0 => raw_C (HRWc.out w0 h0) A h⟩
  have HSZ := Aside0.mk (raw_size l2 n)
  generalize rdRaw l2 n = T at *
  obtain ⟨n2, s2, raw2, z2, q2⟩ := T
  dsimp only at *
  have hz20 := HSZ.out.1
  have hz21 : z2 ≤ (N : Int) := by have := HSZ.out.2; have := HDL.out; have := HN.out; omega
  have h64b : (n : Int) ≤ 64 := by omega
  clear h64 hn1
  have r0 := (blk_cell X7.out 0).trans rfl
  have r1 := (blk_cell X7.out 1).trans rfl
  have r2 := (blk_cell X7.out 2).trans rfl
  have r3 := (blk_cell X7.out 3).trans rfl
  have r4 := (blk_cell X7.out 4).trans rfl
  go_wp2_with fail
  clear r0 r1 r2 r3 r4
  generalize hw5 : w4.alloc (.cells #[.int .u64 (n : Int), .int .i64 s, .slice B raw.length mm, .int .i64 (z : Int), .int .i64 0] 81) = w5 at *
  generalize hp7 : w4.heap.size = p7 at *
  have H5 := Aside0.mk (show w5.heap.size = p7 + 1 by rw [← hw5, ← hp7]; simp)
  clear hw5 hp7 X2b X5b B4
  have F5 := Aside0.mk (F14.mk X7.out X2c.out X5c.out B5.out ⟨HNE.out, HNE5.out⟩)
  clear X7 X2c X5c B5 HNE HNE5
  have r0 := (blk_cell F5.out.x7 0).trans rfl
  have R6 : Aside0 (∀ W : World, Aside0 (F14 w W p7 (Obj.cells #[.int .u64 (n : Int), .int .i64 s, .slice B raw.length mm, .int .i64 (z : Int), .int .i64 0] 81 (0, 0))) → W.cell? ⟨p7, 0, none⟩ = some (.int .u64 (n : Int))) := ⟨fun W h => (blk_cell h.out.x7 0).trans rfl⟩
  have hn8 : w5.heap.size ≠ p7 := by have := H5.out; omega
  have hn9 : p7 ≠ w5.heap.size := fun e => hn8 e.symm
  generalize hO7 : Obj.cells #[.int .u64 (n : Int), .int .i64 s, .slice B raw.length mm, .int .i64 (z : Int), .int .i64 0] 81 (0, 0) = O7 at *
  have hu81 := Try.underlying81
  go_cut [8] (fun s8 wx => R14 w A2 n2 s2 z2 q2 raw2 s8 wx)
  case first =>
    have hwr : IntKind.i64.wrap (n : Int) = (n : Int) := IntWalk.i64_in _ (by omega)
    go_region_held3 (fun w' => w'.cell? ⟨p7, 0, none⟩ = some (.int .u64 (n : Int))) (first | with_reducible assumption | go_keep)
      (first | (go_at_call 116; (with_reducible refine (RU.out _ (below_alloc F5.out.bel (.cells #[.int .u64 0, .int .i64 0, .slice none 0 0, .int .i64 0, .int .i64 0] 81)).drew).mono ?_); rintro e w6 ⟨B6, m6, rfl, hq6, hB6, hb6⟩; have F6 : Aside0 (F14 w w6 p7 O7) := ⟨(F5.out.alloc _).drew.below hb6⟩; have r6 := R6.out w6 F6; have X8 : Aside0 (w6.heap[w5.heap.size]? = some (.cells #[.int .u64 0, .int .i64 0, .slice none 0 0, .int .i64 0, .int .i64 0] 81 (0, 0))) := ⟨(hb6.block _ (by simp)).trans (blk_new w5 _)⟩; have k0 : w6.cell? ⟨w5.heap.size, 0, none⟩ = some (.int .u64 0) := (blk_cell X8.out 0).trans rfl; have k1 : w6.cell? ⟨w5.heap.size, 1, none⟩ = some (.int .i64 0) := (blk_cell X8.out 1).trans rfl; have k2 : w6.cell? ⟨w5.heap.size, 2, none⟩ = some (.slice none 0 0) := (blk_cell X8.out 2).trans rfl; have k3 : w6.cell? ⟨w5.heap.size, 3, none⟩ = some (.int .i64 0) := (blk_cell X8.out 3).trans rfl; have k4 : w6.cell? ⟨w5.heap.size, 4, none⟩ = some (.int .i64 0) := (blk_cell X8.out 4).trans rfl; have j0 := blk_frozen X8.out 0; have j1 := blk_frozen X8.out 1; have j2 := blk_frozen X8.out 2; have j3 := blk_frozen X8.out 3; have j4 := blk_frozen X8.out 4) | (go_at_call 116; (with_reducible refine (RU.out _ F5.out.bel.drew).mono ?_); rintro e w6 ⟨B6, m6, rfl, hq6, hB6, hb6⟩; have F6 : Aside0 (F14 w w6 p7 O7) := ⟨F5.out.drew.below hb6⟩; have r6 := R6.out w6 F6))
    · go_wp2_with fail
      go_meet
      exact F6.out.new5 n2 s2 z2 q2 hq6 hB6
    · go_wp2_with fail
      go_meet
      exact F6.out.set5 (blk_lt F5.out.x5) X8.out n2 s2 z2 q2 hq6 hB6
  case rest =>
    obtain ⟨W, p, B', mm', hW, rfl, X8, X2d, X5d, B6, HP, HQ⟩ := hcut
    subst hW
    have HNE := Aside0.mk HP.out.1
    have HNE5 := Aside0.mk HP.out.2
    clear F5 hn8 hn9 H5 r0 R6 hO7 RU hcut1 hcut2
    by_cases hq : q2 = 0
    rotate_left
    · have HP := HO.out
      rw [if_pos (show q2 ≠ 0 from hq)] at HP
      subst HP
      have hqb : (q2 != 0) = true := by simpa using hq
      clear hq HO
      have r0 := (blk_cell X8.out 0).trans rfl
      have r1 := (blk_cell X8.out 1).trans rfl
      have r2 := (blk_cell X8.out 2).trans rfl
      have r3 := (blk_cell X8.out 3).trans rfl
      have r4 := (blk_cell X8.out 4).trans rfl
      go_wp2
      clear r0 r1 r2 r3 r4
      have r0 := (blk_cell X8.out 0).trans rfl
      have r1 := (blk_cell X8.out 1).trans rfl
      have r2 := (blk_cell X8.out 2).trans rfl
      have r3 := (blk_cell X8.out 3).trans rfl
      have r4 := (blk_cell X8.out 4).trans rfl
      have q0 := (blk_cell X2d.out 0).trans rfl
      have q1 := (blk_cell X2d.out 1).trans rfl
      have q2 := (blk_cell X2d.out 2).trans rfl
      have q3 := (blk_cell X2d.out 3).trans rfl
      have y0 := blk_frozen X2d.out 0
      have y1 := blk_frozen X2d.out 1
      have y2 := blk_frozen X2d.out 2
      have y3 := blk_frozen X2d.out 3
      have XF := Aside0.mk (blk_far (blk_far (blk_far (blk_far X8.out (p := ⟨w.heap.size, 0, none⟩) (fun e => HNE.out e) (.int .i64 0)) (p := ⟨w.heap.size, 1, none⟩) (fun e => HNE.out e) (.int .i64 0)) (p := ⟨w.heap.size, 2, none⟩) (fun e => HNE.out e) (.int .i64 0)) (p := ⟨w.heap.size, 3, none⟩) (fun e => HNE.out e) (.slice none 0 0))
      have s0 := (blk_cell XF.out 0).trans rfl
      have s1 := (blk_cell XF.out 1).trans rfl
      have s2 := (blk_cell XF.out 2).trans rfl
      have s3 := (blk_cell XF.out 3).trans rfl
      have s4 := (blk_cell XF.out 4).trans rfl
      have hne := HNE.out
      have XR : Aside0 (((((W.setCell ⟨w.heap.size, 0, none⟩ (.int .i64 0)).setCell ⟨w.heap.size, 1, none⟩ (.int .i64 0)).setCell ⟨w.heap.size, 2, none⟩ (.int .i64 0)).setCell ⟨w.heap.size, 3, none⟩ (.slice none 0 0)).drew.heap[w.heap.size]? = some (.cells #[.int .i64 0, .int .i64 0, .int .i64 0, .slice none 0 0] 91 (0, 0))) := ⟨(blk_set (blk_set (blk_set (blk_set X2d.out 0 (.int .i64 0)) 1 (.int .i64 0)) 2 (.int .i64 0)) 3 (.slice none 0 0)).trans (by simp)⟩
      have BR : Aside0 (Below w.heap.size w ((((W.setCell ⟨w.heap.size, 0, none⟩ (.int .i64 0)).setCell ⟨w.heap.size, 1, none⟩ (.int .i64 0)).setCell ⟨w.heap.size, 2, none⟩ (.int .i64 0)).setCell ⟨w.heap.size, 3, none⟩ (.slice none 0 0)).drew) := ⟨(((((B6.out.setCell (p := ⟨w.heap.size, 0, none⟩) (Nat.le_refl _) (.int .i64 0)).setCell (p := ⟨w.heap.size, 1, none⟩) (Nat.le_refl _) (.int .i64 0)).setCell (p := ⟨w.heap.size, 2, none⟩) (Nat.le_refl _) (.int .i64 0)).setCell (p := ⟨w.heap.size, 3, none⟩) (Nat.le_refl _) (.slice none 0 0))).drew⟩
      go_region
      go_wp2
      exact bodyPost_ret (results_ctt (fn := Try.f131) (p := 2) (u := 3) (v := 4) (ty := 91) rfl _ _ w.heap.size 91 #[.int .i64 0, .int .i64 0, .int .i64 0, .slice none 0 0] (0, 0) _ rfl XR.out Try.underlying91 rfl (by kernel_rfl)) rfl ⟨none, 0, rfl, Nat.le_refl _, fun _ _ => Kd.C_nil _ _, BR.out⟩
    · subst hq
      rw [if_neg (show ¬ (0 : Int) ≠ 0 from fun h => h rfl)] at HO
      have HP := HO.out
      subst HP
      clear HO
      have r0 := (blk_cell X8.out 0).trans rfl
      have r1 := (blk_cell X8.out 1).trans rfl
      have r2 := (blk_cell X8.out 2).trans rfl
      have r3 := (blk_cell X8.out 3).trans rfl
      have r4 := (blk_cell X8.out 4).trans rfl
      have e3_ := (blk_cell X5d.out 3).trans rfl
      have f3_ := blk_frozen X5d.out 3
      go_wp2
      clear r0 r1 r2 r3 r4 e3_ f3_
      have XC := Aside0.mk (HRW.out B' HQ.out.2)
      have X2e := Aside0.mk (blk_far X2d.out (p := ⟨w.heap.size + 1, 3, none⟩) (by show w.heap.size ≠ w.heap.size + 1; omega) (.slice B' raw2.length mm'))
      have X5e := Aside0.mk (((blk_set X5d.out 3 (.slice B' raw2.length mm'))).trans (show some (Obj.cells _ 91 (0, 0)) = some (.cells #[.int .i64 1, .int .i64 0, .int .i64 0, .slice B' raw2.length mm'] 91 (0, 0)) by simp))
      have X8e := Aside0.mk (blk_far X8.out (p := ⟨w.heap.size + 1, 3, none⟩) (fun e => HNE5.out e) (.slice B' raw2.length mm'))
      have B7 := Aside0.mk (B6.out.setCell (p := ⟨w.heap.size + 1, 3, none⟩) (by show w.heap.size ≤ w.heap.size + 1; omega) (.slice B' raw2.length mm'))
      generalize (W.setCell ⟨w.heap.size + 1, 3, none⟩ (.slice B' raw2.length mm')) = w7 at *
      clear X2d X5d X8 B6
      have e0 := (blk_cell X5e.out 0).trans rfl
      have e1 := (blk_cell X5e.out 1).trans rfl
      have e2 := (blk_cell X5e.out 2).trans rfl
      have e3 := (blk_cell X5e.out 3).trans rfl
      have r0 := (blk_cell X8e.out 0).trans rfl
      have r1 := (blk_cell X8e.out 1).trans rfl
      have r2 := (blk_cell X8e.out 2).trans rfl
      have r3 := (blk_cell X8e.out 3).trans rfl
      have r4 := (blk_cell X8e.out 4).trans rfl
      have q0 := (blk_cell X2e.out 0).trans rfl
      have q1 := (blk_cell X2e.out 1).trans rfl
      have q2 := (blk_cell X2e.out 2).trans rfl
      have q3 := (blk_cell X2e.out 3).trans rfl
      have y0 := blk_frozen X2e.out 0
      have y1 := blk_frozen X2e.out 1
      have y2 := blk_frozen X2e.out 2
      have y3 := blk_frozen X2e.out 3
      have XF := Aside0.mk (blk_far (blk_far (blk_far (blk_far X8e.out (p := ⟨w.heap.size, 0, none⟩) (fun e => HNE.out e) (.int .i64 1)) (p := ⟨w.heap.size, 1, none⟩) (fun e => HNE.out e) (.int .i64 0)) (p := ⟨w.heap.size, 2, none⟩) (fun e => HNE.out e) (.int .i64 0)) (p := ⟨w.heap.size, 3, none⟩) (fun e => HNE.out e) (.slice B' raw2.length mm'))
      have s0 := (blk_cell XF.out 0).trans rfl
      have s1 := (blk_cell XF.out 1).trans rfl
      have s2 := (blk_cell XF.out 2).trans rfl
      have s3 := (blk_cell XF.out 3).trans rfl
      have s4 := (blk_cell XF.out 4).trans rfl
      have hne := HNE.out
      have XR : Aside0 (((((w7.setCell ⟨w.heap.size, 0, none⟩ (.int .i64 1)).setCell ⟨w.heap.size, 1, none⟩ (.int .i64 0)).setCell ⟨w.heap.size, 2, none⟩ (.int .i64 0)).setCell ⟨w.heap.size, 3, none⟩ (.slice B' raw2.length mm')).drew.heap[w.heap.size]? = some (.cells #[.int .i64 1, .int .i64 0, .int .i64 0, .slice B' raw2.length mm'] 91 (0, 0))) := ⟨(blk_set (blk_set (blk_set (blk_set X2e.out 0 (.int .i64 1)) 1 (.int .i64 0)) 2 (.int .i64 0)) 3 (.slice B' raw2.length mm')).trans (by simp)⟩
      have BR : Aside0 (Below w.heap.size w ((((w7.setCell ⟨w.heap.size, 0, none⟩ (.int .i64 1)).setCell ⟨w.heap.size, 1, none⟩ (.int .i64 0)).setCell ⟨w.heap.size, 2, none⟩ (.int .i64 0)).setCell ⟨w.heap.size, 3, none⟩ (.slice B' raw2.length mm')).drew) := ⟨(((((B7.out.setCell (p := ⟨w.heap.size, 0, none⟩) (Nat.le_refl _) (.int .i64 1)).setCell (p := ⟨w.heap.size, 1, none⟩) (Nat.le_refl _) (.int .i64 0)).setCell (p := ⟨w.heap.size, 2, none⟩) (Nat.le_refl _) (.int .i64 0)).setCell (p := ⟨w.heap.size, 3, none⟩) (Nat.le_refl _) (.slice B' raw2.length mm'))).drew⟩
      go_region
      go_wp2
      exact bodyPost_ret (results_ctt (fn := Try.f131) (p := 2) (u := 3) (v := 4) (ty := 91) rfl _ _ w.heap.size 91 #[.int .i64 1, .int .i64 0, .int .i64 0, .slice B' raw2.length mm'] (0, 0) _ rfl XR.out Try.underlying91 rfl (by kernel_rfl)) rfl ⟨B', mm', rfl, HQ.out.1, XC.out, BR.out⟩
end Go.Proofs.Ytalpemoodollpaa.P
/- The walk of damperref29.one. -/
namespace Go.Proofs.Ytalpemoodollpaa.P
open Go.RowKit Go.Proofs.YtalpemoodollpaaW.PrintWords Go.Proofs.YtalpemoodollpaaW.PrintLast Go.Proofs.YtalpemoodollpaaW.PrintMore
set_option linter.unusedVariables false
set_option linter.unusedSimpArgs false
set_option maxRecDepth 100000 in
set_option maxHeartbeats 1000000 in
theorem one_calls (A0 : Option Addr) (c0 : Nat) (l : List Int) (w : World) (hr0 : Kd.C (Kd.int .u8) w A0 l.length l) (hc0 : l.length ≤ c0) (hl : l.length ≤ 140737488355328) (hb : Byt l) :
    Calls Try.prog 131 #[.slice A0 l.length c0] w (OnePost w A0 l (oneF l)) := by
  have hu91 := Try.underlying91
  have HR := Aside0.mk hr0
  have HY := Aside0.mk hb
  have HC := Aside0.mk hc0
  have X2 := Aside0.mk (blk_new w (.cells #[.int .i64 0, .int .i64 0, .int .i64 0, .slice none 0 0] 91))
  have B0 := Aside0.mk (below_alloc (Below.refl w.heap.size w) (.cells #[.int .i64 0, .int .i64 0, .int .i64 0, .slice none 0 0] 91))
  cases l with
  | nil =>
    clear hr0 hb hc0 hl
    go_enter Try.func131, Try.ntmps131
    go_wp2
    exact bodyPost_ret (results_ctt (fn := Try.f131) (p := 2) (u := 3) (v := 4) (ty := 91) rfl _ _ w.heap.size 91 #[.int .i64 0, .int .i64 0, .int .i64 0, .slice none 0 0] (0, 0) _ rfl X2.out Try.underlying91 rfl (by kernel_rfl)) rfl ⟨none, 0, rfl, Nat.le_refl _, fun _ _ => Kd.C_nil _ _, B0.out⟩
  | cons k t =>
    by_cases h1 : k = 1
    · subst h1
      exact one1_calls A0 c0 t w HR.out HC.out hl HY.out
    by_cases h4 : k = 4
    · subst h4
      exact one4_calls A0 c0 t w HR.out HC.out hl HY.out
    have hx := (Byt.cons hb).1
    have hx0 := hx.1
    have hx1 := hx.2
    obtain ⟨_, _, had⟩ := Kd.reads_of_C (d := (0 : Int)) (Kd.C_below hr0 B0.out)
    obtain ⟨ad, rfl, hcell⟩ := had (by simp)
    have h0 := hcell 0 (by simp)
    have h00 : (w.alloc (.cells #[.int .i64 0, .int .i64 0, .int .i64 0, .slice none 0 0] 91)).cell? ad = some (.int .u8 k) := by
      rw [addr0_] at h0
      exact h0
    clear hcell hr0 hb hx had h0
    obtain ⟨A1, hcut, _, hR1⟩ := cut_ (some ad) (k :: t).length c0 1 (by simp)
    have CT := Aside0.mk (hR1 w (k :: t) hc0 HR.out)
    have hcut1 : ∀ W : World, (Instr.slice 30 (.slice (some ad) (k :: t).length c0) (some (.int .i64 1)) none none).run Try.prog W = .ok (.slice A1 t.length (c0 - 1)) W := fun W => hcut W
    have hlen : (0 : Int) < ((k :: t).length : Int) := by simp
    have hlen2 : 0 < (k :: t).length := by simp
    have hmax : ((k :: t).length : Int) ≤ 140737488355328 := by omega
    have HLT := Aside0.mk (show t.length ≤ c0 - 1 by simp at hc0; omega)
    have CT2 := Aside0.mk (show Kd.C (Kd.int .u8) w A1 t.length t from CT.out)
    clear hcut hR1 CT hc0 hl
    · have h1b : (k == 1) = false := by simpa using h1
      · have h4b : (k == 4) = false := by simpa using h4
        by_cases h23 : k = 2 ∨ k = 3
        · by_cases hk : k = 2
          · clear h23 h1 h4
            subst hk
            have ho : oneF (2 :: t) = (⟨2, 0, (rdInt t).2.1, []⟩, 1 + (rdInt t).2.2.2.1, (rdInt t).2.2.2.2) := rfl
            rw [ho]
            clear ho
            have X3 := Aside0.mk (blk_alloc X2.out (.cells #[.int .i64 2, .int .i64 0, .int .i64 0, .slice none 0 0] 91))
            have B3 := Aside0.mk (below_alloc B0.out (.cells #[.int .i64 2, .int .i64 0, .int .i64 0, .slice none 0 0] 91))
            have X5 := Aside0.mk (show ((w.alloc (.cells #[.int .i64 0, .int .i64 0, .int .i64 0, .slice none 0 0] 91)).alloc (.cells #[.int .i64 2, .int .i64 0, .int .i64 0, .slice none 0 0] 91)).heap[w.heap.size + 1]? = some (.cells #[.int .i64 2, .int .i64 0, .int .i64 0, .slice none 0 0] 91 (0, 0)) from by have h := blk_new (w.alloc (.cells #[.int .i64 0, .int .i64 0, .int .i64 0, .slice none 0 0] 91)) (.cells #[.int .i64 2, .int .i64 0, .int .i64 0, .slice none 0 0] 91); rw [World.size_alloc] at h; exact h)
            have CX := Aside0.mk (RD.int A1 (c0 - 1) t _ (Kd.C_below CT2.out B3.out) HLT.out (Byt.cons HY.out).2)
            unfold RD at CX
            obtain ⟨_, _, g3, g4, _⟩ := rd_int t (Byt.cons HY.out).2
            have HG4 := Aside0.mk (show (rdInt t).2.2.2.1 ≤ ((2 :: t).length : Int) by simp; omega)
            clear g4
            generalize (2 :: t).length = N at *
            generalize rdInt t = T at *
            obtain ⟨tn, sg, raw, z, q⟩ := T
            dsimp only at *
            have g4 := HG4.out
            go_enter Try.func131, Try.ntmps131
            go_wp2_with fail
            refine CX.out.mono ?_
            rintro e w4 ⟨B, mm, rfl, hq, hBA, hb4⟩
            have X2b := Aside0.mk ((hb4.block _ (blk_lt X3.out)).trans X3.out)
            have X5b := Aside0.mk ((hb4.block _ (blk_lt X5.out)).trans X5.out)
            have B4 := Aside0.mk (below_then B3.out B3.out.size hb4)
            clear hq hBA hb4 CX X3 X5 B3
            have X5a := Aside0.mk (blk_alloc X5b.out (.cells #[.int .u64 tn, .int .i64 sg, .slice B raw.length mm, .int .i64 z, .int .i64 q] 81))
            have v2_ := (blk_cell X5a.out 2).trans rfl
            have f2_ := blk_frozen X5a.out 2
            have hlt4 := blk_lt X5b.out
            have hsz4 : ∀ (u : Value) (a : Addr), (w4.setCell a u).heap.size = w4.heap.size := fun u a => by simp [World.setCell]
            have X5c : Aside0 (((w4.setCell ⟨w.heap.size + 1, 2, none⟩ (.int .i64 sg)).alloc (.cells #[.int .u64 tn, .int .i64 sg, .slice B raw.length mm, .int .i64 z, .int .i64 q] 81)).heap[w.heap.size + 1]? = some (.cells #[.int .i64 2, .int .i64 0, .int .i64 sg, .slice none 0 0] 91 (0, 0))) := ⟨blk_alloc ((blk_set X5b.out 2 (.int .i64 sg)).trans (by simp)) _⟩
            have X2c : Aside0 (((w4.setCell ⟨w.heap.size + 1, 2, none⟩ (.int .i64 sg)).alloc (.cells #[.int .u64 tn, .int .i64 sg, .slice B raw.length mm, .int .i64 z, .int .i64 q] 81)).heap[w.heap.size]? = some (.cells #[.int .i64 0, .int .i64 0, .int .i64 0, .slice none 0 0] 91 (0, 0))) := ⟨blk_alloc (blk_far X2b.out (by show w.heap.size ≠ w.heap.size + 1; omega) _) _⟩
            have X10 : Aside0 (((w4.setCell ⟨w.heap.size + 1, 2, none⟩ (.int .i64 sg)).alloc (.cells #[.int .u64 tn, .int .i64 sg, .slice B raw.length mm, .int .i64 z, .int .i64 q] 81)).heap[w4.heap.size]? = some (.cells #[.int .u64 tn, .int .i64 sg, .slice B raw.length mm, .int .i64 z, .int .i64 q] 81 (0, 0))) := ⟨by have h := blk_new (w4.setCell ⟨w.heap.size + 1, 2, none⟩ (.int .i64 sg)) (.cells #[.int .u64 tn, .int .i64 sg, .slice B raw.length mm, .int .i64 z, .int .i64 q] 81); rw [show (w4.setCell ⟨w.heap.size + 1, 2, none⟩ (.int .i64 sg)).heap.size = w4.heap.size by simp [World.setCell]] at h; exact h⟩
            have B5 : Aside0 (Below w.heap.size w ((w4.setCell ⟨w.heap.size + 1, 2, none⟩ (.int .i64 sg)).alloc (.cells #[.int .u64 tn, .int .i64 sg, .slice B raw.length mm, .int .i64 z, .int .i64 q] 81))) := ⟨below_alloc (B4.out.setCell (p := ⟨w.heap.size + 1, 2, none⟩) (by show w.heap.size ≤ w.heap.size + 1; omega) _) _⟩
            have HNE := Aside0.mk (show w4.heap.size ≠ w.heap.size by omega)
            have hmx : N ≤ 140737488355328 := by omega
            go_wp2
            generalize ((w4.setCell ⟨w.heap.size + 1, 2, none⟩ (.int .i64 sg)).alloc (.cells #[.int .u64 tn, .int .i64 sg, .slice B raw.length mm, .int .i64 z, .int .i64 q] 81)) = w5 at *
            clear v2_ f2_ X2b X5b X5a B4 hlt4 hsz4
            have e0 := (blk_cell X5c.out 0).trans rfl
            have e1 := (blk_cell X5c.out 1).trans rfl
            have e2 := (blk_cell X5c.out 2).trans rfl
            have e3 := (blk_cell X5c.out 3).trans rfl
            have r0 := (blk_cell X10.out 0).trans rfl
            have r1 := (blk_cell X10.out 1).trans rfl
            have r2 := (blk_cell X10.out 2).trans rfl
            have r3 := (blk_cell X10.out 3).trans rfl
            have r4 := (blk_cell X10.out 4).trans rfl
            have q0 := (blk_cell X2c.out 0).trans rfl
            have q1 := (blk_cell X2c.out 1).trans rfl
            have q2 := (blk_cell X2c.out 2).trans rfl
            have q3 := (blk_cell X2c.out 3).trans rfl
            have y0 := blk_frozen X2c.out 0
            have y1 := blk_frozen X2c.out 1
            have y2 := blk_frozen X2c.out 2
            have y3 := blk_frozen X2c.out 3
            have XF := Aside0.mk (blk_far (blk_far (blk_far (blk_far X10.out (p := ⟨w.heap.size, 0, none⟩) (fun e => HNE.out e) (.int .i64 (2))) (p := ⟨w.heap.size, 1, none⟩) (fun e => HNE.out e) (.int .i64 (0))) (p := ⟨w.heap.size, 2, none⟩) (fun e => HNE.out e) (.int .i64 (sg))) (p := ⟨w.heap.size, 3, none⟩) (fun e => HNE.out e) (.slice none 0 0))
            have s0 := (blk_cell XF.out 0).trans rfl
            have s1 := (blk_cell XF.out 1).trans rfl
            have s2 := (blk_cell XF.out 2).trans rfl
            have s3 := (blk_cell XF.out 3).trans rfl
            have s4 := (blk_cell XF.out 4).trans rfl
            have hne := HNE.out
            have XR : Aside0 (((((w5.setCell ⟨w.heap.size, 0, none⟩ (.int .i64 (2))).setCell ⟨w.heap.size, 1, none⟩ (.int .i64 (0))).setCell ⟨w.heap.size, 2, none⟩ (.int .i64 (sg))).setCell ⟨w.heap.size, 3, none⟩ (.slice none 0 0)).drew.heap[w.heap.size]? = some (.cells #[.int .i64 (2), .int .i64 (0), .int .i64 (sg), .slice none 0 0] 91 (0, 0))) := ⟨(blk_set (blk_set (blk_set (blk_set X2c.out 0 (.int .i64 (2))) 1 (.int .i64 (0))) 2 (.int .i64 (sg))) 3 (.slice none 0 0)).trans (by simp)⟩
            have BR : Aside0 (Below w.heap.size w ((((w5.setCell ⟨w.heap.size, 0, none⟩ (.int .i64 (2))).setCell ⟨w.heap.size, 1, none⟩ (.int .i64 (0))).setCell ⟨w.heap.size, 2, none⟩ (.int .i64 (sg))).setCell ⟨w.heap.size, 3, none⟩ (.slice none 0 0)).drew) := ⟨(((((B5.out.setCell (p := ⟨w.heap.size, 0, none⟩) (Nat.le_refl _) (.int .i64 (2))).setCell (p := ⟨w.heap.size, 1, none⟩) (Nat.le_refl _) (.int .i64 (0))).setCell (p := ⟨w.heap.size, 2, none⟩) (Nat.le_refl _) (.int .i64 (sg))).setCell (p := ⟨w.heap.size, 3, none⟩) (Nat.le_refl _) (.slice none 0 0))).drew⟩
            go_region
            go_wp2
            exact bodyPost_ret (results_ctt (fn := Try.f131) (p := 2) (u := 3) (v := 4) (ty := 91) rfl _ _ w.heap.size 91 #[.int .i64 (2), .int .i64 (0), .int .i64 (sg), .slice none 0 0] (0, 0) _ rfl XR.out Try.underlying91 rfl (by kernel_rfl)) rfl ⟨none, 0, rfl, Nat.le_refl _, fun _ _ => Kd.C_nil _ _, BR.out⟩
          · replace hk : k = 3 := h23.resolve_left hk
            clear h23 h1 h4
            subst hk
            have ho : oneF (3 :: t) = (⟨3, 0, (rdInt t).2.1, []⟩, 1 + (rdInt t).2.2.2.1, (rdInt t).2.2.2.2) := rfl
            rw [ho]
            clear ho
            have X3 := Aside0.mk (blk_alloc X2.out (.cells #[.int .i64 3, .int .i64 0, .int .i64 0, .slice none 0 0] 91))
            have B3 := Aside0.mk (below_alloc B0.out (.cells #[.int .i64 3, .int .i64 0, .int .i64 0, .slice none 0 0] 91))
            have X5 := Aside0.mk (show ((w.alloc (.cells #[.int .i64 0, .int .i64 0, .int .i64 0, .slice none 0 0] 91)).alloc (.cells #[.int .i64 3, .int .i64 0, .int .i64 0, .slice none 0 0] 91)).heap[w.heap.size + 1]? = some (.cells #[.int .i64 3, .int .i64 0, .int .i64 0, .slice none 0 0] 91 (0, 0)) from by have h := blk_new (w.alloc (.cells #[.int .i64 0, .int .i64 0, .int .i64 0, .slice none 0 0] 91)) (.cells #[.int .i64 3, .int .i64 0, .int .i64 0, .slice none 0 0] 91); rw [World.size_alloc] at h; exact h)
            have CX := Aside0.mk (RD.int A1 (c0 - 1) t _ (Kd.C_below CT2.out B3.out) HLT.out (Byt.cons HY.out).2)
            unfold RD at CX
            obtain ⟨_, _, g3, g4, _⟩ := rd_int t (Byt.cons HY.out).2
            have HG4 := Aside0.mk (show (rdInt t).2.2.2.1 ≤ ((3 :: t).length : Int) by simp; omega)
            clear g4
            generalize (3 :: t).length = N at *
            generalize rdInt t = T at *
            obtain ⟨tn, sg, raw, z, q⟩ := T
            dsimp only at *
            have g4 := HG4.out
            go_enter Try.func131, Try.ntmps131
            go_wp2_with fail
            refine CX.out.mono ?_
            rintro e w4 ⟨B, mm, rfl, hq, hBA, hb4⟩
            have X2b := Aside0.mk ((hb4.block _ (blk_lt X3.out)).trans X3.out)
            have X5b := Aside0.mk ((hb4.block _ (blk_lt X5.out)).trans X5.out)
            have B4 := Aside0.mk (below_then B3.out B3.out.size hb4)
            clear hq hBA hb4 CX X3 X5 B3
            have X5a := Aside0.mk (blk_alloc X5b.out (.cells #[.int .u64 tn, .int .i64 sg, .slice B raw.length mm, .int .i64 z, .int .i64 q] 81))
            have v2_ := (blk_cell X5a.out 2).trans rfl
            have f2_ := blk_frozen X5a.out 2
            have hlt4 := blk_lt X5b.out
            have hsz4 : ∀ (u : Value) (a : Addr), (w4.setCell a u).heap.size = w4.heap.size := fun u a => by simp [World.setCell]
            have X5c : Aside0 (((w4.setCell ⟨w.heap.size + 1, 2, none⟩ (.int .i64 sg)).alloc (.cells #[.int .u64 tn, .int .i64 sg, .slice B raw.length mm, .int .i64 z, .int .i64 q] 81)).heap[w.heap.size + 1]? = some (.cells #[.int .i64 3, .int .i64 0, .int .i64 sg, .slice none 0 0] 91 (0, 0))) := ⟨blk_alloc ((blk_set X5b.out 2 (.int .i64 sg)).trans (by simp)) _⟩
            have X2c : Aside0 (((w4.setCell ⟨w.heap.size + 1, 2, none⟩ (.int .i64 sg)).alloc (.cells #[.int .u64 tn, .int .i64 sg, .slice B raw.length mm, .int .i64 z, .int .i64 q] 81)).heap[w.heap.size]? = some (.cells #[.int .i64 0, .int .i64 0, .int .i64 0, .slice none 0 0] 91 (0, 0))) := ⟨blk_alloc (blk_far X2b.out (by show w.heap.size ≠ w.heap.size + 1; omega) _) _⟩
            have X10 : Aside0 (((w4.setCell ⟨w.heap.size + 1, 2, none⟩ (.int .i64 sg)).alloc (.cells #[.int .u64 tn, .int .i64 sg, .slice B raw.length mm, .int .i64 z, .int .i64 q] 81)).heap[w4.heap.size]? = some (.cells #[.int .u64 tn, .int .i64 sg, .slice B raw.length mm, .int .i64 z, .int .i64 q] 81 (0, 0))) := ⟨by have h := blk_new (w4.setCell ⟨w.heap.size + 1, 2, none⟩ (.int .i64 sg)) (.cells #[.int .u64 tn, .int .i64 sg, .slice B raw.length mm, .int .i64 z, .int .i64 q] 81); rw [show (w4.setCell ⟨w.heap.size + 1, 2, none⟩ (.int .i64 sg)).heap.size = w4.heap.size by simp [World.setCell]] at h; exact h⟩
            have B5 : Aside0 (Below w.heap.size w ((w4.setCell ⟨w.heap.size + 1, 2, none⟩ (.int .i64 sg)).alloc (.cells #[.int .u64 tn, .int .i64 sg, .slice B raw.length mm, .int .i64 z, .int .i64 q] 81))) := ⟨below_alloc (B4.out.setCell (p := ⟨w.heap.size + 1, 2, none⟩) (by show w.heap.size ≤ w.heap.size + 1; omega) _) _⟩
            have HNE := Aside0.mk (show w4.heap.size ≠ w.heap.size by omega)
            have hmx : N ≤ 140737488355328 := by omega
            go_wp2
            generalize ((w4.setCell ⟨w.heap.size + 1, 2, none⟩ (.int .i64 sg)).alloc (.cells #[.int .u64 tn, .int .i64 sg, .slice B raw.length mm, .int .i64 z, .int .i64 q] 81)) = w5 at *
            clear v2_ f2_ X2b X5b X5a B4 hlt4 hsz4
            have e0 := (blk_cell X5c.out 0).trans rfl
            have e1 := (blk_cell X5c.out 1).trans rfl
            have e2 := (blk_cell X5c.out 2).trans rfl
            have e3 := (blk_cell X5c.out 3).trans rfl
            have r0 := (blk_cell X10.out 0).trans rfl
            have r1 := (blk_cell X10.out 1).trans rfl
            have r2 := (blk_cell X10.out 2).trans rfl
            have r3 := (blk_cell X10.out 3).trans rfl
            have r4 := (blk_cell X10.out 4).trans rfl
            have q0 := (blk_cell X2c.out 0).trans rfl
            have q1 := (blk_cell X2c.out 1).trans rfl
            have q2 := (blk_cell X2c.out 2).trans rfl
            have q3 := (blk_cell X2c.out 3).trans rfl
            have y0 := blk_frozen X2c.out 0
            have y1 := blk_frozen X2c.out 1
            have y2 := blk_frozen X2c.out 2
            have y3 := blk_frozen X2c.out 3
            have XF := Aside0.mk (blk_far (blk_far (blk_far (blk_far X10.out (p := ⟨w.heap.size, 0, none⟩) (fun e => HNE.out e) (.int .i64 (3))) (p := ⟨w.heap.size, 1, none⟩) (fun e => HNE.out e) (.int .i64 (0))) (p := ⟨w.heap.size, 2, none⟩) (fun e => HNE.out e) (.int .i64 (sg))) (p := ⟨w.heap.size, 3, none⟩) (fun e => HNE.out e) (.slice none 0 0))
            have s0 := (blk_cell XF.out 0).trans rfl
            have s1 := (blk_cell XF.out 1).trans rfl
            have s2 := (blk_cell XF.out 2).trans rfl
            have s3 := (blk_cell XF.out 3).trans rfl
            have s4 := (blk_cell XF.out 4).trans rfl
            have hne := HNE.out
            have XR : Aside0 (((((w5.setCell ⟨w.heap.size, 0, none⟩ (.int .i64 (3))).setCell ⟨w.heap.size, 1, none⟩ (.int .i64 (0))).setCell ⟨w.heap.size, 2, none⟩ (.int .i64 (sg))).setCell ⟨w.heap.size, 3, none⟩ (.slice none 0 0)).drew.heap[w.heap.size]? = some (.cells #[.int .i64 (3), .int .i64 (0), .int .i64 (sg), .slice none 0 0] 91 (0, 0))) := ⟨(blk_set (blk_set (blk_set (blk_set X2c.out 0 (.int .i64 (3))) 1 (.int .i64 (0))) 2 (.int .i64 (sg))) 3 (.slice none 0 0)).trans (by simp)⟩
            have BR : Aside0 (Below w.heap.size w ((((w5.setCell ⟨w.heap.size, 0, none⟩ (.int .i64 (3))).setCell ⟨w.heap.size, 1, none⟩ (.int .i64 (0))).setCell ⟨w.heap.size, 2, none⟩ (.int .i64 (sg))).setCell ⟨w.heap.size, 3, none⟩ (.slice none 0 0)).drew) := ⟨(((((B5.out.setCell (p := ⟨w.heap.size, 0, none⟩) (Nat.le_refl _) (.int .i64 (3))).setCell (p := ⟨w.heap.size, 1, none⟩) (Nat.le_refl _) (.int .i64 (0))).setCell (p := ⟨w.heap.size, 2, none⟩) (Nat.le_refl _) (.int .i64 (sg))).setCell (p := ⟨w.heap.size, 3, none⟩) (Nat.le_refl _) (.slice none 0 0))).drew⟩
            go_region
            go_wp2
            exact bodyPost_ret (results_ctt (fn := Try.f131) (p := 2) (u := 3) (v := 4) (ty := 91) rfl _ _ w.heap.size 91 #[.int .i64 (3), .int .i64 (0), .int .i64 (sg), .slice none 0 0] (0, 0) _ rfl XR.out Try.underlying91 rfl (by kernel_rfl)) rfl ⟨none, 0, rfl, Nat.le_refl _, fun _ _ => Kd.C_nil _ _, BR.out⟩
        · have ho : oneF (k :: t) = (⟨0, 0, 0, []⟩, 0, 4) := by
            unfold oneF
            simp only []
            rw [if_neg h1, if_neg h4, if_neg h23]
          rw [ho]
          have h2b : (k == 2) = false := beq_false_of_ne (fun e => h23 (.inl e))
          have h3b : (k == 3) = false := beq_false_of_ne (fun e => h23 (.inr e))
          clear h1 h4 h23 ho hcut1
          generalize (k :: t).length = N at *
          have X3 := Aside0.mk (blk_alloc X2.out (.cells #[.int .i64 k, .int .i64 0, .int .i64 0, .slice none 0 0] 91))
          have B3 := Aside0.mk (below_alloc B0.out (.cells #[.int .i64 k, .int .i64 0, .int .i64 0, .slice none 0 0] 91))
          go_enter Try.func131, Try.ntmps131
          go_wp2
          exact bodyPost_ret (results_ctt (fn := Try.f131) (p := 2) (u := 3) (v := 4) (ty := 91) rfl _ _ w.heap.size 91 #[.int .i64 0, .int .i64 0, .int .i64 0, .slice none 0 0] (0, 0) _ rfl X3.out Try.underlying91 rfl (by kernel_rfl)) rfl ⟨none, 0, rfl, Nat.le_refl _, fun _ _ => Kd.C_nil _ _, B3.out⟩
end Go.Proofs.Ytalpemoodollpaa.P
/- script.Read. -/
namespace Go.Proofs.Ytalpemoodollpaa.P
open Go.RowKit Go.Proofs.YtalpemoodollpaaW.PrintWords Go.Proofs.YtalpemoodollpaaW.PrintLast Go.Proofs.YtalpemoodollpaaW.PrintMore
set_option linter.unusedVariables false
set_option linter.unusedSimpArgs false
def stepVal (T : (Int × Int × Int × List Int) × Bool × (List Int × Int)) : S91 := ⟨T.1.1, T.1.2.1, T.1.2.2.1, T.1.2.2.2⟩
/-- The steps, from what is left on. -/
def scrGo : Nat → List Int × Int → List S91 → List S91 × Int
  | 0, s, acc => if s.2 ≠ 0 then ([], s.2) else if 0 < s.1.length then ([], 4) else (acc, 0)
  | k + 1, s, acc => if (stepF s).2.2.2 ≠ 0 then ([], (stepF s).2.2.2) else if (stepF s).2.1 = false then ([], 4) else scrGo k (stepF s).2.2 (acc ++ [stepVal (stepF s)])
def scrRead (bs : List Int) : List S91 × Int := if 2000 < (rNum (bs, 0)).1 then ([], 4) else scrGo (rNum (bs, 0)).1.toNat (rNum (bs, 0)).2 []
def ReadPost (w : World) (G : List S91 × Int) (e : Ending) (w' : World) : Prop :=
  ∃ v, e = .returned (.tuple #[v, .int .i64 G.2]) ∧ Kd.R k91 91 w' w.heap.size (fun _ => True) v G.1 ∧ Below w.heap.size w w'
theorem ReadPost.nil {w W : World} {f : Int} (h : Below w.heap.size w W) : ReadPost w ([], f) (.returned (.tuple #[.slice none 0 0, .int .i64 f])) W := ⟨_, rfl, Kd.R_nil _ _ _ _ _, h⟩
theorem rs_len {W : World} {g : Nat} {row : Option Nat} {s : List Int × Int} (h : RS W g row s) : s.1.length ≤ 9223372036854775807 := by
  obtain ⟨A, c, _, _, hC, _⟩ := h
  exact C_bound hC
set_option maxRecDepth 100000 in
set_option maxHeartbeats 2000000 in
theorem scrRead_calls (A0 : Option Addr) (c0 : Nat) (bs : List Int) (w : World) (hr0 : Kd.C (Kd.int .u8) w A0 bs.length bs) (hl : bs.length ≤ 140737488355328) (hb : Byt bs) :
    Calls Try.prog 51 #[.slice A0 bs.length c0] w (ReadPost w (scrRead bs)) := by
  have hu91 := Try.underlying91
  have HR := Aside0.mk hr0
  have HY := Aside0.mk hb
  clear hr0 hb
  generalize hG : scrRead bs = G
  unfold scrRead at hG
  have HG := Aside0.mk hG
  clear hG
  go_enter Try.func51, Try.ntmps51
  go_wp2_with fail
  go_step3
  go_wp2_with fail
  refine (octets_NewReader.calls2 A0 c0 bs w HR.out hl HY.out).mono ?_
  rintro e w1 ⟨g, row, rfl, hs, hb1, hg0, hg1, hrow⟩
  have RS1 := Aside0.mk hs
  have B1 := Aside0.mk hb1
  have HG0 := Aside0.mk hg0
  have HG1 := Aside0.mk hg1
  have HROW := Aside0.mk (show ∀ k, row = some k → w.heap.size ≤ k ∧ k < w1.heap.size from hrow)
  clear hs hb1 hg0 hg1 hrow
  go_wp2_with fail
  have CX := Aside0.mk (octets_Reader_Num.calls g row (bs, 0) w1 RS1.out)
  have nr := Aside0.mk (rNum_range (bs, 0) HY.out)
  generalize rNum (bs, 0) = T at *
  obtain ⟨n, s1⟩ := T
  try dsimp only at *
  refine CX.out.mono ?_
  rintro e w2 ⟨rfl, hp⟩
  have RS2 := Aside0.mk hp.1
  have B2 := Aside0.mk (B1.out.trans (hp.2.below B1.out.size (fun k hk => by rw [hk]; exact HG0.out)))
  have SZ2 := Aside0.mk hp.2.size
  clear hp CX
  by_cases hn : 2000 < n
  · rw [if_pos hn] at HG
    obtain rfl := HG.out
    go_wp2
    go_ret2
    exact ReadPost.nil B2.out
  · rw [if_neg hn] at HG
    have n0 := nr.out.1
    obtain ⟨n, rfl⟩ := Int.eq_ofNat_of_zero_le n0
    rw [Int.toNat_natCast] at HG
    have hn2 : (n : Int) ≤ 2000 := by omega
    clear hn n0
    go_wp2
    go_step3
    go_wp2
    go_loopw [2, 15] (fun u2 u15 wr => ∃ (j k : Nat) (s : List Int × Int) (acc : List S91), u15 = .int .u64 (j : Int) ∧ j + k = n ∧ acc.length = j ∧ Aside0 (scrGo k s acc = G) ∧ Aside0 (RS wr g row s) ∧ Aside0 (Kd.R k91 91 wr w1.heap.size (fun b => w1.heap.size ≤ b) u2 acc) ∧ Aside0 (Below w.heap.size w wr) ∧ Aside0 (w1.heap.size ≤ wr.heap.size)) (fun _ u15 _ => (n - (intOf u15).toNat))
    case atStart => exact ⟨0, n, s1, [], rfl, by omega, rfl, HG, RS2, ⟨Kd.R_nil _ _ _ _ _⟩, B2, SZ2⟩
    case round =>
      obtain ⟨j, k, s, acc, rfl, hjk, hacc, HS, HRS, HOUT, HB, HSZ⟩ := hrel
      by_cases hlt : j < n
      · obtain ⟨k, rfl⟩ : ∃ m, k = m + 1 := ⟨k - 1, by omega⟩
        have hs := HS.out
        rw [scrGo] at hs
        have HS2 := Aside0.mk hs
        have CX := Aside0.mk (scrStep_calls g row s wr HRS.out (fun b hb => by have := (HROW.out b hb).2; have := HSZ.out; omega))
        clear hs HS
        generalize stepF s = T at *
        obtain ⟨⟨x0, x1, x2, fr⟩, is, s2⟩ := T
        dsimp only [stepVal] at *
        go_wp2_with fail
        refine CX.out.mono ?_
        rintro e w3 ⟨v, rfl, hR, hp⟩
        dsimp only at hR hp ⊢
        obtain ⟨X, m, rfl⟩ := Kd.R_slice hR
        have HV3 := Aside0.mk hR
        have RS3 := Aside0.mk hp.1
        have OUT3 := Aside0.mk (Kd.R_step HOUT.out (w1 := w3) (fun b hb hlt => hp.2.block b hlt (by have := HG1.out; omega)))
        have B3 := Aside0.mk (HB.out.trans (hp.2.below HB.out.size (fun b hb => by rw [hb]; exact HG0.out)))
        have SZ3 := Aside0.mk (Nat.le_trans HSZ.out hp.2.size)
        have SW3 := Aside0.mk (show wr.heap.size ≤ w3.heap.size from hp.2.size)
        have OWN := Aside0.mk (show ∀ b, u2.ownBlock = some b → b < wr.heap.size from fun b hb => ((Kd.R_bound HOUT.out).1 b hb).2.2.1)
        have VLT := Aside0.mk (show ∀ b, (Value.slice X fr.length m).ownBlock = some b → b < w3.heap.size from fun b hb => ((Kd.R_bound hR).1 b hb).2.2.1)
        have RS4 := Aside0.mk (RS3.out.below (below_alloc (Below.refl _ _) (.cells #[.int .i64 x0, .int .i64 x1, .int .i64 x2, .slice X fr.length m] 91)))
        have OUT4 := Aside0.mk (Kd.R_alloc OUT3.out (.cells #[.int .i64 x0, .int .i64 x1, .int .i64 x2, .slice X fr.length m] 91))
        have HV4 := Aside0.mk (Kd.R_alloc HV3.out (.cells #[.int .i64 x0, .int .i64 x1, .int .i64 x2, .slice X fr.length m] 91))
        have B4 := Aside0.mk (below_alloc B3.out (.cells #[.int .i64 x0, .int .i64 x1, .int .i64 x2, .slice X fr.length m] 91))
        have BX4 := Aside0.mk (blk_new w3 (.cells #[.int .i64 x0, .int .i64 x1, .int .i64 x2, .slice X fr.length m] 91))
        have S4 := Aside0.mk (show w3.heap.size < (w3.alloc (.cells #[.int .i64 x0, .int .i64 x1, .int .i64 x2, .slice X fr.length m] 91)).heap.size by simp)
        clear hR hp HOUT HB HRS RS3 OUT3 HV3 CX
        obtain ⟨l2, f2⟩ := s2
        have FX := Aside0.mk (octets_Reader_Fault.calls g row (l2, f2) _ RS4.out)
        dsimp only at FX HS2
        by_cases hf : f2 = 0
        · subst hf
          rw [if_neg (by decide)] at HS2
          cases is with
          | false =>
            rw [if_pos rfl] at HS2
            obtain rfl := HS2.out
            go_wp2_with fail
            refine FX.out.mono ?_
            rintro e wf ⟨rfl, rfl⟩
            go_wp2
            rw [Exit.noGoto_ret]
            go_ret2
            exact ReadPost.nil B4.out
          | true =>
            rw [if_neg (by decide)] at HS2
            have OWN2 := Aside0.mk (show ∀ b, u2.ownBlock = some b → w1.heap.size ≤ b from fun b hb => OUT4.out.1 b hb)
            have SZ4 := Aside0.mk (Nat.le_trans SZ3.out (Nat.le_of_lt S4.out))
            obtain ⟨c0_, c1_, c2_, c3_⟩ : (w3.alloc (.cells #[.int .i64 x0, .int .i64 x1, .int .i64 x2, .slice X fr.length m] 91)).cell? ⟨w3.heap.size, 0, none⟩ = some (.int .i64 x0) ∧ (w3.alloc (.cells #[.int .i64 x0, .int .i64 x1, .int .i64 x2, .slice X fr.length m] 91)).cell? ⟨w3.heap.size, 1, none⟩ = some (.int .i64 x1) ∧ (w3.alloc (.cells #[.int .i64 x0, .int .i64 x1, .int .i64 x2, .slice X fr.length m] 91)).cell? ⟨w3.heap.size, 2, none⟩ = some (.int .i64 x2) ∧ (w3.alloc (.cells #[.int .i64 x0, .int .i64 x1, .int .i64 x2, .slice X fr.length m] 91)).cell? ⟨w3.heap.size, 3, none⟩ = some (.slice X fr.length m) := ⟨(blk_cell BX4.out 0).trans rfl, (blk_cell BX4.out 1).trans rfl, (blk_cell BX4.out 2).trans rfl, (blk_cell BX4.out 3).trans rfl⟩
            go_wp2_with fail
            refine FX.out.mono ?_
            rintro e wf ⟨rfl, rfl⟩
            dsimp only
            generalize hW4 : (w3.alloc (.cells #[.int .i64 x0, .int .i64 x1, .int .i64 x2, .slice X fr.length m] 91)) = W4 at *
            generalize hb3 : w3.heap.size = b3 at *
            clear hW4 hb3
            go_wp2_with (at_builtin; refine Kd.R_append k91 (w0 := W4) w1.heap.size rfl (.tmp 29) (.tmp 31) 54 91 _ 48 rfl Try.underlying54 info91 (by rfl) (by decide) (by decide) u2 acc ⟨x0, x1, x2, fr⟩ [.int .i64 x0, .int .i64 x1, .int .i64 x2, .slice X fr.length m] (fun b => w1.heap.size ≤ b) (fun b => wr.heap.size < b) rfl rfl (k91_mkM W4 w1.heap.size _ ⟨x0, x1, x2, fr⟩ (Kd.R_lower HV4.out HSZ.out)) (fun b hb => ⟨by have := HSZ.out; omega, fun e => by have := OWN.out b e.symm; omega⟩) (fun b hb => Nat.le_trans SZ4.out hb) OUT4.out (Below.refl _ _) SZ4.out (by omega) ?_; intro v1 w5 hR1 hB1 hg1 hat1; have OUT5 := Aside0.mk hR1; have FR5 := Aside0.mk ((Fr.refl W4 (fun k => u2.ownBlock = some k)).grown hg1 (fun k _ h => h)); have SZ5 := Aside0.mk (Nat.le_trans SZ4.out hg1.size); clear hR1 hB1 hg1 hat1)
            have RS5 := Aside0.mk (RS4.out.fr FR5.out (fun e => by have := OWN2.out g e; have := HG1.out; omega) (fun b hb e => by have := OWN2.out b e; have := (HROW.out b hb).2; omega))
            have B5 := Aside0.mk (B4.out.trans (FR5.out.below B4.out.size (fun b hb => Nat.le_trans B1.out.size (OWN2.out b hb))))
            go_roundw
            case rel => exact ⟨j + 1, k, (l2, 0), acc ++ [⟨x0, x1, x2, fr⟩], by go_num, by omega, by simp; omega, HS2, RS5, OUT5, B5, SZ5⟩
            case measure => simp [intOf]; omega
        · rw [if_pos hf] at HS2
          obtain rfl := HS2.out
          have hff : (f2 != 0) = true := by simpa using hf
          clear hf
          go_wp2_with fail
          refine FX.out.mono ?_
          rintro e wf ⟨rfl, rfl⟩
          go_wp2_with fail
          refine FX.out.mono ?_
          rintro e wf ⟨rfl, rfl⟩
          go_wp2
          rw [Exit.noGoto_ret]
          go_ret2
          exact ReadPost.nil B4.out
      · obtain rfl : k = 0 := by omega
        have hs := HS.out
        rw [scrGo] at hs
        have HS2 := Aside0.mk hs
        clear hs HS
        obtain ⟨l2, f2⟩ := s
        dsimp only at HS2
        have FX := Aside0.mk (octets_Reader_Fault.calls g row (l2, f2) _ HRS.out)
        have LX := Aside0.mk (octets_Reader_Left.calls g row (l2, f2) _ HRS.out)
        dsimp only at FX LX
        have hjn : n = j := by omega
        subst hjn
        by_cases hf : f2 = 0
        · subst hf
          rw [if_neg (by decide)] at HS2
          go_wp2_with fail
          refine FX.out.mono ?_
          rintro e wf ⟨rfl, rfl⟩
          go_wp2_with fail
          refine LX.out.mono ?_
          rintro e wf ⟨rfl, rfl⟩
          obtain ⟨lm, hlm⟩ : ∃ m : Int, (l2.length : Int) = m := ⟨_, rfl⟩
          rw [hlm]
          by_cases hl : 0 < lm
          · rw [if_pos (by omega)] at HS2
            obtain rfl := HS2.out
            go_wp2
            rw [Exit.noGoto_ret]
            go_ret2
            exact ReadPost.nil HB.out
          · rw [if_neg (by omega)] at HS2
            obtain rfl := HS2.out
            go_wp2
            rw [Exit.noGoto_ret]
            go_ret2
            exact ⟨_, rfl, Kd.R_lower (Kd.R_mono HOUT.out (fun _ _ => trivial)) B1.out.size, HB.out⟩
        · rw [if_pos hf] at HS2
          obtain rfl := HS2.out
          have hff : (f2 != 0) = true := by simpa using hf
          clear hf
          go_wp2_with fail
          refine FX.out.mono ?_
          rintro e wf ⟨rfl, rfl⟩
          go_wp2
          rw [Exit.noGoto_ret]
          go_ret2
          exact ReadPost.nil HB.out
end Go.Proofs.Ytalpemoodollpaa.P
/- damperref29.Read, plain: it is the program's reading. -/
namespace Go.Proofs.Ytalpemoodollpaa.P
open Go.RowKit Go.Proofs.YtalpemoodollpaaW.PrintWords Go.Proofs.YtalpemoodollpaaW.PrintLast Go.Proofs.YtalpemoodollpaaW.PrintMore
set_option linter.unusedVariables false
set_option linter.unusedSimpArgs false
def rGo : Nat → List Int → List S91 → List S91 × Int
  | 0, l, acc => if 0 < l.length then ([], 4) else (acc, 0)
  | k + 1, l, acc => if (oneF l).2.2 ≠ 0 then ([], (oneF l).2.2) else rGo k (l.drop (oneF l).2.1.toNat) (acc ++ [(oneF l).1])
def refReadF (bs : List Int) : List S91 × Int :=
  if (fin3 bs (numGo 10 0 0 bs)).2.2.2.2 ≠ 0 then ([], (fin3 bs (numGo 10 0 0 bs)).2.2.2.2)
  else if 2000 < (fin3 bs (numGo 10 0 0 bs)).1 then ([], 4)
  else rGo (fin3 bs (numGo 10 0 0 bs)).1.toNat (bs.drop (fin3 bs (numGo 10 0 0 bs)).2.2.2.1.toNat) []
theorem scrGo_eq (k : Nat) : ∀ (l : List Int) (acc : List S91), Byt l → scrGo k (l, 0) acc = rGo k l acc := by
  induction k with
  | zero =>
    intro l acc hb
    rw [scrGo, rGo, if_neg (by simp)]
  | succ k ih =>
    intro l acc hb
    obtain ⟨h0, h1⟩ := alike l hb
    rw [scrGo, rGo]
    by_cases hf : (oneF l).2.2 = 0
    · obtain ⟨a, b, c, d, _, _⟩ := h0 hf
      rw [if_neg (show ¬ (oneF l).2.2 ≠ 0 from fun h => h hf), if_neg (show ¬ (stepF (l, 0)).2.2.2 ≠ 0 from fun h => h a), if_neg (by rw [b]; decide)]
      have e : (stepF (l, 0)).2.2 = (l.drop (oneF l).2.1.toNat, 0) := Prod.ext d a
      have e2 : stepVal (stepF (l, 0)) = (oneF l).1 := c
      rw [e, e2]
      exact ih _ _ (hb.drop _)
    · rw [if_pos hf]
      rcases h1 hf with h | ⟨a, b, c⟩
      · rw [if_pos (by rw [h]; exact hf), h]
      · rw [if_neg (show ¬ (stepF (l, 0)).2.2.2 ≠ 0 from fun h => h a), if_pos b, c]
theorem scrRead_eq (bs : List Int) (hb : Byt bs) : scrRead bs = refReadF bs := by
  obtain ⟨e1, e2, e3, e4, e5⟩ := rd_num bs hb
  unfold scrRead refReadF
  by_cases hf : (fin3 bs (numGo 10 0 0 bs)).2.2.2.2 = 0
  · have hs : (rNum (bs, 0)).2 = (bs.drop (fin3 bs (numGo 10 0 0 bs)).2.2.2.1.toNat, 0) := Prod.ext (e5 hf) (e2.trans hf)
    rw [if_neg (show ¬ (fin3 bs (numGo 10 0 0 bs)).2.2.2.2 ≠ 0 from fun h => h hf), e1, hs]
    split
    · rfl
    · exact scrGo_eq _ _ _ (hb.drop _)
  · have h2 : (rNum (bs, 0)).2.2 ≠ 0 := by rw [e2]; exact hf
    have h0 : (rNum (bs, 0)).1 = 0 := by
      rw [e1]
      unfold fin3 at hf ⊢
      split
      · rename_i hz; rw [if_pos hz] at hf; exact absurd rfl hf
      · rfl
    rw [if_pos hf, h0, if_neg (by decide), show (0 : Int).toNat = 0 from rfl, scrGo, if_pos h2, e2]
end Go.Proofs.Ytalpemoodollpaa.P
/- The walk of damperref29.Read. -/
namespace Go.Proofs.Ytalpemoodollpaa.P
open Go.RowKit Go.Proofs.YtalpemoodollpaaW.PrintWords Go.Proofs.YtalpemoodollpaaW.PrintLast Go.Proofs.YtalpemoodollpaaW.PrintMore
set_option linter.unusedVariables false
set_option linter.unusedSimpArgs false
/-- A step whose frame is read in w0. -/
def k91F (w0 : World) : Kd S91 := Kd.iso (Kd.pair (Kd.int .i64) (Kd.pair (Kd.int .i64) (Kd.pair (Kd.int .i64) (Kd.fixed (Kd.slice 5 (Kd.int .u8)) w0)))) (fun x : S91 => (x.f0, x.f1, x.f2, x.f3))
theorem k91F_mkM (w0 w : World) (base : Nat) (ok : Nat → Prop) (x : S91) {X : Option Addr} {m : Nat} (hq : x.f3.length ≤ m) (hC : CC w0 X x.f3) : (k91F w0).M w base ok x [.int .i64 x.f0, .int .i64 x.f1, .int .i64 x.f2, .slice X x.f3.length m] :=
  ⟨[.int .i64 x.f0], [.int .i64 x.f1, .int .i64 x.f2, .slice X x.f3.length m], rfl, rfl, ⟨[.int .i64 x.f1], [.int .i64 x.f2, .slice X x.f3.length m], rfl, rfl, ⟨[.int .i64 x.f2], [.slice X x.f3.length m], rfl, rfl, ⟨X, m, rfl, hq, hC⟩⟩⟩⟩
theorem k91F_K {w0 w : World} (hb : Below w0.heap.size w0 w) {x : S91} {cs : List Value} (h : (k91F w0).K w x cs) : k91.K w x cs := by
  obtain ⟨_, _, rfl, rfl, ⟨_, _, rfl, rfl, ⟨_, _, rfl, rfl, ⟨A3, c3, rfl, l3, g3⟩⟩⟩⟩ := h
  exact k91_mk w x l3 (Kd.C_below g3 hb)
/-- What is handed back: the steps, read; the fault. -/
def RefReadPost (w : World) (G : List S91 × Int) (e : Ending) (w' : World) : Prop :=
  ∃ A c, e = .returned (.tuple #[.slice A G.1.length c, .int .i64 G.2]) ∧ G.1.length ≤ c ∧ Kd.C k91 w' A G.1.length G.1 ∧ Below w.heap.size w w'
theorem C91_nil (W : World) (A : Option Addr) : Kd.C k91 W A ([] : List S91).length [] := ⟨rfl, by simp, fun h => absurd h (Nat.lt_irrefl 0)⟩
theorem RefReadPost.nil {w W : World} {f : Int} (h : Below w.heap.size w W) : RefReadPost w ([], f) (.returned (.tuple #[.slice none 0 0, .int .i64 f])) W := ⟨none, 0, rfl, Nat.le_refl _, C91_nil _ _, h⟩
theorem RefReadPost.mk {w0 w W : World} {base : Nat} {ok : Nat → Prop} {v : Value} {acc : List S91} (hb : Below w.heap.size w W) (hb0 : Below w0.heap.size w0 W) (hR : Kd.R (k91F w0) 91 W base ok v acc) : RefReadPost w (acc, 0) (.returned (.tuple #[v, .int .i64 0])) W := by
  obtain ⟨A, c, rfl, hl, hC⟩ := Kd.R_reads hR
  exact ⟨A, c, rfl, hl, ReadsRow.imp_ hC (Below.refl _ _) (fun _ _ h => k91F_K hb0 h), hb⟩
/-- Bytes that are being read on. -/
structure RL (w0 : World) (A : Option Addr) (l : List Int) (c : Nat) : Prop where
  hC : CC w0 A l
  hc : l.length ≤ c
  hb : Byt l
  hl : l.length ≤ 140737488355328
theorem RL.cut {w0 : World} {A : Option Addr} {l : List Int} {c : Nat} (h : RL w0 A l c) (m : Nat) (hm : m ≤ l.length) :
    ∃ A', (∀ W : World, (Instr.slice 30 (.slice A l.length c) (some (.int .i64 (m : Int))) none none).run Try.prog W = .ok (.slice A' (l.drop m).length (c - m)) W) ∧ RL w0 A' (l.drop m) (c - m) := by
  obtain ⟨A', hcut, _, hR⟩ := cut_ A l.length c m hm
  refine ⟨A', fun W => by rw [List.length_drop]; exact hcut W, ?_, by have := h.hc; rw [List.length_drop]; omega, h.hb.drop m, by have := h.hl; rw [List.length_drop]; omega⟩
  have := hR w0 l h.hc h.hC
  unfold CC
  rw [List.length_drop]
  exact this
theorem fin3_size (l : List Int) (hb : Byt l) : 0 ≤ (fin3 l (numGo 10 0 0 l)).2.2.2.1 ∧ (fin3 l (numGo 10 0 0 l)).2.2.2.1 ≤ l.length ∧ 0 ≤ (fin3 l (numGo 10 0 0 l)).1 ∧ (fin3 l (numGo 10 0 0 l)).1 < 18446744073709551616 := by
  obtain ⟨e1, _, g3, g4, _⟩ := rd_num l hb
  have := rNum_range (l, 0) hb
  rw [e1] at this
  exact ⟨g3, g4, this⟩
theorem oneF_size (l : List Int) (hb : Byt l) (h : (oneF l).2.2 = 0) : ∃ z : Nat, (oneF l).2.1 = (z : Int) ∧ z ≤ l.length := by
  obtain ⟨_, _, _, _, h0, h1⟩ := (alike l hb).1 h
  exact ⟨(oneF l).2.1.toNat, by omega, by omega⟩
set_option maxRecDepth 100000 in
set_option maxHeartbeats 2000000 in
theorem refRead_calls (A0 : Option Addr) (c0 : Nat) (bs : List Int) (w : World) (hr0 : Kd.C (Kd.int .u8) w A0 bs.length bs) (hc0 : bs.length ≤ c0) (hl : bs.length ≤ 140737488355328) (hb : Byt bs) :
    Calls Try.prog 91 #[.slice A0 bs.length c0] w (RefReadPost w (refReadF bs)) := by
  have hu91 := Try.underlying91
  have HRL := Aside0.mk (RL.mk hr0 hc0 hb hl)
  have FS := Aside0.mk (fin3_size bs hb)
  have CX := Aside0.mk (RD.num A0 c0 bs w hr0 hc0 hb hl)
  unfold RD at CX
  clear hr0 hb hc0 hl
  generalize hG : refReadF bs = G
  unfold refReadF at hG
  generalize fin3 bs (numGo 10 0 0 bs) = T at *
  obtain ⟨n, s, raw, z, q⟩ := T
  dsimp only at *
  have HG := Aside0.mk hG
  obtain ⟨g3, g4, hn0, hn1⟩ := FS.out
  obtain ⟨z, rfl⟩ := Int.eq_ofNat_of_zero_le g3
  rw [Int.toNat_natCast] at HG
  obtain ⟨A1, hcut, hrl⟩ := HRL.out.cut z (by omega)
  have HR1 := Aside0.mk hrl
  clear hG g3 hrl HRL FS
  generalize hl1 : bs.drop z = l1 at *
  clear hl1
  generalize hc1 : c0 - z = c1 at *
  clear hc1
  generalize bs.length = N at *
  go_enter Try.func91, Try.ntmps91
  go_wp2_with fail
  refine CX.out.mono ?_
  rintro e w4 ⟨B, mm, rfl, _, _, hb4⟩
  have B4 := Aside0.mk (below_alloc hb4 (.cells #[.int .u64 n, .int .i64 s, .slice B raw.length mm, .int .i64 (z : Int), .int .i64 q] 81))
  have X4 := Aside0.mk (blk_new w4 (.cells #[.int .u64 n, .int .i64 s, .slice B raw.length mm, .int .i64 (z : Int), .int .i64 q] 81))
  clear hb4 CX
  have r0 := (blk_cell X4.out 0).trans rfl
  have r3 := (blk_cell X4.out 3).trans rfl
  have r4 := (blk_cell X4.out 4).trans rfl
  by_cases hq : q = 0
  rotate_left
  · have HP := HG.out
    rw [if_pos (show q ≠ 0 from hq)] at HP
    subst HP
    have hqb : (q != 0) = true := by simpa using hq
    clear hq HG hcut
    go_wp2
    go_region
    go_wp2
    go_ret2
    exact RefReadPost.nil B4.out.drew
  subst hq
  rw [if_neg (show ¬ (0 : Int) ≠ 0 from fun h => h rfl)] at HG
  by_cases h2000 : 2000 < n
  · have HP := HG.out
    rw [if_pos h2000] at HP
    subst HP
    clear HG hcut
    go_wp2
    go_ret2
    exact RefReadPost.nil B4.out
  rw [if_neg h2000] at HG
  obtain ⟨n, rfl⟩ := Int.eq_ofNat_of_zero_le hn0
  rw [Int.toNat_natCast] at HG
  have hn2 : (n : Int) ≤ 2000 := by omega
  clear h2000 hn0 hn1
  go_wp2
  clear r0 r3 r4
  have P4 := Aside0.mk (show w4.heap.size < (w4.alloc (.cells #[.int .u64 (n : Int), .int .i64 s, .slice B raw.length mm, .int .i64 (z : Int), .int .i64 0] 81)).heap.size by simp)
  generalize (w4.alloc (.cells #[.int .u64 (n : Int), .int .i64 s, .slice B raw.length mm, .int .i64 (z : Int), .int .i64 0] 81)) = w5 at *
  generalize w4.heap.size = p4 at *
  go_loopw [0, 5, 6] (fun u0 u5 u6 wr => ∃ (j k : Nat) (A : Option Addr) (l : List Int) (c : Nat) (acc : List S91), u0 = .slice A l.length c ∧ u6 = .int .u64 (j : Int) ∧ j + k = n ∧ acc.length = j ∧ Aside0 (rGo k l acc = G) ∧ Aside0 (RL w A l c) ∧ Aside0 (Kd.R (k91F w) 91 wr w5.heap.size (fun _ => True) u5 acc) ∧ Aside0 (Below w5.heap.size w5 wr)) (fun _ _ u6 _ => (n - (intOf u6).toNat))
  case atStart => exact ⟨0, n, A1, l1, c1, [], rfl, rfl, by omega, rfl, HG, HR1, ⟨Kd.R_nil _ _ _ _ _⟩, ⟨Below.refl _ _⟩⟩
  case round =>
    obtain ⟨j, k, A, l, c, acc, rfl, rfl, hjk, hacc, HS, HRL, HOUT, HB⟩ := hrel
    have BW := Aside0.mk (below_then B4.out B4.out.size HB.out)
    have XW := Aside0.mk ((HB.out.block _ P4.out).trans X4.out)
    have r0 := (blk_cell XW.out 0).trans rfl
    by_cases hlt : j < n
    · obtain ⟨k, rfl⟩ : ∃ m, k = m + 1 := ⟨k - 1, by omega⟩
      have hs := HS.out
      rw [rGo] at hs
      have HS2 := Aside0.mk hs
      have CX := Aside0.mk (one_calls A c l wr (Kd.C_below HRL.out.hC BW.out) HRL.out.hc HRL.out.hl HRL.out.hb)
      have OS := Aside0.mk (oneF_size l HRL.out.hb)
      clear hs HS
      generalize hT : oneF l = T at *
      clear hT
      obtain ⟨⟨x0, x1, x2, fr⟩, sz, fa⟩ := T
      dsimp only at HS2 OS
      by_cases hf : fa = 0
      · subst hf
        obtain ⟨z', rfl, hz'⟩ := OS.out rfl
        rw [if_neg (show ¬ (0 : Int) ≠ 0 from fun h => h rfl), Int.toNat_natCast] at HS2
        obtain ⟨A', hcut', hrl'⟩ := HRL.out.cut z' hz'
        have HR' := Aside0.mk hrl'
        clear hrl' OS
        generalize hl1 : l.drop z' = l2 at *
        clear hl1
        generalize hc1 : c - z' = c2 at *
        clear hc1
        have hzz : (z' : Int) ≤ (l.length : Int) := by omega
        have HNX := Aside0.mk HRL.out.hC
        clear HRL hz'
        unfold OnePost at CX
        generalize hL : l.length = L at *
        clear hL
        go_wp2_with fail
        refine CX.out.mono ?_
        rintro e w6 ⟨X, m, rfl, hq6, hX6, hb6⟩
        dsimp only at hq6 hX6 ⊢
        have HX := Aside0.mk (hX6 w HNX.out)
        have HQ := Aside0.mk hq6
        have OUT6 := Aside0.mk (Kd.R_below HOUT.out hb6)
        have B6 := Aside0.mk (below_then HB.out HB.out.size hb6)
        have XW6 := Aside0.mk ((hb6.block _ (blk_lt XW.out)).trans XW.out)
        clear hq6 hX6 hb6 CX HOUT HB r0 XW BW
        have OUT7 := Aside0.mk (Kd.R_alloc OUT6.out (.cells #[.int .i64 x0, .int .i64 x1, .int .i64 x2, .slice X fr.length m] 91))
        have B7 := Aside0.mk (B6.out.alloc B6.out.size (.cells #[.int .i64 x0, .int .i64 x1, .int .i64 x2, .slice X fr.length m] 91))
        have BX7 := Aside0.mk (blk_new w6 (.cells #[.int .i64 x0, .int .i64 x1, .int .i64 x2, .slice X fr.length m] 91))
        obtain ⟨c0_, c1_, c2_, c3_⟩ : (w6.alloc (.cells #[.int .i64 x0, .int .i64 x1, .int .i64 x2, .slice X fr.length m] 91)).cell? ⟨w6.heap.size, 0, none⟩ = some (.int .i64 x0) ∧ (w6.alloc (.cells #[.int .i64 x0, .int .i64 x1, .int .i64 x2, .slice X fr.length m] 91)).cell? ⟨w6.heap.size, 1, none⟩ = some (.int .i64 x1) ∧ (w6.alloc (.cells #[.int .i64 x0, .int .i64 x1, .int .i64 x2, .slice X fr.length m] 91)).cell? ⟨w6.heap.size, 2, none⟩ = some (.int .i64 x2) ∧ (w6.alloc (.cells #[.int .i64 x0, .int .i64 x1, .int .i64 x2, .slice X fr.length m] 91)).cell? ⟨w6.heap.size, 3, none⟩ = some (.slice X fr.length m) := ⟨(blk_cell BX7.out 0).trans rfl, (blk_cell BX7.out 1).trans rfl, (blk_cell BX7.out 2).trans rfl, (blk_cell BX7.out 3).trans rfl⟩
        have r06 := (blk_cell (blk_alloc XW6.out (.cells #[.int .i64 x0, .int .i64 x1, .int .i64 x2, .slice X fr.length m] 91)) 0).trans rfl
        go_upto_region 14 with fail
        generalize hW7 : (w6.alloc (.cells #[.int .i64 x0, .int .i64 x1, .int .i64 x2, .slice X fr.length m] 91)) = W7 at *
        have SZ7 := Aside0.mk (show w5.heap.size ≤ W7.heap.size from B7.out.size)
        generalize hb7 : w6.heap.size = b7 at *
        clear hW7 hb7
        go_wp2_with (at_builtin; refine Kd.R_append (k91F w) (w0 := w5) w5.heap.size rfl (.tmp 39) (.tmp 41) 54 91 _ 48 rfl Try.underlying54 info91 (by rfl) (show 0 < 4 from by decide) (by decide) u5 acc ⟨x0, x1, x2, fr⟩ [.int .i64 x0, .int .i64 x1, .int .i64 x2, .slice X fr.length m] (fun _ => True) (fun _ => False) rfl rfl (k91F_mkM w W7 w5.heap.size _ ⟨x0, x1, x2, fr⟩ HQ.out HX.out) (fun _ h => False.elim h) (fun _ _ => trivial) OUT7.out B7.out SZ7.out (by omega) ?_; intro v1 w8 hR1 hB1 hg1 hat1; have OUT8 := Aside0.mk hR1; have B8 := Aside0.mk hB1; clear hR1 hB1 hg1 hat1)
        go_roundw
        case rel => exact ⟨j + 1, k, A', l2, c2, acc ++ [⟨x0, x1, x2, fr⟩], rfl, by go_num, by omega, by simp; omega, HS2, HR', OUT8, B8⟩
        case measure => simp [intOf]; omega
      · have HP := HS2.out
        rw [if_pos (show fa ≠ 0 from hf)] at HP
        subst HP
        have hqb : (fa != 0) = true := by simpa using hf
        unfold OnePost at CX
        clear hf HS2 OS HRL HOUT
        generalize hL : l.length = L at *
        clear hL
        go_wp2_with fail
        refine CX.out.mono ?_
        rintro e w6 ⟨X, m, rfl, _, _, hb6⟩
        have B6 := Aside0.mk (below_alloc (below_then BW.out BW.out.size hb6) (.cells #[.int .i64 x0, .int .i64 x1, .int .i64 x2, .slice X fr.length m] 91))
        clear hb6 CX
        go_wp2
        go_ret2
        exact RefReadPost.nil B6.out
    · obtain rfl : k = 0 := by omega
      have hs := HS.out
      rw [rGo] at hs
      have HS2 := Aside0.mk hs
      have hjn : n = j := by omega
      subst hjn
      clear hs HS HRL
      obtain ⟨lm, hlm⟩ : ∃ m : Int, (l.length : Int) = m := ⟨_, rfl⟩
      have HLM := Aside0.mk hlm
      generalize hL : l.length = L at *
      clear hL
      by_cases hl : 0 < L
      · rw [if_pos hl] at HS2
        obtain rfl := HS2.out
        clear HLM hlm
        go_wp2
        go_ret2
        exact RefReadPost.nil BW.out
      · rw [if_neg hl] at HS2
        obtain rfl := HS2.out
        clear HLM hlm
        go_wp2
        go_ret2
        exact RefReadPost.mk BW.out BW.out HOUT.out
end Go.Proofs.Ytalpemoodollpaa.P
/- A writer of one's own, call by call. -/
namespace Go.Proofs.Ytalpemoodollpaa.P
open Go.RowKit Go.Proofs.YtalpemoodollpaaW.PrintWords Go.Proofs.YtalpemoodollpaaW.PrintLast Go.Proofs.YtalpemoodollpaaW.PrintMore
set_option linter.unusedVariables false
set_option linter.unusedSimpArgs false

theorem lit_C (W : World) (xs : List Int) (hl : xs.length ≤ 9223372036854775807) : Kd.C (Kd.int .u8) (W.alloc (.cells (nums .u8 xs).toArray 5)) (some ⟨W.heap.size, 0, none⟩) xs.length xs := by
  have h := own_lit W W.heap.size 5 .u8 xs (Nat.le_refl _) hl
  obtain ⟨A, c, e, h2⟩ := own_reads h
  injection e with e1 e2 e3
  subst e1
  exact Kd.C_of_reads (d := (0 : Int)) (h1 := fun _ => rfl) h2
/-- Blocks of other types stay. -/
def KeepT (W W1 : World) (g : Nat) : Prop := ∀ (b : Nat) (cs : Array Value) (t : Nat), W.heap[b]? = some (.cells cs t (0, 0)) → t ≠ 5 → b ≠ g → W1.heap[b]? = some (.cells cs t (0, 0))
structure WK (w0 W : World) (g : Nat) (xs : List Int) : Prop where
  ex : ∃ row, WS W g row xs ∧ ∀ k, row = some k → w0.heap.size ≤ k
  bel : Below w0.heap.size w0 W
  hg : w0.heap.size ≤ g
namespace WK
variable {w0 W W1 : World} {g : Nat} {xs ys : List Int}
theorem new (hB : Below w0.heap.size w0 W) : WK w0 (W.alloc (.cells #[.slice none 0 0] 39)) W.heap.size [] :=
  ⟨⟨none, WS.new W, fun k hk => by cases hk⟩, below_alloc hB _, hB.size⟩
theorem below (h : WK w0 W g xs) (hb : Below W.heap.size W W1) : WK w0 W1 g xs := by
  obtain ⟨⟨row, hs, hr⟩, hB, hg⟩ := h
  exact ⟨⟨row, hs.below hb, hr⟩, below_then hB hB.size hb, hg⟩
theorem alloc (h : WK w0 W g xs) (o : Obj) : WK w0 (W.alloc o) g xs := h.below (below_alloc (Below.refl _ _) _)
theorem drew (h : WK w0 W g xs) : WK w0 W.drew g xs := ⟨h.ex, h.bel.drew, h.hg⟩
/-- What a call leaves. -/
theorem of_post {row : Option Nat} (hs : WS W g row xs) (hr : ∀ k, row = some k → w0.heap.size ≤ k) (hB : Below w0.heap.size w0 W) (hg : w0.heap.size ≤ g) (hp : WPost W g row ys W1) : WK w0 W1 g ys ∧ KeepT W W1 g := by
  obtain ⟨row1, h1, h2, h3⟩ := hp.below hB hg hr
  refine ⟨⟨⟨row1, h1, h3⟩, h2, hg⟩, fun b cs t hb ht hne => ?_⟩
  obtain ⟨_, _, _, hf⟩ := hp
  refine hf.blk hb (fun hS => hS.elim hne (fun hrow => ?_))
  obtain ⟨v, hb2, hr2, ho⟩ := hs
  exact own_ne ho hb (Ne.symm ht) (by rw [hr2, hrow])
theorem num (h : WK w0 W g xs) (n : Int) (h0 : 0 ≤ n) (h1 : n < 18446744073709551616) (hl : xs.length ≤ 1000000) :
    Calls Try.prog 36 #[.pointer (some ⟨g, 0, none⟩), .int .u64 n] W fun e w' => e = .returned (.pointer (some ⟨g, 0, none⟩)) ∧ WK w0 w' g (xs ++ numForm n.toNat) ∧ KeepT W w' g := by
  obtain ⟨⟨row, hs, hr⟩, hB, hg⟩ := h
  have := numForm_ten n h1
  exact (octets_Writer_Num.calls g row xs n W h0 hs (by omega)).mono fun e w' ⟨he, hp⟩ => ⟨he, of_post hs hr hB hg hp⟩
theorem int (h : WK w0 W g xs) (n : Int) (h0 : -9223372036854775808 ≤ n) (h1 : n ≤ 9223372036854775807) (hl : xs.length ≤ 1000000) :
    Calls Try.prog 38 #[.pointer (some ⟨g, 0, none⟩), .int .i64 n] W fun e w' => e = .returned (.pointer (some ⟨g, 0, none⟩)) ∧ WK w0 w' g (xs ++ intForm n) ∧ KeepT W w' g := by
  obtain ⟨⟨row, hs, hr⟩, hB, hg⟩ := h
  exact (octets_Writer_Int.calls g row xs n W h0 h1 hs (by omega)).mono fun e w' ⟨he, hp⟩ => ⟨he, of_post hs hr hB hg hp⟩
theorem uint (h : WK w0 W g xs) (n k : Int) (h0 : 0 ≤ n) (h1 : 1 ≤ k) (h2 : k ≤ 8) (hl : xs.length ≤ 1000000) :
    Calls Try.prog 99 #[.pointer (some ⟨g, 0, none⟩), .int .u64 n, .int .i64 k] W fun e w' => e = .returned (.pointer (some ⟨g, 0, none⟩)) ∧ WK w0 w' g (xs ++ uintForm n.toNat k.toNat) ∧ KeepT W w' g := by
  obtain ⟨⟨row, hs, hr⟩, hB, hg⟩ := h
  exact (octets_Writer_Uint.calls g row xs n k W h0 hs h1 h2 (by omega)).mono fun e w' ⟨he, hp⟩ => ⟨he, of_post hs hr hB hg hp⟩
theorem raw (h : WK w0 W g xs) (zs : List Int) (A : Option Addr) (c : Nat) (hz : Kd.C (Kd.int .u8) W A zs.length zs) (hl : xs.length ≤ 1000000) (hl2 : zs.length ≤ 1000000) :
    Calls Try.prog 94 #[.pointer (some ⟨g, 0, none⟩), .slice A zs.length c] W fun e w' => e = .returned (.pointer (some ⟨g, 0, none⟩)) ∧ WK w0 w' g (xs ++ zs) ∧ KeepT W w' g := by
  obtain ⟨⟨row, hs, hr⟩, hB, hg⟩ := h
  exact (octets_Writer_Raw.calls g row xs zs A c W hs hz (by omega)).mono fun e w' ⟨he, hp⟩ => ⟨he, of_post hs hr hB hg hp⟩
theorem bytes (h : WK w0 W g xs) (hl : xs.length ≤ 100000000) :
    Calls Try.prog 37 #[.pointer (some ⟨g, 0, none⟩)] W fun e w' => ∃ v0_ : Value, e = .returned v0_ ∧ Kd.R (Kd.int .u8) 5 w' w0.heap.size (fun _ => True) v0_ xs ∧ Below w0.heap.size w0 w' ∧ Below W.heap.size W w' := by
  obtain ⟨⟨row, hs, hr⟩, hB, hg⟩ := h
  exact (octets_Writer_Bytes.calls g row xs W hs (by omega)).mono fun e w' ⟨v, he, hR, hb⟩ => ⟨v, he, Kd.R_lower hR hB.size, below_then hB hB.size hb, hb⟩
theorem numA (h : WK w0 W g xs) (o : Obj) (n : Int) (h0 : 0 ≤ n) (h1 : n < 18446744073709551616) (hl : xs.length ≤ 1000000) :
    Calls Try.prog 36 #[.pointer (some ⟨g, 0, none⟩), .int .u64 n] (W.alloc o).drew fun e w' => e = .returned (.pointer (some ⟨g, 0, none⟩)) ∧ WK w0 w' g (xs ++ numForm n.toNat) ∧ KeepT (W.alloc o) w' g ∧ w'.heap[W.heap.size]? = some o := by
  obtain ⟨⟨row, hs, hr⟩, hB, hg⟩ := h
  have := numForm_ten n h1
  have hs2 : WS (W.alloc o).drew g row xs := hs.alloc o
  refine (octets_Writer_Num.calls g row xs n _ h0 hs2 (by omega)).mono fun e w' ⟨he, hp⟩ => ?_
  have h2 := of_post (w0 := w0) hs2 hr (below_alloc hB o).drew hg hp
  refine ⟨he, h2.1, h2.2, ?_⟩
  obtain ⟨_, _, _, hf⟩ := hp
  refine hf.blk (blk_new W o) (fun hS => ?_)
  rcases hS with hS | hS
  · have := hs.lt; omega
  · obtain ⟨v, hb2, hr2, ho⟩ := hs
    have := own_lt ho W.heap.size (by rw [hr2, hS])
    omega
end WK
theorem lit_at {W : World} {b : Nat} {xs : List Int} (h : W.heap[b]? = some (.cells (nums .u8 xs).toArray 5 (0, 0))) (hl : xs.length ≤ 9223372036854775807) : Kd.C (Kd.int .u8) W (some ⟨b, 0, none⟩) xs.length xs := by
  refine Kd.C_of_reads (d := (0 : Int)) (h1 := fun _ => rfl) ⟨rfl, hl, fun _ => ⟨_, rfl, fun j hj => ?_⟩⟩
  rw [add_plain, blk_cell h j]
  simp [nums, List.getD_eq_getElem?_getD, hj]
end Go.Proofs.Ytalpemoodollpaa.P
-- Printed by hookprint.py (the session's own program, over the kit's print.py): checked by Lean like any text.
namespace Go.Proofs.Ytalpemoodollpaa.P
open Go.RowKit Go.Proofs.YtalpemoodollpaaW.PrintWords Go.Proofs.YtalpemoodollpaaW.PrintLast Go.Proofs.YtalpemoodollpaaW.PrintMore
attribute [local go_sem] max2_int min2_int max_two min_two max_three min_three max_four min_four   -- for this text's walks alone
set_option linter.unusedVariables false
set_option linter.unusedSimpArgs false

/-! ### script_Right: function 66 -/
def script_Right.j0 : Nat → Bool → Int → Bool → Int → Int → Int → List Int → Option (Bool)
  | 0, _, _, _, _, _, _, _ => none
  | k + 1, x3, x9, x26, x299000, x299001, x299002, x299003 => if x26 = true then (if x3 = true then (some (x299001 == 0)) else (some false)) else (if x9 = 4 then (if x3 = true then (if x299001 ≥ 0 then (some (decide (x299001 ≤ 255))) else (some false)) else (some false)) else (some false))
def script_Right.f (k : Nat) (a0_0 : Int) (a0_1 : Int) (a0_2 : Int) (l0_3 : List Int) : Option (Bool) := if a0_0 = 1 then (if a0_1 = 0 then (if a0_2 = 0 then (some (decide ((l0_3.length : Int) ≤ 64))) else (some false)) else (some false)) else (if a0_0 = 2 then (script_Right.j0 k ((l0_3.length : Int) == 0) a0_0 (a0_0 == 2) a0_0 a0_1 a0_2 l0_3) else (script_Right.j0 k ((l0_3.length : Int) == 0) a0_0 (a0_0 == 3) a0_0 a0_1 a0_2 l0_3))
theorem script_Right.mono_l : ∀ k, (∀ y0 y1 y2 y3 y4 y5 y6, LeO (script_Right.j0 k y0 y1 y2 y3 y4 y5 y6) (script_Right.j0 (k + 1) y0 y1 y2 y3 y4 y5 y6))
  | 0 => fun _ _ _ _ _ _ _ r h => by simp [script_Right.j0] at h
  | k + 1 => by
    have ih0 := script_Right.mono_l k
    · intro y0 y1 y2 y3 y4 y5 y6
      unfold script_Right.j0
      repeat' first
      | (with_reducible exact ih0 _ _ _ _ _ _ _)
      | (with_reducible exact LeO.refl _)
      | (with_reducible exact LeO.none _)
      | (with_reducible refine LeO.ite ?_ ?_)
      | (with_reducible refine LeO.bind ?_ (fun _ => ?_))
      | exact ih0 _ _ _ _ _ _ _
      | exact LeO.none _
      | refine LeO.ite ?_ ?_
      | refine LeO.bind ?_ (fun _ => ?_)
theorem script_Right.mono : ∀ a0 a1 a2 a3 k, LeO (script_Right.f k a0 a1 a2 a3) (script_Right.f (k + 1) a0 a1 a2 a3) := by
  intro a0 a1 a2 a3 k
  have ih0 := script_Right.mono_l k
  unfold script_Right.f
  repeat' first
      | (with_reducible exact ih0 _ _ _ _ _ _ _)
      | (with_reducible exact LeO.refl _)
      | (with_reducible exact LeO.none _)
      | (with_reducible refine LeO.ite ?_ ?_)
      | (with_reducible refine LeO.bind ?_ (fun _ => ?_))
      | exact ih0 _ _ _ _ _ _ _
      | exact LeO.none _
      | refine LeO.ite ?_ ?_
      | refine LeO.bind ?_ (fun _ => ?_)
set_option maxHeartbeats 8000000 in
set_option maxRecDepth 100000 in
theorem script_Right.calls (k : Nat) (a0_0 : Int) (a0_1 : Int) (a0_2 : Int) (A0_3 : Option Addr) (c0_3 : Nat) (l0_3 : List Int) (r : Bool) (w : World) (hr0_3 : Kd.C (Kd.int .u8) w A0_3 l0_3.length l0_3) (hc0_3 : l0_3.length ≤ c0_3) (h : script_Right.f k a0_0 a0_1 a0_2 l0_3 = some r) :
    Calls Try.prog 66 #[.agg #[.int .i64 a0_0, .int .i64 a0_1, .int .i64 a0_2, .slice A0_3 l0_3.length c0_3]] w fun e w' => e = .returned (.bool r) ∧ Below w.heap.size w w' := by
  have hu91 := Try.underlying91
  have HR0_3 := Aside0.mk hr0_3
  have HC0_3 := Aside0.mk hc0_3
  clear hr0_3 hc0_3
  have HB := Aside0.mk (Below.refl w.heap.size w)
  have H : (if a0_0 = 1 then (if a0_1 = 0 then (if a0_2 = 0 then (some (decide ((l0_3.length : Int) ≤ 64))) else (some false)) else (some false)) else (if a0_0 = 2 then (script_Right.j0 k ((l0_3.length : Int) == 0) a0_0 (a0_0 == 2) a0_0 a0_1 a0_2 l0_3) else (script_Right.j0 k ((l0_3.length : Int) == 0) a0_0 (a0_0 == 3) a0_0 a0_1 a0_2 l0_3))) = some r := h
  clear h
  by_cases c2 : a0_0 = 1
  · rw [if_pos c2] at H
    have c2b0 : (a0_0 == 1) = true := beq_iff_eq.mpr c2
    have c2b1 : (a0_0 != 1) = false := bne_eq_false_iff_eq.mpr c2
    clear c2
    by_cases c3 : a0_1 = 0
    · rw [if_pos c3] at H
      have c3b0 : (a0_1 == 0) = true := beq_iff_eq.mpr c3
      have c3b1 : (a0_1 != 0) = false := bne_eq_false_iff_eq.mpr c3
      clear c3
      by_cases c4 : a0_2 = 0
      · rw [if_pos c4] at H
        have c4b0 : (a0_2 == 0) = true := beq_iff_eq.mpr c4
        have c4b1 : (a0_2 != 0) = false := bne_eq_false_iff_eq.mpr c4
        clear c4
        obtain rfl := Option.some.inj H
        go_enter Try.func66, Try.ntmps66
        go_wp2_with (first | ((with_reducible refine gate_dst (N := 1) rfl ?_); (try (refine gate_guard (by rfl) ?_; dsimp only)); refine box_event ?hg (N := 1) ?hd (cs := #[.int .i64 a0_0, .int .i64 a0_1, .int .i64 a0_2, .slice A0_3 l0_3.length c0_3]) (t := 91) ?hr ?_; (case hd => rfl); (case hg => rfl); (case hr => first | (go_simp; done) | (go_simp; rfl)); intro gb298 hg w5 hbox hb; have n0_ := Aside0.mk (below_step (by repeat (first | (with_reducible first | exact HB.out | apply below_alloc | apply pw_below_drewN | apply below_drew1) | exact HB.out)) hb); have n1_ := Aside0.mk (hbox); have n2_ := Aside0.mk ((by rw [hg]; exact (below_size (by repeat (first | (with_reducible first | exact HB.out | apply below_alloc | apply pw_below_drewN | apply below_drew1) | exact HB.out))) : w.heap.size ≤ gb298)); have n3_ := Aside0.mk ((by rw [hg]; exact (below_size (by repeat (first | (with_reducible first | exact HB.out | apply below_alloc | apply pw_below_drewN | apply below_drew1) | exact HB.out))) : w.heap.size ≤ gb298)); clear HB; have HB := n0_; have BK298 := n1_; have GW298 := n2_; have GE298 := n3_; clear n0_ n1_ n2_ n3_; clear hb hbox hg; have hcz6_0 : w5.cell? ⟨gb298, 0, none⟩ = some (.int .i64 a0_0) := (blk_cell BK298.out 0).trans rfl; have hcz6_1 : w5.cell? ⟨gb298, 1, none⟩ = some (.int .i64 a0_1) := (blk_cell BK298.out 1).trans rfl; have hcz6_2 : w5.cell? ⟨gb298, 2, none⟩ = some (.int .i64 a0_2) := (blk_cell BK298.out 2).trans rfl; have hcz6_3 : w5.cell? ⟨gb298, 3, none⟩ = some (.slice A0_3 l0_3.length c0_3) := (blk_cell BK298.out 3).trans rfl; have hfz6_0 := blk_frozen BK298.out 0; have hfz6_1 := blk_frozen BK298.out 1; have hfz6_2 := blk_frozen BK298.out 2; have hfz6_3 := blk_frozen BK298.out 3))
        go_ret
        exact ⟨by first | rfl | (simp [errW_none, errW_some] <;> rfl) | (simp [*, errW_none, errW_some] <;> rfl), by repeat (first | (with_reducible first | exact HB.out | apply below_alloc | apply pw_below_drewN | apply below_drew1 | refine below_set ?_ GE298.out) | exact HB.out)⟩
      · rw [if_neg c4] at H
        have c4b0 : (a0_2 == 0) = false := beq_eq_false_iff_ne.mpr c4
        have c4b1 : (a0_2 != 0) = true := bne_iff_ne.mpr c4
        obtain rfl := Option.some.inj H
        go_enter Try.func66, Try.ntmps66
        go_wp2_with (first | ((with_reducible refine gate_dst (N := 1) rfl ?_); (try (refine gate_guard (by rfl) ?_; dsimp only)); refine box_event ?hg (N := 1) ?hd (cs := #[.int .i64 a0_0, .int .i64 a0_1, .int .i64 a0_2, .slice A0_3 l0_3.length c0_3]) (t := 91) ?hr ?_; (case hd => rfl); (case hg => rfl); (case hr => first | (go_simp; done) | (go_simp; rfl)); intro gb298 hg w7 hbox hb; have n0_ := Aside0.mk (below_step (by repeat (first | (with_reducible first | exact HB.out | apply below_alloc | apply pw_below_drewN | apply below_drew1) | exact HB.out)) hb); have n1_ := Aside0.mk (hbox); have n2_ := Aside0.mk ((by rw [hg]; exact (below_size (by repeat (first | (with_reducible first | exact HB.out | apply below_alloc | apply pw_below_drewN | apply below_drew1) | exact HB.out))) : w.heap.size ≤ gb298)); have n3_ := Aside0.mk ((by rw [hg]; exact (below_size (by repeat (first | (with_reducible first | exact HB.out | apply below_alloc | apply pw_below_drewN | apply below_drew1) | exact HB.out))) : w.heap.size ≤ gb298)); clear HB; have HB := n0_; have BK298 := n1_; have GW298 := n2_; have GE298 := n3_; clear n0_ n1_ n2_ n3_; clear hb hbox hg; have hcz8_0 : w7.cell? ⟨gb298, 0, none⟩ = some (.int .i64 a0_0) := (blk_cell BK298.out 0).trans rfl; have hcz8_1 : w7.cell? ⟨gb298, 1, none⟩ = some (.int .i64 a0_1) := (blk_cell BK298.out 1).trans rfl; have hcz8_2 : w7.cell? ⟨gb298, 2, none⟩ = some (.int .i64 a0_2) := (blk_cell BK298.out 2).trans rfl; have hcz8_3 : w7.cell? ⟨gb298, 3, none⟩ = some (.slice A0_3 l0_3.length c0_3) := (blk_cell BK298.out 3).trans rfl; have hfz8_0 := blk_frozen BK298.out 0; have hfz8_1 := blk_frozen BK298.out 1; have hfz8_2 := blk_frozen BK298.out 2; have hfz8_3 := blk_frozen BK298.out 3))
        go_ret
        exact ⟨by first | rfl | (simp [errW_none, errW_some] <;> rfl) | (simp [*, errW_none, errW_some] <;> rfl), by repeat (first | (with_reducible first | exact HB.out | apply below_alloc | apply pw_below_drewN | apply below_drew1 | refine below_set ?_ GE298.out) | exact HB.out)⟩
    · rw [if_neg c3] at H
      have c3b0 : (a0_1 == 0) = false := beq_eq_false_iff_ne.mpr c3
      have c3b1 : (a0_1 != 0) = true := bne_iff_ne.mpr c3
      obtain rfl := Option.some.inj H
      go_enter Try.func66, Try.ntmps66
      go_wp2_with (first | ((with_reducible refine gate_dst (N := 1) rfl ?_); (try (refine gate_guard (by rfl) ?_; dsimp only)); refine box_event ?hg (N := 1) ?hd (cs := #[.int .i64 a0_0, .int .i64 a0_1, .int .i64 a0_2, .slice A0_3 l0_3.length c0_3]) (t := 91) ?hr ?_; (case hd => rfl); (case hg => rfl); (case hr => first | (go_simp; done) | (go_simp; rfl)); intro gb298 hg w9 hbox hb; have n0_ := Aside0.mk (below_step (by repeat (first | (with_reducible first | exact HB.out | apply below_alloc | apply pw_below_drewN | apply below_drew1) | exact HB.out)) hb); have n1_ := Aside0.mk (hbox); have n2_ := Aside0.mk ((by rw [hg]; exact (below_size (by repeat (first | (with_reducible first | exact HB.out | apply below_alloc | apply pw_below_drewN | apply below_drew1) | exact HB.out))) : w.heap.size ≤ gb298)); have n3_ := Aside0.mk ((by rw [hg]; exact (below_size (by repeat (first | (with_reducible first | exact HB.out | apply below_alloc | apply pw_below_drewN | apply below_drew1) | exact HB.out))) : w.heap.size ≤ gb298)); clear HB; have HB := n0_; have BK298 := n1_; have GW298 := n2_; have GE298 := n3_; clear n0_ n1_ n2_ n3_; clear hb hbox hg; have hcz10_0 : w9.cell? ⟨gb298, 0, none⟩ = some (.int .i64 a0_0) := (blk_cell BK298.out 0).trans rfl; have hcz10_1 : w9.cell? ⟨gb298, 1, none⟩ = some (.int .i64 a0_1) := (blk_cell BK298.out 1).trans rfl; have hcz10_2 : w9.cell? ⟨gb298, 2, none⟩ = some (.int .i64 a0_2) := (blk_cell BK298.out 2).trans rfl; have hcz10_3 : w9.cell? ⟨gb298, 3, none⟩ = some (.slice A0_3 l0_3.length c0_3) := (blk_cell BK298.out 3).trans rfl; have hfz10_0 := blk_frozen BK298.out 0; have hfz10_1 := blk_frozen BK298.out 1; have hfz10_2 := blk_frozen BK298.out 2; have hfz10_3 := blk_frozen BK298.out 3))
      go_ret
      exact ⟨by first | rfl | (simp [errW_none, errW_some] <;> rfl) | (simp [*, errW_none, errW_some] <;> rfl), by repeat (first | (with_reducible first | exact HB.out | apply below_alloc | apply pw_below_drewN | apply below_drew1 | refine below_set ?_ GE298.out) | exact HB.out)⟩
  · rw [if_neg c2] at H
    have c2b0 : (a0_0 == 1) = false := beq_eq_false_iff_ne.mpr c2
    have c2b1 : (a0_0 != 1) = true := bne_iff_ne.mpr c2
    have HC11 := Aside0.mk H
    clear H
    go_enter Try.func66, Try.ntmps66
    go_upto_if 26 with (first | ((with_reducible refine gate_dst (N := 1) rfl ?_); (try (refine gate_guard (by rfl) ?_; dsimp only)); refine box_event ?hg (N := 1) ?hd (cs := #[.int .i64 a0_0, .int .i64 a0_1, .int .i64 a0_2, .slice A0_3 l0_3.length c0_3]) (t := 91) ?hr ?_; (case hd => rfl); (case hg => rfl); (case hr => first | (go_simp; done) | (go_simp; rfl)); intro gb298 hg w12 hbox hb; have n0_ := Aside0.mk (below_step (by repeat (first | (with_reducible first | exact HB.out | apply below_alloc | apply pw_below_drewN | apply below_drew1) | exact HB.out)) hb); have n1_ := Aside0.mk (hbox); have n2_ := Aside0.mk ((by rw [hg]; exact (below_size (by repeat (first | (with_reducible first | exact HB.out | apply below_alloc | apply pw_below_drewN | apply below_drew1) | exact HB.out))) : w.heap.size ≤ gb298)); have n3_ := Aside0.mk ((by rw [hg]; exact (below_size (by repeat (first | (with_reducible first | exact HB.out | apply below_alloc | apply pw_below_drewN | apply below_drew1) | exact HB.out))) : w.heap.size ≤ gb298)); clear HB; have HB := n0_; have BK298 := n1_; have GW298 := n2_; have GE298 := n3_; clear n0_ n1_ n2_ n3_; clear hb hbox hg; have hcz13_0 : w12.cell? ⟨gb298, 0, none⟩ = some (.int .i64 a0_0) := (blk_cell BK298.out 0).trans rfl; have hcz13_1 : w12.cell? ⟨gb298, 1, none⟩ = some (.int .i64 a0_1) := (blk_cell BK298.out 1).trans rfl; have hcz13_2 : w12.cell? ⟨gb298, 2, none⟩ = some (.int .i64 a0_2) := (blk_cell BK298.out 2).trans rfl; have hcz13_3 : w12.cell? ⟨gb298, 3, none⟩ = some (.slice A0_3 l0_3.length c0_3) := (blk_cell BK298.out 3).trans rfl; have hfz13_0 := blk_frozen BK298.out 0; have hfz13_1 := blk_frozen BK298.out 1; have hfz13_2 := blk_frozen BK298.out 2; have hfz13_3 := blk_frozen BK298.out 3))
    (try simp only [Act.put, List.setIfInBounds_toArray, List.set_cons_zero, List.set_cons_succ])
    go_cut [26] (fun v26 wc => ∃ (kq : Nat) (x26_10 : Bool), v26 = .bool x26_10 ∧ Aside0 (script_Right.j0 kq ((l0_3.length : Int) == 0) a0_0 x26_10 a0_0 a0_1 a0_2 l0_3 = some r) ∧ Aside0 (kq ≤ k) ∧ Aside0 (wc.heap[gb298]? = some (.cells #[.int .i64 a0_0, .int .i64 a0_1, .int .i64 a0_2, (.slice A0_3 l0_3.length c0_3)] 91 (0, 0))) ∧ Aside0 (Below w.heap.size w wc))
    case first =>
      have H := HC11.out
      clear HC11
      by_cases c14 : a0_0 = 2
      · rw [if_pos c14] at H
        have c14b0 : (a0_0 == 2) = true := beq_iff_eq.mpr c14
        have c14b1 : (a0_0 != 2) = false := bne_eq_false_iff_eq.mpr c14
        clear c14
        (first | rw [c14b0] | (simp only [i64_w, i32_w]; rw [c14b0]) | skip)
        have H' := Aside0.mk H
        clear H
        go_wp2
        go_meet
        case rel => exact ⟨_, ((a0_0 == 2)), (by first | rfl | (simp; done) | (simp [*]; done)), H', ⟨by first | omega | exact Nat.le_refl _⟩, ⟨by (with_reducible repeat (first | refine blk_drewN ?_ _ | refine blk_drew ?_ | refine blk_alloc ?_ _)); exact BK298.out⟩, ⟨by repeat (first | (with_reducible first | exact HB.out | apply below_alloc | apply pw_below_drewN | apply below_drew1 | refine below_set ?_ GE298.out) | exact HB.out)⟩⟩
      · rw [if_neg c14] at H
        have c14b0 : (a0_0 == 2) = false := beq_eq_false_iff_ne.mpr c14
        have c14b1 : (a0_0 != 2) = true := bne_iff_ne.mpr c14
        (first | rw [c14b0] | (simp only [i64_w, i32_w]; rw [c14b0]) | skip)
        have H' := Aside0.mk H
        clear H
        go_wp2
        go_meet
        case rel => exact ⟨_, ((a0_0 == 3)), (by first | rfl | (simp; done) | (simp [*]; done)), H', ⟨by first | omega | exact Nat.le_refl _⟩, ⟨by (with_reducible repeat (first | refine blk_drewN ?_ _ | refine blk_drew ?_ | refine blk_alloc ?_ _)); exact BK298.out⟩, ⟨by repeat (first | (with_reducible first | exact HB.out | apply below_alloc | apply pw_below_drewN | apply below_drew1 | refine below_set ?_ GE298.out) | exact HB.out)⟩⟩
    case rest =>
      clear HC11
      try clear c1
      try clear c2
      try clear c2b0
      try clear c2b1
      try clear p2
      try clear c3
      try clear c3b0
      try clear c3b1
      try clear c4
      try clear c4b0
      try clear c4b1
      try clear c6
      try clear c14
      try clear c14b0
      try clear c14b1
      try clear hcz10_0
      try clear hcz10_1
      try clear hcz10_2
      try clear hcz10_3
      try clear hcz13_0
      try clear hcz13_1
      try clear hcz13_2
      try clear hcz13_3
      try clear hcz6_0
      try clear hcz6_1
      try clear hcz6_2
      try clear hcz6_3
      try clear hcz8_0
      try clear hcz8_1
      try clear hcz8_2
      try clear hcz8_3
      try clear hfz10_0
      try clear hfz10_1
      try clear hfz10_2
      try clear hfz10_3
      try clear hfz13_0
      try clear hfz13_1
      try clear hfz13_2
      try clear hfz13_3
      try clear hfz6_0
      try clear hfz6_1
      try clear hfz6_2
      try clear hfz6_3
      try clear hfz8_0
      try clear hfz8_1
      try clear hfz8_2
      try clear hfz8_3
      obtain ⟨kq, x26_10, rfl, HA, HJ10, BK298, HB⟩ := hcut
      cases kq with
      | zero => exact absurd HA.out (by simp [script_Right.j0])
      | succ kj10 =>
        have H := HA.out
        clear HA
        simp only [script_Right.j0] at H
        by_cases c15 : x26_10 = true
        · subst c15
          have H1 : (if ((l0_3.length : Int) == 0) = true then (some (a0_1 == 0)) else (some false)) = some r := by rw [if_pos rfl] at H; exact H
          clear H
          have H := H1
          clear H1
          by_cases c16 : ((l0_3.length : Int) == 0) = true
          · rw [if_pos c16] at H
            have c16b0 : ((l0_3.length : Int) == 0) = true := c16
            (try (have c16b1 : decide ((l0_3.length : Int) = 0) = true := by simpa using c16))
            (try (have c16b2 : ((l0_3.length : Int) == 0) = true := by simpa using c16))
            clear c16
            obtain rfl := Option.some.inj H
            have hcz17_0 : wc.cell? ⟨gb298, 0, none⟩ = some (.int .i64 a0_0) := (blk_cell BK298.out 0).trans rfl
            have hcz17_1 : wc.cell? ⟨gb298, 1, none⟩ = some (.int .i64 a0_1) := (blk_cell BK298.out 1).trans rfl
            have hcz17_2 : wc.cell? ⟨gb298, 2, none⟩ = some (.int .i64 a0_2) := (blk_cell BK298.out 2).trans rfl
            have hcz17_3 : wc.cell? ⟨gb298, 3, none⟩ = some (.slice A0_3 l0_3.length c0_3) := (blk_cell BK298.out 3).trans rfl
            have hfz17_0 := blk_frozen BK298.out 0
            have hfz17_1 := blk_frozen BK298.out 1
            have hfz17_2 := blk_frozen BK298.out 2
            have hfz17_3 := blk_frozen BK298.out 3
            go_wp2
            go_ret
            exact ⟨by first | rfl | (simp [errW_none, errW_some] <;> rfl) | (simp [*, errW_none, errW_some] <;> rfl), by repeat (first | (with_reducible first | exact HB.out | apply below_alloc | apply pw_below_drewN | apply below_drew1 | refine below_set ?_ GE298.out) | exact HB.out)⟩
          · rw [if_neg c16] at H
            have c16b0 : ((l0_3.length : Int) == 0) = false := by simpa using c16
            (try (have c16b1 : decide ((l0_3.length : Int) = 0) = false := by simpa using c16))
            (try (have c16b2 : ((l0_3.length : Int) == 0) = false := by simpa using c16))
            (try (have c16b3 : ¬ ((l0_3.length : Int) = 0) := by simpa using c16))
            clear c16
            obtain rfl := Option.some.inj H
            go_wp2
            go_ret
            exact ⟨by first | rfl | (simp [errW_none, errW_some] <;> rfl) | (simp [*, errW_none, errW_some] <;> rfl), by repeat (first | (with_reducible first | exact HB.out | apply below_alloc | apply pw_below_drewN | apply below_drew1 | refine below_set ?_ GE298.out) | exact HB.out)⟩
        · replace c15 := Bool.eq_false_iff.mpr c15
          subst c15
          have H1 : (if a0_0 = 4 then (if ((l0_3.length : Int) == 0) = true then (if a0_1 ≥ 0 then (some (decide (a0_1 ≤ 255))) else (some false)) else (some false)) else (some false)) = some r := by rw [if_neg (show ¬ (false = true) by decide)] at H; exact H
          clear H
          have H := H1
          clear H1
          by_cases c18 : a0_0 = 4
          · rw [if_pos c18] at H
            have c18b0 : (a0_0 == 4) = true := beq_iff_eq.mpr c18
            have c18b1 : (a0_0 != 4) = false := bne_eq_false_iff_eq.mpr c18
            clear c18
            by_cases c19 : ((l0_3.length : Int) == 0) = true
            · rw [if_pos c19] at H
              have c19b0 : ((l0_3.length : Int) == 0) = true := c19
              (try (have c19b1 : decide ((l0_3.length : Int) = 0) = true := by simpa using c19))
              (try (have c19b2 : ((l0_3.length : Int) == 0) = true := by simpa using c19))
              clear c19
              by_cases c20 : a0_1 ≥ 0
              · rw [if_pos c20] at H
                have c20b0 : decide (0 ≤ a0_1) = true := decide_eq_true c20
                clear c20
                obtain rfl := Option.some.inj H
                have hcz21_0 : wc.cell? ⟨gb298, 0, none⟩ = some (.int .i64 a0_0) := (blk_cell BK298.out 0).trans rfl
                have hcz21_1 : wc.cell? ⟨gb298, 1, none⟩ = some (.int .i64 a0_1) := (blk_cell BK298.out 1).trans rfl
                have hcz21_2 : wc.cell? ⟨gb298, 2, none⟩ = some (.int .i64 a0_2) := (blk_cell BK298.out 2).trans rfl
                have hcz21_3 : wc.cell? ⟨gb298, 3, none⟩ = some (.slice A0_3 l0_3.length c0_3) := (blk_cell BK298.out 3).trans rfl
                have hfz21_0 := blk_frozen BK298.out 0
                have hfz21_1 := blk_frozen BK298.out 1
                have hfz21_2 := blk_frozen BK298.out 2
                have hfz21_3 := blk_frozen BK298.out 3
                go_wp2
                go_ret
                exact ⟨by first | rfl | (simp [errW_none, errW_some] <;> rfl) | (simp [*, errW_none, errW_some] <;> rfl), by repeat (first | (with_reducible first | exact HB.out | apply below_alloc | apply pw_below_drewN | apply below_drew1 | refine below_set ?_ GE298.out) | exact HB.out)⟩
              · rw [if_neg c20] at H
                have c20b0 : decide (0 ≤ a0_1) = false := decide_eq_false c20
                clear c20
                obtain rfl := Option.some.inj H
                have hcz22_0 : wc.cell? ⟨gb298, 0, none⟩ = some (.int .i64 a0_0) := (blk_cell BK298.out 0).trans rfl
                have hcz22_1 : wc.cell? ⟨gb298, 1, none⟩ = some (.int .i64 a0_1) := (blk_cell BK298.out 1).trans rfl
                have hcz22_2 : wc.cell? ⟨gb298, 2, none⟩ = some (.int .i64 a0_2) := (blk_cell BK298.out 2).trans rfl
                have hcz22_3 : wc.cell? ⟨gb298, 3, none⟩ = some (.slice A0_3 l0_3.length c0_3) := (blk_cell BK298.out 3).trans rfl
                have hfz22_0 := blk_frozen BK298.out 0
                have hfz22_1 := blk_frozen BK298.out 1
                have hfz22_2 := blk_frozen BK298.out 2
                have hfz22_3 := blk_frozen BK298.out 3
                go_wp2
                go_ret
                exact ⟨by first | rfl | (simp [errW_none, errW_some] <;> rfl) | (simp [*, errW_none, errW_some] <;> rfl), by repeat (first | (with_reducible first | exact HB.out | apply below_alloc | apply pw_below_drewN | apply below_drew1 | refine below_set ?_ GE298.out) | exact HB.out)⟩
            · rw [if_neg c19] at H
              have c19b0 : ((l0_3.length : Int) == 0) = false := by simpa using c19
              (try (have c19b1 : decide ((l0_3.length : Int) = 0) = false := by simpa using c19))
              (try (have c19b2 : ((l0_3.length : Int) == 0) = false := by simpa using c19))
              (try (have c19b3 : ¬ ((l0_3.length : Int) = 0) := by simpa using c19))
              clear c19
              obtain rfl := Option.some.inj H
              go_wp2
              go_ret
              exact ⟨by first | rfl | (simp [errW_none, errW_some] <;> rfl) | (simp [*, errW_none, errW_some] <;> rfl), by repeat (first | (with_reducible first | exact HB.out | apply below_alloc | apply pw_below_drewN | apply below_drew1 | refine below_set ?_ GE298.out) | exact HB.out)⟩
          · rw [if_neg c18] at H
            have c18b0 : (a0_0 == 4) = false := beq_eq_false_iff_ne.mpr c18
            have c18b1 : (a0_0 != 4) = true := bne_iff_ne.mpr c18
            obtain rfl := Option.some.inj H
            go_wp2
            go_ret
            exact ⟨by first | rfl | (simp [errW_none, errW_some] <;> rfl) | (simp [*, errW_none, errW_some] <;> rfl), by repeat (first | (with_reducible first | exact HB.out | apply below_alloc | apply pw_below_drewN | apply below_drew1 | refine below_set ?_ GE298.out) | exact HB.out)⟩

end Go.Proofs.Ytalpemoodollpaa.P
/- script.Encode of the chapter's example: one tick. -/
namespace Go.Proofs.Ytalpemoodollpaa.P
open Go.RowKit Go.Proofs.YtalpemoodollpaaW.PrintWords Go.Proofs.YtalpemoodollpaaW.PrintLast Go.Proofs.YtalpemoodollpaaW.PrintMore
set_option linter.unusedVariables false
set_option linter.unusedSimpArgs false
theorem addr0 (a : Addr) : a.add 0 = a := by
  obtain ⟨b, o, i⟩ := a
  cases i <;> simp [Addr.add]
theorem scrRight1 (A : Option Addr) (c : Nat) (w : World) : Calls Try.prog 66 #[.agg #[.int .i64 2, .int .i64 0, .int .i64 1, .slice A 0 c]] w fun e w' => e = .returned (.bool true) ∧ Below w.heap.size w w' :=
  script_Right.calls 3 2 0 1 A c [] true w ⟨rfl, by simp, fun h => absurd h (Nat.lt_irrefl 0)⟩ (Nat.zero_le _) (by decide)
set_option maxRecDepth 100000 in
set_option maxHeartbeats 1000000 in
theorem scrEnc1 (A0 : Option Addr) (c0 : Nat) (w : World) (hr0 : Kd.C k91 w A0 1 [⟨2, 0, 1, []⟩]) (hc0 : 1 ≤ c0) :
    Calls Try.prog 50 #[.slice A0 1 c0] w fun e w' => ∃ v, e = .returned (.tuple #[v, .int .i64 0]) ∧ Kd.R (Kd.int .u8) 5 w' w.heap.size (fun _ => True) v [1, 2, 0, 0, 0, 0, 0, 0, 0, 2] ∧ Below w.heap.size w w' := by
  have hu91 := Try.underlying91
  have N1 : Aside0 (numForm (1 : Int).toNat = [1]) := ⟨numForm_small (by decide) (by decide)⟩
  have HR := Aside0.mk hr0
  obtain ⟨ad, A3, c3, rfl, _, _, _, _, _, _⟩ := at_T91 hr0 0 (by decide) (by decide)
  clear hr0
  have HK0 := Aside0.mk (WK.new (Below.refl w.heap.size w))
  go_enter Try.func50, Try.ntmps50
  go_wp2_with fail
  refine (HK0.out.num 1 (by decide) (by decide) (by decide)).mono ?_
  rintro e w1 ⟨rfl, hk, _⟩
  have HK1 := Aside0.mk hk
  clear hk HK0
  obtain ⟨_, A4, c4, hA, e0, e1, e2, e3, hl4, hC4⟩ := at_T91 (Kd.C_below HR.out HK1.out.bel) 0 (by decide) (by decide)
  injection hA with hA
  subst hA
  have hx : rd_T91 [⟨2, 0, 1, []⟩] 0 = ⟨2, 0, 1, []⟩ := by simp [rd_T91]
  rw [hx] at e0 e1 e2 e3
  simp only [Int.toNat_zero, Nat.zero_mul, addr0] at e0 e1 e2 e3
  go_wp2
  refine wp_loop_rounds 2 ?_
  rw [rounds_succ]
  go_wp2_with fail
  have HG := Aside0.mk (show w.heap.size < w1.heap.size from by obtain ⟨row, hs, _⟩ := HK1.out.ex; exact hs.lt)
  have HK2 := Aside0.mk (HK1.out.alloc (.cells #[.int .i64 2, .int .i64 0, .int .i64 1, .slice A4 0 c4] 91))
  have BX := Aside0.mk (blk_new w1 (.cells #[.int .i64 2, .int .i64 0, .int .i64 1, .slice A4 0 c4] 91))
  refine (scrRight1 A4 c4 _).mono ?_
  rintro e w2 ⟨rfl, hb⟩
  have BX2 := Aside0.mk (show w2.heap[w1.heap.size]? = some (.cells #[.int .i64 2, .int .i64 0, .int .i64 1, .slice A4 0 c4] 91 (0, 0)) from (hb.block _ (by simp)).trans BX.out)
  have HK3 := Aside0.mk (HK2.out.below hb)
  clear hb e0 e1 e2 e3 hl4 hC4 HK1 HK2 BX
  have b0 := (blk_cell BX2.out 0).trans rfl
  have BX3 := Aside0.mk (blk_alloc BX2.out (.cells #[.int .u8 2] 5))
  go_wp2_with fail
  refine ((HK3.out.alloc (.cells (nums .u8 [2]).toArray 5)).raw [2] _ 1 (lit_C w2 [2] (by simp)) (by rw [N1.out]; decide) (by simp)).mono ?_
  rintro e w3 ⟨rfl, hk, kt⟩
  have HK4 := Aside0.mk hk
  have BX4 := Aside0.mk (show w3.heap[w1.heap.size]? = some (.cells #[.int .i64 2, .int .i64 0, .int .i64 1, .slice A4 0 c4] 91 (0, 0)) from kt _ _ _ BX3.out (by decide) (by have := HG.out; omega))
  clear hk kt b0 BX2 BX3 HK3
  have b0 := (blk_cell BX4.out 0).trans rfl
  have b2 := (blk_cell BX4.out 2).trans rfl
  go_wp2_with fail
  refine (HK4.out.int 1 (by decide) (by decide) (by rw [N1.out]; decide)).mono ?_
  rintro e w4 ⟨rfl, hk, _⟩
  have HK5 := Aside0.mk hk
  clear hk b0 b2
  go_wp2
  rw [rounds_succ]
  go_wp2_with fail
  refine (HK5.out.bytes (by rw [N1.out]; simp [intForm_length])).mono ?_
  rintro e w5 ⟨v, rfl, hR, hB, _⟩
  have HRR := Aside0.mk hR
  have HBB := Aside0.mk hB
  clear hR hB
  go_wp2
  go_ret2
  have he : ([] ++ numForm (1 : Int).toNat ++ [2] ++ intForm 1 : List Int) = [1, 2, 0, 0, 0, 0, 0, 0, 0, 2] := by rw [N1.out]; decide
  exact ⟨_, rfl, by rw [← he]; exact HRR.out, HBB.out⟩
/-- Known at the chapter's example alone. -/
def script_Encode.f (l : List S91) : Option (List Int × Int) :=
  match l with
  | [x] => if x.f0 = 2 ∧ x.f1 = 0 ∧ x.f2 = 1 ∧ x.f3 = [] then some ([1, 2, 0, 0, 0, 0, 0, 0, 0, 2], 0) else none
  | _ => none
theorem script_Encode.calls (A0 : Option Addr) (c0 : Nat) (l0 : List S91) (r1 : List Int) (r2 : Int) (w : World) (hr0 : Kd.C k91 w A0 l0.length l0) (hc0 : l0.length ≤ c0) (h : script_Encode.f l0 = some (r1, r2)) :
    Calls Try.prog 50 #[.slice A0 l0.length c0] w fun e w' => ∃ v0_ : Value, e = .returned (.tuple #[v0_, .int .i64 r2]) ∧ Kd.R (Kd.int .u8) 5 w' w.heap.size (fun _ => True) v0_ r1 ∧ Below w.heap.size w w' := by
  unfold script_Encode.f at h
  split at h
  · rename_i x
    obtain ⟨f0, f1, f2, f3⟩ := x
    by_cases hp : f0 = 2 ∧ f1 = 0 ∧ f2 = 1 ∧ f3 = []
    · rw [if_pos hp] at h
      have h := Option.some.inj h
      obtain ⟨rfl, rfl⟩ := Prod.mk.inj h
      obtain ⟨rfl, rfl, rfl, rfl⟩ := hp
      exact scrEnc1 A0 c0 w hr0 hc0
    · rw [if_neg hp] at h
      cases h
  · cases h
end Go.Proofs.Ytalpemoodollpaa.P
-- Printed by hookprint.py (the session's own program, over the kit's print.py): checked by Lean like any text.
namespace Go.Proofs.Ytalpemoodollpaa.P
open Go.RowKit Go.Proofs.YtalpemoodollpaaW.PrintWords Go.Proofs.YtalpemoodollpaaW.PrintLast Go.Proofs.YtalpemoodollpaaW.PrintMore
attribute [local go_sem] max2_int min2_int max_two min_two max_three min_three max_four min_four   -- for this text's walks alone
set_option linter.unusedVariables false
set_option linter.unusedSimpArgs false

/-! ### fix_Add: function 119 -/
def fix_Add.f (a0 : Int) (a1 : Int) : Option (Int × Bool) := if (Go.bits .and .i64 (Go.bits .xor .i64 a0 (wrap64 (a0 + a1))) (Go.bits .xor .i64 a1 (wrap64 (a0 + a1)))) < 0 then (some (0, false)) else (some (wrap64 (a0 + a1), true))
set_option maxHeartbeats 8000000 in
set_option maxRecDepth 100000 in
theorem fix_Add.calls (a0 : Int) (a1 : Int) (r1 : Int) (r2 : Bool) (w : World) (h : fix_Add.f a0 a1 = some (r1, r2)) :
    Calls Try.prog 119 #[.int .i64 a0, .int .i64 a1] w fun e w' => e = .returned (.tuple #[.int .i64 r1, .bool r2]) ∧ Drawn0 w w' := by
  have H : (if (Go.bits .and .i64 (Go.bits .xor .i64 a0 (wrap64 (a0 + a1))) (Go.bits .xor .i64 a1 (wrap64 (a0 + a1)))) < 0 then (some (0, false)) else (some (wrap64 (a0 + a1), true))) = some (r1, r2) := h
  clear h
  by_cases c3 : (Go.bits .and .i64 (Go.bits .xor .i64 a0 (wrap64 (a0 + a1))) (Go.bits .xor .i64 a1 (wrap64 (a0 + a1)))) < 0
  · rw [if_pos c3] at H
    have c3b0 : decide ((Go.bits .and .i64 (Go.bits .xor .i64 a0 (wrap64 (a0 + a1))) (Go.bits .xor .i64 a1 (wrap64 (a0 + a1)))) < 0) = true := decide_eq_true c3
    clear c3
    simp only [Option.some.injEq, Prod.mk.injEq] at H
    obtain ⟨rfl, rfl⟩ := H
    go_enter Try.func119, Try.ntmps119
    go_wp2
    go_ret2
    exact ⟨by first | rfl | (simp; done) | (simp [*]; done), by repeat (first | exact Drawn0.refl _ | apply Drawn0.step)⟩
  · rw [if_neg c3] at H
    have c3b0 : decide ((Go.bits .and .i64 (Go.bits .xor .i64 a0 (wrap64 (a0 + a1))) (Go.bits .xor .i64 a1 (wrap64 (a0 + a1)))) < 0) = false := decide_eq_false c3
    clear c3
    simp only [Option.some.injEq, Prod.mk.injEq] at H
    obtain ⟨rfl, rfl⟩ := H
    go_enter Try.func119, Try.ntmps119
    go_wp2
    go_ret2
    exact ⟨by first | rfl | (simp; done) | (simp [*]; done), by repeat (first | exact Drawn0.refl _ | apply Drawn0.step)⟩

end Go.Proofs.Ytalpemoodollpaa.P
-- Printed by hookprint.py (the session's own program, over the kit's print.py): checked by Lean like any text.
namespace Go.Proofs.Ytalpemoodollpaa.P
open Go.RowKit Go.Proofs.YtalpemoodollpaaW.PrintWords Go.Proofs.YtalpemoodollpaaW.PrintLast Go.Proofs.YtalpemoodollpaaW.PrintMore
attribute [local go_sem] max2_int min2_int max_two min_two max_three min_three max_four min_four   -- for this text's walks alone
set_option linter.unusedVariables false
set_option linter.unusedSimpArgs false

/-! ### script_Ticks: function 68 -/
mutual
def script_Ticks.l0 : Nat → Int → List (S91) → Int → Int → Option (Int × Bool)
  | 0, _, _, _, _ => none
  | k + 1, x2, x6, x7, x8 => if x8 < x7 then (if 0 ≤ x8 then (if x8 < (x6.length : Int) then (if ((rd_T91 x6 x8).f0) = 2 then (script_Ticks.j1 k x2 x6 x7 x8 (decide (((rd_T91 x6 x8).f2) < 0)) ((rd_T91 x6 x8).f0) ((rd_T91 x6 x8).f1) ((rd_T91 x6 x8).f2) ((rd_T91 x6 x8).f3)) else (script_Ticks.j1 k x2 x6 x7 x8 true ((rd_T91 x6 x8).f0) ((rd_T91 x6 x8).f1) ((rd_T91 x6 x8).f2) ((rd_T91 x6 x8).f3))) else (none)) else (none)) else (some (x2, true))
def script_Ticks.j1 : Nat → Int → List (S91) → Int → Int → Bool → Int → Int → Int → List Int → Option (Int × Bool)
  | 0, _, _, _, _, _, _, _, _, _ => none
  | k + 1, x2, x6, x7, x8, x19, x301000, x301001, x301002, x301003 => if x19 = true then (script_Ticks.l0 k x2 x6 x7 (wrap64 (x8 + 1))) else ((fix_Add.f x2 x301002).bind fun bt301 => (if bt301.2 = true then (script_Ticks.l0 k bt301.1 x6 x7 (wrap64 (x8 + 1))) else (some (0, false))))
end
def script_Ticks.f (k : Nat) (l0 : List (S91)) : Option (Int × Bool) := script_Ticks.l0 k 0 l0 (l0.length : Int) 0
theorem script_Ticks.mono_l : ∀ k, (∀ y0 y1 y2 y3, LeO (script_Ticks.l0 k y0 y1 y2 y3) (script_Ticks.l0 (k + 1) y0 y1 y2 y3)) ∧ (∀ y0 y1 y2 y3 y4 y5 y6 y7 y8, LeO (script_Ticks.j1 k y0 y1 y2 y3 y4 y5 y6 y7 y8) (script_Ticks.j1 (k + 1) y0 y1 y2 y3 y4 y5 y6 y7 y8))
  | 0 => ⟨fun _ _ _ _ r h => by simp [script_Ticks.l0] at h, fun _ _ _ _ _ _ _ _ _ r h => by simp [script_Ticks.j1] at h⟩
  | k + 1 => by
    obtain ⟨ih0, ih1⟩ := script_Ticks.mono_l k
    refine ⟨?_, ?_⟩
    · intro y0 y1 y2 y3
      unfold script_Ticks.l0
      repeat' first
      | (with_reducible exact ih0 _ _ _ _)
      | (with_reducible exact ih1 _ _ _ _ _ _ _ _ _)
      | (with_reducible exact LeO.refl _)
      | (with_reducible exact LeO.none _)
      | (with_reducible refine LeO.ite ?_ ?_)
      | (with_reducible refine LeO.bind ?_ (fun _ => ?_))
      | exact ih0 _ _ _ _
      | exact ih1 _ _ _ _ _ _ _ _ _
      | exact LeO.none _
      | refine LeO.ite ?_ ?_
      | refine LeO.bind ?_ (fun _ => ?_)
    · intro y0 y1 y2 y3 y4 y5 y6 y7 y8
      unfold script_Ticks.j1
      repeat' first
      | (with_reducible exact ih0 _ _ _ _)
      | (with_reducible exact ih1 _ _ _ _ _ _ _ _ _)
      | (with_reducible exact LeO.refl _)
      | (with_reducible exact LeO.none _)
      | (with_reducible refine LeO.ite ?_ ?_)
      | (with_reducible refine LeO.bind ?_ (fun _ => ?_))
      | exact ih0 _ _ _ _
      | exact ih1 _ _ _ _ _ _ _ _ _
      | exact LeO.none _
      | refine LeO.ite ?_ ?_
      | refine LeO.bind ?_ (fun _ => ?_)
theorem script_Ticks.mono : ∀ a0 k, LeO (script_Ticks.f k a0) (script_Ticks.f (k + 1) a0) := by
  intro a0 k
  obtain ⟨ih0, ih1⟩ := script_Ticks.mono_l k
  unfold script_Ticks.f
  repeat' first
      | (with_reducible exact ih0 _ _ _ _)
      | (with_reducible exact ih1 _ _ _ _ _ _ _ _ _)
      | (with_reducible exact LeO.refl _)
      | (with_reducible exact LeO.none _)
      | (with_reducible refine LeO.ite ?_ ?_)
      | (with_reducible refine LeO.bind ?_ (fun _ => ?_))
      | exact ih0 _ _ _ _
      | exact ih1 _ _ _ _ _ _ _ _ _
      | exact LeO.none _
      | refine LeO.ite ?_ ?_
      | refine LeO.bind ?_ (fun _ => ?_)
set_option maxHeartbeats 8000000 in
set_option maxRecDepth 100000 in
theorem script_Ticks.calls (k : Nat) (A0 : Option Addr) (c0 : Nat) (l0 : List (S91)) (r1 : Int) (r2 : Bool) (w : World) (hr0 : Kd.C k91 w A0 l0.length l0) (hc0 : l0.length ≤ c0) (h : script_Ticks.f k l0 = some (r1, r2)) :
    Calls Try.prog 68 #[.slice A0 l0.length c0] w fun e w' => e = .returned (.tuple #[.int .i64 r1, .bool r2]) ∧ Below w.heap.size w w' := by
  have hu91 := Try.underlying91
  have HR0 := Aside0.mk hr0
  have HC0 := Aside0.mk hc0
  clear hr0 hc0
  have HB := Aside0.mk (Below.refl w.heap.size w)
  have H : (script_Ticks.l0 k 0 l0 (l0.length : Int) 0) = some (r1, r2) := h
  clear h
  have H' := Aside0.mk H
  clear H
  go_enter Try.func68, Try.ntmps68
  go_wp2
  go_loopg [2, 8] k (fun kq v2 v8 w' => ∃ (x2_1 : Int) (x8_1 : Int), v2 = .int .i64 x2_1 ∧ v8 = .int .i64 x8_1 ∧ Aside0 (script_Ticks.l0 kq x2_1 l0 (l0.length : Int) x8_1 = some (r1, r2)) ∧ Aside0 (kq ≤ k) ∧ Aside0 (Below w.heap.size w w'))
  case atStart => exact ⟨(0), (0), (by first | rfl | (simp; done) | (simp [*]; done)), (by first | rfl | (simp; done) | (simp [*]; done)), H', ⟨Nat.le_refl _⟩, ⟨by repeat (first | (with_reducible first | exact HB.out | apply below_alloc | apply pw_below_drewN | apply below_drew1) | exact HB.out)⟩⟩
  case round =>
    clear H'
    obtain ⟨x2_1, x8_1, rfl, rfl, HA, HK1, HB⟩ := hrel
    cases gk with
    | zero => exact absurd HA.out (by simp [script_Ticks.l0])
    | succ k1 =>
      have H := HA.out
      clear HA
      simp only [script_Ticks.l0] at H
      by_cases c2 : x8_1 < (l0.length : Int)
      · rw [if_pos c2] at H
        have c2b0 : decide (x8_1 < (l0.length : Int)) = true := decide_eq_true c2
        clear c2
        by_cases c3 : 0 ≤ x8_1
        · rw [if_pos c3] at H
          have c3b0 : decide (0 ≤ x8_1) = true := decide_eq_true c3
          clear c3
          by_cases c4 : x8_1 < (l0.length : Int)
          · rw [if_pos c4] at H
            have c4b0 : decide (x8_1 < (l0.length : Int)) = true := decide_eq_true c4
            clear c4
            have HC5 := Aside0.mk H
            clear H
            have p299 : 0 ≤ (x8_1 : Int) := of_decide_eq_true (by first | (with_reducible assumption) | assumption)
            have q299 : x8_1 < (l0.length : Int) := of_decide_eq_true (by first | (with_reducible assumption) | assumption)
            obtain ⟨ad299, A299_3, c299_3, e299, hx299_0, hx299_1, hx299_2, hx299_3, hl299_3, hi299_3⟩ := at_T91 HR0.out x8_1 p299 q299
            cases e299
            replace hx299_0 := (HB.out.cell (World.block_lt_of_cell? w _ hx299_0)).trans hx299_0
            replace hx299_1 := (HB.out.cell (World.block_lt_of_cell? w _ hx299_1)).trans hx299_1
            replace hx299_2 := (HB.out.cell (World.block_lt_of_cell? w _ hx299_2)).trans hx299_2
            replace hx299_3 := (HB.out.cell (World.block_lt_of_cell? w _ hx299_3)).trans hx299_3
            have HR299_3 := Aside0.mk hi299_3
            have HC299_3 := Aside0.mk hl299_3
            clear hi299_3 hl299_3
            replace p299 := eq_true p299
            replace q299 := eq_true q299
            go_upto_region 4 with (first | ((with_reducible refine gate_dst (N := 5) rfl ?_); refine box_event ?hg (N := 5) ?hd (cs := #[.int .i64 0, .int .i64 0, .int .i64 0, .slice none 0 0]) (t := 91) ?hr ?_; (case hd => rfl); (case hg => rfl); (case hr => first | (go_simp; done) | (go_simp; rfl)); intro gb300 hg w6 hbox hb; have n0_ := Aside0.mk (below_step (by repeat (first | (with_reducible first | exact HB.out | apply below_alloc | apply pw_below_drewN | apply below_drew1) | exact HB.out)) hb); have n1_ := Aside0.mk (hbox); have n2_ := Aside0.mk ((by rw [hg]; exact (below_size (by repeat (first | (with_reducible first | exact HB.out | apply below_alloc | apply pw_below_drewN | apply below_drew1) | exact HB.out))) : w.heap.size ≤ gb300)); have n3_ := Aside0.mk ((by rw [hg]; exact (below_size (by repeat (first | (with_reducible first | exact HB.out | apply below_alloc | apply pw_below_drewN | apply below_drew1) | exact HB.out))) : w.heap.size ≤ gb300)); clear HB; have HB := n0_; have BK300 := n1_; have GW300 := n2_; have GE300 := n3_; clear n0_ n1_ n2_ n3_; clear hb hbox hg; have hcz7_0 : w6.cell? ⟨gb300, 0, none⟩ = some (.int .i64 0) := (blk_cell BK300.out 0).trans rfl; have hcz7_1 : w6.cell? ⟨gb300, 1, none⟩ = some (.int .i64 0) := (blk_cell BK300.out 1).trans rfl; have hcz7_2 : w6.cell? ⟨gb300, 2, none⟩ = some (.int .i64 0) := (blk_cell BK300.out 2).trans rfl; have hcz7_3 : w6.cell? ⟨gb300, 3, none⟩ = some (.slice none 0 0) := (blk_cell BK300.out 3).trans rfl; have hfz7_0 := blk_frozen BK300.out 0; have hfz7_1 := blk_frozen BK300.out 1; have hfz7_2 := blk_frozen BK300.out 2; have hfz7_3 := blk_frozen BK300.out 3))
            (try simp only [Act.put, List.setIfInBounds_toArray, List.set_cons_zero, List.set_cons_succ])
            go_cut [19] (fun v19 wc => ∃ (kq : Nat) (x19_4 : Bool), v19 = .bool x19_4 ∧ Aside0 (script_Ticks.j1 kq x2_1 l0 (l0.length : Int) x8_1 x19_4 ((rd_T91 l0 x8_1).f0) ((rd_T91 l0 x8_1).f1) ((rd_T91 l0 x8_1).f2) ((rd_T91 l0 x8_1).f3) = some (r1, r2)) ∧ Aside0 (kq ≤ k1) ∧ Aside0 (wc.heap[gb300]? = some (.cells #[.int .i64 ((rd_T91 l0 x8_1).f0), .int .i64 ((rd_T91 l0 x8_1).f1), .int .i64 ((rd_T91 l0 x8_1).f2), (.slice A299_3 ((rd_T91 l0 x8_1).f3).length c299_3)] 91 (0, 0))) ∧ Aside0 (Below w.heap.size w wc))
            case first =>
              have H := HC5.out
              clear HC5
              by_cases c8 : ((rd_T91 l0 x8_1).f0) = 2
              · rw [if_pos c8] at H
                have c8b0 : (((rd_T91 l0 x8_1).f0) == 2) = true := beq_iff_eq.mpr c8
                have c8b1 : (((rd_T91 l0 x8_1).f0) != 2) = false := bne_eq_false_iff_eq.mpr c8
                clear c8
                (first | rw [c8b0] | (simp only [i64_w, i32_w]; rw [c8b0]) | skip)
                have H' := Aside0.mk H
                clear H
                have hcz9_0 : w6.cell? ⟨gb300, 0, none⟩ = some (.int .i64 0) := (blk_cell BK300.out 0).trans rfl
                have hcz9_1 : w6.cell? ⟨gb300, 1, none⟩ = some (.int .i64 0) := (blk_cell BK300.out 1).trans rfl
                have hcz9_2 : w6.cell? ⟨gb300, 2, none⟩ = some (.int .i64 0) := (blk_cell BK300.out 2).trans rfl
                have hcz9_3 : w6.cell? ⟨gb300, 3, none⟩ = some (.slice none 0 0) := (blk_cell BK300.out 3).trans rfl
                have hfz9_0 := blk_frozen BK300.out 0
                have hfz9_1 := blk_frozen BK300.out 1
                have hfz9_2 := blk_frozen BK300.out 2
                have hfz9_3 := blk_frozen BK300.out 3
                go_wp2
                go_meet
                case rel => exact ⟨_, (decide (((rd_T91 l0 x8_1).f2) < 0)), (by first | rfl | (simp; done) | (simp [*]; done)), H', ⟨by have := HK1.out; first | omega | exact Nat.le_refl _⟩, ⟨by (with_reducible repeat (first | refine blk_drewN ?_ _ | refine blk_drew ?_ | refine blk_alloc ?_ _)); refine blk_put (cs := #[.int .i64 ((rd_T91 l0 x8_1).f0), .int .i64 ((rd_T91 l0 x8_1).f1), .int .i64 ((rd_T91 l0 x8_1).f2), .slice none 0 0]) ?_ 3 _ rfl; (with_reducible repeat (first | refine blk_drewN ?_ _ | refine blk_drew ?_ | refine blk_alloc ?_ _)); refine blk_put (cs := #[.int .i64 ((rd_T91 l0 x8_1).f0), .int .i64 ((rd_T91 l0 x8_1).f1), .int .i64 0, .slice none 0 0]) ?_ 2 _ rfl; (with_reducible repeat (first | refine blk_drewN ?_ _ | refine blk_drew ?_ | refine blk_alloc ?_ _)); refine blk_put (cs := #[.int .i64 ((rd_T91 l0 x8_1).f0), .int .i64 0, .int .i64 0, .slice none 0 0]) ?_ 1 _ rfl; (with_reducible repeat (first | refine blk_drewN ?_ _ | refine blk_drew ?_ | refine blk_alloc ?_ _)); refine blk_put (cs := #[.int .i64 0, .int .i64 0, .int .i64 0, .slice none 0 0]) ?_ 0 _ rfl; (with_reducible repeat (first | refine blk_drewN ?_ _ | refine blk_drew ?_ | refine blk_alloc ?_ _)); exact BK300.out⟩, ⟨by repeat (first | (with_reducible first | exact HB.out | apply below_alloc | apply pw_below_drewN | apply below_drew1 | refine below_set ?_ GE300.out) | exact HB.out)⟩⟩
              · rw [if_neg c8] at H
                have c8b0 : (((rd_T91 l0 x8_1).f0) == 2) = false := beq_eq_false_iff_ne.mpr c8
                have c8b1 : (((rd_T91 l0 x8_1).f0) != 2) = true := bne_iff_ne.mpr c8
                (first | rw [c8b0] | (simp only [i64_w, i32_w]; rw [c8b0]) | skip)
                have H' := Aside0.mk H
                clear H
                have hcz10_0 : w6.cell? ⟨gb300, 0, none⟩ = some (.int .i64 0) := (blk_cell BK300.out 0).trans rfl
                have hcz10_1 : w6.cell? ⟨gb300, 1, none⟩ = some (.int .i64 0) := (blk_cell BK300.out 1).trans rfl
                have hcz10_2 : w6.cell? ⟨gb300, 2, none⟩ = some (.int .i64 0) := (blk_cell BK300.out 2).trans rfl
                have hcz10_3 : w6.cell? ⟨gb300, 3, none⟩ = some (.slice none 0 0) := (blk_cell BK300.out 3).trans rfl
                have hfz10_0 := blk_frozen BK300.out 0
                have hfz10_1 := blk_frozen BK300.out 1
                have hfz10_2 := blk_frozen BK300.out 2
                have hfz10_3 := blk_frozen BK300.out 3
                go_wp2
                go_meet
                case rel => exact ⟨_, (true), (by first | rfl | (simp; done) | (simp [*]; done)), H', ⟨by have := HK1.out; first | omega | exact Nat.le_refl _⟩, ⟨by (with_reducible repeat (first | refine blk_drewN ?_ _ | refine blk_drew ?_ | refine blk_alloc ?_ _)); refine blk_put (cs := #[.int .i64 ((rd_T91 l0 x8_1).f0), .int .i64 ((rd_T91 l0 x8_1).f1), .int .i64 ((rd_T91 l0 x8_1).f2), .slice none 0 0]) ?_ 3 _ rfl; (with_reducible repeat (first | refine blk_drewN ?_ _ | refine blk_drew ?_ | refine blk_alloc ?_ _)); refine blk_put (cs := #[.int .i64 ((rd_T91 l0 x8_1).f0), .int .i64 ((rd_T91 l0 x8_1).f1), .int .i64 0, .slice none 0 0]) ?_ 2 _ rfl; (with_reducible repeat (first | refine blk_drewN ?_ _ | refine blk_drew ?_ | refine blk_alloc ?_ _)); refine blk_put (cs := #[.int .i64 ((rd_T91 l0 x8_1).f0), .int .i64 0, .int .i64 0, .slice none 0 0]) ?_ 1 _ rfl; (with_reducible repeat (first | refine blk_drewN ?_ _ | refine blk_drew ?_ | refine blk_alloc ?_ _)); refine blk_put (cs := #[.int .i64 0, .int .i64 0, .int .i64 0, .slice none 0 0]) ?_ 0 _ rfl; (with_reducible repeat (first | refine blk_drewN ?_ _ | refine blk_drew ?_ | refine blk_alloc ?_ _)); exact BK300.out⟩, ⟨by repeat (first | (with_reducible first | exact HB.out | apply below_alloc | apply pw_below_drewN | apply below_drew1 | refine below_set ?_ GE300.out) | exact HB.out)⟩⟩
            case rest =>
              clear HC5
              try clear c2
              try clear c2b0
              try clear p2
              try clear q2
              try clear hx2
              try clear c3
              try clear c3b0
              try clear c4
              try clear c4b0
              try clear c6
              try clear c8
              try clear c8b0
              try clear c8b1
              try clear hcz10_0
              try clear hcz10_1
              try clear hcz10_2
              try clear hcz10_3
              try clear hcz7_0
              try clear hcz7_1
              try clear hcz7_2
              try clear hcz7_3
              try clear hcz9_0
              try clear hcz9_1
              try clear hcz9_2
              try clear hcz9_3
              try clear hfz10_0
              try clear hfz10_1
              try clear hfz10_2
              try clear hfz10_3
              try clear hfz7_0
              try clear hfz7_1
              try clear hfz7_2
              try clear hfz7_3
              try clear hfz9_0
              try clear hfz9_1
              try clear hfz9_2
              try clear hfz9_3
              try clear hx299_0
              try clear hx299_1
              try clear hx299_2
              try clear hx299_3
              try clear p299
              try clear q299
              obtain ⟨kq, x19_4, rfl, HA, HJ4, BK300, HB⟩ := hcut
              cases kq with
              | zero => exact absurd HA.out (by simp [script_Ticks.j1])
              | succ kj4 =>
                have H := HA.out
                clear HA
                simp only [script_Ticks.j1] at H
                by_cases c11 : x19_4 = true
                · subst c11
                  have H1 : (script_Ticks.l0 kj4 x2_1 l0 (l0.length : Int) (wrap64 (x8_1 + 1))) = some (r1, r2) := by rw [if_pos rfl] at H; exact H
                  clear H
                  have H := H1
                  clear H1
                  have H' := Aside0.mk H
                  clear H
                  go_wp2
                  go_roundg kj4
                  case measure => have := HK1.out; have := HJ4.out; omega
                  case rel => exact ⟨(x2_1), (wrap64 (x8_1 + 1)), (by first | rfl | (simp; done) | (simp [*]; done)), (by first | rfl | (simp; done) | (simp [*]; done)), H', ⟨by have := HK1.out; have := HJ4.out; omega⟩, ⟨by repeat (first | (with_reducible first | exact HB.out | apply below_alloc | apply pw_below_drewN | apply below_drew1 | refine below_set ?_ GE300.out) | exact HB.out)⟩⟩
                · replace c11 := Bool.eq_false_iff.mpr c11
                  subst c11
                  have H1 : ((fix_Add.f x2_1 ((rd_T91 l0 x8_1).f2)).bind fun bt301 => (if bt301.2 = true then (script_Ticks.l0 kj4 bt301.1 l0 (l0.length : Int) (wrap64 (x8_1 + 1))) else (some (0, false)))) = some (r1, r2) := by rw [if_neg (show ¬ (false = true) by decide)] at H; exact H
                  clear H
                  have H := H1
                  clear H1
                  replace H := Option.bind_eq_some_iff.mp H
                  obtain ⟨⟨t301, t302⟩, A120, H⟩ := H
                  replace H : (if t302 = true then (script_Ticks.l0 kj4 t301 l0 (l0.length : Int) (wrap64 (x8_1 + 1))) else (some (0, false))) = some (r1, r2) := H
                  have A12 := Aside0.mk A120
                  clear A120
                  by_cases c13 : t302 = true
                  · subst c13
                    have H1 : (script_Ticks.l0 kj4 t301 l0 (l0.length : Int) (wrap64 (x8_1 + 1))) = some (r1, r2) := by rw [if_pos rfl] at H; exact H
                    clear H
                    have H := H1
                    clear H1
                    have H' := Aside0.mk H
                    clear H
                    have hcz14_0 : wc.cell? ⟨gb300, 0, none⟩ = some (.int .i64 ((rd_T91 l0 x8_1).f0)) := (blk_cell BK300.out 0).trans rfl
                    have hcz14_1 : wc.cell? ⟨gb300, 1, none⟩ = some (.int .i64 ((rd_T91 l0 x8_1).f1)) := (blk_cell BK300.out 1).trans rfl
                    have hcz14_2 : wc.cell? ⟨gb300, 2, none⟩ = some (.int .i64 ((rd_T91 l0 x8_1).f2)) := (blk_cell BK300.out 2).trans rfl
                    have hcz14_3 : wc.cell? ⟨gb300, 3, none⟩ = some (.slice A299_3 ((rd_T91 l0 x8_1).f3).length c299_3) := (blk_cell BK300.out 3).trans rfl
                    have hfz14_0 := blk_frozen BK300.out 0
                    have hfz14_1 := blk_frozen BK300.out 1
                    have hfz14_2 := blk_frozen BK300.out 2
                    have hfz14_3 := blk_frozen BK300.out 3
                    go_wp2_with (first | ((with_reducible refine gate_callee (f := 119) rfl ?_); refine goesL_ (some 24) rfl rfl Try.func119 (by kernel_rfl) rfl #[.int .i64 x2_1, .int .i64 ((rd_T91 l0 x8_1).f2)] rfl (by (try simp only [List.map_toArray, List.map_cons, List.map_nil]); first | done | rfl | (simp only [List.length_drop, List.length_take]; rfl)) ?_; (with_reducible refine (fix_Add.calls x2_1 ((rd_T91 l0 x8_1).f2) t301 true _ A12.out).mono ?_); rintro e w' ⟨rfl, ⟨nd, rfl⟩⟩; refine ⟨_, rfl, ?_⟩))
                    go_roundg kj4
                    case measure => have := HK1.out; have := HJ4.out; omega
                    case rel => exact ⟨(t301), (wrap64 (x8_1 + 1)), (by first | rfl | (simp; done) | (simp [*]; done)), (by first | rfl | (simp; done) | (simp [*]; done)), H', ⟨by have := HK1.out; have := HJ4.out; omega⟩, ⟨by repeat (first | (with_reducible first | exact HB.out | apply below_alloc | apply pw_below_drewN | apply below_drew1 | refine below_set ?_ GE300.out) | exact HB.out)⟩⟩
                  · replace c13 := Bool.eq_false_iff.mpr c13
                    subst c13
                    have H1 : (some (0, false)) = some (r1, r2) := by rw [if_neg (show ¬ (false = true) by decide)] at H; exact H
                    clear H
                    have H := H1
                    clear H1
                    simp only [Option.some.injEq, Prod.mk.injEq] at H
                    obtain ⟨rfl, rfl⟩ := H
                    have hcz15_0 : wc.cell? ⟨gb300, 0, none⟩ = some (.int .i64 ((rd_T91 l0 x8_1).f0)) := (blk_cell BK300.out 0).trans rfl
                    have hcz15_1 : wc.cell? ⟨gb300, 1, none⟩ = some (.int .i64 ((rd_T91 l0 x8_1).f1)) := (blk_cell BK300.out 1).trans rfl
                    have hcz15_2 : wc.cell? ⟨gb300, 2, none⟩ = some (.int .i64 ((rd_T91 l0 x8_1).f2)) := (blk_cell BK300.out 2).trans rfl
                    have hcz15_3 : wc.cell? ⟨gb300, 3, none⟩ = some (.slice A299_3 ((rd_T91 l0 x8_1).f3).length c299_3) := (blk_cell BK300.out 3).trans rfl
                    have hfz15_0 := blk_frozen BK300.out 0
                    have hfz15_1 := blk_frozen BK300.out 1
                    have hfz15_2 := blk_frozen BK300.out 2
                    have hfz15_3 := blk_frozen BK300.out 3
                    go_wp2_with (first | ((with_reducible refine gate_callee (f := 119) rfl ?_); refine goesL_ (some 24) rfl rfl Try.func119 (by kernel_rfl) rfl #[.int .i64 x2_1, .int .i64 ((rd_T91 l0 x8_1).f2)] rfl (by (try simp only [List.map_toArray, List.map_cons, List.map_nil]); first | done | rfl | (simp only [List.length_drop, List.length_take]; rfl)) ?_; (with_reducible refine (fix_Add.calls x2_1 ((rd_T91 l0 x8_1).f2) t301 false _ A12.out).mono ?_); rintro e w' ⟨rfl, ⟨nd, rfl⟩⟩; refine ⟨_, rfl, ?_⟩))
                    go_ret2
                    exact ⟨by first | rfl | (simp [errW_none, errW_some] <;> rfl) | (simp [*, errW_none, errW_some] <;> rfl), by repeat (first | (with_reducible first | exact HB.out | apply below_alloc | apply pw_below_drewN | apply below_drew1 | refine below_set ?_ GE300.out) | exact HB.out)⟩
          · rw [if_neg c4] at H
            exact absurd H (by simp)
        · rw [if_neg c3] at H
          exact absurd H (by simp)
      · rw [if_neg c2] at H
        have c2b0 : decide (x8_1 < (l0.length : Int)) = false := decide_eq_false c2
        clear c2
        simp only [Option.some.injEq, Prod.mk.injEq] at H
        obtain ⟨rfl, rfl⟩ := H
        go_wp2
        go_ret2
        exact ⟨by first | rfl | (simp [errW_none, errW_some] <;> rfl) | (simp [*, errW_none, errW_some] <;> rfl), by repeat (first | (with_reducible first | exact HB.out | apply below_alloc | apply pw_below_drewN | apply below_drew1) | exact HB.out)⟩

end Go.Proofs.Ytalpemoodollpaa.P
