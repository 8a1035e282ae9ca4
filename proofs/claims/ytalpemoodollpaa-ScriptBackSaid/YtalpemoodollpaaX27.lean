/- Contracts and plain laws: P49, HAlive29, P48, HScrBack, HByt. -/
import Derived.Test.YtalpemoodollpaaX1
import Derived.Test.YtalpemoodollpaaX25
import Derived.Test.YtalpemoodollpaaX26
-- Printed by hookprint.py (the session's own program, over the kit's print.py): checked by Lean like any text.
namespace Go.Proofs.Ytalpemoodollpaa.P
open Go.RowKit Go.Proofs.YtalpemoodollpaaW.PrintWords Go.Proofs.YtalpemoodollpaaW.PrintLast Go.Proofs.YtalpemoodollpaaW.PrintMore
attribute [local go_sem] max2_int min2_int max_two min_two max_three min_three max_four min_four   -- for this text's walks alone
set_option linter.unusedVariables false
set_option linter.unusedSimpArgs false

/-! ### damperlaw29_alive: function 49 -/
def damperlaw29_alive.f (k : Nat)  : Option (Bool) := (script_Encode.f (([(⟨2, 0, 1, ([] : List Int)⟩ : S91)] : List (S91)))).bind fun bt306 => ((script_Ticks.f k (([(⟨2, 0, 4, ([] : List Int)⟩ : S91), (⟨2, 0, (-1), ([] : List Int)⟩ : S91)] : List (S91)))).bind fun bt313 => (if bt306.2 = 0 then (if (bt306.1.length : Int) = 10 then (if 0 < (bt306.1.length : Int) then (if (rd bt306.1 0) = 1 then (if 1 < (bt306.1.length : Int) then (if (rd bt306.1 1) = 2 then (if 9 < (bt306.1.length : Int) then (if (rd bt306.1 9) = 2 then (if bt313.1 = 4 then (some bt313.2) else (some false)) else (some false)) else (none)) else (some false)) else (none)) else (some false)) else (none)) else (some false)) else (some false)))
theorem damperlaw29_alive.mono : ∀ k, LeO (damperlaw29_alive.f k ) (damperlaw29_alive.f (k + 1) ) := by
  intro  k
  unfold damperlaw29_alive.f
  repeat' first
      | (with_reducible exact script_Ticks.mono _ _)
      | (with_reducible exact LeO.refl _)
      | (with_reducible exact LeO.none _)
      | (with_reducible refine LeO.ite ?_ ?_)
      | (with_reducible refine LeO.bind ?_ (fun _ => ?_))
      | exact script_Ticks.mono _ _
      | exact LeO.none _
      | refine LeO.ite ?_ ?_
      | refine LeO.bind ?_ (fun _ => ?_)
set_option maxHeartbeats 8000000 in
set_option maxRecDepth 100000 in
theorem damperlaw29_alive.calls (k : Nat)  (r : Bool) (w : World) (h : damperlaw29_alive.f k  = some r) :
    Calls Try.prog 49 #[] w fun e w' => e = .returned (.bool r) ∧ Below w.heap.size w w' := by
  have hu91 := Try.underlying91
  have HB := Aside0.mk (Below.refl w.heap.size w)
  have H : ((script_Encode.f (([(⟨2, 0, 1, ([] : List Int)⟩ : S91)] : List (S91)))).bind fun bt306 => ((script_Ticks.f k (([(⟨2, 0, 4, ([] : List Int)⟩ : S91), (⟨2, 0, (-1), ([] : List Int)⟩ : S91)] : List (S91)))).bind fun bt313 => (if bt306.2 = 0 then (if (bt306.1.length : Int) = 10 then (if 0 < (bt306.1.length : Int) then (if (rd bt306.1 0) = 1 then (if 1 < (bt306.1.length : Int) then (if (rd bt306.1 1) = 2 then (if 9 < (bt306.1.length : Int) then (if (rd bt306.1 9) = 2 then (if bt313.1 = 4 then (some bt313.2) else (some false)) else (some false)) else (none)) else (some false)) else (none)) else (some false)) else (none)) else (some false)) else (some false)))) = some r := h
  clear h
  obtain ⟨y303, hy303⟩ : ∃ y_ : List (S91), y_ = (([(⟨2, 0, 1, ([] : List Int)⟩ : S91)] : List (S91))) := ⟨_, rfl⟩
  replace H : ((script_Encode.f y303).bind fun bt306 => ((script_Ticks.f k (([(⟨2, 0, 4, ([] : List Int)⟩ : S91), (⟨2, 0, (-1), ([] : List Int)⟩ : S91)] : List (S91)))).bind fun bt313 => (if bt306.2 = 0 then (if (bt306.1.length : Int) = 10 then (if 0 < (bt306.1.length : Int) then (if (rd bt306.1 0) = 1 then (if 1 < (bt306.1.length : Int) then (if (rd bt306.1 1) = 2 then (if 9 < (bt306.1.length : Int) then (if (rd bt306.1 9) = 2 then (if bt313.1 = 4 then (some bt313.2) else (some false)) else (some false)) else (none)) else (some false)) else (none)) else (some false)) else (none)) else (some false)) else (some false)))) = some r := by first | (rw [hy303]; with_reducible exact H) | (have H2_ := (Option.bind_some _ _).symm.trans H; rw [hy303]; with_reducible exact H2_) | (have H2_ := (Option.bind_some _ _).symm.trans H; with_reducible exact H2_) | with_reducible exact H | (rw [hy303]; exact H) | exact H
  have Ny303 := Aside0.mk hy303
  clear hy303
  replace H := Option.bind_eq_some_iff.mp H
  obtain ⟨⟨t306, t307⟩, A10, H⟩ := H
  replace H : ((script_Ticks.f k (([(⟨2, 0, 4, ([] : List Int)⟩ : S91), (⟨2, 0, (-1), ([] : List Int)⟩ : S91)] : List (S91)))).bind fun bt313 => (if t307 = 0 then (if (t306.length : Int) = 10 then (if 0 < (t306.length : Int) then (if (rd t306 0) = 1 then (if 1 < (t306.length : Int) then (if (rd t306 1) = 2 then (if 9 < (t306.length : Int) then (if (rd t306 9) = 2 then (if bt313.1 = 4 then (some bt313.2) else (some false)) else (some false)) else (none)) else (some false)) else (none)) else (some false)) else (none)) else (some false)) else (some false))) = some r := H
  have A1 := Aside0.mk A10
  clear A10
  obtain ⟨y310, hy310⟩ : ∃ y_ : List (S91), y_ = (([(⟨2, 0, 4, ([] : List Int)⟩ : S91), (⟨2, 0, (-1), ([] : List Int)⟩ : S91)] : List (S91))) := ⟨_, rfl⟩
  replace H : ((script_Ticks.f k y310).bind fun bt313 => (if t307 = 0 then (if (t306.length : Int) = 10 then (if 0 < (t306.length : Int) then (if (rd t306 0) = 1 then (if 1 < (t306.length : Int) then (if (rd t306 1) = 2 then (if 9 < (t306.length : Int) then (if (rd t306 9) = 2 then (if bt313.1 = 4 then (some bt313.2) else (some false)) else (some false)) else (none)) else (some false)) else (none)) else (some false)) else (none)) else (some false)) else (some false))) = some r := by first | (rw [hy310]; with_reducible exact H) | (have H2_ := (Option.bind_some _ _).symm.trans H; rw [hy310]; with_reducible exact H2_) | (have H2_ := (Option.bind_some _ _).symm.trans H; with_reducible exact H2_) | with_reducible exact H | (rw [hy310]; exact H) | exact H
  have Ny310 := Aside0.mk hy310
  clear hy310
  replace H := Option.bind_eq_some_iff.mp H
  obtain ⟨⟨t313, t314⟩, A20, H⟩ := H
  replace H : (if t307 = 0 then (if (t306.length : Int) = 10 then (if 0 < (t306.length : Int) then (if (rd t306 0) = 1 then (if 1 < (t306.length : Int) then (if (rd t306 1) = 2 then (if 9 < (t306.length : Int) then (if (rd t306 9) = 2 then (if t313 = 4 then (some t314) else (some false)) else (some false)) else (none)) else (some false)) else (none)) else (some false)) else (none)) else (some false)) else (some false)) = some r := H
  have A2 := Aside0.mk A20
  clear A20
  by_cases c3 : t307 = 0
  · rw [if_pos c3] at H
    have c3b0 : (t307 == 0) = true := beq_iff_eq.mpr c3
    have c3b1 : (t307 != 0) = false := bne_eq_false_iff_eq.mpr c3
    clear c3
    by_cases c4 : (t306.length : Int) = 10
    · rw [if_pos c4] at H
      have c4b0 : ((t306.length : Int) == 10) = true := beq_iff_eq.mpr c4
      have c4b1 : ((t306.length : Int) != 10) = false := bne_eq_false_iff_eq.mpr c4
      clear c4
      by_cases c5 : 0 < (t306.length : Int)
      · rw [if_pos c5] at H
        have c5b0 : decide (0 < (t306.length : Int)) = true := decide_eq_true c5
        have c5b1 : decide (0 < t306.length) = true := decide_eq_true (by omega)
        clear c5
        by_cases c6 : (rd t306 0) = 1
        · rw [if_pos c6] at H
          have c6b0 : ((rd t306 0) == 1) = true := beq_iff_eq.mpr c6
          have c6b1 : ((rd t306 0) != 1) = false := bne_eq_false_iff_eq.mpr c6
          clear c6
          by_cases c7 : 1 < (t306.length : Int)
          · rw [if_pos c7] at H
            have c7b0 : decide (1 < (t306.length : Int)) = true := decide_eq_true c7
            have c7b1 : decide (1 < t306.length) = true := decide_eq_true (by omega)
            clear c7
            by_cases c8 : (rd t306 1) = 2
            · rw [if_pos c8] at H
              have c8b0 : ((rd t306 1) == 2) = true := beq_iff_eq.mpr c8
              have c8b1 : ((rd t306 1) != 2) = false := bne_eq_false_iff_eq.mpr c8
              clear c8
              by_cases c9 : 9 < (t306.length : Int)
              · rw [if_pos c9] at H
                have c9b0 : decide (9 < (t306.length : Int)) = true := decide_eq_true c9
                have c9b1 : decide (9 < t306.length) = true := decide_eq_true (by omega)
                clear c9
                by_cases c10 : (rd t306 9) = 2
                · rw [if_pos c10] at H
                  have c10b0 : ((rd t306 9) == 2) = true := beq_iff_eq.mpr c10
                  have c10b1 : ((rd t306 9) != 2) = false := bne_eq_false_iff_eq.mpr c10
                  clear c10
                  by_cases c11 : t313 = 4
                  · rw [if_pos c11] at H
                    have c11b0 : (t313 == 4) = true := beq_iff_eq.mpr c11
                    have c11b1 : (t313 != 4) = false := bne_eq_false_iff_eq.mpr c11
                    clear c11
                    obtain rfl := Option.some.inj H
                    go_enter Try.func49, Try.ntmps49
                    go_wp2_with (first | ((with_reducible refine gate_dst (N := 7) rfl ?_); (try (refine gate_guard (by rfl) ?_; dsimp only)); refine Kd.S_lit k91 _ 91 ?hg (N := 7) ?hd (xs := ([(⟨2, 0, 1, ([] : List Int)⟩ : S91)] : List (S91))) (inner := [.int .i64 2, .int .i64 0, .int .i64 1, .slice none 0 0]) (ok := fun _ => True) (okp := fun _ => True) ?hr ?hp (fun _ hk => hk) trivial (Below.refl _ _) (Nat.le_refl _) (by simp) ?_; (case hd => rfl); (case hg => rfl); (case hr => first | (go_simp; done) | (go_simp; rfl)); (case hp => exact (Reps.c4 (show Kd.M k91 _ _ _ (⟨2, 0, 1, ([] : List Int)⟩ : S91) [.int .i64 2, .int .i64 0, .int .i64 1, .slice none 0 0] from (k91_mkM _ _ _ (⟨2, 0, 1, ([] : List Int)⟩ : S91) (Kd.R_nil _ _ _ _ _))) (Reps.none _ _))); intro v304 w12 ho13 hb hg_ hnew_; clear hg_ hnew_; (first | rw [← Ny303.out] at ho13 | (simp only [Int.reduceToNat] at ho13; rw [← Ny303.out] at ho13)); have n0_ := Aside0.mk (Kd.S_lower ho13 (below_size (by repeat (first | (with_reducible first | exact HB.out | apply below_alloc | apply pw_below_drewN | apply below_drew1) | exact HB.out)))); have n1_ := Aside0.mk (below_step (by repeat (first | (with_reducible first | exact HB.out | apply below_alloc | apply pw_below_drewN | apply below_drew1) | exact HB.out)) hb); clear HB; have HO305 := n0_; have HB := n1_; clear n0_ n1_; clear hb ho13; obtain ⟨Ao14, co14, eo14⟩ := Kd.S_slice HO305.out; subst eo14) | ((with_reducible refine gate_callee (f := 50) rfl ?_); refine goesL_ (some 8) rfl rfl Try.func50 (by kernel_rfl) rfl #[.slice Ao14 y303.length co14] rfl (by (try simp only [List.map_toArray, List.map_cons, List.map_nil]); first | done | rfl | (simp only [List.length_drop, List.length_take]; rfl)) ?_; (with_reducible refine (script_Encode.calls _ _ y303 t306 t307 _ ?side1 ?side2 A1.out).mono ?_); (case side1 => repeat (first | exact (Kd.S_reads' HO305.out).2.2 | (with_reducible refine Kd.C_alloc ?_ _) | (with_reducible refine Kd.C_drewN ?_ _) | (with_reducible refine Kd.C_drew ?_))); (case side2 => exact (Kd.S_reads' HO305.out).2.1); rintro e w15 ⟨v308, rfl, ho0, hb⟩; refine ⟨_, rfl, ?_⟩; have n0_ := Aside0.mk (Kd.S_elder' (by (with_reducible repeat (first | apply Kd.S_alloc | apply Kd.S_drewN | apply Kd.S_drew)); exact HO305.out) (Kd.R_base ho0) hb); have n1_ := Aside0.mk (Kd.R_lower ho0 (below_size (by repeat (first | (with_reducible first | exact HB.out | apply below_alloc | apply pw_below_drewN | apply below_drew1) | exact HB.out)))); have n2_ := Aside0.mk (below_step (by repeat (first | (with_reducible first | exact HB.out | apply below_alloc | apply pw_below_drewN | apply below_drew1) | exact HB.out)) hb); clear HO305; clear HB; have HO305 := n0_; have HO309 := n1_; have HB := n2_; clear n0_ n1_ n2_; (try clear hb); (try clear hb2); (try clear hk); (try clear hi); (try clear ho0)) | ((with_reducible refine gate_dst (N := 14) rfl ?_); (try (refine gate_guard (by rfl) ?_; dsimp only)); refine Kd.S_lit k91 _ 91 ?hg (N := 14) ?hd (xs := ([(⟨2, 0, 4, ([] : List Int)⟩ : S91), (⟨2, 0, (-1), ([] : List Int)⟩ : S91)] : List (S91))) (inner := [.int .i64 2, .int .i64 0, .int .i64 4, .slice none 0 0, .int .i64 2, .int .i64 0, .int .i64 (-1), .slice none 0 0]) (ok := fun _ => True) (okp := fun _ => True) ?hr ?hp (fun _ hk => hk) trivial (Below.refl _ _) (Nat.le_refl _) (by simp) ?_; (case hd => rfl); (case hg => rfl); (case hr => first | (go_simp; done) | (go_simp; rfl)); (case hp => exact (Reps.c4 (show Kd.M k91 _ _ _ (⟨2, 0, 4, ([] : List Int)⟩ : S91) [.int .i64 2, .int .i64 0, .int .i64 4, .slice none 0 0] from (k91_mkM _ _ _ (⟨2, 0, 4, ([] : List Int)⟩ : S91) (Kd.R_nil _ _ _ _ _))) (Reps.c4 (show Kd.M k91 _ _ _ (⟨2, 0, (-1), ([] : List Int)⟩ : S91) [.int .i64 2, .int .i64 0, .int .i64 (-1), .slice none 0 0] from (k91_mkM _ _ _ (⟨2, 0, (-1), ([] : List Int)⟩ : S91) (Kd.R_nil _ _ _ _ _))) (Reps.none _ _)))); intro v311 w16 ho17 hb hg_ hnew_; clear hg_ hnew_; (first | rw [← Ny310.out] at ho17 | (simp only [Int.reduceToNat] at ho17; rw [← Ny310.out] at ho17)); have n0_ := Aside0.mk (Kd.S_elder' (by (with_reducible repeat (first | apply Kd.S_alloc | apply Kd.S_drewN | apply Kd.S_drew)); exact HO305.out) (Kd.S_base ho17) hb); have n1_ := Aside0.mk (Kd.R_below (by (with_reducible repeat (first | apply Kd.R_alloc | apply Kd.R_drewN | apply Kd.R_drew)); exact HO309.out) hb); have n2_ := Aside0.mk (Kd.S_lower (Kd.S_new' (Kd.S_new' ho17 (Kd.S_lt (by (with_reducible repeat (first | apply Kd.S_alloc | apply Kd.S_drewN | apply Kd.S_drew)); exact HO305.out))) (Kd.R_lt (by (with_reducible repeat (first | apply Kd.R_alloc | apply Kd.R_drewN | apply Kd.R_drew)); exact HO309.out))) (below_size (by repeat (first | (with_reducible first | exact HB.out | apply below_alloc | apply pw_below_drewN | apply below_drew1) | exact HB.out)))); have n3_ := Aside0.mk (below_step (by repeat (first | (with_reducible first | exact HB.out | apply below_alloc | apply pw_below_drewN | apply below_drew1) | exact HB.out)) hb); clear HO305; clear HO309; clear HB; have HO305 := n0_; have HO309 := n1_; have HO312 := n2_; have HB := n3_; clear n0_ n1_ n2_ n3_; clear hb ho17; obtain ⟨Ao18, co18, eo18⟩ := Kd.S_slice HO312.out; subst eo18) | ((with_reducible refine gate_callee (f := 68) rfl ?_); refine goesL_ (some 15) rfl rfl Try.func68 (by kernel_rfl) rfl #[.slice Ao18 y310.length co18] rfl (by (try simp only [List.map_toArray, List.map_cons, List.map_nil]); first | done | rfl | (simp only [List.length_drop, List.length_take]; rfl)) ?_; (with_reducible refine (script_Ticks.calls k _ _ y310 t313 t314 _ ?side1 ?side2 A2.out).mono ?_); (case side1 => repeat (first | exact (Kd.S_reads' HO312.out).2.2 | (with_reducible refine Kd.C_alloc ?_ _) | (with_reducible refine Kd.C_drewN ?_ _) | (with_reducible refine Kd.C_drew ?_))); (case side2 => exact (Kd.S_reads' HO312.out).2.1); rintro e w19 ⟨rfl, hb⟩; refine ⟨_, rfl, ?_⟩; have n0_ := Aside0.mk (Kd.S_below (by (with_reducible repeat (first | apply Kd.S_alloc | apply Kd.S_drewN | apply Kd.S_drew)); exact HO305.out) hb); have n1_ := Aside0.mk (Kd.R_below (by (with_reducible repeat (first | apply Kd.R_alloc | apply Kd.R_drewN | apply Kd.R_drew)); exact HO309.out) hb); have n2_ := Aside0.mk (Kd.S_below (by (with_reducible repeat (first | apply Kd.S_alloc | apply Kd.S_drewN | apply Kd.S_drew)); exact HO312.out) hb); have n3_ := Aside0.mk (below_step (by repeat (first | (with_reducible first | exact HB.out | apply below_alloc | apply pw_below_drewN | apply below_drew1) | exact HB.out)) hb); clear HO305; clear HO309; clear HO312; clear HB; have HO305 := n0_; have HO309 := n1_; have HO312 := n2_; have HB := n3_; clear n0_ n1_ n2_ n3_; (try clear hb); (try clear hb2); (try clear hk); (try clear hi); obtain ⟨Ao20, co20, eo20⟩ := Kd.R_slice HO309.out; subst eo20; have p315 : 0 ≤ (0 : Int) := (by omega); have q315 : 0 < (t306.length : Int) := of_decide_eq_true (by first | (with_reducible assumption) | assumption); obtain ⟨ad315, e315, hx315_0⟩ := Kd.at_int (Kd.R_reads' HO309.out).2.2 0 p315 q315; cases e315; have qi315 : (0 < t306.length) = True := eq_true (by omega); (try rw [show ((0 : Int)).toNat = 0 from rfl] at hx315_0); (try rw [Addr.add_zero'] at hx315_0); replace p315 := eq_true p315; replace q315 := eq_true q315; have p316 : 0 ≤ (1 : Int) := (by omega); have q316 : 1 < (t306.length : Int) := of_decide_eq_true (by first | (with_reducible assumption) | assumption); obtain ⟨ad316, e316, hx316_0⟩ := Kd.at_int (Kd.R_reads' HO309.out).2.2 1 p316 q316; obtain rfl : ad315 = ad316 := (by injection e316); (try simp only [show (1 : Int).toNat = 1 from rfl, Nat.reduceMul, Nat.reduceEqDiff, Go.Addr.add, ↓reduceIte] at hx316_0); have qi316 : (1 < t306.length) = True := eq_true (by omega); (try rw [show ((1 : Int)).toNat = 1 from rfl] at hx316_0); replace p316 := eq_true p316; replace q316 := eq_true q316; have p317 : 0 ≤ (9 : Int) := (by omega); have q317 : 9 < (t306.length : Int) := of_decide_eq_true (by first | (with_reducible assumption) | assumption); obtain ⟨ad317, e317, hx317_0⟩ := Kd.at_int (Kd.R_reads' HO309.out).2.2 9 p317 q317; obtain rfl : ad315 = ad317 := (by injection e317); (try simp only [show (9 : Int).toNat = 9 from rfl, Nat.reduceMul, Nat.reduceEqDiff, Go.Addr.add, ↓reduceIte] at hx317_0); have qi317 : (9 < t306.length) = True := eq_true (by omega); (try rw [show ((9 : Int)).toNat = 9 from rfl] at hx317_0); replace p317 := eq_true p317; replace q317 := eq_true q317))
                    go_ret
                    exact ⟨by first | rfl | (simp [errW_none, errW_some] <;> rfl) | (simp [*, errW_none, errW_some] <;> rfl), by repeat (first | (with_reducible first | exact HB.out | apply below_alloc | apply pw_below_drewN | apply below_drew1) | exact HB.out)⟩
                  · rw [if_neg c11] at H
                    have c11b0 : (t313 == 4) = false := beq_eq_false_iff_ne.mpr c11
                    have c11b1 : (t313 != 4) = true := bne_iff_ne.mpr c11
                    obtain rfl := Option.some.inj H
                    go_enter Try.func49, Try.ntmps49
                    go_wp2_with (first | ((with_reducible refine gate_dst (N := 7) rfl ?_); (try (refine gate_guard (by rfl) ?_; dsimp only)); refine Kd.S_lit k91 _ 91 ?hg (N := 7) ?hd (xs := ([(⟨2, 0, 1, ([] : List Int)⟩ : S91)] : List (S91))) (inner := [.int .i64 2, .int .i64 0, .int .i64 1, .slice none 0 0]) (ok := fun _ => True) (okp := fun _ => True) ?hr ?hp (fun _ hk => hk) trivial (Below.refl _ _) (Nat.le_refl _) (by simp) ?_; (case hd => rfl); (case hg => rfl); (case hr => first | (go_simp; done) | (go_simp; rfl)); (case hp => exact (Reps.c4 (show Kd.M k91 _ _ _ (⟨2, 0, 1, ([] : List Int)⟩ : S91) [.int .i64 2, .int .i64 0, .int .i64 1, .slice none 0 0] from (k91_mkM _ _ _ (⟨2, 0, 1, ([] : List Int)⟩ : S91) (Kd.R_nil _ _ _ _ _))) (Reps.none _ _))); intro v304 w21 ho22 hb hg_ hnew_; clear hg_ hnew_; (first | rw [← Ny303.out] at ho22 | (simp only [Int.reduceToNat] at ho22; rw [← Ny303.out] at ho22)); have n0_ := Aside0.mk (Kd.S_lower ho22 (below_size (by repeat (first | (with_reducible first | exact HB.out | apply below_alloc | apply pw_below_drewN | apply below_drew1) | exact HB.out)))); have n1_ := Aside0.mk (below_step (by repeat (first | (with_reducible first | exact HB.out | apply below_alloc | apply pw_below_drewN | apply below_drew1) | exact HB.out)) hb); clear HB; have HO305 := n0_; have HB := n1_; clear n0_ n1_; clear hb ho22; obtain ⟨Ao23, co23, eo23⟩ := Kd.S_slice HO305.out; subst eo23) | ((with_reducible refine gate_callee (f := 50) rfl ?_); refine goesL_ (some 8) rfl rfl Try.func50 (by kernel_rfl) rfl #[.slice Ao23 y303.length co23] rfl (by (try simp only [List.map_toArray, List.map_cons, List.map_nil]); first | done | rfl | (simp only [List.length_drop, List.length_take]; rfl)) ?_; (with_reducible refine (script_Encode.calls _ _ y303 t306 t307 _ ?side1 ?side2 A1.out).mono ?_); (case side1 => repeat (first | exact (Kd.S_reads' HO305.out).2.2 | (with_reducible refine Kd.C_alloc ?_ _) | (with_reducible refine Kd.C_drewN ?_ _) | (with_reducible refine Kd.C_drew ?_))); (case side2 => exact (Kd.S_reads' HO305.out).2.1); rintro e w24 ⟨v308, rfl, ho0, hb⟩; refine ⟨_, rfl, ?_⟩; have n0_ := Aside0.mk (Kd.S_elder' (by (with_reducible repeat (first | apply Kd.S_alloc | apply Kd.S_drewN | apply Kd.S_drew)); exact HO305.out) (Kd.R_base ho0) hb); have n1_ := Aside0.mk (Kd.R_lower ho0 (below_size (by repeat (first | (with_reducible first | exact HB.out | apply below_alloc | apply pw_below_drewN | apply below_drew1) | exact HB.out)))); have n2_ := Aside0.mk (below_step (by repeat (first | (with_reducible first | exact HB.out | apply below_alloc | apply pw_below_drewN | apply below_drew1) | exact HB.out)) hb); clear HO305; clear HB; have HO305 := n0_; have HO309 := n1_; have HB := n2_; clear n0_ n1_ n2_; (try clear hb); (try clear hb2); (try clear hk); (try clear hi); (try clear ho0)) | ((with_reducible refine gate_dst (N := 14) rfl ?_); (try (refine gate_guard (by rfl) ?_; dsimp only)); refine Kd.S_lit k91 _ 91 ?hg (N := 14) ?hd (xs := ([(⟨2, 0, 4, ([] : List Int)⟩ : S91), (⟨2, 0, (-1), ([] : List Int)⟩ : S91)] : List (S91))) (inner := [.int .i64 2, .int .i64 0, .int .i64 4, .slice none 0 0, .int .i64 2, .int .i64 0, .int .i64 (-1), .slice none 0 0]) (ok := fun _ => True) (okp := fun _ => True) ?hr ?hp (fun _ hk => hk) trivial (Below.refl _ _) (Nat.le_refl _) (by simp) ?_; (case hd => rfl); (case hg => rfl); (case hr => first | (go_simp; done) | (go_simp; rfl)); (case hp => exact (Reps.c4 (show Kd.M k91 _ _ _ (⟨2, 0, 4, ([] : List Int)⟩ : S91) [.int .i64 2, .int .i64 0, .int .i64 4, .slice none 0 0] from (k91_mkM _ _ _ (⟨2, 0, 4, ([] : List Int)⟩ : S91) (Kd.R_nil _ _ _ _ _))) (Reps.c4 (show Kd.M k91 _ _ _ (⟨2, 0, (-1), ([] : List Int)⟩ : S91) [.int .i64 2, .int .i64 0, .int .i64 (-1), .slice none 0 0] from (k91_mkM _ _ _ (⟨2, 0, (-1), ([] : List Int)⟩ : S91) (Kd.R_nil _ _ _ _ _))) (Reps.none _ _)))); intro v311 w25 ho26 hb hg_ hnew_; clear hg_ hnew_; (first | rw [← Ny310.out] at ho26 | (simp only [Int.reduceToNat] at ho26; rw [← Ny310.out] at ho26)); have n0_ := Aside0.mk (Kd.S_elder' (by (with_reducible repeat (first | apply Kd.S_alloc | apply Kd.S_drewN | apply Kd.S_drew)); exact HO305.out) (Kd.S_base ho26) hb); have n1_ := Aside0.mk (Kd.R_below (by (with_reducible repeat (first | apply Kd.R_alloc | apply Kd.R_drewN | apply Kd.R_drew)); exact HO309.out) hb); have n2_ := Aside0.mk (Kd.S_lower (Kd.S_new' (Kd.S_new' ho26 (Kd.S_lt (by (with_reducible repeat (first | apply Kd.S_alloc | apply Kd.S_drewN | apply Kd.S_drew)); exact HO305.out))) (Kd.R_lt (by (with_reducible repeat (first | apply Kd.R_alloc | apply Kd.R_drewN | apply Kd.R_drew)); exact HO309.out))) (below_size (by repeat (first | (with_reducible first | exact HB.out | apply below_alloc | apply pw_below_drewN | apply below_drew1) | exact HB.out)))); have n3_ := Aside0.mk (below_step (by repeat (first | (with_reducible first | exact HB.out | apply below_alloc | apply pw_below_drewN | apply below_drew1) | exact HB.out)) hb); clear HO305; clear HO309; clear HB; have HO305 := n0_; have HO309 := n1_; have HO312 := n2_; have HB := n3_; clear n0_ n1_ n2_ n3_; clear hb ho26; obtain ⟨Ao27, co27, eo27⟩ := Kd.S_slice HO312.out; subst eo27) | ((with_reducible refine gate_callee (f := 68) rfl ?_); refine goesL_ (some 15) rfl rfl Try.func68 (by kernel_rfl) rfl #[.slice Ao27 y310.length co27] rfl (by (try simp only [List.map_toArray, List.map_cons, List.map_nil]); first | done | rfl | (simp only [List.length_drop, List.length_take]; rfl)) ?_; (with_reducible refine (script_Ticks.calls k _ _ y310 t313 t314 _ ?side1 ?side2 A2.out).mono ?_); (case side1 => repeat (first | exact (Kd.S_reads' HO312.out).2.2 | (with_reducible refine Kd.C_alloc ?_ _) | (with_reducible refine Kd.C_drewN ?_ _) | (with_reducible refine Kd.C_drew ?_))); (case side2 => exact (Kd.S_reads' HO312.out).2.1); rintro e w28 ⟨rfl, hb⟩; refine ⟨_, rfl, ?_⟩; have n0_ := Aside0.mk (Kd.S_below (by (with_reducible repeat (first | apply Kd.S_alloc | apply Kd.S_drewN | apply Kd.S_drew)); exact HO305.out) hb); have n1_ := Aside0.mk (Kd.R_below (by (with_reducible repeat (first | apply Kd.R_alloc | apply Kd.R_drewN | apply Kd.R_drew)); exact HO309.out) hb); have n2_ := Aside0.mk (Kd.S_below (by (with_reducible repeat (first | apply Kd.S_alloc | apply Kd.S_drewN | apply Kd.S_drew)); exact HO312.out) hb); have n3_ := Aside0.mk (below_step (by repeat (first | (with_reducible first | exact HB.out | apply below_alloc | apply pw_below_drewN | apply below_drew1) | exact HB.out)) hb); clear HO305; clear HO309; clear HO312; clear HB; have HO305 := n0_; have HO309 := n1_; have HO312 := n2_; have HB := n3_; clear n0_ n1_ n2_ n3_; (try clear hb); (try clear hb2); (try clear hk); (try clear hi); obtain ⟨Ao29, co29, eo29⟩ := Kd.R_slice HO309.out; subst eo29; have p315 : 0 ≤ (0 : Int) := (by omega); have q315 : 0 < (t306.length : Int) := of_decide_eq_true (by first | (with_reducible assumption) | assumption); obtain ⟨ad315, e315, hx315_0⟩ := Kd.at_int (Kd.R_reads' HO309.out).2.2 0 p315 q315; cases e315; have qi315 : (0 < t306.length) = True := eq_true (by omega); (try rw [show ((0 : Int)).toNat = 0 from rfl] at hx315_0); (try rw [Addr.add_zero'] at hx315_0); replace p315 := eq_true p315; replace q315 := eq_true q315; have p316 : 0 ≤ (1 : Int) := (by omega); have q316 : 1 < (t306.length : Int) := of_decide_eq_true (by first | (with_reducible assumption) | assumption); obtain ⟨ad316, e316, hx316_0⟩ := Kd.at_int (Kd.R_reads' HO309.out).2.2 1 p316 q316; obtain rfl : ad315 = ad316 := (by injection e316); (try simp only [show (1 : Int).toNat = 1 from rfl, Nat.reduceMul, Nat.reduceEqDiff, Go.Addr.add, ↓reduceIte] at hx316_0); have qi316 : (1 < t306.length) = True := eq_true (by omega); (try rw [show ((1 : Int)).toNat = 1 from rfl] at hx316_0); replace p316 := eq_true p316; replace q316 := eq_true q316; have p317 : 0 ≤ (9 : Int) := (by omega); have q317 : 9 < (t306.length : Int) := of_decide_eq_true (by first | (with_reducible assumption) | assumption); obtain ⟨ad317, e317, hx317_0⟩ := Kd.at_int (Kd.R_reads' HO309.out).2.2 9 p317 q317; obtain rfl : ad315 = ad317 := (by injection e317); (try simp only [show (9 : Int).toNat = 9 from rfl, Nat.reduceMul, Nat.reduceEqDiff, Go.Addr.add, ↓reduceIte] at hx317_0); have qi317 : (9 < t306.length) = True := eq_true (by omega); (try rw [show ((9 : Int)).toNat = 9 from rfl] at hx317_0); replace p317 := eq_true p317; replace q317 := eq_true q317))
                    go_ret
                    exact ⟨by first | rfl | (simp [errW_none, errW_some] <;> rfl) | (simp [*, errW_none, errW_some] <;> rfl), by repeat (first | (with_reducible first | exact HB.out | apply below_alloc | apply pw_below_drewN | apply below_drew1) | exact HB.out)⟩
                · rw [if_neg c10] at H
                  have c10b0 : ((rd t306 9) == 2) = false := beq_eq_false_iff_ne.mpr c10
                  have c10b1 : ((rd t306 9) != 2) = true := bne_iff_ne.mpr c10
                  obtain rfl := Option.some.inj H
                  go_enter Try.func49, Try.ntmps49
                  go_wp2_with (first | ((with_reducible refine gate_dst (N := 7) rfl ?_); (try (refine gate_guard (by rfl) ?_; dsimp only)); refine Kd.S_lit k91 _ 91 ?hg (N := 7) ?hd (xs := ([(⟨2, 0, 1, ([] : List Int)⟩ : S91)] : List (S91))) (inner := [.int .i64 2, .int .i64 0, .int .i64 1, .slice none 0 0]) (ok := fun _ => True) (okp := fun _ => True) ?hr ?hp (fun _ hk => hk) trivial (Below.refl _ _) (Nat.le_refl _) (by simp) ?_; (case hd => rfl); (case hg => rfl); (case hr => first | (go_simp; done) | (go_simp; rfl)); (case hp => exact (Reps.c4 (show Kd.M k91 _ _ _ (⟨2, 0, 1, ([] : List Int)⟩ : S91) [.int .i64 2, .int .i64 0, .int .i64 1, .slice none 0 0] from (k91_mkM _ _ _ (⟨2, 0, 1, ([] : List Int)⟩ : S91) (Kd.R_nil _ _ _ _ _))) (Reps.none _ _))); intro v304 w30 ho31 hb hg_ hnew_; clear hg_ hnew_; (first | rw [← Ny303.out] at ho31 | (simp only [Int.reduceToNat] at ho31; rw [← Ny303.out] at ho31)); have n0_ := Aside0.mk (Kd.S_lower ho31 (below_size (by repeat (first | (with_reducible first | exact HB.out | apply below_alloc | apply pw_below_drewN | apply below_drew1) | exact HB.out)))); have n1_ := Aside0.mk (below_step (by repeat (first | (with_reducible first | exact HB.out | apply below_alloc | apply pw_below_drewN | apply below_drew1) | exact HB.out)) hb); clear HB; have HO305 := n0_; have HB := n1_; clear n0_ n1_; clear hb ho31; obtain ⟨Ao32, co32, eo32⟩ := Kd.S_slice HO305.out; subst eo32) | ((with_reducible refine gate_callee (f := 50) rfl ?_); refine goesL_ (some 8) rfl rfl Try.func50 (by kernel_rfl) rfl #[.slice Ao32 y303.length co32] rfl (by (try simp only [List.map_toArray, List.map_cons, List.map_nil]); first | done | rfl | (simp only [List.length_drop, List.length_take]; rfl)) ?_; (with_reducible refine (script_Encode.calls _ _ y303 t306 t307 _ ?side1 ?side2 A1.out).mono ?_); (case side1 => repeat (first | exact (Kd.S_reads' HO305.out).2.2 | (with_reducible refine Kd.C_alloc ?_ _) | (with_reducible refine Kd.C_drewN ?_ _) | (with_reducible refine Kd.C_drew ?_))); (case side2 => exact (Kd.S_reads' HO305.out).2.1); rintro e w33 ⟨v308, rfl, ho0, hb⟩; refine ⟨_, rfl, ?_⟩; have n0_ := Aside0.mk (Kd.S_elder' (by (with_reducible repeat (first | apply Kd.S_alloc | apply Kd.S_drewN | apply Kd.S_drew)); exact HO305.out) (Kd.R_base ho0) hb); have n1_ := Aside0.mk (Kd.R_lower ho0 (below_size (by repeat (first | (with_reducible first | exact HB.out | apply below_alloc | apply pw_below_drewN | apply below_drew1) | exact HB.out)))); have n2_ := Aside0.mk (below_step (by repeat (first | (with_reducible first | exact HB.out | apply below_alloc | apply pw_below_drewN | apply below_drew1) | exact HB.out)) hb); clear HO305; clear HB; have HO305 := n0_; have HO309 := n1_; have HB := n2_; clear n0_ n1_ n2_; (try clear hb); (try clear hb2); (try clear hk); (try clear hi); (try clear ho0)) | ((with_reducible refine gate_dst (N := 14) rfl ?_); (try (refine gate_guard (by rfl) ?_; dsimp only)); refine Kd.S_lit k91 _ 91 ?hg (N := 14) ?hd (xs := ([(⟨2, 0, 4, ([] : List Int)⟩ : S91), (⟨2, 0, (-1), ([] : List Int)⟩ : S91)] : List (S91))) (inner := [.int .i64 2, .int .i64 0, .int .i64 4, .slice none 0 0, .int .i64 2, .int .i64 0, .int .i64 (-1), .slice none 0 0]) (ok := fun _ => True) (okp := fun _ => True) ?hr ?hp (fun _ hk => hk) trivial (Below.refl _ _) (Nat.le_refl _) (by simp) ?_; (case hd => rfl); (case hg => rfl); (case hr => first | (go_simp; done) | (go_simp; rfl)); (case hp => exact (Reps.c4 (show Kd.M k91 _ _ _ (⟨2, 0, 4, ([] : List Int)⟩ : S91) [.int .i64 2, .int .i64 0, .int .i64 4, .slice none 0 0] from (k91_mkM _ _ _ (⟨2, 0, 4, ([] : List Int)⟩ : S91) (Kd.R_nil _ _ _ _ _))) (Reps.c4 (show Kd.M k91 _ _ _ (⟨2, 0, (-1), ([] : List Int)⟩ : S91) [.int .i64 2, .int .i64 0, .int .i64 (-1), .slice none 0 0] from (k91_mkM _ _ _ (⟨2, 0, (-1), ([] : List Int)⟩ : S91) (Kd.R_nil _ _ _ _ _))) (Reps.none _ _)))); intro v311 w34 ho35 hb hg_ hnew_; clear hg_ hnew_; (first | rw [← Ny310.out] at ho35 | (simp only [Int.reduceToNat] at ho35; rw [← Ny310.out] at ho35)); have n0_ := Aside0.mk (Kd.S_elder' (by (with_reducible repeat (first | apply Kd.S_alloc | apply Kd.S_drewN | apply Kd.S_drew)); exact HO305.out) (Kd.S_base ho35) hb); have n1_ := Aside0.mk (Kd.R_below (by (with_reducible repeat (first | apply Kd.R_alloc | apply Kd.R_drewN | apply Kd.R_drew)); exact HO309.out) hb); have n2_ := Aside0.mk (Kd.S_lower (Kd.S_new' (Kd.S_new' ho35 (Kd.S_lt (by (with_reducible repeat (first | apply Kd.S_alloc | apply Kd.S_drewN | apply Kd.S_drew)); exact HO305.out))) (Kd.R_lt (by (with_reducible repeat (first | apply Kd.R_alloc | apply Kd.R_drewN | apply Kd.R_drew)); exact HO309.out))) (below_size (by repeat (first | (with_reducible first | exact HB.out | apply below_alloc | apply pw_below_drewN | apply below_drew1) | exact HB.out)))); have n3_ := Aside0.mk (below_step (by repeat (first | (with_reducible first | exact HB.out | apply below_alloc | apply pw_below_drewN | apply below_drew1) | exact HB.out)) hb); clear HO305; clear HO309; clear HB; have HO305 := n0_; have HO309 := n1_; have HO312 := n2_; have HB := n3_; clear n0_ n1_ n2_ n3_; clear hb ho35; obtain ⟨Ao36, co36, eo36⟩ := Kd.S_slice HO312.out; subst eo36) | ((with_reducible refine gate_callee (f := 68) rfl ?_); refine goesL_ (some 15) rfl rfl Try.func68 (by kernel_rfl) rfl #[.slice Ao36 y310.length co36] rfl (by (try simp only [List.map_toArray, List.map_cons, List.map_nil]); first | done | rfl | (simp only [List.length_drop, List.length_take]; rfl)) ?_; (with_reducible refine (script_Ticks.calls k _ _ y310 t313 t314 _ ?side1 ?side2 A2.out).mono ?_); (case side1 => repeat (first | exact (Kd.S_reads' HO312.out).2.2 | (with_reducible refine Kd.C_alloc ?_ _) | (with_reducible refine Kd.C_drewN ?_ _) | (with_reducible refine Kd.C_drew ?_))); (case side2 => exact (Kd.S_reads' HO312.out).2.1); rintro e w37 ⟨rfl, hb⟩; refine ⟨_, rfl, ?_⟩; have n0_ := Aside0.mk (Kd.S_below (by (with_reducible repeat (first | apply Kd.S_alloc | apply Kd.S_drewN | apply Kd.S_drew)); exact HO305.out) hb); have n1_ := Aside0.mk (Kd.R_below (by (with_reducible repeat (first | apply Kd.R_alloc | apply Kd.R_drewN | apply Kd.R_drew)); exact HO309.out) hb); have n2_ := Aside0.mk (Kd.S_below (by (with_reducible repeat (first | apply Kd.S_alloc | apply Kd.S_drewN | apply Kd.S_drew)); exact HO312.out) hb); have n3_ := Aside0.mk (below_step (by repeat (first | (with_reducible first | exact HB.out | apply below_alloc | apply pw_below_drewN | apply below_drew1) | exact HB.out)) hb); clear HO305; clear HO309; clear HO312; clear HB; have HO305 := n0_; have HO309 := n1_; have HO312 := n2_; have HB := n3_; clear n0_ n1_ n2_ n3_; (try clear hb); (try clear hb2); (try clear hk); (try clear hi); obtain ⟨Ao38, co38, eo38⟩ := Kd.R_slice HO309.out; subst eo38; have p315 : 0 ≤ (0 : Int) := (by omega); have q315 : 0 < (t306.length : Int) := of_decide_eq_true (by first | (with_reducible assumption) | assumption); obtain ⟨ad315, e315, hx315_0⟩ := Kd.at_int (Kd.R_reads' HO309.out).2.2 0 p315 q315; cases e315; have qi315 : (0 < t306.length) = True := eq_true (by omega); (try rw [show ((0 : Int)).toNat = 0 from rfl] at hx315_0); (try rw [Addr.add_zero'] at hx315_0); replace p315 := eq_true p315; replace q315 := eq_true q315; have p316 : 0 ≤ (1 : Int) := (by omega); have q316 : 1 < (t306.length : Int) := of_decide_eq_true (by first | (with_reducible assumption) | assumption); obtain ⟨ad316, e316, hx316_0⟩ := Kd.at_int (Kd.R_reads' HO309.out).2.2 1 p316 q316; obtain rfl : ad315 = ad316 := (by injection e316); (try simp only [show (1 : Int).toNat = 1 from rfl, Nat.reduceMul, Nat.reduceEqDiff, Go.Addr.add, ↓reduceIte] at hx316_0); have qi316 : (1 < t306.length) = True := eq_true (by omega); (try rw [show ((1 : Int)).toNat = 1 from rfl] at hx316_0); replace p316 := eq_true p316; replace q316 := eq_true q316; have p317 : 0 ≤ (9 : Int) := (by omega); have q317 : 9 < (t306.length : Int) := of_decide_eq_true (by first | (with_reducible assumption) | assumption); obtain ⟨ad317, e317, hx317_0⟩ := Kd.at_int (Kd.R_reads' HO309.out).2.2 9 p317 q317; obtain rfl : ad315 = ad317 := (by injection e317); (try simp only [show (9 : Int).toNat = 9 from rfl, Nat.reduceMul, Nat.reduceEqDiff, Go.Addr.add, ↓reduceIte] at hx317_0); have qi317 : (9 < t306.length) = True := eq_true (by omega); (try rw [show ((9 : Int)).toNat = 9 from rfl] at hx317_0); replace p317 := eq_true p317; replace q317 := eq_true q317))
                  go_ret
                  exact ⟨by first | rfl | (simp [errW_none, errW_some] <;> rfl) | (simp [*, errW_none, errW_some] <;> rfl), by repeat (first | (with_reducible first | exact HB.out | apply below_alloc | apply pw_below_drewN | apply below_drew1) | exact HB.out)⟩
              · rw [if_neg c9] at H
                exact absurd H (by simp)
            · rw [if_neg c8] at H
              have c8b0 : ((rd t306 1) == 2) = false := beq_eq_false_iff_ne.mpr c8
              have c8b1 : ((rd t306 1) != 2) = true := bne_iff_ne.mpr c8
              obtain rfl := Option.some.inj H
              go_enter Try.func49, Try.ntmps49
              go_wp2_with (first | ((with_reducible refine gate_dst (N := 7) rfl ?_); (try (refine gate_guard (by rfl) ?_; dsimp only)); refine Kd.S_lit k91 _ 91 ?hg (N := 7) ?hd (xs := ([(⟨2, 0, 1, ([] : List Int)⟩ : S91)] : List (S91))) (inner := [.int .i64 2, .int .i64 0, .int .i64 1, .slice none 0 0]) (ok := fun _ => True) (okp := fun _ => True) ?hr ?hp (fun _ hk => hk) trivial (Below.refl _ _) (Nat.le_refl _) (by simp) ?_; (case hd => rfl); (case hg => rfl); (case hr => first | (go_simp; done) | (go_simp; rfl)); (case hp => exact (Reps.c4 (show Kd.M k91 _ _ _ (⟨2, 0, 1, ([] : List Int)⟩ : S91) [.int .i64 2, .int .i64 0, .int .i64 1, .slice none 0 0] from (k91_mkM _ _ _ (⟨2, 0, 1, ([] : List Int)⟩ : S91) (Kd.R_nil _ _ _ _ _))) (Reps.none _ _))); intro v304 w39 ho40 hb hg_ hnew_; clear hg_ hnew_; (first | rw [← Ny303.out] at ho40 | (simp only [Int.reduceToNat] at ho40; rw [← Ny303.out] at ho40)); have n0_ := Aside0.mk (Kd.S_lower ho40 (below_size (by repeat (first | (with_reducible first | exact HB.out | apply below_alloc | apply pw_below_drewN | apply below_drew1) | exact HB.out)))); have n1_ := Aside0.mk (below_step (by repeat (first | (with_reducible first | exact HB.out | apply below_alloc | apply pw_below_drewN | apply below_drew1) | exact HB.out)) hb); clear HB; have HO305 := n0_; have HB := n1_; clear n0_ n1_; clear hb ho40; obtain ⟨Ao41, co41, eo41⟩ := Kd.S_slice HO305.out; subst eo41) | ((with_reducible refine gate_callee (f := 50) rfl ?_); refine goesL_ (some 8) rfl rfl Try.func50 (by kernel_rfl) rfl #[.slice Ao41 y303.length co41] rfl (by (try simp only [List.map_toArray, List.map_cons, List.map_nil]); first | done | rfl | (simp only [List.length_drop, List.length_take]; rfl)) ?_; (with_reducible refine (script_Encode.calls _ _ y303 t306 t307 _ ?side1 ?side2 A1.out).mono ?_); (case side1 => repeat (first | exact (Kd.S_reads' HO305.out).2.2 | (with_reducible refine Kd.C_alloc ?_ _) | (with_reducible refine Kd.C_drewN ?_ _) | (with_reducible refine Kd.C_drew ?_))); (case side2 => exact (Kd.S_reads' HO305.out).2.1); rintro e w42 ⟨v308, rfl, ho0, hb⟩; refine ⟨_, rfl, ?_⟩; have n0_ := Aside0.mk (Kd.S_elder' (by (with_reducible repeat (first | apply Kd.S_alloc | apply Kd.S_drewN | apply Kd.S_drew)); exact HO305.out) (Kd.R_base ho0) hb); have n1_ := Aside0.mk (Kd.R_lower ho0 (below_size (by repeat (first | (with_reducible first | exact HB.out | apply below_alloc | apply pw_below_drewN | apply below_drew1) | exact HB.out)))); have n2_ := Aside0.mk (below_step (by repeat (first | (with_reducible first | exact HB.out | apply below_alloc | apply pw_below_drewN | apply below_drew1) | exact HB.out)) hb); clear HO305; clear HB; have HO305 := n0_; have HO309 := n1_; have HB := n2_; clear n0_ n1_ n2_; (try clear hb); (try clear hb2); (try clear hk); (try clear hi); (try clear ho0)) | ((with_reducible refine gate_dst (N := 14) rfl ?_); (try (refine gate_guard (by rfl) ?_; dsimp only)); refine Kd.S_lit k91 _ 91 ?hg (N := 14) ?hd (xs := ([(⟨2, 0, 4, ([] : List Int)⟩ : S91), (⟨2, 0, (-1), ([] : List Int)⟩ : S91)] : List (S91))) (inner := [.int .i64 2, .int .i64 0, .int .i64 4, .slice none 0 0, .int .i64 2, .int .i64 0, .int .i64 (-1), .slice none 0 0]) (ok := fun _ => True) (okp := fun _ => True) ?hr ?hp (fun _ hk => hk) trivial (Below.refl _ _) (Nat.le_refl _) (by simp) ?_; (case hd => rfl); (case hg => rfl); (case hr => first | (go_simp; done) | (go_simp; rfl)); (case hp => exact (Reps.c4 (show Kd.M k91 _ _ _ (⟨2, 0, 4, ([] : List Int)⟩ : S91) [.int .i64 2, .int .i64 0, .int .i64 4, .slice none 0 0] from (k91_mkM _ _ _ (⟨2, 0, 4, ([] : List Int)⟩ : S91) (Kd.R_nil _ _ _ _ _))) (Reps.c4 (show Kd.M k91 _ _ _ (⟨2, 0, (-1), ([] : List Int)⟩ : S91) [.int .i64 2, .int .i64 0, .int .i64 (-1), .slice none 0 0] from (k91_mkM _ _ _ (⟨2, 0, (-1), ([] : List Int)⟩ : S91) (Kd.R_nil _ _ _ _ _))) (Reps.none _ _)))); intro v311 w43 ho44 hb hg_ hnew_; clear hg_ hnew_; (first | rw [← Ny310.out] at ho44 | (simp only [Int.reduceToNat] at ho44; rw [← Ny310.out] at ho44)); have n0_ := Aside0.mk (Kd.S_elder' (by (with_reducible repeat (first | apply Kd.S_alloc | apply Kd.S_drewN | apply Kd.S_drew)); exact HO305.out) (Kd.S_base ho44) hb); have n1_ := Aside0.mk (Kd.R_below (by (with_reducible repeat (first | apply Kd.R_alloc | apply Kd.R_drewN | apply Kd.R_drew)); exact HO309.out) hb); have n2_ := Aside0.mk (Kd.S_lower (Kd.S_new' (Kd.S_new' ho44 (Kd.S_lt (by (with_reducible repeat (first | apply Kd.S_alloc | apply Kd.S_drewN | apply Kd.S_drew)); exact HO305.out))) (Kd.R_lt (by (with_reducible repeat (first | apply Kd.R_alloc | apply Kd.R_drewN | apply Kd.R_drew)); exact HO309.out))) (below_size (by repeat (first | (with_reducible first | exact HB.out | apply below_alloc | apply pw_below_drewN | apply below_drew1) | exact HB.out)))); have n3_ := Aside0.mk (below_step (by repeat (first | (with_reducible first | exact HB.out | apply below_alloc | apply pw_below_drewN | apply below_drew1) | exact HB.out)) hb); clear HO305; clear HO309; clear HB; have HO305 := n0_; have HO309 := n1_; have HO312 := n2_; have HB := n3_; clear n0_ n1_ n2_ n3_; clear hb ho44; obtain ⟨Ao45, co45, eo45⟩ := Kd.S_slice HO312.out; subst eo45) | ((with_reducible refine gate_callee (f := 68) rfl ?_); refine goesL_ (some 15) rfl rfl Try.func68 (by kernel_rfl) rfl #[.slice Ao45 y310.length co45] rfl (by (try simp only [List.map_toArray, List.map_cons, List.map_nil]); first | done | rfl | (simp only [List.length_drop, List.length_take]; rfl)) ?_; (with_reducible refine (script_Ticks.calls k _ _ y310 t313 t314 _ ?side1 ?side2 A2.out).mono ?_); (case side1 => repeat (first | exact (Kd.S_reads' HO312.out).2.2 | (with_reducible refine Kd.C_alloc ?_ _) | (with_reducible refine Kd.C_drewN ?_ _) | (with_reducible refine Kd.C_drew ?_))); (case side2 => exact (Kd.S_reads' HO312.out).2.1); rintro e w46 ⟨rfl, hb⟩; refine ⟨_, rfl, ?_⟩; have n0_ := Aside0.mk (Kd.S_below (by (with_reducible repeat (first | apply Kd.S_alloc | apply Kd.S_drewN | apply Kd.S_drew)); exact HO305.out) hb); have n1_ := Aside0.mk (Kd.R_below (by (with_reducible repeat (first | apply Kd.R_alloc | apply Kd.R_drewN | apply Kd.R_drew)); exact HO309.out) hb); have n2_ := Aside0.mk (Kd.S_below (by (with_reducible repeat (first | apply Kd.S_alloc | apply Kd.S_drewN | apply Kd.S_drew)); exact HO312.out) hb); have n3_ := Aside0.mk (below_step (by repeat (first | (with_reducible first | exact HB.out | apply below_alloc | apply pw_below_drewN | apply below_drew1) | exact HB.out)) hb); clear HO305; clear HO309; clear HO312; clear HB; have HO305 := n0_; have HO309 := n1_; have HO312 := n2_; have HB := n3_; clear n0_ n1_ n2_ n3_; (try clear hb); (try clear hb2); (try clear hk); (try clear hi); obtain ⟨Ao47, co47, eo47⟩ := Kd.R_slice HO309.out; subst eo47; have p315 : 0 ≤ (0 : Int) := (by omega); have q315 : 0 < (t306.length : Int) := of_decide_eq_true (by first | (with_reducible assumption) | assumption); obtain ⟨ad315, e315, hx315_0⟩ := Kd.at_int (Kd.R_reads' HO309.out).2.2 0 p315 q315; cases e315; have qi315 : (0 < t306.length) = True := eq_true (by omega); (try rw [show ((0 : Int)).toNat = 0 from rfl] at hx315_0); (try rw [Addr.add_zero'] at hx315_0); replace p315 := eq_true p315; replace q315 := eq_true q315; have p316 : 0 ≤ (1 : Int) := (by omega); have q316 : 1 < (t306.length : Int) := of_decide_eq_true (by first | (with_reducible assumption) | assumption); obtain ⟨ad316, e316, hx316_0⟩ := Kd.at_int (Kd.R_reads' HO309.out).2.2 1 p316 q316; obtain rfl : ad315 = ad316 := (by injection e316); (try simp only [show (1 : Int).toNat = 1 from rfl, Nat.reduceMul, Nat.reduceEqDiff, Go.Addr.add, ↓reduceIte] at hx316_0); have qi316 : (1 < t306.length) = True := eq_true (by omega); (try rw [show ((1 : Int)).toNat = 1 from rfl] at hx316_0); replace p316 := eq_true p316; replace q316 := eq_true q316))
              go_ret
              exact ⟨by first | rfl | (simp [errW_none, errW_some] <;> rfl) | (simp [*, errW_none, errW_some] <;> rfl), by repeat (first | (with_reducible first | exact HB.out | apply below_alloc | apply pw_below_drewN | apply below_drew1) | exact HB.out)⟩
          · rw [if_neg c7] at H
            exact absurd H (by simp)
        · rw [if_neg c6] at H
          have c6b0 : ((rd t306 0) == 1) = false := beq_eq_false_iff_ne.mpr c6
          have c6b1 : ((rd t306 0) != 1) = true := bne_iff_ne.mpr c6
          obtain rfl := Option.some.inj H
          go_enter Try.func49, Try.ntmps49
          go_wp2_with (first | ((with_reducible refine gate_dst (N := 7) rfl ?_); (try (refine gate_guard (by rfl) ?_; dsimp only)); refine Kd.S_lit k91 _ 91 ?hg (N := 7) ?hd (xs := ([(⟨2, 0, 1, ([] : List Int)⟩ : S91)] : List (S91))) (inner := [.int .i64 2, .int .i64 0, .int .i64 1, .slice none 0 0]) (ok := fun _ => True) (okp := fun _ => True) ?hr ?hp (fun _ hk => hk) trivial (Below.refl _ _) (Nat.le_refl _) (by simp) ?_; (case hd => rfl); (case hg => rfl); (case hr => first | (go_simp; done) | (go_simp; rfl)); (case hp => exact (Reps.c4 (show Kd.M k91 _ _ _ (⟨2, 0, 1, ([] : List Int)⟩ : S91) [.int .i64 2, .int .i64 0, .int .i64 1, .slice none 0 0] from (k91_mkM _ _ _ (⟨2, 0, 1, ([] : List Int)⟩ : S91) (Kd.R_nil _ _ _ _ _))) (Reps.none _ _))); intro v304 w48 ho49 hb hg_ hnew_; clear hg_ hnew_; (first | rw [← Ny303.out] at ho49 | (simp only [Int.reduceToNat] at ho49; rw [← Ny303.out] at ho49)); have n0_ := Aside0.mk (Kd.S_lower ho49 (below_size (by repeat (first | (with_reducible first | exact HB.out | apply below_alloc | apply pw_below_drewN | apply below_drew1) | exact HB.out)))); have n1_ := Aside0.mk (below_step (by repeat (first | (with_reducible first | exact HB.out | apply below_alloc | apply pw_below_drewN | apply below_drew1) | exact HB.out)) hb); clear HB; have HO305 := n0_; have HB := n1_; clear n0_ n1_; clear hb ho49; obtain ⟨Ao50, co50, eo50⟩ := Kd.S_slice HO305.out; subst eo50) | ((with_reducible refine gate_callee (f := 50) rfl ?_); refine goesL_ (some 8) rfl rfl Try.func50 (by kernel_rfl) rfl #[.slice Ao50 y303.length co50] rfl (by (try simp only [List.map_toArray, List.map_cons, List.map_nil]); first | done | rfl | (simp only [List.length_drop, List.length_take]; rfl)) ?_; (with_reducible refine (script_Encode.calls _ _ y303 t306 t307 _ ?side1 ?side2 A1.out).mono ?_); (case side1 => repeat (first | exact (Kd.S_reads' HO305.out).2.2 | (with_reducible refine Kd.C_alloc ?_ _) | (with_reducible refine Kd.C_drewN ?_ _) | (with_reducible refine Kd.C_drew ?_))); (case side2 => exact (Kd.S_reads' HO305.out).2.1); rintro e w51 ⟨v308, rfl, ho0, hb⟩; refine ⟨_, rfl, ?_⟩; have n0_ := Aside0.mk (Kd.S_elder' (by (with_reducible repeat (first | apply Kd.S_alloc | apply Kd.S_drewN | apply Kd.S_drew)); exact HO305.out) (Kd.R_base ho0) hb); have n1_ := Aside0.mk (Kd.R_lower ho0 (below_size (by repeat (first | (with_reducible first | exact HB.out | apply below_alloc | apply pw_below_drewN | apply below_drew1) | exact HB.out)))); have n2_ := Aside0.mk (below_step (by repeat (first | (with_reducible first | exact HB.out | apply below_alloc | apply pw_below_drewN | apply below_drew1) | exact HB.out)) hb); clear HO305; clear HB; have HO305 := n0_; have HO309 := n1_; have HB := n2_; clear n0_ n1_ n2_; (try clear hb); (try clear hb2); (try clear hk); (try clear hi); (try clear ho0)) | ((with_reducible refine gate_dst (N := 14) rfl ?_); (try (refine gate_guard (by rfl) ?_; dsimp only)); refine Kd.S_lit k91 _ 91 ?hg (N := 14) ?hd (xs := ([(⟨2, 0, 4, ([] : List Int)⟩ : S91), (⟨2, 0, (-1), ([] : List Int)⟩ : S91)] : List (S91))) (inner := [.int .i64 2, .int .i64 0, .int .i64 4, .slice none 0 0, .int .i64 2, .int .i64 0, .int .i64 (-1), .slice none 0 0]) (ok := fun _ => True) (okp := fun _ => True) ?hr ?hp (fun _ hk => hk) trivial (Below.refl _ _) (Nat.le_refl _) (by simp) ?_; (case hd => rfl); (case hg => rfl); (case hr => first | (go_simp; done) | (go_simp; rfl)); (case hp => exact (Reps.c4 (show Kd.M k91 _ _ _ (⟨2, 0, 4, ([] : List Int)⟩ : S91) [.int .i64 2, .int .i64 0, .int .i64 4, .slice none 0 0] from (k91_mkM _ _ _ (⟨2, 0, 4, ([] : List Int)⟩ : S91) (Kd.R_nil _ _ _ _ _))) (Reps.c4 (show Kd.M k91 _ _ _ (⟨2, 0, (-1), ([] : List Int)⟩ : S91) [.int .i64 2, .int .i64 0, .int .i64 (-1), .slice none 0 0] from (k91_mkM _ _ _ (⟨2, 0, (-1), ([] : List Int)⟩ : S91) (Kd.R_nil _ _ _ _ _))) (Reps.none _ _)))); intro v311 w52 ho53 hb hg_ hnew_; clear hg_ hnew_; (first | rw [← Ny310.out] at ho53 | (simp only [Int.reduceToNat] at ho53; rw [← Ny310.out] at ho53)); have n0_ := Aside0.mk (Kd.S_elder' (by (with_reducible repeat (first | apply Kd.S_alloc | apply Kd.S_drewN | apply Kd.S_drew)); exact HO305.out) (Kd.S_base ho53) hb); have n1_ := Aside0.mk (Kd.R_below (by (with_reducible repeat (first | apply Kd.R_alloc | apply Kd.R_drewN | apply Kd.R_drew)); exact HO309.out) hb); have n2_ := Aside0.mk (Kd.S_lower (Kd.S_new' (Kd.S_new' ho53 (Kd.S_lt (by (with_reducible repeat (first | apply Kd.S_alloc | apply Kd.S_drewN | apply Kd.S_drew)); exact HO305.out))) (Kd.R_lt (by (with_reducible repeat (first | apply Kd.R_alloc | apply Kd.R_drewN | apply Kd.R_drew)); exact HO309.out))) (below_size (by repeat (first | (with_reducible first | exact HB.out | apply below_alloc | apply pw_below_drewN | apply below_drew1) | exact HB.out)))); have n3_ := Aside0.mk (below_step (by repeat (first | (with_reducible first | exact HB.out | apply below_alloc | apply pw_below_drewN | apply below_drew1) | exact HB.out)) hb); clear HO305; clear HO309; clear HB; have HO305 := n0_; have HO309 := n1_; have HO312 := n2_; have HB := n3_; clear n0_ n1_ n2_ n3_; clear hb ho53; obtain ⟨Ao54, co54, eo54⟩ := Kd.S_slice HO312.out; subst eo54) | ((with_reducible refine gate_callee (f := 68) rfl ?_); refine goesL_ (some 15) rfl rfl Try.func68 (by kernel_rfl) rfl #[.slice Ao54 y310.length co54] rfl (by (try simp only [List.map_toArray, List.map_cons, List.map_nil]); first | done | rfl | (simp only [List.length_drop, List.length_take]; rfl)) ?_; (with_reducible refine (script_Ticks.calls k _ _ y310 t313 t314 _ ?side1 ?side2 A2.out).mono ?_); (case side1 => repeat (first | exact (Kd.S_reads' HO312.out).2.2 | (with_reducible refine Kd.C_alloc ?_ _) | (with_reducible refine Kd.C_drewN ?_ _) | (with_reducible refine Kd.C_drew ?_))); (case side2 => exact (Kd.S_reads' HO312.out).2.1); rintro e w55 ⟨rfl, hb⟩; refine ⟨_, rfl, ?_⟩; have n0_ := Aside0.mk (Kd.S_below (by (with_reducible repeat (first | apply Kd.S_alloc | apply Kd.S_drewN | apply Kd.S_drew)); exact HO305.out) hb); have n1_ := Aside0.mk (Kd.R_below (by (with_reducible repeat (first | apply Kd.R_alloc | apply Kd.R_drewN | apply Kd.R_drew)); exact HO309.out) hb); have n2_ := Aside0.mk (Kd.S_below (by (with_reducible repeat (first | apply Kd.S_alloc | apply Kd.S_drewN | apply Kd.S_drew)); exact HO312.out) hb); have n3_ := Aside0.mk (below_step (by repeat (first | (with_reducible first | exact HB.out | apply below_alloc | apply pw_below_drewN | apply below_drew1) | exact HB.out)) hb); clear HO305; clear HO309; clear HO312; clear HB; have HO305 := n0_; have HO309 := n1_; have HO312 := n2_; have HB := n3_; clear n0_ n1_ n2_ n3_; (try clear hb); (try clear hb2); (try clear hk); (try clear hi); obtain ⟨Ao56, co56, eo56⟩ := Kd.R_slice HO309.out; subst eo56; have p315 : 0 ≤ (0 : Int) := (by omega); have q315 : 0 < (t306.length : Int) := of_decide_eq_true (by first | (with_reducible assumption) | assumption); obtain ⟨ad315, e315, hx315_0⟩ := Kd.at_int (Kd.R_reads' HO309.out).2.2 0 p315 q315; cases e315; have qi315 : (0 < t306.length) = True := eq_true (by omega); (try rw [show ((0 : Int)).toNat = 0 from rfl] at hx315_0); (try rw [Addr.add_zero'] at hx315_0); replace p315 := eq_true p315; replace q315 := eq_true q315))
          go_ret
          exact ⟨by first | rfl | (simp [errW_none, errW_some] <;> rfl) | (simp [*, errW_none, errW_some] <;> rfl), by repeat (first | (with_reducible first | exact HB.out | apply below_alloc | apply pw_below_drewN | apply below_drew1) | exact HB.out)⟩
      · rw [if_neg c5] at H
        exact absurd H (by simp)
    · rw [if_neg c4] at H
      have c4b0 : ((t306.length : Int) == 10) = false := beq_eq_false_iff_ne.mpr c4
      have c4b1 : ((t306.length : Int) != 10) = true := bne_iff_ne.mpr c4
      obtain rfl := Option.some.inj H
      go_enter Try.func49, Try.ntmps49
      go_wp2_with (first | ((with_reducible refine gate_dst (N := 7) rfl ?_); (try (refine gate_guard (by rfl) ?_; dsimp only)); refine Kd.S_lit k91 _ 91 ?hg (N := 7) ?hd (xs := ([(⟨2, 0, 1, ([] : List Int)⟩ : S91)] : List (S91))) (inner := [.int .i64 2, .int .i64 0, .int .i64 1, .slice none 0 0]) (ok := fun _ => True) (okp := fun _ => True) ?hr ?hp (fun _ hk => hk) trivial (Below.refl _ _) (Nat.le_refl _) (by simp) ?_; (case hd => rfl); (case hg => rfl); (case hr => first | (go_simp; done) | (go_simp; rfl)); (case hp => exact (Reps.c4 (show Kd.M k91 _ _ _ (⟨2, 0, 1, ([] : List Int)⟩ : S91) [.int .i64 2, .int .i64 0, .int .i64 1, .slice none 0 0] from (k91_mkM _ _ _ (⟨2, 0, 1, ([] : List Int)⟩ : S91) (Kd.R_nil _ _ _ _ _))) (Reps.none _ _))); intro v304 w57 ho58 hb hg_ hnew_; clear hg_ hnew_; (first | rw [← Ny303.out] at ho58 | (simp only [Int.reduceToNat] at ho58; rw [← Ny303.out] at ho58)); have n0_ := Aside0.mk (Kd.S_lower ho58 (below_size (by repeat (first | (with_reducible first | exact HB.out | apply below_alloc | apply pw_below_drewN | apply below_drew1) | exact HB.out)))); have n1_ := Aside0.mk (below_step (by repeat (first | (with_reducible first | exact HB.out | apply below_alloc | apply pw_below_drewN | apply below_drew1) | exact HB.out)) hb); clear HB; have HO305 := n0_; have HB := n1_; clear n0_ n1_; clear hb ho58; obtain ⟨Ao59, co59, eo59⟩ := Kd.S_slice HO305.out; subst eo59) | ((with_reducible refine gate_callee (f := 50) rfl ?_); refine goesL_ (some 8) rfl rfl Try.func50 (by kernel_rfl) rfl #[.slice Ao59 y303.length co59] rfl (by (try simp only [List.map_toArray, List.map_cons, List.map_nil]); first | done | rfl | (simp only [List.length_drop, List.length_take]; rfl)) ?_; (with_reducible refine (script_Encode.calls _ _ y303 t306 t307 _ ?side1 ?side2 A1.out).mono ?_); (case side1 => repeat (first | exact (Kd.S_reads' HO305.out).2.2 | (with_reducible refine Kd.C_alloc ?_ _) | (with_reducible refine Kd.C_drewN ?_ _) | (with_reducible refine Kd.C_drew ?_))); (case side2 => exact (Kd.S_reads' HO305.out).2.1); rintro e w60 ⟨v308, rfl, ho0, hb⟩; refine ⟨_, rfl, ?_⟩; have n0_ := Aside0.mk (Kd.S_elder' (by (with_reducible repeat (first | apply Kd.S_alloc | apply Kd.S_drewN | apply Kd.S_drew)); exact HO305.out) (Kd.R_base ho0) hb); have n1_ := Aside0.mk (Kd.R_lower ho0 (below_size (by repeat (first | (with_reducible first | exact HB.out | apply below_alloc | apply pw_below_drewN | apply below_drew1) | exact HB.out)))); have n2_ := Aside0.mk (below_step (by repeat (first | (with_reducible first | exact HB.out | apply below_alloc | apply pw_below_drewN | apply below_drew1) | exact HB.out)) hb); clear HO305; clear HB; have HO305 := n0_; have HO309 := n1_; have HB := n2_; clear n0_ n1_ n2_; (try clear hb); (try clear hb2); (try clear hk); (try clear hi); (try clear ho0)) | ((with_reducible refine gate_dst (N := 14) rfl ?_); (try (refine gate_guard (by rfl) ?_; dsimp only)); refine Kd.S_lit k91 _ 91 ?hg (N := 14) ?hd (xs := ([(⟨2, 0, 4, ([] : List Int)⟩ : S91), (⟨2, 0, (-1), ([] : List Int)⟩ : S91)] : List (S91))) (inner := [.int .i64 2, .int .i64 0, .int .i64 4, .slice none 0 0, .int .i64 2, .int .i64 0, .int .i64 (-1), .slice none 0 0]) (ok := fun _ => True) (okp := fun _ => True) ?hr ?hp (fun _ hk => hk) trivial (Below.refl _ _) (Nat.le_refl _) (by simp) ?_; (case hd => rfl); (case hg => rfl); (case hr => first | (go_simp; done) | (go_simp; rfl)); (case hp => exact (Reps.c4 (show Kd.M k91 _ _ _ (⟨2, 0, 4, ([] : List Int)⟩ : S91) [.int .i64 2, .int .i64 0, .int .i64 4, .slice none 0 0] from (k91_mkM _ _ _ (⟨2, 0, 4, ([] : List Int)⟩ : S91) (Kd.R_nil _ _ _ _ _))) (Reps.c4 (show Kd.M k91 _ _ _ (⟨2, 0, (-1), ([] : List Int)⟩ : S91) [.int .i64 2, .int .i64 0, .int .i64 (-1), .slice none 0 0] from (k91_mkM _ _ _ (⟨2, 0, (-1), ([] : List Int)⟩ : S91) (Kd.R_nil _ _ _ _ _))) (Reps.none _ _)))); intro v311 w61 ho62 hb hg_ hnew_; clear hg_ hnew_; (first | rw [← Ny310.out] at ho62 | (simp only [Int.reduceToNat] at ho62; rw [← Ny310.out] at ho62)); have n0_ := Aside0.mk (Kd.S_elder' (by (with_reducible repeat (first | apply Kd.S_alloc | apply Kd.S_drewN | apply Kd.S_drew)); exact HO305.out) (Kd.S_base ho62) hb); have n1_ := Aside0.mk (Kd.R_below (by (with_reducible repeat (first | apply Kd.R_alloc | apply Kd.R_drewN | apply Kd.R_drew)); exact HO309.out) hb); have n2_ := Aside0.mk (Kd.S_lower (Kd.S_new' (Kd.S_new' ho62 (Kd.S_lt (by (with_reducible repeat (first | apply Kd.S_alloc | apply Kd.S_drewN | apply Kd.S_drew)); exact HO305.out))) (Kd.R_lt (by (with_reducible repeat (first | apply Kd.R_alloc | apply Kd.R_drewN | apply Kd.R_drew)); exact HO309.out))) (below_size (by repeat (first | (with_reducible first | exact HB.out | apply below_alloc | apply pw_below_drewN | apply below_drew1) | exact HB.out)))); have n3_ := Aside0.mk (below_step (by repeat (first | (with_reducible first | exact HB.out | apply below_alloc | apply pw_below_drewN | apply below_drew1) | exact HB.out)) hb); clear HO305; clear HO309; clear HB; have HO305 := n0_; have HO309 := n1_; have HO312 := n2_; have HB := n3_; clear n0_ n1_ n2_ n3_; clear hb ho62; obtain ⟨Ao63, co63, eo63⟩ := Kd.S_slice HO312.out; subst eo63) | ((with_reducible refine gate_callee (f := 68) rfl ?_); refine goesL_ (some 15) rfl rfl Try.func68 (by kernel_rfl) rfl #[.slice Ao63 y310.length co63] rfl (by (try simp only [List.map_toArray, List.map_cons, List.map_nil]); first | done | rfl | (simp only [List.length_drop, List.length_take]; rfl)) ?_; (with_reducible refine (script_Ticks.calls k _ _ y310 t313 t314 _ ?side1 ?side2 A2.out).mono ?_); (case side1 => repeat (first | exact (Kd.S_reads' HO312.out).2.2 | (with_reducible refine Kd.C_alloc ?_ _) | (with_reducible refine Kd.C_drewN ?_ _) | (with_reducible refine Kd.C_drew ?_))); (case side2 => exact (Kd.S_reads' HO312.out).2.1); rintro e w64 ⟨rfl, hb⟩; refine ⟨_, rfl, ?_⟩; have n0_ := Aside0.mk (Kd.S_below (by (with_reducible repeat (first | apply Kd.S_alloc | apply Kd.S_drewN | apply Kd.S_drew)); exact HO305.out) hb); have n1_ := Aside0.mk (Kd.R_below (by (with_reducible repeat (first | apply Kd.R_alloc | apply Kd.R_drewN | apply Kd.R_drew)); exact HO309.out) hb); have n2_ := Aside0.mk (Kd.S_below (by (with_reducible repeat (first | apply Kd.S_alloc | apply Kd.S_drewN | apply Kd.S_drew)); exact HO312.out) hb); have n3_ := Aside0.mk (below_step (by repeat (first | (with_reducible first | exact HB.out | apply below_alloc | apply pw_below_drewN | apply below_drew1) | exact HB.out)) hb); clear HO305; clear HO309; clear HO312; clear HB; have HO305 := n0_; have HO309 := n1_; have HO312 := n2_; have HB := n3_; clear n0_ n1_ n2_ n3_; (try clear hb); (try clear hb2); (try clear hk); (try clear hi); obtain ⟨Ao65, co65, eo65⟩ := Kd.R_slice HO309.out; subst eo65))
      go_ret
      exact ⟨by first | rfl | (simp [errW_none, errW_some] <;> rfl) | (simp [*, errW_none, errW_some] <;> rfl), by repeat (first | (with_reducible first | exact HB.out | apply below_alloc | apply pw_below_drewN | apply below_drew1) | exact HB.out)⟩
  · rw [if_neg c3] at H
    have c3b0 : (t307 == 0) = false := beq_eq_false_iff_ne.mpr c3
    have c3b1 : (t307 != 0) = true := bne_iff_ne.mpr c3
    obtain rfl := Option.some.inj H
    go_enter Try.func49, Try.ntmps49
    go_wp2_with (first | ((with_reducible refine gate_dst (N := 7) rfl ?_); (try (refine gate_guard (by rfl) ?_; dsimp only)); refine Kd.S_lit k91 _ 91 ?hg (N := 7) ?hd (xs := ([(⟨2, 0, 1, ([] : List Int)⟩ : S91)] : List (S91))) (inner := [.int .i64 2, .int .i64 0, .int .i64 1, .slice none 0 0]) (ok := fun _ => True) (okp := fun _ => True) ?hr ?hp (fun _ hk => hk) trivial (Below.refl _ _) (Nat.le_refl _) (by simp) ?_; (case hd => rfl); (case hg => rfl); (case hr => first | (go_simp; done) | (go_simp; rfl)); (case hp => exact (Reps.c4 (show Kd.M k91 _ _ _ (⟨2, 0, 1, ([] : List Int)⟩ : S91) [.int .i64 2, .int .i64 0, .int .i64 1, .slice none 0 0] from (k91_mkM _ _ _ (⟨2, 0, 1, ([] : List Int)⟩ : S91) (Kd.R_nil _ _ _ _ _))) (Reps.none _ _))); intro v304 w66 ho67 hb hg_ hnew_; clear hg_ hnew_; (first | rw [← Ny303.out] at ho67 | (simp only [Int.reduceToNat] at ho67; rw [← Ny303.out] at ho67)); have n0_ := Aside0.mk (Kd.S_lower ho67 (below_size (by repeat (first | (with_reducible first | exact HB.out | apply below_alloc | apply pw_below_drewN | apply below_drew1) | exact HB.out)))); have n1_ := Aside0.mk (below_step (by repeat (first | (with_reducible first | exact HB.out | apply below_alloc | apply pw_below_drewN | apply below_drew1) | exact HB.out)) hb); clear HB; have HO305 := n0_; have HB := n1_; clear n0_ n1_; clear hb ho67; obtain ⟨Ao68, co68, eo68⟩ := Kd.S_slice HO305.out; subst eo68) | ((with_reducible refine gate_callee (f := 50) rfl ?_); refine goesL_ (some 8) rfl rfl Try.func50 (by kernel_rfl) rfl #[.slice Ao68 y303.length co68] rfl (by (try simp only [List.map_toArray, List.map_cons, List.map_nil]); first | done | rfl | (simp only [List.length_drop, List.length_take]; rfl)) ?_; (with_reducible refine (script_Encode.calls _ _ y303 t306 t307 _ ?side1 ?side2 A1.out).mono ?_); (case side1 => repeat (first | exact (Kd.S_reads' HO305.out).2.2 | (with_reducible refine Kd.C_alloc ?_ _) | (with_reducible refine Kd.C_drewN ?_ _) | (with_reducible refine Kd.C_drew ?_))); (case side2 => exact (Kd.S_reads' HO305.out).2.1); rintro e w69 ⟨v308, rfl, ho0, hb⟩; refine ⟨_, rfl, ?_⟩; have n0_ := Aside0.mk (Kd.S_elder' (by (with_reducible repeat (first | apply Kd.S_alloc | apply Kd.S_drewN | apply Kd.S_drew)); exact HO305.out) (Kd.R_base ho0) hb); have n1_ := Aside0.mk (Kd.R_lower ho0 (below_size (by repeat (first | (with_reducible first | exact HB.out | apply below_alloc | apply pw_below_drewN | apply below_drew1) | exact HB.out)))); have n2_ := Aside0.mk (below_step (by repeat (first | (with_reducible first | exact HB.out | apply below_alloc | apply pw_below_drewN | apply below_drew1) | exact HB.out)) hb); clear HO305; clear HB; have HO305 := n0_; have HO309 := n1_; have HB := n2_; clear n0_ n1_ n2_; (try clear hb); (try clear hb2); (try clear hk); (try clear hi); (try clear ho0)) | ((with_reducible refine gate_dst (N := 14) rfl ?_); (try (refine gate_guard (by rfl) ?_; dsimp only)); refine Kd.S_lit k91 _ 91 ?hg (N := 14) ?hd (xs := ([(⟨2, 0, 4, ([] : List Int)⟩ : S91), (⟨2, 0, (-1), ([] : List Int)⟩ : S91)] : List (S91))) (inner := [.int .i64 2, .int .i64 0, .int .i64 4, .slice none 0 0, .int .i64 2, .int .i64 0, .int .i64 (-1), .slice none 0 0]) (ok := fun _ => True) (okp := fun _ => True) ?hr ?hp (fun _ hk => hk) trivial (Below.refl _ _) (Nat.le_refl _) (by simp) ?_; (case hd => rfl); (case hg => rfl); (case hr => first | (go_simp; done) | (go_simp; rfl)); (case hp => exact (Reps.c4 (show Kd.M k91 _ _ _ (⟨2, 0, 4, ([] : List Int)⟩ : S91) [.int .i64 2, .int .i64 0, .int .i64 4, .slice none 0 0] from (k91_mkM _ _ _ (⟨2, 0, 4, ([] : List Int)⟩ : S91) (Kd.R_nil _ _ _ _ _))) (Reps.c4 (show Kd.M k91 _ _ _ (⟨2, 0, (-1), ([] : List Int)⟩ : S91) [.int .i64 2, .int .i64 0, .int .i64 (-1), .slice none 0 0] from (k91_mkM _ _ _ (⟨2, 0, (-1), ([] : List Int)⟩ : S91) (Kd.R_nil _ _ _ _ _))) (Reps.none _ _)))); intro v311 w70 ho71 hb hg_ hnew_; clear hg_ hnew_; (first | rw [← Ny310.out] at ho71 | (simp only [Int.reduceToNat] at ho71; rw [← Ny310.out] at ho71)); have n0_ := Aside0.mk (Kd.S_elder' (by (with_reducible repeat (first | apply Kd.S_alloc | apply Kd.S_drewN | apply Kd.S_drew)); exact HO305.out) (Kd.S_base ho71) hb); have n1_ := Aside0.mk (Kd.R_below (by (with_reducible repeat (first | apply Kd.R_alloc | apply Kd.R_drewN | apply Kd.R_drew)); exact HO309.out) hb); have n2_ := Aside0.mk (Kd.S_lower (Kd.S_new' (Kd.S_new' ho71 (Kd.S_lt (by (with_reducible repeat (first | apply Kd.S_alloc | apply Kd.S_drewN | apply Kd.S_drew)); exact HO305.out))) (Kd.R_lt (by (with_reducible repeat (first | apply Kd.R_alloc | apply Kd.R_drewN | apply Kd.R_drew)); exact HO309.out))) (below_size (by repeat (first | (with_reducible first | exact HB.out | apply below_alloc | apply pw_below_drewN | apply below_drew1) | exact HB.out)))); have n3_ := Aside0.mk (below_step (by repeat (first | (with_reducible first | exact HB.out | apply below_alloc | apply pw_below_drewN | apply below_drew1) | exact HB.out)) hb); clear HO305; clear HO309; clear HB; have HO305 := n0_; have HO309 := n1_; have HO312 := n2_; have HB := n3_; clear n0_ n1_ n2_ n3_; clear hb ho71; obtain ⟨Ao72, co72, eo72⟩ := Kd.S_slice HO312.out; subst eo72) | ((with_reducible refine gate_callee (f := 68) rfl ?_); refine goesL_ (some 15) rfl rfl Try.func68 (by kernel_rfl) rfl #[.slice Ao72 y310.length co72] rfl (by (try simp only [List.map_toArray, List.map_cons, List.map_nil]); first | done | rfl | (simp only [List.length_drop, List.length_take]; rfl)) ?_; (with_reducible refine (script_Ticks.calls k _ _ y310 t313 t314 _ ?side1 ?side2 A2.out).mono ?_); (case side1 => repeat (first | exact (Kd.S_reads' HO312.out).2.2 | (with_reducible refine Kd.C_alloc ?_ _) | (with_reducible refine Kd.C_drewN ?_ _) | (with_reducible refine Kd.C_drew ?_))); (case side2 => exact (Kd.S_reads' HO312.out).2.1); rintro e w73 ⟨rfl, hb⟩; refine ⟨_, rfl, ?_⟩; have n0_ := Aside0.mk (Kd.S_below (by (with_reducible repeat (first | apply Kd.S_alloc | apply Kd.S_drewN | apply Kd.S_drew)); exact HO305.out) hb); have n1_ := Aside0.mk (Kd.R_below (by (with_reducible repeat (first | apply Kd.R_alloc | apply Kd.R_drewN | apply Kd.R_drew)); exact HO309.out) hb); have n2_ := Aside0.mk (Kd.S_below (by (with_reducible repeat (first | apply Kd.S_alloc | apply Kd.S_drewN | apply Kd.S_drew)); exact HO312.out) hb); have n3_ := Aside0.mk (below_step (by repeat (first | (with_reducible first | exact HB.out | apply below_alloc | apply pw_below_drewN | apply below_drew1) | exact HB.out)) hb); clear HO305; clear HO309; clear HO312; clear HB; have HO305 := n0_; have HO309 := n1_; have HO312 := n2_; have HB := n3_; clear n0_ n1_ n2_ n3_; (try clear hb); (try clear hb2); (try clear hk); (try clear hi)))
    go_ret
    exact ⟨by first | rfl | (simp [errW_none, errW_some] <;> rfl) | (simp [*, errW_none, errW_some] <;> rfl), by repeat (first | (with_reducible first | exact HB.out | apply below_alloc | apply pw_below_drewN | apply below_drew1) | exact HB.out)⟩

end Go.Proofs.Ytalpemoodollpaa.P
/- The chapter's example: scripts. -/
namespace Go.Proofs.Ytalpemoodollpaa.P
open Go.RowKit Go.Proofs.YtalpemoodollpaaW.PrintWords Go.Proofs.YtalpemoodollpaaW.PrintLast Go.Proofs.YtalpemoodollpaaW.PrintMore
set_option linter.unusedVariables false
set_option linter.unusedSimpArgs false
theorem alive29 : damperlaw29_alive.f 6 = some true := by decide +kernel
theorem alive29_calls (w : World) : Calls Try.prog 49 #[] w fun e w' => e = .returned (.bool true) ∧ Below w.heap.size w w' := damperlaw29_alive.calls 6 true w alive29
end Go.Proofs.Ytalpemoodollpaa.P
-- Printed by hookprint.py (the session's own program, over the kit's print.py): checked by Lean like any text.
namespace Go.Proofs.Ytalpemoodollpaa.P
open Go.RowKit Go.Proofs.YtalpemoodollpaaW.PrintWords Go.Proofs.YtalpemoodollpaaW.PrintLast Go.Proofs.YtalpemoodollpaaW.PrintMore
attribute [local go_sem] max2_int min2_int max_two min_two max_three min_three max_four min_four   -- for this text's walks alone
set_option linter.unusedVariables false
set_option linter.unusedSimpArgs false

/-! ### damperlaw29_Light: function 48 -/
def damperlaw29_Light.l0 : Nat → List (S91) → Int → Option (Bool)
  | 0, _, _ => none
  | k + 1, x0, x3 => if x3 < (x0.length : Int) then (if 0 ≤ x3 then (if (((rd_T91 x0 x3).f3).length : Int) > 100 then (some false) else (damperlaw29_Light.l0 k x0 (wrap64 (x3 + 1)))) else (none)) else (some true)
def damperlaw29_Light.f (k : Nat) (l0 : List (S91)) : Option (Bool) := if (l0.length : Int) > 2100 then (some false) else (damperlaw29_Light.l0 k l0 0)
theorem damperlaw29_Light.mono_l : ∀ k, (∀ y0 y1, LeO (damperlaw29_Light.l0 k y0 y1) (damperlaw29_Light.l0 (k + 1) y0 y1))
  | 0 => fun _ _ r h => by simp [damperlaw29_Light.l0] at h
  | k + 1 => by
    have ih0 := damperlaw29_Light.mono_l k
    · intro y0 y1
      unfold damperlaw29_Light.l0
      repeat' first
      | (with_reducible exact ih0 _ _)
      | (with_reducible exact LeO.refl _)
      | (with_reducible exact LeO.none _)
      | (with_reducible refine LeO.ite ?_ ?_)
      | (with_reducible refine LeO.bind ?_ (fun _ => ?_))
      | exact ih0 _ _
      | exact LeO.none _
      | refine LeO.ite ?_ ?_
      | refine LeO.bind ?_ (fun _ => ?_)
theorem damperlaw29_Light.mono : ∀ a0 k, LeO (damperlaw29_Light.f k a0) (damperlaw29_Light.f (k + 1) a0) := by
  intro a0 k
  have ih0 := damperlaw29_Light.mono_l k
  unfold damperlaw29_Light.f
  repeat' first
      | (with_reducible exact ih0 _ _)
      | (with_reducible exact LeO.refl _)
      | (with_reducible exact LeO.none _)
      | (with_reducible refine LeO.ite ?_ ?_)
      | (with_reducible refine LeO.bind ?_ (fun _ => ?_))
      | exact ih0 _ _
      | exact LeO.none _
      | refine LeO.ite ?_ ?_
      | refine LeO.bind ?_ (fun _ => ?_)
set_option maxHeartbeats 8000000 in
set_option maxRecDepth 100000 in
theorem damperlaw29_Light.calls (k : Nat) (A0 : Option Addr) (c0 : Nat) (l0 : List (S91)) (r : Bool) (w : World) (hr0 : Kd.C k91 w A0 l0.length l0) (hc0 : l0.length ≤ c0) (h : damperlaw29_Light.f k l0 = some r) :
    Calls Try.prog 48 #[.slice A0 l0.length c0] w fun e w' => e = .returned (.bool r) ∧ Drawn0 w w' := by
  have HR0 := Aside0.mk hr0
  have HC0 := Aside0.mk hc0
  clear hr0 hc0
  have H : (if (l0.length : Int) > 2100 then (some false) else (damperlaw29_Light.l0 k l0 0)) = some r := h
  clear h
  by_cases c2 : (l0.length : Int) > 2100
  · rw [if_pos c2] at H
    have c2b0 : decide (2100 < (l0.length : Int)) = true := decide_eq_true c2
    have c2b1 : decide (2100 < l0.length) = true := decide_eq_true (by omega)
    clear c2
    obtain rfl := Option.some.inj H
    go_enter Try.func48, Try.ntmps48
    go_wp2
    go_ret
    exact ⟨by first | rfl | (simp; done) | (simp [*]; done), by repeat (first | exact Drawn0.refl _ | apply Drawn0.step)⟩
  · rw [if_neg c2] at H
    have c2b0 : decide (2100 < (l0.length : Int)) = false := decide_eq_false c2
    have c2b1 : decide (2100 < l0.length) = false := decide_eq_false (by omega)
    clear c2
    have H' := Aside0.mk H
    clear H
    go_enter Try.func48, Try.ntmps48
    go_wp2
    go_loopg [3] k (fun kq v3 w' => ∃ (x3_1 : Int), v3 = .int .i64 x3_1 ∧ Aside0 (damperlaw29_Light.l0 kq l0 x3_1 = some r) ∧ Aside0 (kq ≤ k) ∧ Drawn0 w w')
    case atStart => exact ⟨(0), (by first | rfl | (simp; done) | (simp [*]; done)), H', ⟨Nat.le_refl _⟩, by repeat (first | exact Drawn0.refl _ | apply Drawn0.step)⟩
    case round =>
      clear H'
      try clear c2
      try clear c2b0
      try clear c2b1
      try clear p2
      obtain ⟨x3_1, rfl, HA, HK1, ⟨m1, rfl⟩⟩ := hrel
      cases gk with
      | zero => exact absurd HA.out (by simp [damperlaw29_Light.l0])
      | succ k1 =>
        have H := HA.out
        clear HA
        simp only [damperlaw29_Light.l0] at H
        by_cases c3 : x3_1 < (l0.length : Int)
        · rw [if_pos c3] at H
          have c3b0 : decide (x3_1 < (l0.length : Int)) = true := decide_eq_true c3
          clear c3
          by_cases c4 : 0 ≤ x3_1
          · rw [if_pos c4] at H
            have c4b0 : decide (0 ≤ x3_1) = true := decide_eq_true c4
            clear c4
            by_cases c5 : (((rd_T91 l0 x3_1).f3).length : Int) > 100
            · rw [if_pos c5] at H
              have c5b0 : decide (100 < (((rd_T91 l0 x3_1).f3).length : Int)) = true := decide_eq_true c5
              have c5b1 : decide (100 < ((rd_T91 l0 x3_1).f3).length) = true := decide_eq_true (by omega)
              clear c5
              obtain rfl := Option.some.inj H
              have p297 : 0 ≤ (x3_1 : Int) := of_decide_eq_true (by first | (with_reducible assumption) | assumption)
              have q297 : x3_1 < (l0.length : Int) := of_decide_eq_true (by first | (with_reducible assumption) | assumption)
              obtain ⟨ad297, A297_3, c297_3, e297, hx297_0, hx297_1, hx297_2, hx297_3, hl297_3, hi297_3⟩ := at_T91 HR0.out x3_1 p297 q297
              cases e297
              have HR297_3 := Aside0.mk hi297_3
              have HC297_3 := Aside0.mk hl297_3
              clear hi297_3 hl297_3
              replace p297 := eq_true p297
              replace q297 := eq_true q297
              go_wp2
              go_ret
              exact ⟨by first | rfl | (simp; done) | (simp [*]; done), by repeat (first | exact Drawn0.refl _ | apply Drawn0.step)⟩
            · rw [if_neg c5] at H
              have c5b0 : decide (100 < (((rd_T91 l0 x3_1).f3).length : Int)) = false := decide_eq_false c5
              have c5b1 : decide (100 < ((rd_T91 l0 x3_1).f3).length) = false := decide_eq_false (by omega)
              clear c5
              have H' := Aside0.mk H
              clear H
              have p297 : 0 ≤ (x3_1 : Int) := of_decide_eq_true (by first | (with_reducible assumption) | assumption)
              have q297 : x3_1 < (l0.length : Int) := of_decide_eq_true (by first | (with_reducible assumption) | assumption)
              obtain ⟨ad297, A297_3, c297_3, e297, hx297_0, hx297_1, hx297_2, hx297_3, hl297_3, hi297_3⟩ := at_T91 HR0.out x3_1 p297 q297
              cases e297
              have HR297_3 := Aside0.mk hi297_3
              have HC297_3 := Aside0.mk hl297_3
              clear hi297_3 hl297_3
              replace p297 := eq_true p297
              replace q297 := eq_true q297
              go_wp2
              go_roundg k1
              case measure => have := HK1.out; omega
              case rel => exact ⟨(wrap64 (x3_1 + 1)), (by first | rfl | (simp; done) | (simp [*]; done)), H', ⟨by have := HK1.out; omega⟩, by repeat (first | exact Drawn0.refl _ | apply Drawn0.step)⟩
          · rw [if_neg c4] at H
            exact absurd H (by simp)
        · rw [if_neg c3] at H
          have c3b0 : decide (x3_1 < (l0.length : Int)) = false := decide_eq_false c3
          clear c3
          obtain rfl := Option.some.inj H
          go_wp2
          go_ret
          exact ⟨by first | rfl | (simp; done) | (simp [*]; done), by repeat (first | exact Drawn0.refl _ | apply Drawn0.step)⟩

end Go.Proofs.Ytalpemoodollpaa.P
/- The walk of ScriptBack. -/
namespace Go.Proofs.Ytalpemoodollpaa.P
open Go.RowKit Go.Proofs.YtalpemoodollpaaW.PrintWords Go.Proofs.YtalpemoodollpaaW.PrintLast Go.Proofs.YtalpemoodollpaaW.PrintMore
set_option linter.unusedVariables false
set_option linter.unusedSimpArgs false
theorem light91_go (l : List S91) (hl : l.length ≤ 2100) (d : Nat) : ∀ (k i : Nat), i + d = l.length → d < k → ∃ r, damperlaw29_Light.l0 k l (i : Int) = some r := by
  induction d with
  | zero =>
    intro k i hi hk
    obtain ⟨k, rfl⟩ : ∃ m, k = m + 1 := ⟨k - 1, by omega⟩
    rw [damperlaw29_Light.l0.eq_2, if_neg (by omega)]
    exact ⟨_, rfl⟩
  | succ d ih =>
    intro k i hi hk
    obtain ⟨k, rfl⟩ : ∃ m, k = m + 1 := ⟨k - 1, by omega⟩
    rw [damperlaw29_Light.l0.eq_2, if_pos (by omega), if_pos (by omega)]
    split
    · exact ⟨_, rfl⟩
    · rw [show wrap64 ((i : Int) + 1) = ((i + 1 : Nat) : Int) by unfold wrap64; omega]
      exact ih k (i + 1) (by omega) (by omega)
theorem light91_f (l : List S91) : ∃ r, damperlaw29_Light.f 2102 l = some r ∧ (r = true → l.length ≤ 2100) := by
  unfold damperlaw29_Light.f
  by_cases h : 2100 < l.length
  · rw [if_pos (by omega)]
    exact ⟨_, rfl, fun h => by cases h⟩
  · rw [if_neg (by omega)]
    obtain ⟨r, hr⟩ := light91_go l (by omega) l.length 2102 0 (by omega) (by omega)
    exact ⟨r, hr, fun _ => by omega⟩
theorem scrEnc_ok {l : List S91} (h : l.length ≤ 2000 ∧ l.all scrRight = true) : scrEncF l = (numForm l.length ++ scrFlat l, 0) := by
  unfold scrEncF
  rw [if_neg (by omega), if_pos h.2]
theorem scrEnc_no {l : List S91} (h : ¬ (l.length ≤ 2000 ∧ l.all scrRight = true)) : ∃ f : Int, f ≠ 0 ∧ scrEncF l = ([], f) := by
  unfold scrEncF
  by_cases h1 : 2000 < l.length
  · exact ⟨9, by decide, by rw [if_pos h1]⟩
  · exact ⟨1, by decide, by rw [if_neg h1, if_neg (fun h2 => h ⟨by omega, h2⟩)]⟩
set_option maxRecDepth 100000 in
set_option maxHeartbeats 2000000 in
theorem scriptBack_calls (A0 : Option Addr) (c0 : Nat) (l : List S91) (A1 : Option Addr) (c1 : Nat) (b : List Int) (w : World) (hr0 : Kd.C k91 w A0 l.length l) (hc0 : l.length ≤ c0) (hok : ∀ s ∈ l, StepOk s) (hr1 : Kd.C (Kd.int .u8) w A1 b.length b) (hc1 : b.length ≤ c1) (hb : Byt b) :
    Calls Try.prog 8 #[.slice A0 l.length c0, .slice A1 b.length c1] w fun e w' => e = .returned (.bool true) ∧ Below w.heap.size w w' := by
  obtain ⟨r, hr, hlen⟩ := light91_f l
  have LX := Aside0.mk (damperlaw29_Light.calls 2102 A0 c0 l r w hr0 hc0 hr)
  have HR0 := Aside0.mk hr0
  have HC0 := Aside0.mk hc0
  have HOK := Aside0.mk hok
  have HR1 := Aside0.mk hr1
  have HC1 := Aside0.mk hc1
  have HY := Aside0.mk hb
  have hm1 := hr1.2.1
  have hll := hr0.2.1
  clear hr0 hc0 hok hr1 hc1 hb hr
  obtain ⟨NB, hNB⟩ : ∃ NB, b.length = NB := ⟨_, rfl⟩
  have HLB := Aside0.mk hNB
  rw [hNB] at hm1 ⊢
  clear hNB
  generalize hNL : l.length = NL at LX hll ⊢
  have HNL := Aside0.mk hNL
  clear hNL
  go_enter Try.func8, Try.ntmps8
  go_wp2_with fail
  refine LX.out.mono ?_
  rintro e w1 ⟨rfl, hd⟩
  have B1 := Aside0.mk hd.below
  clear hd LX
  cases r with
  | false =>
    clear hlen
    go_wp2_with fail
    refine (alive29_calls _).mono ?_
    rintro e w2 ⟨rfl, hd⟩
    have BZ := Aside0.mk (below_then B1.out B1.out.size hd)
    clear hd
    go_wp2
    go_ret
    exact ⟨rfl, BZ.out⟩
  | true =>
    have hl21 := hlen rfl
    clear hlen
    by_cases hbig : 3000 < NB
    · clear hl21
      go_wp2_with fail
      refine (alive29_calls _).mono ?_
      rintro e w2 ⟨rfl, hd⟩
      have BZ := Aside0.mk (below_then B1.out B1.out.size hd)
      clear hd
      go_wp2
      go_ret
      exact ⟨rfl, BZ.out⟩
    have RDB : Aside0 (∀ W, Below w.heap.size w W → Calls Try.prog 51 #[.slice A1 NB c1] W (ReadPost W (scrRead b))) := ⟨fun W hW => by have h := scrRead_calls A1 c1 b W (Kd.C_below HR1.out hW) (by have := HLB.out; omega) HY.out; rw [HLB.out] at h; exact h⟩
    have ENC := scrEncode_calls A0 c0 l w1 (Kd.C_below HR0.out B1.out) HC0.out (by omega) (fun s hs => (HOK.out s hs).1)
    by_cases hall : l.length ≤ 2000 ∧ l.all scrRight = true
    · have hrt : ∀ s ∈ l, scrRight s = true ∧ StepOk s := fun s hs => ⟨List.all_eq_true.1 hall.2 s hs, HOK.out s hs⟩
      have R0 := scrRead_form l hall.1 hrt []
      have R1 := scrRead_form l hall.1 hrt [1]
      rw [List.append_nil, if_neg (by simp)] at R0
      rw [if_pos (by simp)] at R1
      have YX : Byt (numForm l.length ++ scrFlat l) := (numForm_byt _).append (scrFlat_byt l hrt)
      have YLx : (numForm l.length ++ scrFlat l).length ≤ 200000 := by have h1 := numForm_ten (l.length : Int) (by omega); have h2 := scrFlat_length l (fun s hs => (hrt s hs).1); rw [Int.toNat_natCast] at h1; rw [List.length_append]; omega
      rw [scrEnc_ok hall] at ENC
      generalize numForm l.length ++ scrFlat l = x at *
      have ENC := Aside0.mk ENC
      have R0 := Aside0.mk R0
      have YB := Aside0.mk YX
      have YL := Aside0.mk YLx
      clear hall hrt YX YLx hl21
      obtain ⟨x1, hx1⟩ : ∃ x1, x1 = x ++ [1] := ⟨_, rfl⟩
      rw [← hx1] at R1
      have YB1 : Aside0 (Byt x1) := ⟨by rw [hx1]; exact Byt.append YB.out (Byt.mk ⟨by omega, by omega⟩ Byt.nil)⟩
      have YL1 : Aside0 (x1.length ≤ 200001) := ⟨by have := YL.out; rw [hx1]; simp; omega⟩
      have HX1 := Aside0.mk hx1
      have R1 := Aside0.mk R1
      clear hx1
      rw [HNL.out] at ENC
      go_wp2_with fail
      refine ENC.out.mono ?_
      rintro e w2 ⟨v, rfl, hRr, hd⟩
      dsimp only at *
      obtain ⟨X, m, rfl, hq, hC⟩ := Kd.R_reads hRr
      have B2 := Aside0.mk (below_then B1.out B1.out.size hd)
      have RX := scrRead_calls X m x w2 hC (by have := YL.out; omega) YB.out
      rw [R0.out] at RX
      have RX := Aside0.mk RX
      have CX2 := Aside0.mk hC
      clear hRr hd hC ENC R0
      generalize hXL : x.length = XL at *
      have HXL := Aside0.mk hXL
      clear hXL
      go_wp2_with fail
      refine RX.out.mono ?_
      rintro e w3 ⟨v, rfl, hRr, hd⟩
      dsimp only at *
      obtain ⟨Y, n, rfl, hqY, hCY⟩ := Kd.R_reads hRr
      have B3 := Aside0.mk (below_then B2.out B2.out.size hd)
      have CX3 := Aside0.mk (Kd.C_below CX2.out hd)
      have CY3 := Aside0.mk hCY
      have HQY := Aside0.mk hqY
      clear hRr hd RX CX2 hCY hqY
      rw [HNL.out] at CY3 HQY ⊢
      have O5 : Aside0 ((w3.alloc (.cells #[] 5)).ownsRow w3.heap.size 5 1 (.slice (some ⟨w3.heap.size, 0, none⟩) 0 0) ([] : List Int).length (nums .u8 [])) := ⟨own_lit w3 w3.heap.size 5 .u8 [] (by simp) (by simp)⟩
      have B5 := Aside0.mk (below_alloc (Below.refl w3.heap.size w3) (.cells #[] 5))
      have R5 := Aside0.mk (Kd.reads_of_C (d := (0 : Int)) (Kd.C_below CX3.out B5.out))
      have hm5 : XL ≤ 200000 := by have := YL.out; have := HXL.out; omega
      go_wp2_with (first | (at_builtin; have _t := O5; refine print_append_row (w0 := w3) w3.heap.size rfl (.tmp 37) (.tmp 38) 30 5 .u8 1 rfl Try.underlying30 info5 (by decide) (.slice (some ⟨w3.heap.size, 0, none⟩) 0 0) [] x X XL m rfl rfl O5.out R5.out B5.out (by simp) (by simp; omega) ?_; intro v6 w6 hown hbel hgr hat; have O6 : Aside0 (w6.ownsRow w3.heap.size 5 1 v6 x.length (nums .u8 x)) := ⟨hown⟩; have B6 := Aside0.mk hbel; have LZ := Aside0.mk (Kd.reads_of_C (d := (0 : Int)) (lit_C w6 [1] (by simp))); have S6 := Aside0.mk hbel.size; clear hown hbel hgr hat O5 _t) | (at_builtin; refine print_append_row (w0 := w3) w3.heap.size rfl (.tmp 39) (.tmp 40) 30 5 .u8 1 rfl Try.underlying30 info5 (by decide) v6 x [1] (some ⟨w6.heap.size, 0, none⟩) 1 1 rfl rfl (O6.out.alloc _) LZ.out (B6.out.alloc S6.out _) (by have := S6.out; simp; omega) (by have := YL.out; have := HXL.out; omega) ?_; intro v7 w7 hown hbel hgr hat; rw [← HX1.out] at hown; obtain ⟨A7, m7, rfl, hq7, hR7⟩ := own_reads_of_le (enc := Value.int .u8) (d := (0 : Int)) hown; have R7 := Aside0.mk (Kd.C_of_reads (d := (0 : Int)) (h1 := fun _ => rfl) hR7 : Kd.C (Kd.int .u8) w7 A7 x1.length x1); have B7 := Aside0.mk hbel; clear hown hbel hgr hat hq7 hR7))
      have RX := scrRead_calls A7 m7 x1 _ R7.out (by have := YL1.out; omega) YB1.out
      rw [R1.out] at RX
      refine RX.mono ?_
      rintro e w8 ⟨v, rfl, hRr, hd⟩
      dsimp only at *
      obtain ⟨Z, z, rfl, _, _⟩ := Kd.R_reads hRr
      have B8 := Aside0.mk (below_then B7.out B7.out.size hd)
      have BW8 := Aside0.mk (below_then B3.out B3.out.size B8.out)
      have CY8 := Aside0.mk (Kd.C_below CY3.out B8.out)
      clear hRr hd RX R7 B7 R1 B5 R5 O6 B6 LZ S6 CX3 CY3
      have SM := scrSame_calls A0 Y c0 n l l w8 (Kd.C_below HR0.out BW8.out) HC0.out (by rw [HNL.out]; exact CY8.out) (by rw [HNL.out]; exact HQY.out)
      rw [sameL_self, HNL.out] at SM
      have SM := Aside0.mk SM
      go_wp2_with fail
      refine SM.out.mono ?_
      rintro e w9 ⟨rfl, hd⟩
      have B9 := Aside0.mk (below_then BW8.out BW8.out.size hd)
      clear hd SM
      go_wp2_with fail
      refine (RDB.out _ B9.out).mono ?_
      have BK := scrRead_back b HY.out
      have ZZ := scrRead_nil b
      generalize scrRead b = D at *
      obtain ⟨ms, g⟩ := D
      rintro e v1 ⟨v, rfl, hR, hd⟩
      dsimp only at *
      obtain ⟨X1, m1, rfl, hq, hC⟩ := Kd.R_reads hR
      have T1 := Aside0.mk (below_then B9.out B9.out.size hd)
      clear hR hd RDB
      by_cases hg : g = 0
      · subst hg
        obtain ⟨hE, hL, hS⟩ := BK rfl
        have CX := scrEncode_calls X1 m1 ms v1 hC hq (by omega) (fun s hs => (hS s hs).2.1)
        rw [hE] at CX
        have CX := Aside0.mk CX
        clear ZZ BK hE hL hS hC hq
        generalize ms.length = ML at *
        go_wp2_with fail
        refine CX.out.mono ?_
        rintro e v2 ⟨v, rfl, hRr, hd⟩
        dsimp only at *
        obtain ⟨X2, m2, rfl, hq, hC⟩ := Kd.R_reads hRr
        have T3 := Aside0.mk (below_then T1.out T1.out.size hd)
        have HQ := Aside0.mk hq
        have HCX := Aside0.mk hC
        clear hRr hd hq hC CX
        have SX := Aside0.mk (damperref03_Same.calls X2 m2 b A1 c1 b true v2 HCX.out HQ.out (Kd.C_below HR1.out T3.out) HC1.out (same_of_eq b))
        rw [HLB.out] at SX ⊢
        go_wp2_with fail
        refine SX.out.mono ?_
        rintro e v3 ⟨rfl, hd⟩
        have T4 := Aside0.mk (below_then T3.out T3.out.size hd.below)
        clear hd SX
        go_wp2_with fail
        refine (alive29_calls _).mono ?_
        rintro e v4 ⟨rfl, hd⟩
        have BZ := Aside0.mk (below_then T4.out T4.out.size hd)
        clear hd
        go_wp2
        go_ret
        exact ⟨rfl, BZ.out⟩
      · obtain rfl := ZZ hg
        have hgb : (g != 0) = true := by simpa using hg
        clear ZZ BK hg hC hq
        go_wp2_with fail
        refine (alive29_calls _).mono ?_
        rintro e v2 ⟨rfl, hd⟩
        have BZ := Aside0.mk (below_then T1.out T1.out.size hd)
        clear hd
        go_wp2
        go_ret
        exact ⟨rfl, BZ.out⟩
    · obtain ⟨f, hf, he⟩ := scrEnc_no hall
      rw [he] at ENC
      have hfb : (f == 0) = false := by simpa using hf
      rw [HNL.out] at ENC
      have ENC := Aside0.mk ENC
      clear hall hf he
      go_wp2_with fail
      refine ENC.out.mono ?_
      rintro e w2 ⟨v, rfl, hRr, hd⟩
      dsimp only at *
      obtain ⟨X, m, rfl, hq, hC⟩ := Kd.R_reads hRr
      have B2 := Aside0.mk (below_then B1.out B1.out.size hd)
      clear hRr hd hC hq ENC
      go_wp2_with fail
      refine (RDB.out _ B2.out).mono ?_
      have BK := scrRead_back b HY.out
      have ZZ := scrRead_nil b
      generalize scrRead b = D at *
      obtain ⟨ms, g⟩ := D
      rintro e v1 ⟨v, rfl, hR, hd⟩
      dsimp only at *
      obtain ⟨X1, m1, rfl, hq, hC⟩ := Kd.R_reads hR
      have T1 := Aside0.mk (below_then B2.out B2.out.size hd)
      clear hR hd RDB
      by_cases hg : g = 0
      · subst hg
        obtain ⟨hE, hL, hS⟩ := BK rfl
        have CX := scrEncode_calls X1 m1 ms v1 hC hq (by omega) (fun s hs => (hS s hs).2.1)
        rw [hE] at CX
        have CX := Aside0.mk CX
        clear ZZ BK hE hL hS hC hq
        generalize ms.length = ML at *
        go_wp2_with fail
        refine CX.out.mono ?_
        rintro e v2 ⟨v, rfl, hRr, hd⟩
        dsimp only at *
        obtain ⟨X2, m2, rfl, hq, hC⟩ := Kd.R_reads hRr
        have T3 := Aside0.mk (below_then T1.out T1.out.size hd)
        have HQ := Aside0.mk hq
        have HCX := Aside0.mk hC
        clear hRr hd hq hC CX
        have SX := Aside0.mk (damperref03_Same.calls X2 m2 b A1 c1 b true v2 HCX.out HQ.out (Kd.C_below HR1.out T3.out) HC1.out (same_of_eq b))
        rw [HLB.out] at SX ⊢
        go_wp2_with fail
        refine SX.out.mono ?_
        rintro e v3 ⟨rfl, hd⟩
        have T4 := Aside0.mk (below_then T3.out T3.out.size hd.below)
        clear hd SX
        go_wp2_with fail
        refine (alive29_calls _).mono ?_
        rintro e v4 ⟨rfl, hd⟩
        have BZ := Aside0.mk (below_then T4.out T4.out.size hd)
        clear hd
        go_wp2
        go_ret
        exact ⟨rfl, BZ.out⟩
      · obtain rfl := ZZ hg
        have hgb : (g != 0) = true := by simpa using hg
        clear ZZ BK hg hC hq
        go_wp2_with fail
        refine (alive29_calls _).mono ?_
        rintro e v2 ⟨rfl, hd⟩
        have BZ := Aside0.mk (below_then T1.out T1.out.size hd)
        clear hd
        go_wp2
        go_ret
        exact ⟨rfl, BZ.out⟩
end Go.Proofs.Ytalpemoodollpaa.P
/- Bytes that came in are bytes. -/
namespace Go.Proofs.Ytalpemoodollpaa.P
open Go.RowKit Go.Proofs.YtalpemoodollpaaW.PrintWords Go.Proofs.YtalpemoodollpaaW.PrintLast Go.Proofs.YtalpemoodollpaaW.PrintMore
theorem byt_wf_ {l : List Int} (h : ∀ y ∈ l, (Lit.int .u8 y).wf = true) : Byt l := fun b hb => by
  have := bounds_u8 (h b hb)
  omega
end Go.Proofs.Ytalpemoodollpaa.P
