/- The contract of message.Encode. -/
import Derived.Test.YtalpemoodollpaaHMsgPure
import Derived.Test.YtalpemoodollpaaHWK
import Derived.Test.YtalpemoodollpaaHBox
import Derived.Deep.RegionHeld3
namespace Go.Proofs.Ytalpemoodollpaa.P
open Go.RowKit Go.Proofs.YtalpemoodollpaaW.PrintWords Go.Proofs.YtalpemoodollpaaW.PrintLast Go.Proofs.YtalpemoodollpaaW.PrintMore
set_option linter.unusedVariables false
set_option linter.unusedSimpArgs false

def message_Encode.f (a0_0 a0_1 a0_2 a0_3 a0_4 a0_5 a0_6 a0_7 a0_8 : Int) : Option (List Int × Int) :=
  if i64B a0_6 = true ∧ i64B a0_7 = true then some (if msgRight ⟨a0_0, a0_1, a0_2, a0_3, a0_4, a0_5, a0_6, a0_7, a0_8⟩ = true then (msgForm ⟨a0_0, a0_1, a0_2, a0_3, a0_4, a0_5, a0_6, a0_7, a0_8⟩, 0) else ([], 1)) else none
set_option maxRecDepth 100000 in
set_option maxHeartbeats 2000000 in
theorem message_Encode.calls (a0_0 a0_1 a0_2 a0_3 a0_4 a0_5 a0_6 a0_7 a0_8 : Int) (r1 : List Int) (r2 : Int) (w : World) (h : message_Encode.f a0_0 a0_1 a0_2 a0_3 a0_4 a0_5 a0_6 a0_7 a0_8 = some (r1, r2)) :
    Calls Try.prog 29 #[.agg #[.int .i64 a0_0, .int .i64 a0_1, .int .i64 a0_2, .int .i64 a0_3, .int .i64 a0_4, .int .i64 a0_5, .int .i64 a0_6, .int .i64 a0_7, .int .i64 a0_8]] w fun e w' => ∃ v0_ : Value, e = .returned (.tuple #[v0_, .int .i64 r2]) ∧ Kd.R (Kd.int .u8) 5 w' w.heap.size (fun _ => True) v0_ r1 ∧ Below w.heap.size w w' := by
  unfold message_Encode.f at h
  by_cases hp : i64B a0_6 = true ∧ i64B a0_7 = true
  · rw [if_pos hp] at h
    have H := Option.some.inj h
    clear h
    have HRC : ∀ W : World, Calls Try.prog 32 #[.agg #[.int .i64 a0_0, .int .i64 a0_1, .int .i64 a0_2, .int .i64 a0_3, .int .i64 a0_4, .int .i64 a0_5, .int .i64 a0_6, .int .i64 a0_7, .int .i64 a0_8]] W fun e w' => e = .returned (.bool (msgRight ⟨a0_0, a0_1, a0_2, a0_3, a0_4, a0_5, a0_6, a0_7, a0_8⟩)) ∧ Below W.heap.size W w' := fun W => msgRight_calls ⟨a0_0, a0_1, a0_2, a0_3, a0_4, a0_5, a0_6, a0_7, a0_8⟩ W
    have hu29 := Try.underlying29
    have bx : Box9 (w.alloc (.cells #[.int .i64 a0_0, .int .i64 a0_1, .int .i64 a0_2, .int .i64 a0_3, .int .i64 a0_4, .int .i64 a0_5, .int .i64 a0_6, .int .i64 a0_7, .int .i64 a0_8] 29)) 29 w.heap.size a0_0 a0_1 a0_2 a0_3 a0_4 a0_5 a0_6 a0_7 a0_8 := blk_new w _
    have hb0 := below_alloc (Below.refl w.heap.size w) (.cells #[.int .i64 a0_0, .int .i64 a0_1, .int .i64 a0_2, .int .i64 a0_3, .int .i64 a0_4, .int .i64 a0_5, .int .i64 a0_6, .int .i64 a0_7, .int .i64 a0_8] 29)
    have BX := Aside0.mk bx
    have HB0 := Aside0.mk hb0
    have HP := Aside0.mk hp
    clear hb0 hp
    obtain ⟨c0, c1, c2, c3, c4, c5, c6, c7, c8⟩ := bx.cells
    clear bx
    by_cases hr : msgRight ⟨a0_0, a0_1, a0_2, a0_3, a0_4, a0_5, a0_6, a0_7, a0_8⟩ = true
    · rw [if_pos hr] at H
      obtain ⟨rfl, rfl⟩ := Prod.mk.inj H
      clear H
      have HR := Aside0.mk hr
      go_enter Try.func29, Try.ntmps29
      go_wp2_with fail
      refine (HRC _).mono ?_
      rintro e w1 ⟨rfl, hb⟩
      rw [HR.out]
      have BX1 := Aside0.mk (show Box9 w1 29 w.heap.size a0_0 a0_1 a0_2 a0_3 a0_4 a0_5 a0_6 a0_7 a0_8 from (hb.block _ (by simp)).trans BX.out)
      have HB1 := Aside0.mk (below_then HB0.out HB0.out.size hb)
      have HZ := Aside0.mk (show w.heap.size < w1.heap.size from by have := hb.size; simp at this; omega)
      clear hb c0 c1 c2 c3 c4 c5 c6 c7 c8 BX HB0
      have HK := Aside0.mk (WK.new HB1.out)
      have BX2 := Aside0.mk (show Box9 (w1.alloc (.cells #[.slice none 0 0] 39)) 29 w.heap.size a0_0 a0_1 a0_2 a0_3 a0_4 a0_5 a0_6 a0_7 a0_8 from blk_alloc BX1.out _)
      obtain ⟨c0, c1, c2, c3, c4, c5, c6, c7, c8⟩ := BX2.out.cells
      go_wp2_with fail
      have HG := Aside0.mk (show w.heap.size < w1.heap.size from HZ.out)
      clear HZ BX1 HB1
      generalize hg : w1.heap.size = g at *
      generalize (w1.alloc (.cells #[.slice none 0 0] 39)) = W2 at *
      clear hg
      have H94 : Aside0 (Calls Try.prog 94 #[.pointer (some ⟨g, 0, none⟩), .slice (some ⟨W2.heap.size, 0, none⟩) 3 3] (W2.alloc (.cells #[.int .u8 (IntKind.u8.wrap a0_0), .int .u8 (IntKind.u8.wrap a0_1), .int .u8 (IntKind.u8.wrap a0_8)] 5)).drew fun e w' => e = .returned (.pointer (some ⟨g, 0, none⟩)) ∧ WK w w' g ([] ++ [IntKind.u8.wrap a0_0, IntKind.u8.wrap a0_1, IntKind.u8.wrap a0_8]) ∧ KeepT (W2.alloc (.cells #[.int .u8 (IntKind.u8.wrap a0_0), .int .u8 (IntKind.u8.wrap a0_1), .int .u8 (IntKind.u8.wrap a0_8)] 5)).drew w' g) :=
        ⟨(HK.out.alloc (.cells (nums .u8 [IntKind.u8.wrap a0_0, IntKind.u8.wrap a0_1, IntKind.u8.wrap a0_8]).toArray 5)).drew.raw [IntKind.u8.wrap a0_0, IntKind.u8.wrap a0_1, IntKind.u8.wrap a0_8] _ 3 (lit_C W2 [IntKind.u8.wrap a0_0, IntKind.u8.wrap a0_1, IntKind.u8.wrap a0_8] (by simp)) (by simp) (by simp)⟩
      have BX3 := Aside0.mk (show Box9 (W2.alloc (.cells #[.int .u8 (IntKind.u8.wrap a0_0), .int .u8 (IntKind.u8.wrap a0_1), .int .u8 (IntKind.u8.wrap a0_8)] 5)).drew 29 w.heap.size a0_0 a0_1 a0_2 a0_3 a0_4 a0_5 a0_6 a0_7 a0_8 from blk_alloc BX2.out _)
      have R2 : 0 ≤ IntKind.u64.wrap a0_2 ∧ IntKind.u64.wrap a0_2 < 18446744073709551616 := wrap_u64_range _
      have R3 : 0 ≤ IntKind.u64.wrap a0_3 ∧ IntKind.u64.wrap a0_3 < 18446744073709551616 := wrap_u64_range _
      have HR2 := Aside0.mk R2
      have HR3 := Aside0.mk R3
      clear R2 R3
      have hr3 := HR.out
      simp only [msgRight, Bool.and_eq_true, within_iff] at hr3
      have hp3 := HP.out
      simp only [i64B, within_iff] at hp3
      have HL4 : Aside0 (-9223372036854775808 ≤ a0_4 ∧ a0_4 ≤ 9223372036854775807) := ⟨by omega⟩
      have HL5 : Aside0 (-9223372036854775808 ≤ a0_5 ∧ a0_5 ≤ 9223372036854775807) := ⟨by omega⟩
      have HL6 : Aside0 (-9223372036854775808 ≤ a0_6 ∧ a0_6 ≤ 9223372036854775807) := ⟨hp3.1⟩
      have HL7 : Aside0 (-9223372036854775808 ≤ a0_7 ∧ a0_7 ≤ 9223372036854775807) := ⟨hp3.2⟩
      clear hr3 hp3
      go_region_held3 (fun w' => w'.cell? ⟨w.heap.size, 0, none⟩ = some (.int .i64 a0_0) ∧ w'.cell? ⟨w.heap.size, 1, none⟩ = some (.int .i64 a0_1) ∧ w'.cell? ⟨w.heap.size, 8, none⟩ = some (.int .i64 a0_8) ∧ w'.cell? ⟨w.heap.size, 2, none⟩ = some (.int .i64 a0_2) ∧ w'.cell? ⟨w.heap.size, 3, none⟩ = some (.int .i64 a0_3)) (first | (refine ⟨?_, ?_, ?_, ?_, ?_⟩ <;> assumption) | go_keep)
        (first | (go_at_call 94; refine H94.out.mono ?_; rintro e w3 ⟨rfl, hk3, kt⟩; have HK3 := Aside0.mk hk3; have BX4 := Aside0.mk (show Box9 w3 29 w.heap.size a0_0 a0_1 a0_2 a0_3 a0_4 a0_5 a0_6 a0_7 a0_8 from kt _ _ _ BX3.out (by decide) (by have := HG.out; omega)); obtain ⟨d0, d1, d2, d3, d4, d5, d6, d7, d8⟩ := BX4.out.cells; clear hk3 kt) | (go_at_call 36; (with_reducible refine (HK4.out.num (IntKind.u64.wrap a0_3) HR3.out.1 HR3.out.2 (by have := numForm_ten _ HR2.out.2; simp; omega)).mono ?_); rintro e w5 ⟨rfl, hk5, kt⟩; have HK5 := Aside0.mk hk5; have BX6 := Aside0.mk (show Box9 w5 29 w.heap.size a0_0 a0_1 a0_2 a0_3 a0_4 a0_5 a0_6 a0_7 a0_8 from kt _ _ _ BX5.out (by decide) (by have := HG.out; omega)); obtain ⟨f0, f1, f2, f3, f4, f5, f6, f7, f8⟩ := BX6.out.cells; clear hk5 kt) | (go_at_call 36; (with_reducible refine (HK3.out.num (IntKind.u64.wrap a0_2) HR2.out.1 HR2.out.2 (by simp)).mono ?_); rintro e w4 ⟨rfl, hk4, kt⟩; have HK4 := Aside0.mk hk4; have BX5 := Aside0.mk (show Box9 w4 29 w.heap.size a0_0 a0_1 a0_2 a0_3 a0_4 a0_5 a0_6 a0_7 a0_8 from kt _ _ _ BX4.out (by decide) (by have := HG.out; omega)); obtain ⟨e0, e1, e2, e3, e4, e5, e6, e7, e8⟩ := BX5.out.cells; clear hk4 kt))
      have hmf : ∀ (fn : Fn) (first cap : Array Value) (w : World), (Instr.makeFunc fn first cap).run Try.prog w = .ok (.func fn first cap) w := fun _ _ _ _ => rfl
      have i0 : ∀ w, (Instr.index 124 (.agg #[.int .i64 a0_4, .int .i64 a0_5, .int .i64 a0_6, .int .i64 a0_7]) (.int .i64 0)).run Try.prog w = .ok (.int .i64 a0_4) w := fun _ => by kernel_rfl
      have i1 : ∀ w, (Instr.index 124 (.agg #[.int .i64 a0_4, .int .i64 a0_5, .int .i64 a0_6, .int .i64 a0_7]) (.int .i64 1)).run Try.prog w = .ok (.int .i64 a0_5) w := fun _ => by kernel_rfl
      have i2 : ∀ w, (Instr.index 124 (.agg #[.int .i64 a0_4, .int .i64 a0_5, .int .i64 a0_6, .int .i64 a0_7]) (.int .i64 2)).run Try.prog w = .ok (.int .i64 a0_6) w := fun _ => by kernel_rfl
      have i3 : ∀ w, (Instr.index 124 (.agg #[.int .i64 a0_4, .int .i64 a0_5, .int .i64 a0_6, .int .i64 a0_7]) (.int .i64 3)).run Try.prog w = .ok (.int .i64 a0_7) w := fun _ => by kernel_rfl
      go_wp2
      refine wp_loop_rounds 5 ?_
      rw [rounds_succ]
      go_wp2_with fail
      refine (HK5.out.int a0_4 HL4.out.1 HL4.out.2 (by have := numForm_ten _ HR2.out.2; have := numForm_ten _ HR3.out.2; simp [intForm_length]; omega)).mono ?_
      rintro e w6 ⟨rfl, hk, kt⟩
      have HK6 := Aside0.mk hk
      clear hk kt
      go_wp2
      rw [rounds_succ]
      go_wp2_with fail
      refine (HK6.out.int a0_5 HL5.out.1 HL5.out.2 (by have := numForm_ten _ HR2.out.2; have := numForm_ten _ HR3.out.2; simp [intForm_length]; omega)).mono ?_
      rintro e w7 ⟨rfl, hk, kt⟩
      have HK7 := Aside0.mk hk
      clear hk kt
      go_wp2
      rw [rounds_succ]
      go_wp2_with fail
      refine (HK7.out.int a0_6 HL6.out.1 HL6.out.2 (by have := numForm_ten _ HR2.out.2; have := numForm_ten _ HR3.out.2; simp [intForm_length]; omega)).mono ?_
      rintro e w8 ⟨rfl, hk, kt⟩
      have HK8 := Aside0.mk hk
      clear hk kt
      go_wp2
      rw [rounds_succ]
      go_wp2_with fail
      refine (HK8.out.int a0_7 HL7.out.1 HL7.out.2 (by have := numForm_ten _ HR2.out.2; have := numForm_ten _ HR3.out.2; simp [intForm_length]; omega)).mono ?_
      rintro e w9 ⟨rfl, hk, kt⟩
      have HK9 := Aside0.mk hk
      clear hk kt
      go_wp2
      rw [rounds_succ]
      go_wp2_with fail
      refine (HK9.out.bytes (by have := numForm_ten _ HR2.out.2; have := numForm_ten _ HR3.out.2; simp [intForm_length]; omega)).mono ?_
      rintro e w10 ⟨v, rfl, hR, hB, _⟩
      have HRR := Aside0.mk hR
      have HBB := Aside0.mk hB
      clear hR hB
      go_wp2
      go_ret2
      refine ⟨_, rfl, ?_, HBB.out⟩
      have hr2 := HR.out
      simp only [msgRight, Bool.and_eq_true, within_iff] at hr2
      have e0 : IntKind.u8.wrap a0_0 = a0_0 := by rw [IntKind.wrap_u8]; omega
      have e1 : IntKind.u8.wrap a0_1 = a0_1 := by rw [IntKind.wrap_u8]; omega
      have e8 : IntKind.u8.wrap a0_8 = a0_8 := by rw [IntKind.wrap_u8]; omega
      have e2 : IntKind.u64.wrap a0_2 = a0_2 := by rw [wrap_u64]; omega
      have e3 : IntKind.u64.wrap a0_3 = a0_3 := by rw [wrap_u64]; omega
      have h := HRR.out
      rw [e0, e1, e8, e2, e3] at h
      exact h
    · rw [if_neg hr] at H
      obtain ⟨rfl, rfl⟩ := Prod.mk.inj H
      clear H
      have hr2 : msgRight ⟨a0_0, a0_1, a0_2, a0_3, a0_4, a0_5, a0_6, a0_7, a0_8⟩ = false := by simpa using hr
      have HR := Aside0.mk hr2
      clear hr hr2
      go_enter Try.func29, Try.ntmps29
      go_wp2_with fail
      refine (HRC _).mono ?_
      rintro e w1 ⟨rfl, hb⟩
      rw [HR.out]
      have HB1 := Aside0.mk (below_then HB0.out HB0.out.size hb)
      clear hb c0 c1 c2 c3 c4 c5 c6 c7 c8 BX HB0
      go_wp2
      go_ret2
      exact ⟨_, rfl, Kd.R_nil _ _ _ _ _, HB1.out⟩
  · rw [if_neg hp] at h
    cases h
end Go.Proofs.Ytalpemoodollpaa.P
