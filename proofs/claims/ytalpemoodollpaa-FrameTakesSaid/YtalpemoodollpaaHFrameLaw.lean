/- Frames: the walk of FrameTakes. -/
import Derived.Test.YtalpemoodollpaaHRefTake
import Derived.Test.YtalpemoodollpaaHOpen
import Derived.Test.YtalpemoodollpaaP43
import Derived.Test.YtalpemoodollpaaP45
namespace Go.Proofs.Ytalpemoodollpaa.P
open Go.RowKit Go.Proofs.YtalpemoodollpaaW.PrintWords Go.Proofs.YtalpemoodollpaaW.PrintLast Go.Proofs.YtalpemoodollpaaW.PrintMore
set_option linter.unusedVariables false
set_option linter.unusedSimpArgs false
theorem refPut (l : List Int) (k : Nat) (hk : 12 ≤ k) : damperref04_Put.f k l = some (if l.length ≤ 64 then (uintForm l.length 2 ++ l, 0) else ([], 9)) := by
  unfold damperref04_Put.f
  by_cases h : l.length ≤ 64
  · have e : IntKind.u64.wrap (l.length : Int) = (l.length : Int) := by rw [wrap_u64]; omega
    rw [if_neg (by omega), if_pos h, e, refUint _ 2 (by omega) (by omega) (by omega) (by omega) k hk]
    simp only [Option.bind_some, Int.toNat_natCast, uintForm_length, show (2 : Int).toNat = 2 from rfl]
    rw [if_pos (by omega)]
  · rw [if_pos (by omega), if_neg h]
theorem alive04 : damperlaw04_alive.f = some true := by
  have h1 : frame_Put.f [7] = some ([0, 1, 7], 0) := by
    unfold frame_Put.f
    decide
  have h2 : frame_Take.f [0, 1, 7] = some ([7], 3, 0) := by
    unfold frame_Take.f
    decide
  unfold damperlaw04_alive.f
  rw [h1]
  simp only [Option.bind_some, h2]
  decide
theorem byt_bytB {l : List Int} (h : Byt l) : bytB l = true := by
  unfold bytB
  simpa [Byt] using h
theorem alive04_calls (w : World) : Calls Try.prog 43 #[] w fun e w' => e = .returned (.bool true) ∧ Below w.heap.size w w' := damperlaw04_alive.calls true w alive04
set_option maxRecDepth 100000 in
set_option maxHeartbeats 2000000 in
theorem frameTakes_calls (A0 : Option Addr) (c0 : Nat) (l0 : List Int) (A1 : Option Addr) (c1 : Nat) (l1 : List Int) (w : World) (hr0 : Kd.C (Kd.int .u8) w A0 l0.length l0) (hc0 : l0.length ≤ c0)
    (hr1 : Kd.C (Kd.int .u8) w A1 l1.length l1) (hc1 : l1.length ≤ c1) (hb : Byt l1) :
    Calls Try.prog 7 #[.slice A0 l0.length c0, .slice A1 l1.length c1] w fun e w' => e = .returned (.bool true) ∧ Below w.heap.size w w' := by
  have HR0 := Aside0.mk hr0
  have HR1 := Aside0.mk hr1
  have HC0 := Aside0.mk hc0
  have HC1 := Aside0.mk hc1
  have HB := Aside0.mk hb
  have hx := hr0.2.1
  have hy := hr1.2.1
  clear hr0 hr1 hc0 hc1 hb
  by_cases hbig : 200 < l0.length ∨ 400 < l1.length
  · have HA := Aside0.mk (alive04_calls)
    go_enter Try.func7, Try.ntmps7
    by_cases hb0 : 200 < l0.length
    · go_wp2_with fail
      refine (HA.out _).mono ?_
      rintro e w1 ⟨rfl, hb1⟩
      go_wp2
      go_ret
      exact ⟨rfl, hb1⟩
    · have hb1 : 400 < l1.length := hbig.resolve_left hb0
      go_wp2_with fail
      refine (HA.out _).mono ?_
      rintro e w1 ⟨rfl, hb1⟩
      go_wp2
      go_ret
      exact ⟨rfl, hb1⟩
  · have hs0 : l0.length ≤ 200 := by omega
    have hs1 : l1.length ≤ 400 := by omega
    clear hbig hx hy
    have HBIG := Aside0.mk hs1
    have hput : frame_Put.f l0 = some (if l0.length ≤ 64 then (uintForm l0.length 2 ++ l0, 0) else ([], 9)) := rfl
    have hrput := refPut l0 12 (by omega)
    have htake : frame_Take.f l1 = some (takeF l1) := by
      unfold frame_Take.f
      rw [if_pos ⟨byt_bytB HB.out, by omega⟩]
    have hrtake := fun w (h1 : Kd.C (Kd.int .u8) w A1 l1.length l1) => refTake_calls A1 c1 l1 w h1 HC1.out HB.out (by omega)
    revert hput hrput htake hrtake
    generalize (if l0.length ≤ 64 then (uintForm l0.length 2 ++ l0, (0 : Int)) else ([], 9)) = P
    generalize takeF l1 = T
    obtain ⟨px, pf⟩ := P
    obtain ⟨tx, tn, tf⟩ := T
    intro hput hrput htake hrtake
    have H1 := Aside0.mk hput
    have H2 := Aside0.mk hrput
    have H3 := Aside0.mk htake
    have H4 := Aside0.mk hrtake
    have HA := Aside0.mk (alive04_calls)
    clear hput hrput htake hrtake
    go_enter Try.func7, Try.ntmps7
    go_wp2_with fail
    refine (frame_Put.calls A0 c0 l0 px pf w HR0.out HC0.out H1.out).mono ?_
    rintro e w1 ⟨v1, rfl, hR, hb⟩
    obtain ⟨X1, x1, rfl, hq, hC⟩ := Kd.R_reads hR
    have CX := Aside0.mk hC
    have QX := Aside0.mk hq
    have B1 := Aside0.mk hb
    have G0 := Aside0.mk (Kd.C_below HR0.out hb)
    have G1 := Aside0.mk (Kd.C_below HR1.out hb)
    clear hR hb hC hq HR0 HR1
    go_wp2_with fail
    refine (damperref04_Put.calls 12 A0 c0 l0 px pf w1 G0.out HC0.out H2.out).mono ?_
    rintro e w2 ⟨v2, rfl, hR, hb⟩
    obtain ⟨X2, x2, rfl, hq, hC⟩ := Kd.R_reads hR
    have CY := Aside0.mk hC
    have QY := Aside0.mk hq
    have CX2 := Aside0.mk (Kd.C_below CX.out hb)
    have B2 := Aside0.mk (B1.out.trans (Below.mono hb B1.out.size))
    have G2 := Aside0.mk (Kd.C_below G1.out hb)
    clear hR hb hC hq G0 G1 CX B1 H1 H2
    go_wp2_with fail
    refine (frame_Take.calls A1 c1 l1 tx tn tf w2 G2.out HC1.out H3.out).mono ?_
    rintro e w3 ⟨v3, rfl, hR, hb⟩
    obtain ⟨X3, x3, rfl, hq, hC⟩ := Kd.R_reads hR
    have CU := Aside0.mk hC
    have QU := Aside0.mk hq
    have CX3 := Aside0.mk (Kd.C_below CX2.out hb)
    have CY3 := Aside0.mk (Kd.C_below CY.out hb)
    have B3 := Aside0.mk (B2.out.trans (Below.mono hb B2.out.size))
    have G3 := Aside0.mk (Kd.C_below G2.out hb)
    clear hR hb hC hq G2 CX2 CY B2 H3
    go_wp2_with fail
    refine (H4.out w3 G3.out).mono ?_
    rintro e w4 ⟨X4, x4, rfl, hC, hq, hb⟩
    have CV := Aside0.mk hC
    have QV := Aside0.mk hq
    have CX4 := Aside0.mk (Kd.C_below CX3.out hb)
    have CY4 := Aside0.mk (Kd.C_below CY3.out hb)
    have CU4 := Aside0.mk (Kd.C_below CU.out hb)
    have B4 := Aside0.mk (B3.out.trans (Below.mono hb B3.out.size))
    clear hb hC hq G3 CX3 CY3 CU B3 H4
    go_wp2_with fail
    refine (damperref03_Same.calls X1 x1 px X2 x2 px true w4 CX4.out QX.out CY4.out QY.out (same_of_eq px)).mono ?_
    rintro e w5 ⟨rfl, hd⟩
    have B5 := Aside0.mk (Below.trans B4.out (Below.mono hd.below B4.out.size))
    have CU5 := Aside0.mk (Kd.C_below CU4.out hd.below)
    have CV5 := Aside0.mk (Kd.C_below CV.out hd.below)
    clear hd CX4 CY4 CU4 CV B4 QX QY
    go_wp2_with fail
    refine (damperref03_Same.calls X3 x3 tx X4 x4 tx true w5 CU5.out QU.out CV5.out QV.out (same_of_eq tx)).mono ?_
    rintro e w6 ⟨rfl, hd⟩
    have B6 := Aside0.mk (Below.trans B5.out (Below.mono hd.below B5.out.size))
    clear hd CU5 CV5 B5 QU QV
    go_wp2_with fail
    refine (HA.out w6).mono ?_
    rintro e w7 ⟨rfl, hd⟩
    have B7 := Aside0.mk (Below.trans B6.out (Below.mono hd B6.out.size))
    clear hd
    go_wp2
    go_ret
    exact ⟨rfl, B7.out⟩
theorem byt_wf {l : List Int} (h : ∀ y ∈ l, (Lit.int .u8 y).wf = true) : Byt l := fun b hb => by
  have := bounds_u8 (h b hb)
  omega
end Go.Proofs.Ytalpemoodollpaa.P
