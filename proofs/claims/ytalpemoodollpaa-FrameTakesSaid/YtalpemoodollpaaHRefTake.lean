/- damperref04.Take: what it tells is what frame.Take tells. -/
import Derived.Test.YtalpemoodollpaaHRefRead
import Derived.Test.YtalpemoodollpaaHframe
namespace Go.Proofs.Ytalpemoodollpaa.P
open Go.RowKit Go.Proofs.YtalpemoodollpaaW.PrintWords Go.Proofs.YtalpemoodollpaaW.PrintLast Go.Proofs.YtalpemoodollpaaW.PrintMore
set_option linter.unusedVariables false
set_option linter.unusedSimpArgs false
set_option maxRecDepth 100000 in
set_option maxHeartbeats 2000000 in
theorem refTake_calls (A0 : Option Addr) (c0 : Nat) (l0 : List Int) (w : World) (hr0 : Kd.C (Kd.int .u8) w A0 l0.length l0) (hc0 : l0.length ≤ c0) (hb : Byt l0) (hl : l0.length ≤ 140737488355328) :
    Calls Try.prog 47 #[.slice A0 l0.length c0] w fun e w' => ∃ A c, e = .returned (.tuple #[.slice A (takeF l0).1.length c, .int .i64 (takeF l0).2.1, .int .i64 (takeF l0).2.2]) ∧
      Kd.C (Kd.int .u8) w' A (takeF l0).1.length (takeF l0).1 ∧ (takeF l0).1.length ≤ c ∧ Below w.heap.size w w' := by
  have HR := Aside0.mk hr0
  have HL := Aside0.mk hl
  have HC0 := Aside0.mk hc0
  have HU := Aside0.mk (refReadUint l0 2 hb 12 (by omega))
  clear hr0 hl hc0
  generalize hF : takeF l0 = F
  have HF := Aside0.mk hF
  clear hF
  go_enter Try.func47, Try.ntmps47
  go_wp2_with fail
  have hT : rdUint l0 2 = if l0.length < 2 then (0, 0, [], 0, 3) else (beNum (l0.take 2), 0, [], 2, 0) := by
    unfold rdUint
    rw [if_neg (by decide)]
    by_cases h : l0.length < 2
    · rw [if_pos (by omega), if_pos h]
    · rw [if_neg (by omega), if_neg h]; rfl
  rw [hT] at HU
  by_cases h2 : l0.length < 2
  · rw [if_pos h2] at HU
    refine (damperref03_ReadUint.calls 12 A0 c0 l0 2 _ _ _ _ _ w HR.out HC0.out HU.out).mono ?_
    rintro e w1 ⟨v2, rfl, hR, hbl⟩
    obtain ⟨A2, c2, rfl⟩ := Kd.R_slice hR
    have HB := Aside0.mk hbl
    clear hR hbl HU hT
    have H2 := Aside0.mk h2
    clear h2
    go_wp2
    go_ret3
    have hb0 := below_alloc HB.out (.cells #[.int .u64 0, .int .i64 0, .slice A2 0 c2, .int .i64 0, .int .i64 3] 81)
    have e : takeF l0 = ([], 0, 3) := by unfold takeF; rw [if_pos H2.out]
    obtain rfl : F = ([], 0, 3) := HF.out.symm.trans e
    exact ⟨none, 0, rfl, Kd.C_nil _ _, Nat.le_refl _, hb0⟩
  · rw [if_neg h2] at HU
    refine (damperref03_ReadUint.calls 12 A0 c0 l0 2 _ _ _ _ _ w HR.out HC0.out HU.out).mono ?_
    rintro e w1 ⟨v2, rfl, hR, hbl⟩
    obtain ⟨A2, c2, rfl⟩ := Kd.R_slice hR
    have hrg := beNum_range (l0.take 2) (hb.take 2)
    have hrl : (l0.take 2).length = 2 := by rw [List.length_take]; omega
    rw [hrl] at hrg
    have hn0 := hrg.1
    have hn1 : beNum (l0.take 2) < 65536 := hrg.2
    have e : takeF l0 = if 64 < beNum (l0.take 2) then ([], 0, 4) else if (l0.length : Int) < 2 + beNum (l0.take 2) then ([], 0, 3) else ((l0.drop 2).take (beNum (l0.take 2)).toNat, 2 + beNum (l0.take 2), 0) := by
      rw [takeF, if_neg h2]
    have HE : Aside0 ((if 64 < beNum (l0.take 2) then (([] : List Int), (0 : Int), (4 : Int)) else if (l0.length : Int) < 2 + beNum (l0.take 2) then ([], 0, 3) else ((l0.drop 2).take (beNum (l0.take 2)).toNat, 2 + beNum (l0.take 2), 0)) = F) := ⟨e.symm.trans HF.out⟩
    have HRN := Aside0.mk (HR.out)
    have HB := Aside0.mk (Kd.C_below HR.out hbl)
    have HBL := Aside0.mk hbl
    clear hR hbl HU hT e hrg hrl hb HR HF
    obtain ⟨m, hm⟩ := Int.eq_ofNat_of_zero_le hn0
    rw [hm] at hn1 HE ⊢
    clear hn0 hm
    have H2 := Aside0.mk h2
    have HM := Aside0.mk hn1
    clear h2
    by_cases h64 : 64 < m
    · clear hn1
      go_wp2
      go_ret3
      obtain rfl : F = ([], 0, 4) := by have h := HE.out; rw [if_pos (by omega)] at h; exact h.symm
      exact ⟨none, 0, rfl, Kd.C_nil _ _, Nat.le_refl _, below_alloc HBL.out _⟩
    · have hm64 : m ≤ 64 := by omega
      have H64 := Aside0.mk h64
      clear hn1 h64
      by_cases hls : (l0.length : Int) < 2 + (m : Int)
      · go_wp2
        go_ret3
        obtain rfl : F = ([], 0, 3) := by have h := HE.out; rw [if_neg (by have := H64.out; omega), if_pos hls] at h; exact h.symm
        exact ⟨none, 0, rfl, Kd.C_nil _ _, Nat.le_refl _, below_alloc HBL.out _⟩
      · have hc0 := HC0.out
        have hfe : F = ((l0.drop 2).take m, 2 + (m : Int), 0) := by have h := HE.out; rw [if_neg (by have := H64.out; omega), if_neg hls] at h; exact h.symm
        have hlen : ((l0.drop 2).take m).length = m := by rw [List.length_take, List.length_drop]; omega
        have HLEN := Aside0.mk hlen
        have hC := Kd.C_mid (lo := 2) (hi := 2 + m) (c := c0) (Kd.C_alloc HB.out (.cells #[.int .u64 (m : Int), .int .i64 0, .slice A2 0 c2, .int .i64 2, .int .i64 0] 81)) (by omega) (by omega) (by omega)
        rw [show (l0.take (2 + m)).drop 2 = (l0.drop 2).take m by rw [List.drop_take]; congr 1; omega] at hC
        have hbb := below_alloc HBL.out (.cells #[.int .u64 (m : Int), .int .i64 0, .slice A2 0 c2, .int .i64 2, .int .i64 0] 81)
        have HFE := Aside0.mk hfe
        clear HE HBL HB HRN hfe
        have HCC := Aside0.mk hC
        have HBB := Aside0.mk hbb
        clear hC hbb hlen
        by_cases hc2 : c0 = 2
        · have HC2 := Aside0.mk hc2
          obtain rfl : m = 0 := by omega
          subst hc2
          go_wp2
          go_ret3
          have h := HCC.out
          first | rw [if_pos rfl] at h | rw [if_pos trivial] at h
          obtain rfl := HFE.out
          exact ⟨A0, 0, rfl, h, by simp, HBB.out⟩
        · go_wp2
          go_ret3
          have h := HCC.out
          rw [if_neg hc2] at h
          obtain rfl := HFE.out
          refine ⟨_, c0 - 2, ?_, h, by rw [HLEN.out]; omega, HBB.out⟩
          rw [HLEN.out, show 2 + m - 2 = m by omega]
          rfl
end Go.Proofs.Ytalpemoodollpaa.P
