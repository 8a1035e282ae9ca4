/- Contracts and plain laws: HRead, HReads, HBackPure, HrefRd, HTok, HMsgBackP, HMsgBack, HByt. -/
import Derived.RegionTactic
import Derived.Test.YtalpemoodollpaaX1
import Derived.Test.YtalpemoodollpaaX35
import Derived.Test.YtalpemoodollpaaX38
/- damperref03.ReadRaw, damperlaw03.read. -/
namespace Go.Proofs.Ytalpemoodollpaa.P
open Go.RowKit Go.Proofs.YtalpemoodollpaaW.PrintWords Go.Proofs.YtalpemoodollpaaW.PrintLast Go.Proofs.YtalpemoodollpaaW.PrintMore
set_option linter.unusedVariables false
set_option linter.unusedSimpArgs false
/-- What ReadRaw tells. -/
def rdRaw (l : List Int) (n : Int) : Int × Int × List Int × Int × Int := if n < 0 then (0, 0, [], 0, 0) else if (l.length : Int) < n then (0, 0, [], 0, 3) else (0, 0, l.take n.toNat, n, 0)
set_option maxRecDepth 100000 in
set_option maxHeartbeats 2000000 in
theorem refReadRaw_calls (A0 : Option Addr) (c0 : Nat) (l0 : List Int) (n : Int) (w : World) (hr0 : Kd.C (Kd.int .u8) w A0 l0.length l0) (hc0 : l0.length ≤ c0) :
    Calls Try.prog 116 #[.slice A0 l0.length c0, .int .i64 n] w fun e w' => ∃ A c, e = .returned (.agg #[.int .u64 (rdRaw l0 n).1, .int .i64 (rdRaw l0 n).2.1, .slice A (rdRaw l0 n).2.2.1.length c, .int .i64 (rdRaw l0 n).2.2.2.1, .int .i64 (rdRaw l0 n).2.2.2.2]) ∧
      (rdRaw l0 n).2.2.1.length ≤ c ∧ (A = A0 ∨ (rdRaw l0 n).2.2.1 = []) ∧ Below w.heap.size w w' := by
  generalize hG : rdRaw l0 n = G
  unfold rdRaw at hG
  have HR := Aside0.mk hr0
  have HC := Aside0.mk hc0
  have HG := Aside0.mk hG
  clear hr0 hG
  by_cases h0 : n < 0
  · have HF : Aside0 (G = (0, 0, [], 0, 0)) := ⟨by have h := HG.out; rw [if_pos h0] at h; exact h.symm⟩
    clear HG
    have HBX := Aside0.mk (show Box5 (w.alloc (.cells #[.int .u64 0, .int .i64 0, .slice none 0 0, .int .i64 0, .int .i64 0] 81)) w.heap.size 0 0 (.slice none 0 0) 0 0 from blk_new w _)
    have HLX := Aside0.mk (below_alloc (Below.refl w.heap.size w) (.cells #[.int .u64 0, .int .i64 0, .slice none 0 0, .int .i64 0, .int .i64 0] 81))
    go_enter Try.func116, Try.ntmps116
    go_wp2
    refine bodyPost_ret (results_cell_row (fn := Try.f116) (p := 4) (ty := 81) rfl _ _ w.heap.size 81 #[.int .u64 0, .int .i64 0, .slice none 0 0, .int .i64 0, .int .i64 0] (0, 0) _ rfl HBX.out Try.underlying81 rfl (by kernel_rfl)) rfl ?_
    obtain rfl := HF.out
    exact ⟨none, 0, rfl, Nat.le_refl _, .inr rfl, HLX.out⟩
  · by_cases h1 : (l0.length : Int) < n
    · have HF : Aside0 (G = (0, 0, [], 0, 3)) := ⟨by have h := HG.out; rw [if_neg h0, if_pos h1] at h; exact h.symm⟩
      clear HG
      have HBX := Aside0.mk (show Box5 (w.alloc (.cells #[.int .u64 0, .int .i64 0, .slice none 0 0, .int .i64 0, .int .i64 3] 81)) w.heap.size 0 0 (.slice none 0 0) 0 3 from blk_new w _)
      have HLX := Aside0.mk (below_alloc (Below.refl w.heap.size w) (.cells #[.int .u64 0, .int .i64 0, .slice none 0 0, .int .i64 0, .int .i64 3] 81))
      go_enter Try.func116, Try.ntmps116
      go_wp2
      refine bodyPost_ret (results_cell_row (fn := Try.f116) (p := 4) (ty := 81) rfl _ _ w.heap.size 81 #[.int .u64 0, .int .i64 0, .slice none 0 0, .int .i64 0, .int .i64 3] (0, 0) _ rfl HBX.out Try.underlying81 rfl (by kernel_rfl)) rfl ?_
      obtain rfl := HF.out
      exact ⟨none, 0, rfl, Nat.le_refl _, .inr rfl, HLX.out⟩
    · obtain ⟨m, rfl⟩ := Int.eq_ofNat_of_zero_le (show 0 ≤ n by omega)
      have HF : Aside0 (G = (0, 0, l0.take m, (m : Int), 0)) := ⟨by have h := HG.out; rw [if_neg h0, if_neg h1] at h; exact h.symm⟩
      have hml : m ≤ l0.length := by omega
      have HML := Aside0.mk hml
      clear HG h0
      have HBX := Aside0.mk (show Box5 (w.alloc (.cells #[.int .u64 0, .int .i64 0, .slice A0 m c0, .int .i64 (m : Int), .int .i64 0] 81)) w.heap.size 0 0 (.slice A0 m c0) (m : Int) 0 from blk_new w _)
      have HLX := Aside0.mk (below_alloc (Below.refl w.heap.size w) (.cells #[.int .u64 0, .int .i64 0, .slice A0 m c0, .int .i64 (m : Int), .int .i64 0] 81))
      have HCC := Aside0.mk (Kd.C_take (Kd.C_alloc HR.out (.cells #[.int .u64 0, .int .i64 0, .slice A0 m c0, .int .i64 (m : Int), .int .i64 0] 81)) hml)
      go_enter Try.func116, Try.ntmps116
      go_wp2
      refine bodyPost_ret (results_cell_row (fn := Try.f116) (p := 4) (ty := 81) rfl _ _ w.heap.size 81 #[.int .u64 0, .int .i64 0, .slice A0 m c0, .int .i64 (m : Int), .int .i64 0] (0, 0) _ rfl HBX.out Try.underlying81 rfl (by kernel_rfl)) rfl ?_
      obtain rfl := HF.out
      have hlen : (l0.take m).length = m := by rw [List.length_take]; have := HML.out; omega
      refine ⟨A0, c0, by rw [hlen], by rw [hlen]; have := HML.out; have := HC.out; omega, .inl rfl, HLX.out⟩
theorem C_empty (W : World) (A : Option Addr) : Kd.C (Kd.int .u8) W A ([] : List Int).length [] := ⟨rfl, by simp, fun h => absurd h (Nat.lt_irrefl 0)⟩
/-- What law03.read tells. -/
def readF (l : List Int) (p : S49) : Int × Int × List Int × Int × Int :=
  if p.f0 = 1 then rdUint l p.f1 else if p.f0 = 2 then rdInt l else if p.f0 = 3 then fin3 l (numGo 10 0 0 l) else if p.f0 = 4 then rdRaw l p.f1 else (0, 0, [], 0, 0)
def RD (fn : Nat) (args : Array Value) (W : World) (A0 : Option Addr) (T : Int × Int × List Int × Int × Int) : Prop :=
  Calls Try.prog fn args W fun e w' => ∃ A c, e = .returned (.agg #[.int .u64 T.1, .int .i64 T.2.1, .slice A T.2.2.1.length c, .int .i64 T.2.2.2.1, .int .i64 T.2.2.2.2]) ∧ T.2.2.1.length ≤ c ∧ (A = A0 ∨ T.2.2.1 = []) ∧ Below W.heap.size W w'
theorem rdUint_raw (l : List Int) (s : Int) : (rdUint l s).2.2.1 = [] := by unfold rdUint; split; rfl; split <;> rfl
theorem fin3_raw (l : List Int) (r : Int × (List Int × Int)) : (fin3 l r).2.2.1 = [] := by unfold fin3; split <;> rfl
theorem rdInt_raw (l : List Int) : (rdInt l).2.2.1 = [] ∧ (rdInt l).1 = 0 := by unfold rdInt; split <;> exact ⟨rfl, rfl⟩
theorem RD.uint (A0 : Option Addr) (c0 : Nat) (l : List Int) (s : Int) (w : World) (hr : Kd.C (Kd.int .u8) w A0 l.length l) (hc : l.length ≤ c0) (hb : Byt l) : RD 106 #[.slice A0 l.length c0, .int .i64 s] w A0 (rdUint l s) := by
  refine (damperref03_ReadUint.calls 12 A0 c0 l s _ _ _ _ _ w hr hc (refReadUint l s hb 12 (by omega))).mono ?_
  rintro e w' ⟨v, rfl, hR, hbl⟩
  obtain ⟨A, c, rfl, hq, _⟩ := Kd.R_reads hR
  exact ⟨A, c, rfl, hq, .inr (rdUint_raw l s), hbl⟩
theorem RD.num (A0 : Option Addr) (c0 : Nat) (l : List Int) (w : World) (hr : Kd.C (Kd.int .u8) w A0 l.length l) (hc : l.length ≤ c0) (hb : Byt l) (hl : l.length ≤ 140737488355328) : RD 115 #[.slice A0 l.length c0] w A0 (fin3 l (numGo 10 0 0 l)) := by
  refine (damperref03_ReadNum.calls 21 A0 c0 l _ _ _ _ _ w hr hc (refReadNum l hb hl 21 (by omega))).mono ?_
  rintro e w' ⟨v, rfl, hR, hbl⟩
  obtain ⟨A, c, rfl, hq, _⟩ := Kd.R_reads hR
  exact ⟨A, c, rfl, hq, .inr (fin3_raw l _), hbl⟩
theorem RD.int (A0 : Option Addr) (c0 : Nat) (l : List Int) (w : World) (hr : Kd.C (Kd.int .u8) w A0 l.length l) (hc : l.length ≤ c0) (hb : Byt l) : RD 114 #[.slice A0 l.length c0] w A0 (rdInt l) := by
  refine (refReadInt_calls A0 c0 l w hr hc hb).mono ?_
  rintro e w' ⟨v, rfl, hR, hbl⟩
  obtain ⟨A, c, rfl, hq, _⟩ := Kd.R_reads hR
  exact ⟨A, c, by rw [(rdInt_raw l).1, (rdInt_raw l).2], by rw [(rdInt_raw l).1]; exact hq, .inr (rdInt_raw l).1, hbl⟩
set_option maxRecDepth 100000 in
set_option maxHeartbeats 4000000 in
theorem law03_read_calls (B : Option Addr) (m : Nat) (l : List Int) (p : S49) (A : Option Addr) (c : Nat) (w : World) (hr : Kd.C (Kd.int .u8) w B l.length l) (hm : l.length ≤ m) (hb : Byt l) (hl : l.length ≤ 140737488355328) :
    RD 61 #[.slice B l.length m, .agg #[.int .i64 p.f0, .int .i64 p.f1, .int .u64 p.f2, .int .i64 p.f3, .slice A p.f4.length c]] w B (readF l p) := by
  unfold RD
  obtain ⟨f0, f1, f2, f3, f4⟩ := p
  generalize hG : readF l ⟨f0, f1, f2, f3, f4⟩ = G
  unfold readF at hG
  dsimp only at *
  by_cases h1 : f0 = 1
  · rw [if_pos h1] at hG
    subst h1
    have hx : RD 106 #[.slice B l.length m, .int .i64 f1] ((w.alloc (.cells #[.int .i64 1, .int .i64 f1, .int .u64 f2, .int .i64 f3, .slice A f4.length c] 49)).alloc (.cells #[.int .u64 0, .int .i64 0, .slice none 0 0, .int .i64 0, .int .i64 0] 81)) B (rdUint l f1) := RD.uint B m l f1 _ (Kd.C_alloc (Kd.C_alloc hr _) _) hm hb
    rw [hG] at hx
    have HX := Aside0.mk hx
    have HB := Aside0.mk (show Box5 ((w.alloc (.cells #[.int .i64 1, .int .i64 f1, .int .u64 f2, .int .i64 f3, .slice A f4.length c] 49)).alloc (.cells #[.int .u64 0, .int .i64 0, .slice none 0 0, .int .i64 0, .int .i64 0] 81)) (w.heap.size + 1) 0 0 (.slice none 0 0) 0 0 from by
      have := blk_new (w.alloc (.cells #[.int .i64 1, .int .i64 f1, .int .u64 f2, .int .i64 f3, .slice A f4.length c] 49)) (.cells #[.int .u64 0, .int .i64 0, .slice none 0 0, .int .i64 0, .int .i64 0] 81)
      rw [World.size_alloc] at this
      exact this)
    have HL := Aside0.mk (below_alloc (below_alloc (Below.refl w.heap.size w) (.cells #[.int .i64 1, .int .i64 f1, .int .u64 f2, .int .i64 f3, .slice A f4.length c] 49)) (.cells #[.int .u64 0, .int .i64 0, .slice none 0 0, .int .i64 0, .int .i64 0] 81))
    clear hG hr hm hb hl hx
    go_enter Try.func61, Try.ntmps61
    go_wp2_with fail
    refine HX.out.mono ?_
    rintro e w1 ⟨X, x, rfl, hq, hX, hbl⟩
    obtain ⟨tn, ts, tr, tz, tf⟩ := G
    have HB1 : Aside0 (Box5 w1 (w.heap.size + 1) 0 0 (.slice none 0 0) 0 0) := ⟨(hbl.block _ (blk_lt HB.out)).trans HB.out⟩
    have HL1 := Aside0.mk (Below.trans HL.out (Below.mono hbl HL.out.size))
    have HB2 := Aside0.mk (HB1.out.set5 tn ts tz tf (.slice X tr.length x))
    have HL2 := Aside0.mk (below_far5 HL1.out (b := w.heap.size + 1) (by omega) tn ts tz tf (.slice X tr.length x))
    have HQ := Aside0.mk hq
    have HXX := Aside0.mk hX
    clear hbl hq hX HX HB HL
    obtain ⟨d0, d1, d2, d3, d4⟩ := HB1.out.cells
    have y0 := blk_frozen HB1.out 0
    have y1 := blk_frozen HB1.out 1
    have y2 := blk_frozen HB1.out 2
    have y3 := blk_frozen HB1.out 3
    have y4 := blk_frozen HB1.out 4
    go_wp2
    refine bodyPost_ret (results_cell_row (fn := Try.f61) (p := 4) (ty := 81) rfl _ _ (w.heap.size + 1) 81 #[.int .u64 tn, .int .i64 ts, .slice X tr.length x, .int .i64 tz, .int .i64 tf] (0, 0) _ rfl HB2.out Try.underlying81 rfl (by kernel_rfl)) rfl ?_
    exact ⟨X, x, rfl, HQ.out, HXX.out, HL2.out⟩
  · by_cases h2 : f0 = 2
    · rw [if_neg h1, if_pos h2] at hG
      clear h1
      subst h2
      have hx : RD 114 #[.slice B l.length m] ((w.alloc (.cells #[.int .i64 2, .int .i64 f1, .int .u64 f2, .int .i64 f3, .slice A f4.length c] 49)).alloc (.cells #[.int .u64 0, .int .i64 0, .slice none 0 0, .int .i64 0, .int .i64 0] 81)) B (rdInt l) := RD.int B m l _ (Kd.C_alloc (Kd.C_alloc hr _) _) hm hb
      rw [hG] at hx
      have HX := Aside0.mk hx
      have HB := Aside0.mk (show Box5 ((w.alloc (.cells #[.int .i64 2, .int .i64 f1, .int .u64 f2, .int .i64 f3, .slice A f4.length c] 49)).alloc (.cells #[.int .u64 0, .int .i64 0, .slice none 0 0, .int .i64 0, .int .i64 0] 81)) (w.heap.size + 1) 0 0 (.slice none 0 0) 0 0 from by
        have := blk_new (w.alloc (.cells #[.int .i64 2, .int .i64 f1, .int .u64 f2, .int .i64 f3, .slice A f4.length c] 49)) (.cells #[.int .u64 0, .int .i64 0, .slice none 0 0, .int .i64 0, .int .i64 0] 81)
        rw [World.size_alloc] at this
        exact this)
      have HL := Aside0.mk (below_alloc (below_alloc (Below.refl w.heap.size w) (.cells #[.int .i64 2, .int .i64 f1, .int .u64 f2, .int .i64 f3, .slice A f4.length c] 49)) (.cells #[.int .u64 0, .int .i64 0, .slice none 0 0, .int .i64 0, .int .i64 0] 81))
      clear hG hr hm hb hl hx
      go_enter Try.func61, Try.ntmps61
      go_wp2_with fail
      refine HX.out.mono ?_
      rintro e w1 ⟨X, x, rfl, hq, hX, hbl⟩
      obtain ⟨tn, ts, tr, tz, tf⟩ := G
      have HB1 : Aside0 (Box5 w1 (w.heap.size + 1) 0 0 (.slice none 0 0) 0 0) := ⟨(hbl.block _ (blk_lt HB.out)).trans HB.out⟩
      have HL1 := Aside0.mk (Below.trans HL.out (Below.mono hbl HL.out.size))
      have HB2 := Aside0.mk (HB1.out.set5 tn ts tz tf (.slice X tr.length x))
      have HL2 := Aside0.mk (below_far5 HL1.out (b := w.heap.size + 1) (by omega) tn ts tz tf (.slice X tr.length x))
      have HQ := Aside0.mk hq
      have HXX := Aside0.mk hX
      clear hbl hq hX HX HB HL
      obtain ⟨d0, d1, d2, d3, d4⟩ := HB1.out.cells
      have y0 := blk_frozen HB1.out 0
      have y1 := blk_frozen HB1.out 1
      have y2 := blk_frozen HB1.out 2
      have y3 := blk_frozen HB1.out 3
      have y4 := blk_frozen HB1.out 4
      go_wp2
      refine bodyPost_ret (results_cell_row (fn := Try.f61) (p := 4) (ty := 81) rfl _ _ (w.heap.size + 1) 81 #[.int .u64 tn, .int .i64 ts, .slice X tr.length x, .int .i64 tz, .int .i64 tf] (0, 0) _ rfl HB2.out Try.underlying81 rfl (by kernel_rfl)) rfl ?_
      exact ⟨X, x, rfl, HQ.out, HXX.out, HL2.out⟩
    · by_cases h3 : f0 = 3
      · rw [if_neg h1, if_neg h2, if_pos h3] at hG
        clear h1 h2
        subst h3
        have hx : RD 115 #[.slice B l.length m] ((w.alloc (.cells #[.int .i64 3, .int .i64 f1, .int .u64 f2, .int .i64 f3, .slice A f4.length c] 49)).alloc (.cells #[.int .u64 0, .int .i64 0, .slice none 0 0, .int .i64 0, .int .i64 0] 81)) B (fin3 l (numGo 10 0 0 l)) := RD.num B m l _ (Kd.C_alloc (Kd.C_alloc hr _) _) hm hb hl
        rw [hG] at hx
        have HX := Aside0.mk hx
        have HB := Aside0.mk (show Box5 ((w.alloc (.cells #[.int .i64 3, .int .i64 f1, .int .u64 f2, .int .i64 f3, .slice A f4.length c] 49)).alloc (.cells #[.int .u64 0, .int .i64 0, .slice none 0 0, .int .i64 0, .int .i64 0] 81)) (w.heap.size + 1) 0 0 (.slice none 0 0) 0 0 from by
          have := blk_new (w.alloc (.cells #[.int .i64 3, .int .i64 f1, .int .u64 f2, .int .i64 f3, .slice A f4.length c] 49)) (.cells #[.int .u64 0, .int .i64 0, .slice none 0 0, .int .i64 0, .int .i64 0] 81)
          rw [World.size_alloc] at this
          exact this)
        have HL := Aside0.mk (below_alloc (below_alloc (Below.refl w.heap.size w) (.cells #[.int .i64 3, .int .i64 f1, .int .u64 f2, .int .i64 f3, .slice A f4.length c] 49)) (.cells #[.int .u64 0, .int .i64 0, .slice none 0 0, .int .i64 0, .int .i64 0] 81))
        clear hG hr hm hb hl hx
        go_enter Try.func61, Try.ntmps61
        go_wp2_with fail
        refine HX.out.mono ?_
        rintro e w1 ⟨X, x, rfl, hq, hX, hbl⟩
        obtain ⟨tn, ts, tr, tz, tf⟩ := G
        have HB1 : Aside0 (Box5 w1 (w.heap.size + 1) 0 0 (.slice none 0 0) 0 0) := ⟨(hbl.block _ (blk_lt HB.out)).trans HB.out⟩
        have HL1 := Aside0.mk (Below.trans HL.out (Below.mono hbl HL.out.size))
        have HB2 := Aside0.mk (HB1.out.set5 tn ts tz tf (.slice X tr.length x))
        have HL2 := Aside0.mk (below_far5 HL1.out (b := w.heap.size + 1) (by omega) tn ts tz tf (.slice X tr.length x))
        have HQ := Aside0.mk hq
        have HXX := Aside0.mk hX
        clear hbl hq hX HX HB HL
        obtain ⟨d0, d1, d2, d3, d4⟩ := HB1.out.cells
        have y0 := blk_frozen HB1.out 0
        have y1 := blk_frozen HB1.out 1
        have y2 := blk_frozen HB1.out 2
        have y3 := blk_frozen HB1.out 3
        have y4 := blk_frozen HB1.out 4
        go_wp2
        refine bodyPost_ret (results_cell_row (fn := Try.f61) (p := 4) (ty := 81) rfl _ _ (w.heap.size + 1) 81 #[.int .u64 tn, .int .i64 ts, .slice X tr.length x, .int .i64 tz, .int .i64 tf] (0, 0) _ rfl HB2.out Try.underlying81 rfl (by kernel_rfl)) rfl ?_
        exact ⟨X, x, rfl, HQ.out, HXX.out, HL2.out⟩
      · by_cases h4 : f0 = 4
        · rw [if_neg h1, if_neg h2, if_neg h3, if_pos h4] at hG
          clear h1 h2 h3
          subst h4
          have hx : RD 116 #[.slice B l.length m, .int .i64 f1] ((w.alloc (.cells #[.int .i64 4, .int .i64 f1, .int .u64 f2, .int .i64 f3, .slice A f4.length c] 49)).alloc (.cells #[.int .u64 0, .int .i64 0, .slice none 0 0, .int .i64 0, .int .i64 0] 81)) B (rdRaw l f1) := refReadRaw_calls B m l f1 _ (Kd.C_alloc (Kd.C_alloc hr _) _) hm
          rw [hG] at hx
          have HX := Aside0.mk hx
          have HB := Aside0.mk (show Box5 ((w.alloc (.cells #[.int .i64 4, .int .i64 f1, .int .u64 f2, .int .i64 f3, .slice A f4.length c] 49)).alloc (.cells #[.int .u64 0, .int .i64 0, .slice none 0 0, .int .i64 0, .int .i64 0] 81)) (w.heap.size + 1) 0 0 (.slice none 0 0) 0 0 from by
            have := blk_new (w.alloc (.cells #[.int .i64 4, .int .i64 f1, .int .u64 f2, .int .i64 f3, .slice A f4.length c] 49)) (.cells #[.int .u64 0, .int .i64 0, .slice none 0 0, .int .i64 0, .int .i64 0] 81)
            rw [World.size_alloc] at this
            exact this)
          have HL := Aside0.mk (below_alloc (below_alloc (Below.refl w.heap.size w) (.cells #[.int .i64 4, .int .i64 f1, .int .u64 f2, .int .i64 f3, .slice A f4.length c] 49)) (.cells #[.int .u64 0, .int .i64 0, .slice none 0 0, .int .i64 0, .int .i64 0] 81))
          clear hG hr hm hb hl hx
          go_enter Try.func61, Try.ntmps61
          go_wp2_with fail
          refine HX.out.mono ?_
          rintro e w1 ⟨X, x, rfl, hq, hX, hbl⟩
          obtain ⟨tn, ts, tr, tz, tf⟩ := G
          have HB1 : Aside0 (Box5 w1 (w.heap.size + 1) 0 0 (.slice none 0 0) 0 0) := ⟨(hbl.block _ (blk_lt HB.out)).trans HB.out⟩
          have HL1 := Aside0.mk (Below.trans HL.out (Below.mono hbl HL.out.size))
          have HB2 := Aside0.mk (HB1.out.set5 tn ts tz tf (.slice X tr.length x))
          have HL2 := Aside0.mk (below_far5 HL1.out (b := w.heap.size + 1) (by omega) tn ts tz tf (.slice X tr.length x))
          have HQ := Aside0.mk hq
          have HXX := Aside0.mk hX
          clear hbl hq hX HX HB HL
          obtain ⟨d0, d1, d2, d3, d4⟩ := HB1.out.cells
          have y0 := blk_frozen HB1.out 0
          have y1 := blk_frozen HB1.out 1
          have y2 := blk_frozen HB1.out 2
          have y3 := blk_frozen HB1.out 3
          have y4 := blk_frozen HB1.out 4
          go_wp2
          refine bodyPost_ret (results_cell_row (fn := Try.f61) (p := 4) (ty := 81) rfl _ _ (w.heap.size + 1) 81 #[.int .u64 tn, .int .i64 ts, .slice X tr.length x, .int .i64 tz, .int .i64 tf] (0, 0) _ rfl HB2.out Try.underlying81 rfl (by kernel_rfl)) rfl ?_
          exact ⟨X, x, rfl, HQ.out, HXX.out, HL2.out⟩
        · rw [if_neg h1, if_neg h2, if_neg h3, if_neg h4] at hG
          subst hG
          have HB := Aside0.mk (show Box5 ((w.alloc (.cells #[.int .i64 f0, .int .i64 f1, .int .u64 f2, .int .i64 f3, .slice A f4.length c] 49)).alloc (.cells #[.int .u64 0, .int .i64 0, .slice none 0 0, .int .i64 0, .int .i64 0] 81)) (w.heap.size + 1) 0 0 (.slice none 0 0) 0 0 from by
            have := blk_new (w.alloc (.cells #[.int .i64 f0, .int .i64 f1, .int .u64 f2, .int .i64 f3, .slice A f4.length c] 49)) (.cells #[.int .u64 0, .int .i64 0, .slice none 0 0, .int .i64 0, .int .i64 0] 81)
            rw [World.size_alloc] at this
            exact this)
          have HL := Aside0.mk (below_alloc (below_alloc (Below.refl w.heap.size w) (.cells #[.int .i64 f0, .int .i64 f1, .int .u64 f2, .int .i64 f3, .slice A f4.length c] 49)) (.cells #[.int .u64 0, .int .i64 0, .slice none 0 0, .int .i64 0, .int .i64 0] 81))
          clear hr hm hb hl
          go_enter Try.func61, Try.ntmps61
          go_wp2
          refine bodyPost_ret (results_cell_row (fn := Try.f61) (p := 4) (ty := 81) rfl _ _ (w.heap.size + 1) 81 #[.int .u64 0, .int .i64 0, .slice none 0 0, .int .i64 0, .int .i64 0] (0, 0) _ rfl HB.out Try.underlying81 rfl (by kernel_rfl)) rfl ?_
          first | exact ⟨none, 0, rfl, Nat.le_refl _, .inr rfl, HL.out⟩ | exact ⟨none, 0, rfl, Nat.le_refl _, .inr trivial, HL.out⟩ | exact ⟨none, 0, by simp, by simp, by simp, HL.out⟩
end Go.Proofs.Ytalpemoodollpaa.P
/- What is got is what the document reads. -/

namespace Go.Proofs.Ytalpemoodollpaa.P
open Go.RowKit Go.Proofs.YtalpemoodollpaaW.PrintWords Go.Proofs.YtalpemoodollpaaW.PrintLast Go.Proofs.YtalpemoodollpaaW.PrintMore
set_option linter.unusedVariables false
set_option linter.unusedSimpArgs false
theorem rTake_0 (l : List Int) (n : Nat) : rTake (l, 0) n = if l.length < n then ([], false, (l, 3)) else (l.take n, true, (l.drop n, 0)) := by
  unfold rTake
  rw [if_neg (by simp)]
theorem rTake_f (l : List Int) (f : Int) (hf : f ≠ 0) (n : Nat) : rTake (l, f) n = ([], false, (l, f)) := by
  unfold rTake
  rw [if_pos hf]
theorem numGo_fin (k : Nat) : ∀ (i : Nat) (n : Int) (l : List Int), ((numGo k i n l).2.2 ≠ 0 → (numGo k i n l).1 = 0) ∧ ((numGo k i n l).2.2 = 0 → ∃ m, m ≤ l.length ∧ (numGo k i n l).2.1 = l.drop m) := by
  induction k with
  | zero => intro i n l; exact ⟨fun _ => rfl, fun h => absurd h (by simp [numGo])⟩
  | succ k ih =>
    intro i n l
    cases l with
    | nil => exact ⟨fun _ => rfl, fun h => absurd h (by simp [numGo])⟩
    | cons b bs =>
      rw [numGo]
      split
      · exact ⟨fun _ => rfl, fun h => absurd h (by simp)⟩
      · split
        · obtain ⟨h1, h2⟩ := ih (i + 1) (n + b % 128 * ((128 ^ i : Nat) : Int)) bs
          refine ⟨h1, fun h => ?_⟩
          obtain ⟨m, hm, he⟩ := h2 h
          exact ⟨m + 1, by simp; omega, by rw [he]; rfl⟩
        · split
          · exact ⟨fun _ => rfl, fun h => absurd h (by simp)⟩
          · exact ⟨fun h => absurd rfl h, fun _ => ⟨1, by simp, rfl⟩⟩
theorem got_read (l : List Int) (p : S49) : (gotF (l, 0) p).1 = (readF l p).1 ∧ (gotF (l, 0) p).2.1 = (readF l p).2.1 ∧ (gotF (l, 0) p).2.2.1 = (readF l p).2.2.1 ∧ (gotF (l, 0) p).2.2.2.2 = (readF l p).2.2.2.2 ∧
    0 ≤ (readF l p).2.2.2.1 ∧ (readF l p).2.2.2.1 ≤ l.length ∧ ((readF l p).2.2.2.2 = 0 → (gotF (l, 0) p).2.2.2.1 = l.drop (readF l p).2.2.2.1.toNat) := by
  unfold gotF readF
  by_cases h1 : p.f0 = 1
  · rw [if_pos h1, if_pos h1]
    unfold rUint rdUint
    by_cases hk : p.f1 < 1 ∨ 8 < p.f1
    · rw [if_pos hk, if_pos hk]
      exact ⟨rfl, rfl, rfl, rfl, by simp, by simp, fun _ => rfl⟩
    · rw [if_neg hk, if_neg hk, rTake_0]
      by_cases hl : l.length < p.f1.toNat
      · rw [if_pos hl, if_pos (show (l.length : Int) < p.f1 by omega)]
        exact ⟨rfl, rfl, rfl, rfl, by simp, by simp, fun h => absurd h (by simp)⟩
      · rw [if_neg hl, if_neg (show ¬ (l.length : Int) < p.f1 by omega)]
        exact ⟨rfl, rfl, rfl, rfl, by show 0 ≤ p.f1; omega, by show p.f1 ≤ (l.length : Int); omega, fun _ => rfl⟩
  · rw [if_neg h1, if_neg h1]
    by_cases h2 : p.f0 = 2
    · rw [if_pos h2, if_pos h2]
      unfold rUint rdInt
      rw [if_neg (show ¬ ((8 : Int) < 1 ∨ (8 : Int) < 8) by decide), show (8 : Int).toNat = 8 from rfl, rTake_0]
      by_cases hl : l.length < 8
      · rw [if_pos hl, if_pos hl]
        exact ⟨rfl, by show unzig 0 = 0; decide, rfl, rfl, by simp, by simp, fun h => absurd h (by simp)⟩
      · rw [if_neg hl, if_neg hl]
        exact ⟨rfl, rfl, rfl, rfl, by simp, by show (8 : Int) ≤ (l.length : Int); omega, fun _ => rfl⟩
    · rw [if_neg h2, if_neg h2]
      by_cases h3 : p.f0 = 3
      · rw [if_pos h3, if_pos h3]
        unfold rNum fin3
        rw [if_neg (by simp)]
        obtain ⟨hz, hd⟩ := numGo_fin 10 0 0 l
        by_cases hf : (numGo 10 0 0 l).2.2 = 0
        · rw [if_pos hf]
          obtain ⟨m, hm, he⟩ := hd hf
          refine ⟨rfl, rfl, rfl, hf, ?_, ?_, fun _ => ?_⟩
          · show 0 ≤ (l.length : Int) - ((numGo 10 0 0 l).2.1.length : Int)
            rw [he, List.length_drop]; omega
          · show (l.length : Int) - ((numGo 10 0 0 l).2.1.length : Int) ≤ _
            omega
          · show (numGo 10 0 0 l).2.1 = l.drop ((l.length : Int) - ((numGo 10 0 0 l).2.1.length : Int)).toNat
            rw [he, List.length_drop]
            congr 1
            omega
        · rw [if_neg hf]
          exact ⟨hz hf, rfl, rfl, rfl, by simp, by simp, fun h => absurd h hf⟩
      · rw [if_neg h3, if_neg h3]
        by_cases h4 : p.f0 = 4
        · rw [if_pos h4, if_pos h4]
          unfold rdRaw
          by_cases hn : p.f1 < 0
          · rw [if_pos hn, if_pos hn]
            exact ⟨rfl, rfl, rfl, rfl, by simp, by simp, fun _ => rfl⟩
          · rw [if_neg hn, if_neg hn, rTake_0]
            by_cases hl : l.length < p.f1.toNat
            · rw [if_pos hl, if_pos (show (l.length : Int) < p.f1 by omega)]
              exact ⟨rfl, rfl, rfl, rfl, by simp, by simp, fun h => absurd h (by simp)⟩
            · rw [if_neg hl, if_neg (show ¬ (l.length : Int) < p.f1 by omega)]
              exact ⟨rfl, rfl, rfl, rfl, by show 0 ≤ p.f1; omega, by show p.f1 ≤ (l.length : Int); omega, fun _ => rfl⟩
        · rw [if_neg h4, if_neg h4]
          exact ⟨rfl, rfl, rfl, rfl, by simp, by simp, fun _ => rfl⟩
theorem got_fault (l : List Int) (f : Int) (hf : f ≠ 0) (p : S49) : gotF (l, f) p = (0, 0, [], (l, f)) := by
  unfold gotF rUint rNum
  have e := rTake_f l f hf
  split
  · split
    · rfl
    · rw [e]; rfl
  · split
    · rw [if_neg (by decide), e]; rfl
    · split
      · rfl
      · split
        · split
          · rfl
          · rw [e]
        · rfl
end Go.Proofs.Ytalpemoodollpaa.P
/- What is put is read as it was; of fewer bytes it is not; what is read has just those bytes. -/
namespace Go.Proofs.Ytalpemoodollpaa.P
open Go.RowKit Go.Proofs.YtalpemoodollpaaW.PrintWords Go.Proofs.YtalpemoodollpaaW.PrintLast Go.Proofs.YtalpemoodollpaaW.PrintMore
set_option linter.unusedVariables false
set_option linter.unusedSimpArgs false
theorem numGo_form (j : Nat) : ∀ (i : Nat) (a : Int) (n : Nat) (rest : List Int), i + j = 9 → n < 2 * 128 ^ j → (0 < i → 1 ≤ n) →
    numGo (j + 1) i a (numForm n ++ rest) = (a + (n : Int) * ((128 ^ i : Nat) : Int), (rest, 0)) := by
  induction j with
  | zero =>
    intro i a n rest hi hn hp
    obtain rfl : i = 9 := by omega
    have hn2 : n < 2 := by simpa using hn
    have h1 := hp (by omega)
    obtain rfl : n = 1 := by omega
    rw [numForm_lt (by omega)]
    simp [numGo]
  | succ j ih =>
    intro i a n rest hi hn hp
    by_cases h : n < 128
    · rw [numForm_lt h, List.cons_append, List.nil_append, numGo, if_neg (by omega), if_neg (by omega), if_neg (by omega)]
      have : (n : Int) % 128 = n := by omega
      rw [this]
    · rw [numForm_ge h, List.cons_append, numGo, if_neg (by omega), if_pos (by omega)]
      rw [ih (i + 1) _ (n / 128) rest (by omega) (by rw [Nat.pow_succ] at hn; omega) (by omega)]
      congr 1
      rw [Nat.pow_succ]
      have e : (((n % 128 + 128 : Nat) : Int) % 128) = ((n % 128 : Nat) : Int) := by omega
      rw [e]
      have e2 : (n : Int) = ((n % 128 : Nat) : Int) + ((n / 128 : Nat) : Int) * 128 := by omega
      generalize ((n % 128 : Nat) : Int) = x at *
      generalize ((n / 128 : Nat) : Int) = y at *
      rw [e2]
      push_cast
      generalize ((128 : Int) ^ i) = P
      rw [Int.add_mul, Int.mul_assoc y 128 P, Int.mul_comm 128 P]
      omega
theorem rNum_form (n : Nat) (hn : n < 18446744073709551616) (rest : List Int) : rNum (numForm n ++ rest, 0) = ((n : Int), (rest, 0)) := by
  unfold rNum
  rw [if_neg (by simp)]
  have := numGo_form 9 0 0 n rest (by omega) (by have : (2 * 128 ^ 9 : Nat) = 18446744073709551616 := by decide
                                                 omega) (by omega)
  simpa using this
theorem numGo_short (j : Nat) : ∀ (i : Nat) (a : Int) (n m : Nat), i + j = 9 → n < 2 * 128 ^ j → m < (numForm n).length → (numGo (j + 1) i a ((numForm n).take m)).2.2 = 3 := by
  induction j with
  | zero =>
    intro i a n m hi hn hm
    have hn2 : n < 2 := by simpa using hn
    rw [numForm_lt (by omega)] at hm ⊢
    obtain rfl : m = 0 := by simp at hm; omega
    rfl
  | succ j ih =>
    intro i a n m hi hn hm
    cases m with
    | zero => rfl
    | succ m =>
      by_cases h : n < 128
      · rw [numForm_lt h] at hm
        simp at hm
      · rw [numForm_ge h] at hm ⊢
        rw [List.take_succ_cons, numGo, if_neg (by omega), if_pos (by omega)]
        exact ih (i + 1) _ (n / 128) m (by omega) (by rw [Nat.pow_succ] at hn; omega) (by simpa using hm)
theorem rNum_short (n m : Nat) (hn : n < 18446744073709551616) (hm : m < (numForm n).length) : (rNum ((numForm n).take m, 0)).2.2 = 3 := by
  unfold rNum
  rw [if_neg (by simp)]
  exact numGo_short 9 0 0 n m (by omega) (by have : (2 * 128 ^ 9 : Nat) = 18446744073709551616 := by decide
                                             omega) hm
theorem numGo_back (j : Nat) : ∀ (i : Nat) (a : Int) (l : List Int), Byt l → i + j = 9 → (numGo (j + 1) i a l).2.2 = 0 →
    ∃ n : Nat, l = numForm n ++ (numGo (j + 1) i a l).2.1 ∧ (numGo (j + 1) i a l).1 = a + (n : Int) * ((128 ^ i : Nat) : Int) ∧ n < 2 * 128 ^ j ∧ (0 < i → 1 ≤ n) := by
  induction j with
  | zero =>
    intro i a l hb hi h
    obtain rfl : i = 9 := by omega
    cases l with
    | nil => simp [numGo] at h
    | cons b bs =>
      have hbb := hb.cons.1
      rw [numGo] at h ⊢
      by_cases h1 : (9 : Nat) = 9 ∧ 1 < b % 128
      · rw [if_pos h1] at h; simp at h
      · rw [if_neg h1] at h ⊢
        by_cases h2 : 128 ≤ b
        · rw [if_pos h2] at h; simp [numGo] at h
        · rw [if_neg h2] at h ⊢
          by_cases h3 : b % 128 = 0 ∧ 0 < 9
          · rw [if_pos h3] at h; simp at h
          · rw [if_neg h3]
            have e : b = 1 := by omega
            subst e
            exact ⟨1, by rw [numForm_lt (by omega)]; rfl, by simp, by simp, by omega⟩
  | succ j ih =>
    intro i a l hb hi h
    cases l with
    | nil => simp [numGo] at h
    | cons b bs =>
      obtain ⟨hbb, hbs⟩ := hb.cons
      rw [numGo] at h ⊢
      rw [if_neg (by omega)] at h ⊢
      by_cases h2 : 128 ≤ b
      · rw [if_pos h2] at h ⊢
        obtain ⟨n, e1, e2, e3, e4⟩ := ih (i + 1) _ bs hbs (by omega) h
        have hn1 := e4 (by omega)
        refine ⟨(b % 128).toNat + 128 * n, ?_, ?_, ?_, by omega⟩
        · rw [numForm_ge (by omega), show ((b % 128).toNat + 128 * n) / 128 = n by omega, List.cons_append, ← e1]
          congr 1
          omega
        · rw [e2, Nat.pow_succ]
          have : (((b % 128).toNat + 128 * n : Nat) : Int) = b % 128 + 128 * (n : Int) := by omega
          rw [this]
          push_cast
          generalize ((128 : Int) ^ i) = P
          generalize b % 128 = x
          rw [Int.add_mul, Int.mul_comm P 128, ← Int.mul_assoc, Int.mul_comm (n : Int) 128]
          omega
        · rw [Nat.pow_succ]; omega
      · rw [if_neg h2] at h ⊢
        by_cases h3 : b % 128 = 0 ∧ 0 < i
        · rw [if_pos h3] at h; simp at h
        · rw [if_neg h3]
          refine ⟨b.toNat, ?_, ?_, ?_, by omega⟩
          · rw [numForm_lt (by omega)]
            simp only [List.cons_append, List.nil_append]
            congr 1
            omega
          · show a + b % 128 * _ = _
            rw [show ((b.toNat : Nat) : Int) = b % 128 by omega]
          · have : 0 < 128 ^ j := Nat.pos_of_ne_zero (by simp)
            rw [Nat.pow_succ]; omega
theorem rNum_back (l : List Int) (hb : Byt l) (h : (rNum (l, 0)).2.2 = 0) : ∃ n : Nat, l = numForm n ++ (rNum (l, 0)).2.1 ∧ (rNum (l, 0)).1 = (n : Int) ∧ n < 18446744073709551616 := by
  unfold rNum at h ⊢
  rw [if_neg (by simp)] at h ⊢
  obtain ⟨n, e1, e2, e3, _⟩ := numGo_back 9 0 0 l hb (by omega) h
  refine ⟨n, e1, by simpa using e2, ?_⟩
  have : (2 * 128 ^ 9 : Nat) = 18446744073709551616 := by decide
  omega
theorem rUint_form (n k : Nat) (h1 : 1 ≤ k) (h8 : k ≤ 8) (rest : List Int) : rUint (uintForm n k ++ rest, 0) (k : Int) = (((n % 256 ^ k : Nat) : Int), (rest, 0)) := by
  unfold rUint
  rw [if_neg (by omega), Int.toNat_natCast, rTake_ok _ _ (by rw [List.length_append, uintForm_length]; omega)]
  simp only
  rw [List.take_left' (uintForm_length n k), List.drop_left' (uintForm_length n k), beNum_uintForm]
theorem rUint_short (l : List Int) (k : Int) (h1 : 1 ≤ k) (h8 : k ≤ 8) (h : (l.length : Int) < k) : rUint (l, 0) k = (0, (l, 3)) := by
  unfold rUint
  rw [if_neg (by omega), rTake_few _ _ (by omega)]
  rfl
theorem uintForm_beNum (l : List Int) (hb : Byt l) : uintForm (beNum l).toNat l.length = l := by
  induction l with
  | nil => rfl
  | cons b bs ih =>
    obtain ⟨hbb, hbs⟩ := hb.cons
    have hr := beNum_range bs hbs
    obtain ⟨m, hm⟩ := Int.eq_ofNat_of_zero_le hr.1
    obtain ⟨c, hc⟩ := Int.eq_ofNat_of_zero_le hbb.1
    have hml : m < 256 ^ bs.length := by rw [hm] at hr; exact_mod_cast hr.2
    have hpos : 0 < 256 ^ bs.length := Nat.pos_of_ne_zero (by simp)
    rw [beNum_cons, hm, hc]
    have e : ((c : Int) * ((256 ^ bs.length : Nat) : Int) + (m : Int)).toNat = c * 256 ^ bs.length + m := by
      have : ((c : Int) * ((256 ^ bs.length : Nat) : Int) + (m : Int)) = ((c * 256 ^ bs.length + m : Nat) : Int) := by rw [Int.natCast_add, Int.natCast_mul]
      rw [this, Int.toNat_natCast]
    rw [e, List.length_cons, uintForm]
    have hd : (c * 256 ^ bs.length + m) / 256 ^ bs.length = c := by
      rw [Nat.mul_comm, Nat.mul_add_div hpos, Nat.div_eq_of_lt hml, Nat.add_zero]
    rw [hd]
    have hc2 : c % 256 = c := by omega
    rw [hc2]
    congr 1
    have hmod : ∀ k, k ≤ bs.length → uintForm (c * 256 ^ bs.length + m) k = uintForm m k := by
      intro k hk
      induction k with
      | zero => rfl
      | succ k ihk =>
        rw [uintForm, uintForm, ihk (by omega)]
        congr 2
        obtain ⟨d, hd⟩ : ∃ d, bs.length = k + 1 + d := ⟨bs.length - (k + 1), by omega⟩
        rw [hd, Nat.pow_add, Nat.pow_succ]
        have : c * (256 ^ k * 256 * 256 ^ d) + m = 256 ^ k * (c * 256 ^ d * 256) + m := by
          congr 1
          rw [Nat.mul_assoc (256 ^ k), Nat.mul_left_comm, Nat.mul_comm 256 (256 ^ d), Nat.mul_assoc c]
        have hp : 0 < 256 ^ k := Nat.pos_of_ne_zero (by simp)
        rw [this, Nat.mul_add_div hp, Nat.add_comm, Nat.add_mul_mod_self_right]
    rw [hmod _ (Nat.le_refl _)]
    have := ih hbs
    rw [hm] at this
    simpa using this
theorem rUint_back (l : List Int) (k : Nat) (h1 : 1 ≤ k) (h8 : k ≤ 8) (hb : Byt l) (h : (rUint (l, 0) (k : Int)).2.2 = 0) :
    ∃ n : Nat, l = uintForm n k ++ (rUint (l, 0) (k : Int)).2.1 ∧ (rUint (l, 0) (k : Int)).1 = (n : Int) ∧ n < 256 ^ k := by
  by_cases hl : l.length < k
  · rw [rUint_short l k (by omega) (by omega) (by omega)] at h
    simp at h
  · unfold rUint
    rw [if_neg (by omega), Int.toNat_natCast, rTake_ok _ _ (by omega)]
    simp only
    have hlen : (l.take k).length = k := by rw [List.length_take]; omega
    have hr := beNum_range (l.take k) (hb.take k)
    rw [hlen] at hr
    refine ⟨(beNum (l.take k)).toNat, ?_, by omega, by have := hr.2; omega⟩
    have := uintForm_beNum (l.take k) (hb.take k)
    rw [hlen] at this
    rw [this, List.take_append_drop]
theorem intForm_read (n : Int) (h0 : -9223372036854775808 ≤ n) (h1 : n ≤ 9223372036854775807) (rest : List Int) : unzig (rUint (intForm n ++ rest, 0) 8).1 = n ∧ (rUint (intForm n ++ rest, 0) 8).2 = (rest, 0) := by
  have := rUint_form (zig n).toNat 8 (by omega) (by omega) rest
  have hz := zig_range n h0 h1
  unfold intForm
  rw [show (8 : Int) = ((8 : Nat) : Int) from rfl, this]
  have h256 : (256 ^ 8 : Nat) = 18446744073709551616 := by decide
  have e : (zig n).toNat % 256 ^ 8 = (zig n).toNat := Nat.mod_eq_of_lt (by omega)
  rw [e]
  refine ⟨?_, rfl⟩
  show unzig (((zig n).toNat : Nat) : Int) = n
  rw [Int.toNat_of_nonneg hz.1, unzig_zig]
theorem intForm_back (l : List Int) (hb : Byt l) (h : (rUint (l, 0) 8).2.2 = 0) : l = intForm (unzig (rUint (l, 0) 8).1) ++ (rUint (l, 0) 8).2.1 ∧ -9223372036854775808 ≤ unzig (rUint (l, 0) 8).1 ∧ unzig (rUint (l, 0) 8).1 ≤ 9223372036854775807 := by
  obtain ⟨n, e1, e2, e3⟩ := rUint_back l 8 (by omega) (by omega) hb h
  have e2' : (rUint (l, 0) 8).1 = (n : Int) := e2
  have e1' : l = uintForm n 8 ++ (rUint (l, 0) 8).2.1 := e1
  have h256 : (256 ^ 8 : Nat) = 18446744073709551616 := by decide
  rw [e2']
  refine ⟨?_, ?_, ?_⟩
  · unfold intForm
    rw [zig_unzig _ (by omega), Int.toNat_natCast]
    exact e1'
  · unfold unzig; split <;> omega
  · unfold unzig; split <;> omega
end Go.Proofs.Ytalpemoodollpaa.P
/- The reader of damperref05. -/
namespace Go.Proofs.Ytalpemoodollpaa.P
open Go.RowKit Go.Proofs.YtalpemoodollpaaW.PrintWords Go.Proofs.YtalpemoodollpaaW.PrintLast Go.Proofs.YtalpemoodollpaaW.PrintMore
set_option linter.unusedVariables false
set_option linter.unusedSimpArgs false
/-- The document's reader at g: up to the first fault it reads as s. -/
structure RR (w0 W : World) (g : Nat) (s : List Int × Int) : Prop where
  ex : ∃ (l : List Int) (A : Option Addr) (c : Nat), W.heap[g]? = some (.cells #[.slice A l.length c, .int .i64 s.2] 152 (0, 0)) ∧ l.length ≤ c ∧ Kd.C (Kd.int .u8) w0 A l.length l ∧ Byt l ∧ l.length ≤ 140737488355328 ∧ (s.2 = 0 → l = s.1)
  bel : Below w0.heap.size w0 W
  hg : w0.heap.size ≤ g
theorem RR.below {w0 W W1 : World} {g : Nat} {s : List Int × Int} (h : RR w0 W g s) (hb : Below W.heap.size W W1) : RR w0 W1 g s := by
  obtain ⟨⟨l, A, c, h1, h2⟩, hB, hg⟩ := h
  exact ⟨⟨l, A, c, (hb.block _ (blk_lt h1)).trans h1, h2⟩, below_then hB hB.size hb, hg⟩
theorem RR.set {w0 W : World} {g : Nat} {s : List Int × Int} (h : RR w0 W g s) {b j : Nat} (h0 : w0.heap.size ≤ b) (hb : b ≠ g) (u : Value) : RR w0 (W.setCell ⟨b, j, none⟩ u) g s := by
  obtain ⟨⟨l, A, c, h1, h2⟩, hB, hg⟩ := h
  exact ⟨⟨l, A, c, (Below.heap_setCell W ⟨b, j, none⟩ u g (by show g ≠ b; omega)).trans h1, h2⟩, hB.setCell (p := ⟨b, j, none⟩) h0 u, hg⟩
/-- take, behind a fault. -/
theorem take_fault (g : Nat) (l : List Int) (A : Option Addr) (c : Nat) (f : Int) (W : World) (hb : W.heap[g]? = some (.cells #[.slice A l.length c, .int .i64 f] 152 (0, 0))) (hf : f ≠ 0) (n s z k : Int) (B : Option Addr) (m q : Nat) :
    Calls Try.prog 140 #[.pointer (some ⟨g, 0, none⟩), .agg #[.int .u64 n, .int .i64 s, .slice B m q, .int .i64 z, .int .i64 k]] W fun e w' => e = .returned (.agg #[.int .u64 0, .int .i64 0, .slice none 0 0, .int .i64 0, .int .i64 0]) ∧ Below W.heap.size W w' := by
  have hlt := blk_lt hb
  have hb1 := blk_alloc (blk_alloc hb (.cells #[.int .u64 n, .int .i64 s, .slice B m q, .int .i64 z, .int .i64 k] 81)) (.cells #[.int .u64 0, .int .i64 0, .slice none 0 0, .int .i64 0, .int .i64 0] 81)
  have c1 := (blk_cell hb1 1).trans rfl
  have HX := Aside0.mk (blk_new (W.alloc (.cells #[.int .u64 n, .int .i64 s, .slice B m q, .int .i64 z, .int .i64 k] 81)) (.cells #[.int .u64 0, .int .i64 0, .slice none 0 0, .int .i64 0, .int .i64 0] 81))
  have HB := Aside0.mk (below_alloc (below_alloc (Below.refl W.heap.size W) (.cells #[.int .u64 n, .int .i64 s, .slice B m q, .int .i64 z, .int .i64 k] 81)) (.cells #[.int .u64 0, .int .i64 0, .slice none 0 0, .int .i64 0, .int .i64 0] 81))
  have hff : (f != 0) = true := by simpa using hf
  clear hb hb1 hf
  go_enter Try.func140, Try.ntmps140
  go_wp2
  refine bodyPost_ret (results_cell_row (fn := Try.f140) (p := 4) (ty := 81) rfl _ _ (W.heap.size + 1) 81 #[.int .u64 0, .int .i64 0, .slice none 0 0, .int .i64 0, .int .i64 0] (0, 0) _ rfl ?_ Try.underlying81 rfl (by kernel_rfl)) rfl ?_
  · have := HX.out
    rw [World.size_alloc] at this
    exact this
  · exact ⟨rfl, HB.out⟩
theorem take_ok (g : Nat) (l : List Int) (A : Option Addr) (c : Nat) (W : World) (hb : W.heap[g]? = some (.cells #[.slice A l.length c, .int .i64 0] 152 (0, 0))) (n s k : Int) (z : Nat) (hz : z ≤ l.length) (hl : l.length ≤ 140737488355328) (B : Option Addr) (m q : Nat) :
    Calls Try.prog 140 #[.pointer (some ⟨g, 0, none⟩), .agg #[.int .u64 n, .int .i64 s, .slice B m q, .int .i64 (z : Int), .int .i64 k]] W fun e w' => e = .returned (.agg #[.int .u64 n, .int .i64 s, .slice B m q, .int .i64 (z : Int), .int .i64 k]) ∧
      ∃ A', A'.map (·.block) = A.map (·.block) ∧ w'.heap[g]? = some (.cells #[.slice A' (l.drop z).length (c - z), .int .i64 k] 152 (0, 0)) ∧ Fr W w' (fun k => k = g) ∧
        ∀ (w : World) (xs : List Int), l.length ≤ c → Kd.C (Kd.int .u8) w A l.length xs → Kd.C (Kd.int .u8) w A' (l.drop z).length (xs.drop z) := by
  have hlt := blk_lt hb
  have hu := Try.underlying81
  have hb0 := blk_alloc (blk_alloc hb (.cells #[.int .u64 n, .int .i64 s, .slice B m q, .int .i64 (z : Int), .int .i64 k] 81)) (.cells #[.int .u64 0, .int .i64 0, .slice none 0 0, .int .i64 0, .int .i64 0] 81)
  have c0 := (blk_cell hb0 0).trans rfl
  have c1 := (blk_cell hb0 1).trans rfl
  have z0 := blk_frozen hb0 0
  have z1 := blk_frozen hb0 1
  have hsz : (W.setCell ⟨g, 1, none⟩ (.int .i64 k)).heap.size = W.heap.size := by simp [World.setCell]
  have HB2 : Aside0 ((((W.setCell ⟨g, 1, none⟩ (.int .i64 k)).alloc (.cells #[.int .u64 n, .int .i64 s, .slice B m q, .int .i64 (z : Int), .int .i64 k] 81)).alloc (.cells #[.int .u64 0, .int .i64 0, .slice none 0 0, .int .i64 0, .int .i64 0] 81)).heap[g]? = some (.cells #[.slice A l.length c, .int .i64 k] 152 (0, 0))) := ⟨blk_alloc (blk_alloc (by simpa using blk_set hb 1 (.int .i64 k)) _) _⟩
  have HX2 : Aside0 (Box5 (((W.setCell ⟨g, 1, none⟩ (.int .i64 k)).alloc (.cells #[.int .u64 n, .int .i64 s, .slice B m q, .int .i64 (z : Int), .int .i64 k] 81)).alloc (.cells #[.int .u64 0, .int .i64 0, .slice none 0 0, .int .i64 0, .int .i64 0] 81)) W.heap.size n s (.slice B m q) z k) := ⟨blk_alloc (by have := blk_new (W.setCell ⟨g, 1, none⟩ (.int .i64 k)) (.cells #[.int .u64 n, .int .i64 s, .slice B m q, .int .i64 (z : Int), .int .i64 k] 81); rw [hsz] at this; exact this) _⟩
  have HY2 : Aside0 (Box5 (((W.setCell ⟨g, 1, none⟩ (.int .i64 k)).alloc (.cells #[.int .u64 n, .int .i64 s, .slice B m q, .int .i64 (z : Int), .int .i64 k] 81)).alloc (.cells #[.int .u64 0, .int .i64 0, .slice none 0 0, .int .i64 0, .int .i64 0] 81)) (W.heap.size + 1) 0 0 (.slice none 0 0) 0 0) := ⟨by have := blk_new ((W.setCell ⟨g, 1, none⟩ (.int .i64 k)).alloc (.cells #[.int .u64 n, .int .i64 s, .slice B m q, .int .i64 (z : Int), .int .i64 k] 81)) (.cells #[.int .u64 0, .int .i64 0, .slice none 0 0, .int .i64 0, .int .i64 0] 81); rw [World.size_alloc, hsz] at this; exact this⟩
  have HF2 : Aside0 (Fr W (((W.setCell ⟨g, 1, none⟩ (.int .i64 k)).alloc (.cells #[.int .u64 n, .int .i64 s, .slice B m q, .int .i64 (z : Int), .int .i64 k] 81)).alloc (.cells #[.int .u64 0, .int .i64 0, .slice none 0 0, .int .i64 0, .int .i64 0] 81)) (fun k => k = g)) := ⟨(((Fr.refl W (fun k => k = g)).setCell ⟨g, 1, none⟩ (.int .i64 k) (fun _ => rfl)).alloc _).alloc _⟩
  have hg : g < W.heap.size := hlt
  obtain ⟨A', hcut, hA', hR'⟩ := cut_ A l.length c z hz
  rw [← List.length_drop] at hR'
  have HCUT := Aside0.mk hR'
  have HA' := Aside0.mk hA'
  clear hA' hR' hb hb0 hsz
  go_enter Try.func140, Try.ntmps140
  go_wp2
  generalize (((W.setCell ⟨g, 1, none⟩ (.int .i64 k)).alloc (.cells #[.int .u64 n, .int .i64 s, .slice B m q, .int .i64 (z : Int), .int .i64 k] 81)).alloc (.cells #[.int .u64 0, .int .i64 0, .slice none 0 0, .int .i64 0, .int .i64 0] 81)) = W2 at *
  clear c0 c1 z0 z1
  have c0 := (blk_cell HB2.out 0).trans rfl
  have z0 := blk_frozen HB2.out 0
  obtain ⟨x0, x1, x2, x3, x4⟩ := HX2.out.cells
  obtain ⟨y0, y1, y2, y3, y4⟩ := HY2.out.cells
  have HB3 : Aside0 ((W2.setCell ⟨g, 0, none⟩ (.slice A' (l.length - z) (c - z))).drew.heap[g]? = some (.cells #[.slice A' (l.length - z) (c - z), .int .i64 k] 152 (0, 0))) := ⟨(blk_set HB2.out 0 (.slice A' (l.length - z) (c - z))).trans (by simp)⟩
  have HX3 := Aside0.mk (show Box5 (W2.setCell ⟨g, 0, none⟩ (.slice A' (l.length - z) (c - z))).drew W.heap.size n s (.slice B m q) z k from blk_far HX2.out (by show W.heap.size ≠ g; omega) _)
  have HY3 := Aside0.mk (show Box5 (W2.setCell ⟨g, 0, none⟩ (.slice A' (l.length - z) (c - z))).drew (W.heap.size + 1) 0 0 (.slice none 0 0) 0 0 from blk_far HY2.out (by show W.heap.size + 1 ≠ g; omega) _)
  have HF3 := Aside0.mk (HF2.out.setCell ⟨g, 0, none⟩ (.slice A' (l.length - z) (c - z)) (fun _ => rfl)).drew
  go_region
  generalize (W2.setCell ⟨g, 0, none⟩ (.slice A' (l.length - z) (c - z))).drew = W3 at *
  clear c0 z0 x0 x1 x2 x3 x4 y0 y1 y2 y3 y4
  obtain ⟨x0, x1, x2, x3, x4⟩ := HX3.out.cells
  obtain ⟨y0, y1, y2, y3, y4⟩ := HY3.out.cells
  have u0 := blk_frozen HY3.out 0
  have u1 := blk_frozen HY3.out 1
  have u2 := blk_frozen HY3.out 2
  have u3 := blk_frozen HY3.out 3
  have u4 := blk_frozen HY3.out 4
  have HY4 := Aside0.mk (HY3.out.set5 n s (z : Int) k (.slice B m q))
  have HF4 := Aside0.mk (HF3.out.far5 (b := W.heap.size + 1) (by omega) n s (z : Int) k (.slice B m q))
  have HB4 := Aside0.mk (blk_far (blk_far (blk_far (blk_far (blk_far HB3.out (p := ⟨W.heap.size + 1, 0, none⟩) (by show g ≠ W.heap.size + 1; omega) (.int .u64 n)) (p := ⟨W.heap.size + 1, 1, none⟩) (by show g ≠ W.heap.size + 1; omega) (.int .i64 s)) (p := ⟨W.heap.size + 1, 2, none⟩) (by show g ≠ W.heap.size + 1; omega) (.slice B m q)) (p := ⟨W.heap.size + 1, 3, none⟩) (by show g ≠ W.heap.size + 1; omega) (.int .i64 (z : Int))) (p := ⟨W.heap.size + 1, 4, none⟩) (by show g ≠ W.heap.size + 1; omega) (.int .i64 k))
  go_wp2
  refine bodyPost_ret (results_cell_row (fn := Try.f140) (p := 4) (ty := 81) rfl _ _ (W.heap.size + 1) 81 #[.int .u64 n, .int .i64 s, .slice B m q, .int .i64 (z : Int), .int .i64 k] (0, 0) _ rfl HY4.out Try.underlying81 rfl (by kernel_rfl)) rfl ?_
  refine ⟨rfl, A', HA'.out, ?_, HF4.out, HCUT.out⟩
  rw [List.length_drop]
  exact HB4.out
/-- RR: the calls. -/
theorem rUint_f (l : List Int) (f : Int) (hf : f ≠ 0) (k : Int) : rUint (l, f) k = (0, (l, f)) := by
  unfold rUint
  rw [rTake_f l f hf]
  split <;> rfl
theorem rNum_f (l : List Int) (f : Int) (hf : f ≠ 0) : rNum (l, f) = (0, (l, f)) := by
  unfold rNum
  rw [if_pos hf]
set_option maxRecDepth 100000 in
set_option maxHeartbeats 1000000 in
theorem RR.one {w0 W : World} {g : Nat} {s : List Int × Int} (h : RR w0 W g s) :
    Calls Try.prog 122 #[.pointer (some ⟨g, 0, none⟩)] W fun e w' => e = .returned (.int .i64 (rUint s 1).1) ∧ RR w0 w' g (rUint s 1).2 ∧ KeepG W w' g := by
  obtain ⟨s1, f⟩ := s
  obtain ⟨⟨l, A, c, hb, hlc, hC, hby, hl, hs⟩, hB, hg⟩ := h
  dsimp only at hb hs
  have c0 : W.cell? ⟨g, 0, none⟩ = some (.slice A l.length c) := (blk_cell hb 0).trans rfl
  have HRD := Aside0.mk (RD.uint A c l 1 W (Kd.C_below hC hB) hlc hby)
  have HB0 := Aside0.mk hb
  have HC := Aside0.mk hC
  have HBY := Aside0.mk hby
  have HB := Aside0.mk hB
  have HLC := Aside0.mk hlc
  have HG := Aside0.mk hg
  have HL := Aside0.mk hl
  by_cases hf : f = 0
  · subst hf
    obtain rfl := hs rfl
    have HG0 := got_read l ⟨1, 1, 0, 0, []⟩
    rw [show gotF (l, 0) ⟨1, 1, 0, 0, []⟩ = ((rUint (l, 0) 1).1, 0, [], (rUint (l, 0) 1).2) from rfl, show readF l ⟨1, 1, 0, 0, []⟩ = rdUint l 1 from rfl] at HG0
    obtain ⟨hv, hw, _, hfe, hz0, hz1, hd⟩ := HG0
    have HRG := rUint1_range (l, 0) hby
    have HRS := Aside0.mk HRG
    clear HRG hb hC hby hB hlc hg hl
    try dsimp only at *
    generalize rUint (l, 0) 1 = P at *
    generalize rdUint l 1 = T at *
    obtain ⟨pn, pl, pf⟩ := P
    obtain ⟨n, sg, raw, z, k⟩ := T
    try dsimp only at *
    obtain ⟨z, rfl⟩ := Int.eq_ofNat_of_zero_le hz0
    have HZ := Aside0.mk (show z ≤ l.length by omega)
    have HD := Aside0.mk hd
    obtain rfl := hv
    obtain rfl := hfe
    have hr0 := HRS.out.1
    have hr1 := HRS.out.2
    clear hd hz0 hz1
    go_enter Try.func122, Try.ntmps122
    go_wp2_with fail
    refine HRD.out.mono ?_
    rintro e w1 ⟨B, m, rfl, hq, hBA, hb1⟩
    have HB1 := Aside0.mk (show w1.heap[g]? = some (.cells #[.slice A l.length c, .int .i64 0] 152 (0, 0)) from (hb1.block _ (blk_lt HB0.out)).trans HB0.out)
    have HL1 := Aside0.mk hb1
    clear hq hBA hb1 c0
    have hfd : ∀ w : World, (Instr.field 81 (.agg #[.int .u64 pn, .int .i64 sg, .slice B raw.length m, .int .i64 (z : Int), .int .i64 pf]) 0).run Try.prog w = .ok (.int .u64 pn) w := fun _ => by kernel_rfl
    dsimp only
    go_wp2_with fail
    refine (take_ok g l A c w1 HB1.out _ _ _ z HZ.out HL.out B _ m).mono ?_
    rintro e w2 ⟨rfl, A', hA', hb2, hf2, hC2⟩
    have HB2 := Aside0.mk hb2
    have HF2 := Aside0.mk hf2
    have HC2 := Aside0.mk (hC2 w0 l HLC.out HC.out)
    clear hb2 hf2 hC2 hA'
    go_wp2
    go_ret
    refine ⟨rfl, ⟨⟨l.drop z, A', c - z, HB2.out, by have := HLC.out; rw [List.length_drop]; omega, HC2.out, HBY.out.drop z, by have := HL.out; rw [List.length_drop]; omega, fun h => (HD.out h).symm⟩, (below_then HB.out HB.out.size HL1.out).trans (HF2.out.below (Nat.le_trans HB.out.size HL1.out.size) (fun k hk => by rw [hk]; exact HG.out)), HG.out⟩, fun b o h hne => HF2.out.blk ((HL1.out.block _ (blk_lt h)).trans h) hne⟩
  · have hr : rUint (s1, f) 1 = (0, (s1, f)) := rUint_f s1 f hf 1
    rw [hr]
    have HF := Aside0.mk hf
    have HSS := Aside0.mk hs
    clear hr hb hC hby hB hlc hg hl hf hs
    generalize rdUint l 1 = T at *
    obtain ⟨n, sg, raw, z, k⟩ := T
    go_enter Try.func122, Try.ntmps122
    go_wp2_with fail
    refine HRD.out.mono ?_
    rintro e w1 ⟨B, m, rfl, hq, hBA, hb1⟩
    have HB1 := Aside0.mk (show w1.heap[g]? = some (.cells #[.slice A l.length c, .int .i64 f] 152 (0, 0)) from (hb1.block _ (blk_lt HB0.out)).trans HB0.out)
    have HL1 := Aside0.mk hb1
    clear hq hBA hb1 c0
    have hfd : ∀ w : World, (Instr.field 81 (.agg #[.int .u64 0, .int .i64 0, .slice none 0 0, .int .i64 0, .int .i64 0]) 0).run Try.prog w = .ok (.int .u64 0) w := fun _ => by kernel_rfl
    dsimp only
    go_wp2_with fail
    refine (take_fault g l A c f w1 HB1.out HF.out _ _ _ _ B _ m).mono ?_
    rintro e w2 ⟨rfl, hb2⟩
    have HL2 := Aside0.mk (Below.trans HL1.out (Below.mono hb2 HL1.out.size))
    clear hb2
    go_wp2
    go_ret
    exact ⟨rfl, ⟨⟨l, A, c, (HL2.out.block _ (blk_lt HB0.out)).trans HB0.out, HLC.out, HC.out, HBY.out, HL.out, HSS.out⟩, below_then HB.out HB.out.size HL2.out, HG.out⟩, fun b o h hne => (HL2.out.block _ (blk_lt h)).trans h⟩
set_option maxRecDepth 100000 in
set_option maxHeartbeats 1000000 in
theorem RR.num {w0 W : World} {g : Nat} {s : List Int × Int} (h : RR w0 W g s) :
    Calls Try.prog 123 #[.pointer (some ⟨g, 0, none⟩)] W fun e w' => e = .returned (.int .u64 (rNum s).1) ∧ RR w0 w' g (rNum s).2 ∧ KeepG W w' g := by
  obtain ⟨s1, f⟩ := s
  obtain ⟨⟨l, A, c, hb, hlc, hC, hby, hl, hs⟩, hB, hg⟩ := h
  dsimp only at hb hs
  have c0 : W.cell? ⟨g, 0, none⟩ = some (.slice A l.length c) := (blk_cell hb 0).trans rfl
  have HRD := Aside0.mk (RD.num A c l W (Kd.C_below hC hB) hlc hby hl)
  have HB0 := Aside0.mk hb
  have HC := Aside0.mk hC
  have HBY := Aside0.mk hby
  have HB := Aside0.mk hB
  have HLC := Aside0.mk hlc
  have HG := Aside0.mk hg
  have HL := Aside0.mk hl
  by_cases hf : f = 0
  · subst hf
    obtain rfl := hs rfl
    have HG0 := got_read l ⟨3, 0, 0, 0, []⟩
    rw [show gotF (l, 0) ⟨3, 0, 0, 0, []⟩ = ((rNum (l, 0)).1, 0, [], (rNum (l, 0)).2) from rfl, show readF l ⟨3, 0, 0, 0, []⟩ = fin3 l (numGo 10 0 0 l) from rfl] at HG0
    obtain ⟨hv, hw, _, hfe, hz0, hz1, hd⟩ := HG0
    have HRG := rNum_range (l, 0) hby
    have HRS := Aside0.mk HRG
    clear HRG hb hC hby hB hlc hg hl
    try dsimp only at *
    generalize rNum (l, 0) = P at *
    generalize fin3 l (numGo 10 0 0 l) = T at *
    obtain ⟨pn, pl, pf⟩ := P
    obtain ⟨n, sg, raw, z, k⟩ := T
    try dsimp only at *
    obtain ⟨z, rfl⟩ := Int.eq_ofNat_of_zero_le hz0
    have HZ := Aside0.mk (show z ≤ l.length by omega)
    have HD := Aside0.mk hd
    obtain rfl := hv
    obtain rfl := hfe
    clear hd hz0 hz1
    go_enter Try.func123, Try.ntmps123
    go_wp2_with fail
    refine HRD.out.mono ?_
    rintro e w1 ⟨B, m, rfl, hq, hBA, hb1⟩
    have HB1 := Aside0.mk (show w1.heap[g]? = some (.cells #[.slice A l.length c, .int .i64 0] 152 (0, 0)) from (hb1.block _ (blk_lt HB0.out)).trans HB0.out)
    have HL1 := Aside0.mk hb1
    clear hq hBA hb1 c0
    have hfd : ∀ w : World, (Instr.field 81 (.agg #[.int .u64 pn, .int .i64 sg, .slice B raw.length m, .int .i64 (z : Int), .int .i64 pf]) 0).run Try.prog w = .ok (.int .u64 pn) w := fun _ => by kernel_rfl
    dsimp only
    go_wp2_with fail
    refine (take_ok g l A c w1 HB1.out _ _ _ z HZ.out HL.out B _ m).mono ?_
    rintro e w2 ⟨rfl, A', hA', hb2, hf2, hC2⟩
    have HB2 := Aside0.mk hb2
    have HF2 := Aside0.mk hf2
    have HC2 := Aside0.mk (hC2 w0 l HLC.out HC.out)
    clear hb2 hf2 hC2 hA'
    go_wp2
    go_ret
    refine ⟨rfl, ⟨⟨l.drop z, A', c - z, HB2.out, by have := HLC.out; rw [List.length_drop]; omega, HC2.out, HBY.out.drop z, by have := HL.out; rw [List.length_drop]; omega, fun h => (HD.out h).symm⟩, (below_then HB.out HB.out.size HL1.out).trans (HF2.out.below (Nat.le_trans HB.out.size HL1.out.size) (fun k hk => by rw [hk]; exact HG.out)), HG.out⟩, fun b o h hne => HF2.out.blk ((HL1.out.block _ (blk_lt h)).trans h) hne⟩
  · have hr : rNum (s1, f) = (0, (s1, f)) := rNum_f s1 f hf
    rw [hr]
    have HF := Aside0.mk hf
    have HSS := Aside0.mk hs
    clear hr hb hC hby hB hlc hg hl hf hs
    generalize fin3 l (numGo 10 0 0 l) = T at *
    obtain ⟨n, sg, raw, z, k⟩ := T
    go_enter Try.func123, Try.ntmps123
    go_wp2_with fail
    refine HRD.out.mono ?_
    rintro e w1 ⟨B, m, rfl, hq, hBA, hb1⟩
    have HB1 := Aside0.mk (show w1.heap[g]? = some (.cells #[.slice A l.length c, .int .i64 f] 152 (0, 0)) from (hb1.block _ (blk_lt HB0.out)).trans HB0.out)
    have HL1 := Aside0.mk hb1
    clear hq hBA hb1 c0
    have hfd : ∀ w : World, (Instr.field 81 (.agg #[.int .u64 0, .int .i64 0, .slice none 0 0, .int .i64 0, .int .i64 0]) 0).run Try.prog w = .ok (.int .u64 0) w := fun _ => by kernel_rfl
    dsimp only
    go_wp2_with fail
    refine (take_fault g l A c f w1 HB1.out HF.out _ _ _ _ B _ m).mono ?_
    rintro e w2 ⟨rfl, hb2⟩
    have HL2 := Aside0.mk (Below.trans HL1.out (Below.mono hb2 HL1.out.size))
    clear hb2
    go_wp2
    go_ret
    exact ⟨rfl, ⟨⟨l, A, c, (HL2.out.block _ (blk_lt HB0.out)).trans HB0.out, HLC.out, HC.out, HBY.out, HL.out, HSS.out⟩, below_then HB.out HB.out.size HL2.out, HG.out⟩, fun b o h hne => (HL2.out.block _ (blk_lt h)).trans h⟩
set_option maxRecDepth 100000 in
set_option maxHeartbeats 1000000 in
theorem RR.int {w0 W : World} {g : Nat} {s : List Int × Int} (h : RR w0 W g s) :
    Calls Try.prog 124 #[.pointer (some ⟨g, 0, none⟩)] W fun e w' => e = .returned (.int .i64 (unzig (rUint s 8).1)) ∧ RR w0 w' g (rUint s 8).2 ∧ KeepG W w' g := by
  obtain ⟨s1, f⟩ := s
  obtain ⟨⟨l, A, c, hb, hlc, hC, hby, hl, hs⟩, hB, hg⟩ := h
  dsimp only at hb hs
  have c0 : W.cell? ⟨g, 0, none⟩ = some (.slice A l.length c) := (blk_cell hb 0).trans rfl
  have HRD := Aside0.mk (RD.int A c l W (Kd.C_below hC hB) hlc hby)
  have HB0 := Aside0.mk hb
  have HC := Aside0.mk hC
  have HBY := Aside0.mk hby
  have HB := Aside0.mk hB
  have HLC := Aside0.mk hlc
  have HG := Aside0.mk hg
  have HL := Aside0.mk hl
  by_cases hf : f = 0
  · subst hf
    obtain rfl := hs rfl
    have HG0 := got_read l ⟨2, 0, 0, 0, []⟩
    rw [show gotF (l, 0) ⟨2, 0, 0, 0, []⟩ = (0, unzig (rUint (l, 0) 8).1, [], (rUint (l, 0) 8).2) from rfl, show readF l ⟨2, 0, 0, 0, []⟩ = rdInt l from rfl] at HG0
    obtain ⟨hv, hw, _, hfe, hz0, hz1, hd⟩ := HG0
    have HRG := rUint_range (l, 0) 8 hby
    have HRS := Aside0.mk HRG
    clear HRG hb hC hby hB hlc hg hl
    try dsimp only at *
    generalize rUint (l, 0) 8 = P at *
    generalize rdInt l = T at *
    obtain ⟨pn, pl, pf⟩ := P
    obtain ⟨n, sg, raw, z, k⟩ := T
    try dsimp only at *
    obtain ⟨z, rfl⟩ := Int.eq_ofNat_of_zero_le hz0
    have HZ := Aside0.mk (show z ≤ l.length by omega)
    have HD := Aside0.mk hd
    obtain rfl := hw
    obtain rfl := hfe
    clear hd hz0 hz1
    go_enter Try.func124, Try.ntmps124
    go_wp2_with fail
    refine HRD.out.mono ?_
    rintro e w1 ⟨B, m, rfl, hq, hBA, hb1⟩
    have HB1 := Aside0.mk (show w1.heap[g]? = some (.cells #[.slice A l.length c, .int .i64 0] 152 (0, 0)) from (hb1.block _ (blk_lt HB0.out)).trans HB0.out)
    have HL1 := Aside0.mk hb1
    clear hq hBA hb1 c0
    have hfd : ∀ w : World, (Instr.field 81 (.agg #[.int .u64 n, .int .i64 (unzig pn), .slice B raw.length m, .int .i64 (z : Int), .int .i64 pf]) 1).run Try.prog w = .ok (.int .i64 (unzig pn)) w := fun _ => by kernel_rfl
    dsimp only
    go_wp2_with fail
    refine (take_ok g l A c w1 HB1.out _ _ _ z HZ.out HL.out B _ m).mono ?_
    rintro e w2 ⟨rfl, A', hA', hb2, hf2, hC2⟩
    have HB2 := Aside0.mk hb2
    have HF2 := Aside0.mk hf2
    have HC2 := Aside0.mk (hC2 w0 l HLC.out HC.out)
    clear hb2 hf2 hC2 hA'
    go_wp2
    go_ret
    refine ⟨rfl, ⟨⟨l.drop z, A', c - z, HB2.out, by have := HLC.out; rw [List.length_drop]; omega, HC2.out, HBY.out.drop z, by have := HL.out; rw [List.length_drop]; omega, fun h => (HD.out h).symm⟩, (below_then HB.out HB.out.size HL1.out).trans (HF2.out.below (Nat.le_trans HB.out.size HL1.out.size) (fun k hk => by rw [hk]; exact HG.out)), HG.out⟩, fun b o h hne => HF2.out.blk ((HL1.out.block _ (blk_lt h)).trans h) hne⟩
  · have hr : rUint (s1, f) 8 = (0, (s1, f)) := rUint_f s1 f hf 8
    rw [hr]
    have HF := Aside0.mk hf
    have HSS := Aside0.mk hs
    clear hr hb hC hby hB hlc hg hl hf hs
    generalize rdInt l = T at *
    obtain ⟨n, sg, raw, z, k⟩ := T
    go_enter Try.func124, Try.ntmps124
    go_wp2_with fail
    refine HRD.out.mono ?_
    rintro e w1 ⟨B, m, rfl, hq, hBA, hb1⟩
    have HB1 := Aside0.mk (show w1.heap[g]? = some (.cells #[.slice A l.length c, .int .i64 f] 152 (0, 0)) from (hb1.block _ (blk_lt HB0.out)).trans HB0.out)
    have HL1 := Aside0.mk hb1
    clear hq hBA hb1 c0
    have hfd : ∀ w : World, (Instr.field 81 (.agg #[.int .u64 0, .int .i64 0, .slice none 0 0, .int .i64 0, .int .i64 0]) 1).run Try.prog w = .ok (.int .i64 0) w := fun _ => by kernel_rfl
    dsimp only
    go_wp2_with fail
    refine (take_fault g l A c f w1 HB1.out HF.out _ _ _ _ B _ m).mono ?_
    rintro e w2 ⟨rfl, hb2⟩
    have HL2 := Aside0.mk (Below.trans HL1.out (Below.mono hb2 HL1.out.size))
    clear hb2
    go_wp2
    go_ret
    exact ⟨by show Ending.returned (.int .i64 0) = Ending.returned (.int .i64 (unzig 0)); rw [show unzig 0 = 0 by decide], ⟨⟨l, A, c, (HL2.out.block _ (blk_lt HB0.out)).trans HB0.out, HLC.out, HC.out, HBY.out, HL.out, HSS.out⟩, below_then HB.out HB.out.size HL2.out, HG.out⟩, fun b o h hne => (HL2.out.block _ (blk_lt h)).trans h⟩
end Go.Proofs.Ytalpemoodollpaa.P
/- Tokens: what is put, one behind the other, and read again. -/
namespace Go.Proofs.Ytalpemoodollpaa.P
open Go.RowKit Go.Proofs.YtalpemoodollpaaW.PrintWords Go.Proofs.YtalpemoodollpaaW.PrintLast Go.Proofs.YtalpemoodollpaaW.PrintMore
set_option linter.unusedVariables false
set_option linter.unusedSimpArgs false
inductive Tok where
  | one (x : Int)
  | num (n : Int)
  | int (n : Int)
namespace Tok
def form : Tok → List Int
  | one x => [x]
  | num n => numForm n.toNat
  | int n => intForm n
def next : Tok → List Int × Int → List Int × Int
  | one _, s => (rUint s 1).2
  | num _, s => (rNum s).2
  | int _, s => (rUint s 8).2
def ok : Tok → Prop
  | one _ => True
  | num n => 0 ≤ n ∧ n < 18446744073709551616
  | int n => -9223372036854775808 ≤ n ∧ n ≤ 9223372036854775807
end Tok
def flat (ts : List Tok) : List Int := ts.flatMap Tok.form
theorem flat_cons (t : Tok) (ts : List Tok) : flat (t :: ts) = t.form ++ flat ts := rfl
/-- A state that has too few bytes for these. -/
def Sh (ts : List Tok) (s : List Int × Int) : Prop := s.2 = 3 ∨ (s.2 = 0 ∧ ∃ m, m < (flat ts).length ∧ s.1 = (flat ts).take m)
theorem rUint_f' (s : List Int × Int) (hf : s.2 ≠ 0) (k : Int) : rUint s k = (0, s) := rUint_f s.1 s.2 hf k
theorem rNum_f' (s : List Int × Int) (hf : s.2 ≠ 0) : rNum s = (0, s) := rNum_f s.1 s.2 hf
theorem next_f (t : Tok) (s : List Int × Int) (hf : s.2 ≠ 0) : t.next s = s := by
  cases t
  · show (rUint s 1).2 = s; rw [rUint_f' s hf]
  · show (rNum s).2 = s; rw [rNum_f' s hf]
  · show (rUint s 8).2 = s; rw [rUint_f' s hf]
theorem rUint_byte (x : Int) (t : List Int) : rUint (x :: t, 0) 1 = (x, (t, 0)) := by
  unfold rUint
  rw [if_neg (by decide), show (1 : Int).toNat = 1 from rfl, rTake_one]
  simp [beNum]
theorem next_full (t : Tok) (h : t.ok) (rest : List Int) : t.next (t.form ++ rest, 0) = (rest, 0) := by
  cases t with
  | one x => show (rUint (x :: rest, 0) 1).2 = _; rw [rUint_byte]
  | num n =>
    show (rNum (numForm n.toNat ++ rest, 0)).2 = _
    have h1 := h.1
    have h2 := h.2
    rw [rNum_form n.toNat (by omega)]
  | int n => exact (intForm_read n h.1 h.2 rest).2
theorem next_short (t : Tok) (h : t.ok) (l : List Int) (m : Nat) (hm : m < t.form.length) (hl : l = t.form.take m) : (t.next (l, 0)).2 = 3 := by
  subst hl
  cases t with
  | one x =>
    have : m = 0 := by simp [Tok.form] at hm; omega
    subst this
    rfl
  | num n =>
    have h1 := h.1
    have h2 := h.2
    exact rNum_short n.toNat m (by omega) hm
  | int n =>
    show (rUint _ 8).2.2 = 3
    have hlen : ((intForm n).take m).length < 8 := by rw [List.length_take, intForm_length]; have : m < (intForm n).length := hm; rw [intForm_length] at this; omega
    rw [rUint_short _ 8 (by decide) (by decide) (by show (((intForm n).take m).length : Int) < 8; omega)]
theorem Sh.step {t : Tok} {ts : List Tok} {s : List Int × Int} (h : Sh (t :: ts) s) (hok : t.ok) : Sh ts (t.next s) := by
  obtain ⟨l, f⟩ := s
  rcases h with h | ⟨h, m, hm, hl⟩
  · have h' : f = 3 := h
    left
    rw [next_f t (l, f) (by show f ≠ 0; omega)]
    exact h'
  · have h' : f = 0 := h
    subst h'
    have hl : l = (flat (t :: ts)).take m := hl
    rw [flat_cons] at hm hl
    by_cases hmt : m < t.form.length
    · left
      refine next_short t hok l m hmt ?_
      rw [hl, List.take_append_of_le_length (by omega)]
    · right
      have e : l = t.form ++ (flat ts).take (m - t.form.length) := by
        rw [hl, List.take_append, List.take_of_length_le (by omega)]
      rw [e, next_full t hok]
      exact ⟨rfl, m - t.form.length, by rw [List.length_append] at hm; omega, rfl⟩
theorem Sh.nil {s : List Int × Int} (h : Sh [] s) : s.2 = 3 := by
  rcases h with h | ⟨_, m, hm, _⟩
  · exact h
  · simp [flat] at hm
theorem Sh.start (ts : List Tok) (m : Nat) (hm : m < (flat ts).length) : Sh ts ((flat ts).take m, 0) := .inr ⟨rfl, m, hm, rfl⟩
/-- A fault stays. -/
theorem keep_uint {s : List Int × Int} {k : Int} (h : (rUint s k).2.2 = 0) : s.2 = 0 := by
  apply Classical.byContradiction
  intro hf
  rw [rUint_f' s hf] at h
  exact hf h
theorem keep_num {s : List Int × Int} (h : (rNum s).2.2 = 0) : s.2 = 0 := by
  apply Classical.byContradiction
  intro hf
  rw [rNum_f' s hf] at h
  exact hf h
theorem byte_back {s : List Int × Int} (hb : Byt s.1) (h : (rUint s 1).2.2 = 0) : s.1 = (rUint s 1).1 :: (rUint s 1).2.1 := by
  obtain ⟨l, f⟩ := s
  obtain rfl : f = 0 := keep_uint h
  cases l with
  | nil => exact absurd h (by decide)
  | cons x t => rw [rUint_byte]
theorem num_back {s : List Int × Int} (hb : Byt s.1) (h : (rNum s).2.2 = 0) : s.1 = numForm (rNum s).1.toNat ++ (rNum s).2.1 := by
  obtain ⟨l, f⟩ := s
  obtain rfl : f = 0 := keep_num h
  obtain ⟨n, e1, e2, e3⟩ := rNum_back l hb h
  rw [e2, Int.toNat_natCast]
  exact e1
theorem int_back {s : List Int × Int} (hb : Byt s.1) (h : (rUint s 8).2.2 = 0) : s.1 = intForm (unzig (rUint s 8).1) ++ (rUint s 8).2.1 := by
  obtain ⟨l, f⟩ := s
  obtain rfl : f = 0 := keep_uint h
  exact (intForm_back l hb h).1
end Go.Proofs.Ytalpemoodollpaa.P
/- Messages back and forth, plain. -/
namespace Go.Proofs.Ytalpemoodollpaa.P
open Go.RowKit Go.Proofs.YtalpemoodollpaaW.PrintWords Go.Proofs.YtalpemoodollpaaW.PrintLast Go.Proofs.YtalpemoodollpaaW.PrintMore
set_option linter.unusedVariables false
set_option linter.unusedSimpArgs false
theorem rI_ (n : Int) (h0 : -9223372036854775808 ≤ n) (h1 : n ≤ 9223372036854775807) (rest : List Int) : unzig (rUint (intForm n ++ rest, 0) 8).1 = n ∧ (rUint (intForm n ++ rest, 0) 8).2 = (rest, 0) := intForm_read n h0 h1 rest
theorem rN_ (n : Int) (h0 : 0 ≤ n) (h1 : n < 18446744073709551616) (rest : List Int) : rNum (numForm n.toNat ++ rest, 0) = (n, (rest, 0)) := by
  rw [rNum_form n.toNat (by omega), Int.toNat_of_nonneg h0]
theorem i64_unzig_ (s : List Int × Int) (h : Byt s.1) : i64B (unzig (rUint s 8).1) = true := by
  have h1 := rUint_range s 8 h
  have := unzig_range _ h1.1 h1.2
  simp [i64B, within_]
  omega
theorem mn_le_ {a b : Int} (h : a ≤ b) : mn a b = a := by unfold mn; rw [if_neg (by omega)]
theorem mn_small {a : Int} (h0 : 0 ≤ mn a 4611686018427387905) (h1 : mn a 4611686018427387905 ≤ 4611686018427387904) : mn a 4611686018427387905 = a := by
  by_cases h : a ≤ 4611686018427387905
  · exact mn_le_ h
  · unfold mn at h1 ⊢
    split at h1 <;> rename_i hh <;> omega
/-- What is put is decoded. -/
theorem msgDec_form (m : S29) (h : msgRight m = true) (h6 : i64B m.f6 = true) (h7 : i64B m.f7 = true) : msgDec (msgForm m) = (m, 0) := by
  have hr := h
  obtain ⟨f0, f1, f2, f3, f4, f5, f6, f7, f8⟩ := m
  simp only [msgRight, Bool.and_eq_true, within_iff] at hr
  simp only [i64B, within_iff] at h6 h7
  have e2 : mn f2 4611686018427387905 = f2 := mn_le_ (by omega)
  have e3 : mn f3 4611686018427387905 = f3 := mn_le_ (by omega)
  have n2 := fun r => rN_ f2 (by omega) (by omega) r
  have n3 := fun r => rN_ f3 (by omega) (by omega) r
  have i4 := fun r => rI_ f4 (by omega) (by omega) r
  have i5 := fun r => rI_ f5 (by omega) (by omega) r
  have i6 := fun r => rI_ f6 h6.1 h6.2 r
  have i7 := rI_ f7 h7.1 h7.2 []
  rw [List.append_nil] at i7
  unfold msgForm msgDec msgMid msgTail
  simp only [List.append_assoc, List.cons_append, List.nil_append, rUint_byte, n2, n3]
  rw [(i4 _).1, (i4 _).2, (i5 _).1, (i5 _).2, (i6 _).1, (i6 _).2, i7.1, i7.2]
  unfold msgFin
  rw [if_neg (by simp), e2, e3, if_neg (by rw [h]; simp)]
theorem msgFin_ok {k sym seq tick id wi price qty code : Int} {s : List Int × Int} (h : (msgFin k sym seq tick id wi price qty code s).2 = 0) :
    s = ([], 0) ∧ (msgFin k sym seq tick id wi price qty code s).1 = ⟨k, sym, seq, tick, id, wi, price, qty, code⟩ ∧ msgRight ⟨k, sym, seq, tick, id, wi, price, qty, code⟩ = true := by
  unfold msgFin at h ⊢
  by_cases hs : s.2 = 0
  · rw [if_neg (show ¬ s.2 ≠ 0 from fun x => x hs)] at h ⊢
    by_cases h1 : 0 < s.1.length ∨ msgRight ⟨k, sym, mn seq 4611686018427387905, mn tick 4611686018427387905, id, wi, price, qty, code⟩ = false
    · rw [if_pos h1] at h; exact absurd h (by decide)
    · rw [if_neg h1]
      have hl : s.1 = [] := List.eq_nil_of_length_eq_zero (by omega)
      have hr : msgRight ⟨k, sym, mn seq 4611686018427387905, mn tick 4611686018427387905, id, wi, price, qty, code⟩ = true := by
        cases hb : msgRight ⟨k, sym, mn seq 4611686018427387905, mn tick 4611686018427387905, id, wi, price, qty, code⟩ with
        | true => rfl
        | false => exact absurd (.inr hb) h1
      have hq := hr
      simp only [msgRight, Bool.and_eq_true, within_iff] at hq
      have e2 : mn seq 4611686018427387905 = seq := mn_small (by omega) (by omega)
      have e3 : mn tick 4611686018427387905 = tick := mn_small (by omega) (by omega)
      rw [e2, e3] at hr ⊢
      exact ⟨Prod.ext hl hs, rfl, hr⟩
  · rw [if_pos (show s.2 ≠ 0 from hs)] at h
    exact absurd h hs
theorem msgDec_zero (b : List Int) (h : (msgDec b).2 ≠ 0) : (msgDec b).1 = ⟨0, 0, 0, 0, 0, 0, 0, 0, 0⟩ := by
  unfold msgDec msgMid msgTail msgFin at h ⊢
  split
  · rfl
  · split
    · rfl
    · rename_i h1 h2
      rw [if_neg h1, if_neg h2] at h
      exact absurd rfl h
/-- What is decoded is right, and has just those bytes. -/
theorem msgDec_back (b : List Int) (hb : Byt b) (h : (msgDec b).2 = 0) : msgRight (msgDec b).1 = true ∧ msgForm (msgDec b).1 = b ∧ i64B (msgDec b).1.f6 = true ∧ i64B (msgDec b).1.f7 = true := by
  have b0 : Byt ((b, (0 : Int)) : List Int × Int).1 := hb
  generalize hs0 : ((b, (0 : Int)) : List Int × Int) = s0 at b0
  have e0 : b = s0.1 := by rw [← hs0]
  unfold msgDec msgMid msgTail at h ⊢
  rw [hs0] at h ⊢
  obtain ⟨hs, he, hr⟩ := msgFin_ok h
  rw [he]
  have b1 := byt_rUint s0 1 b0
  have b2 := byt_rUint _ 1 b1
  have b3 := byt_rUint _ 1 b2
  have b4 := byt_rNum _ b3
  have b5 := byt_rNum _ b4
  have b6 := byt_rUint _ 8 b5
  have b7 := byt_rUint _ 8 b6
  have b8 := byt_rUint _ 8 b7
  have z9 := congrArg Prod.snd hs
  have z8 := keep_uint z9
  have z7 := keep_uint z8
  have z6 := keep_uint z7
  have z5 := keep_uint z6
  have z4 := keep_num z5
  have z3 := keep_num z4
  have z2 := keep_uint z3
  have z1 := keep_uint z2
  have x0 := byte_back b0 z1
  have x1 := byte_back b1 z2
  have x2 := byte_back b2 z3
  have x3 := num_back b3 z4
  have x4 := num_back b4 z5
  have x5 := int_back b5 z6
  have x6 := int_back b6 z7
  have x7 := int_back b7 z8
  have x8 := int_back b8 z9
  have x9 := congrArg Prod.fst hs
  refine ⟨hr, ?_, i64_unzig_ _ b7, i64_unzig_ _ b8⟩
  unfold msgForm
  dsimp only at x9 ⊢
  conv => rhs; rw [e0, x0, x1, x2, x3, x4, x5, x6, x7, x8, x9]
  simp [List.append_assoc]
end Go.Proofs.Ytalpemoodollpaa.P
/- The law of MessageBack, plain. -/
namespace Go.Proofs.Ytalpemoodollpaa.P
open Go.RowKit Go.Proofs.YtalpemoodollpaaW.PrintWords Go.Proofs.YtalpemoodollpaaW.PrintLast Go.Proofs.YtalpemoodollpaaW.PrintMore
set_option linter.unusedVariables false
set_option linter.unusedSimpArgs false
def I64s (l : List S29) : Prop := ∀ m ∈ l, i64B m.f6 = true ∧ i64B m.f7 = true
theorem strm_right (l : List S29) (h : ∀ m ∈ l, msgRight m = true) : ∀ acc, strm l acc = (acc ++ putAll (l.map msgForm), 0) := by
  induction l with
  | nil => intro acc; simp [strm, putAll]
  | cons m l ih =>
    intro acc
    rw [strm, if_pos (h m (by simp)), ih (fun x hx => h x (by simp [hx]))]
    simp [putAll]
theorem firstBad_forms (l : List S29) (h : ∀ m ∈ l, msgRight m = true) (h6 : I64s l) : firstBad (l.map msgForm) = 0 := by
  induction l with
  | nil => rfl
  | cons m l ih =>
    rw [List.map_cons, firstBad, msgDec_form m (h m (by simp)) (h6 m (by simp)).1 (h6 m (by simp)).2, if_neg (by simp)]
    exact ih (fun x hx => h x (by simp [hx])) (fun x hx => h6 x (by simp [hx]))
theorem msgsOf_forms (l : List S29) (h : ∀ m ∈ l, msgRight m = true) (h6 : I64s l) : msgsOf (l.map msgForm) = l := by
  induction l with
  | nil => rfl
  | cons m l ih =>
    have := ih (fun x hx => h x (by simp [hx])) (fun x hx => h6 x (by simp [hx]))
    unfold msgsOf at this ⊢
    rw [List.map_cons, List.map_cons, this, msgDec_form m (h m (by simp)) (h6 m (by simp)).1 (h6 m (by simp)).2]
theorem putAll_forms (l : List S29) (h : ∀ m ∈ l, msgRight m = true) : Byt (putAll (l.map msgForm)) ∧ (putAll (l.map msgForm)).length ≤ l.length * 57 := by
  induction l with
  | nil => exact ⟨fun x hx => by simp [putAll] at hx, by simp [putAll]⟩
  | cons m l ih =>
    obtain ⟨h1, h2⟩ := ih (fun x hx => h x (by simp [hx]))
    have hm := h m (by simp)
    have e : putAll ((m :: l).map msgForm) = putF (msgForm m) ++ putAll (l.map msgForm) := by simp [putAll]
    rw [e]
    refine ⟨(putF_byt (msgForm_byt m hm)).append h1, ?_⟩
    rw [List.length_append, List.length_cons]
    have := (putF_form m hm).2
    omega
theorem msgAll_forms (l : List S29) (h : ∀ m ∈ l, msgRight m = true) (h6 : I64s l) : msgAll (putAll (l.map msgForm)) = (l, 0) := by
  have hf := frames_put (l.map msgForm) (fun p hp => by
    obtain ⟨m, hm, rfl⟩ := List.mem_map.1 hp
    have := (msgForm_length m (h m hm)).1
    omega)
  unfold msgAll
  rw [hf]
  dsimp only
  rw [firstBad_forms l h h6, if_neg (by simp), if_neg (by simp), msgsOf_forms l h h6]
theorem back_j3 (l1 : List Int) (hb : Byt l1) (hl : l1.length ≤ 200) (k : Nat) : damperlaw06_MessageBack.j3 (k + 1) l1 false = some true := by
  rw [damperlaw06_MessageBack.j3, if_neg (by decide)]
  have e : message_Decode.f l1 = some ((msgDec l1).1.f0, (msgDec l1).1.f1, (msgDec l1).1.f2, (msgDec l1).1.f3, (msgDec l1).1.f4, (msgDec l1).1.f5, (msgDec l1).1.f6, (msgDec l1).1.f7, (msgDec l1).1.f8, (msgDec l1).2) := by
    unfold message_Decode.f
    rw [if_pos ⟨bytB_of hb, by omega⟩]
  rw [e]
  simp only [Option.bind_some]
  by_cases h : (msgDec l1).2 = 0
  · obtain ⟨h1, h2, h6, h7⟩ := msgDec_back l1 hb h
    rw [if_pos h, msgEncode_f _ h6 h7, if_pos h1]
    simp only [Option.bind_some, if_pos, h2, same_of_eq, alive06]
  · rw [if_neg h, msgDec_zero l1 h]
    simp [alive06]
theorem back_l0 (l : List S29) (l1 : List Int) (h6 : I64s l) (hl : l.length ≤ 60) (hb : Byt l1) (hl1 : l1.length ≤ 200) : ∀ (j i : Nat), i + j = l.length → (∀ m ∈ l.take i, msgRight m = true) → ∀ k, 2 * j + 100 ≤ k →
    damperlaw06_MessageBack.l0 k l l1 (i : Int) = some true := by
  intro j
  induction j with
  | zero =>
    intro i hi hr k hk
    obtain ⟨k, rfl⟩ : ∃ k', k = k' + 1 := ⟨k - 1, by omega⟩
    obtain ⟨k, rfl⟩ : ∃ k', k = k' + 1 := ⟨k - 1, by omega⟩
    rw [List.take_of_length_le (by omega)] at hr
    have e1 : message_Stream.f (k + 1) l = some (strm l []) := stream_l0 l h6 hl l.length 0 [] (by omega) (by simp) (k + 1) (by omega)
    rw [strm_right l hr, List.nil_append] at e1
    have hp := putAll_forms l hr
    have e2 : message_All.f (putAll (l.map msgForm)) = some (l, 0) := by
      unfold message_All.f
      rw [if_pos ⟨bytB_of hp.1, by omega⟩, msgAll_forms l hr h6]
    rw [damperlaw06_MessageBack.l0, if_neg (by omega), e1]
    simp only [Option.bind_some, e2, if_true, if_pos, lists_refl l (by omega) (k + 1) (by omega), Bool.not_true]
    exact back_j3 l1 hb hl1 k
  | succ j ih =>
    intro i hi hr k hk
    obtain ⟨k, rfl⟩ : ∃ k', k = k' + 1 := ⟨k - 1, by omega⟩
    obtain ⟨k, rfl⟩ : ∃ k', k = k' + 1 := ⟨k - 1, by omega⟩
    have hm := h6 _ (rd29_mem l i (by omega))
    rw [damperlaw06_MessageBack.l0, if_pos (by omega), if_pos (by omega), msgEncode_f _ hm.1 hm.2, msgRight_up _ (k + 1) (by omega)]
    simp only [Option.bind_some]
    have hts : l.take (i + 1) = l.take i ++ [rd_T29 l (i : Int)] := by
      rw [rd_T29, Int.toNat_natCast, List.getD_eq_getElem?_getD, List.getElem?_eq_getElem (by omega)]
      exact List.take_succ_eq_append_getElem (by omega)
    by_cases hri : msgRight (rd_T29 l (i : Int)) = true
    · have hl5 := (msgForm_length _ hri).1
      rw [if_pos hri, hri]
      dsimp only
      have hd : decide (((msgForm (rd_T29 l (i : Int))).length : Int) > 64) = false := decide_eq_false (by omega)
      rw [hd, if_neg (by decide), damperlaw06_MessageBack.j2, if_neg (by decide), if_pos rfl, wrap_succ i (by omega)]
      refine ih (i + 1) (by omega) (fun m hmm => ?_) k (by omega)
      rw [hts] at hmm
      rcases List.mem_append.1 hmm with h | h
      · exact hr m h
      · rw [List.mem_singleton.1 h]; exact hri
    · have hrf : msgRight (rd_T29 l (i : Int)) = false := by simpa using hri
      rw [if_neg hri, hrf]
      dsimp only
      rw [if_neg (by decide), damperlaw06_MessageBack.j2, if_neg (by decide), if_neg (by decide), alive06]
      rfl
theorem messageBack_f (l0 : List S29) (l1 : List Int) (h0 : I64s l0) (hb : Byt l1) (k : Nat) (hk : 300 ≤ k) : damperlaw06_MessageBack.f (k + 1) l0 l1 = some true := by
  unfold damperlaw06_MessageBack.f
  by_cases h1 : (l0.length : Int) > 60
  · rw [if_pos h1, damperlaw06_MessageBack.j0, if_pos rfl, alive06]
    rfl
  · rw [if_neg h1]
    by_cases h2 : (l1.length : Int) > 200
    · rw [damperlaw06_MessageBack.j0, if_pos (by simpa using h2), alive06]
      rfl
    · rw [damperlaw06_MessageBack.j0, if_neg (by simpa using h2)]
      exact back_l0 l0 l1 h0 (by omega) hb (by omega) l0.length 0 (by omega) (by simp) k (by omega)
theorem messageBack_calls (A0 : Option Addr) (c0 : Nat) (l0 : List S29) (A1 : Option Addr) (c1 : Nat) (l1 : List Int) (w : World) (hr0 : Kd.C k29 w A0 l0.length l0) (hc0 : l0.length ≤ c0) (hr1 : Kd.C (Kd.int .u8) w A1 l1.length l1) (hc1 : l1.length ≤ c1)
    (h0 : I64s l0) (hb : Byt l1) :
    Calls Try.prog 24 #[.slice A0 l0.length c0, .slice A1 l1.length c1] w fun e w' => e = .returned (.bool true) ∧ Below w.heap.size w w' :=
  damperlaw06_MessageBack.calls (300 + 1) A0 c0 l0 A1 c1 l1 true w hr0 hc0 hr1 hc1 (messageBack_f l0 l1 h0 hb 300 (Nat.le_refl _))
end Go.Proofs.Ytalpemoodollpaa.P
/- Bytes that came in are bytes. -/
namespace Go.Proofs.Ytalpemoodollpaa.P
open Go.RowKit Go.Proofs.YtalpemoodollpaaW.PrintWords Go.Proofs.YtalpemoodollpaaW.PrintLast Go.Proofs.YtalpemoodollpaaW.PrintMore
theorem byt_wf_ {l : List Int} (h : ∀ y ∈ l, (Lit.int .u8 y).wf = true) : Byt l := fun b hb => by
  have := bounds_u8 (h b hb)
  omega
end Go.Proofs.Ytalpemoodollpaa.P
