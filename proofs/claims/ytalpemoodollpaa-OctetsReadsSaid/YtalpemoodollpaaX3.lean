/- Contracts and plain laws: HReadsLaw. -/
import Derived.Test.YtalpemoodollpaaX2
/- The walk of OctetsReads. -/
namespace Go.Proofs.Ytalpemoodollpaa.P
open Go.RowKit Go.Proofs.YtalpemoodollpaaW.PrintWords Go.Proofs.YtalpemoodollpaaW.PrintLast Go.Proofs.YtalpemoodollpaaW.PrintMore
set_option linter.unusedVariables false
set_option linter.unusedSimpArgs false
theorem readF_raw (l : List Int) (p : S49) : (readF l p).2.2.1 = [] ∨ (readF l p).2.2.1 = l.take p.f1.toNat ∧ p.f1.toNat ≤ l.length := by
  unfold readF
  split
  · exact .inl (rdUint_raw l _)
  · split
    · exact .inl (rdInt_raw l).1
    · split
      · exact .inl (fin3_raw l _)
      · split
        · unfold rdRaw
          split
          · exact .inl rfl
          · split
            · exact .inl rfl
            · exact .inr ⟨rfl, by omega⟩
        · exact .inl rfl
theorem readF_len (l : List Int) (p : S49) : (readF l p).2.2.1.length ≤ l.length := by
  rcases readF_raw l p with h | ⟨h, k⟩
  · rw [h]; simp
  · rw [h, List.length_take]; omega
theorem readF_C {W : World} {A : Option Addr} (l : List Int) (p : S49) (B : Option Addr) (hC : Kd.C (Kd.int .u8) W A l.length l) (h : B = A ∨ (readF l p).2.2.1 = []) : Kd.C (Kd.int .u8) W B (readF l p).2.2.1.length (readF l p).2.2.1 := by
  rcases readF_raw l p with hr | ⟨hr, k⟩
  · rw [hr]; exact C_empty W B
  · rcases h with rfl | h
    · rw [hr]
      have := C_take hC p.f1.toNat k
      rw [List.length_take, Nat.min_eq_left k]
      exact this
    · rw [h]; exact C_empty W B
theorem numGo_len (k : Nat) : ∀ (i : Nat) (n : Int) (l : List Int), (numGo k i n l).2.1.length ≤ l.length := by
  induction k with
  | zero => intro i n l; simp [numGo]
  | succ k ih =>
    intro i n l
    cases l with
    | nil => simp [numGo]
    | cons b bs =>
      rw [numGo]
      split
      · simp
      · split
        · exact Nat.le_trans (ih _ _ _) (by simp)
        · split <;> simp
theorem rTake_len (s : List Int × Int) (n : Nat) : (rTake s n).2.2.1.length ≤ s.1.length := by
  unfold rTake
  split
  · exact Nat.le_refl _
  · split
    · exact Nat.le_refl _
    · simp
theorem rUint_len (s : List Int × Int) (k : Int) : (rUint s k).2.1.length ≤ s.1.length := by
  unfold rUint
  split
  · exact Nat.le_refl _
  · exact rTake_len s k.toNat
theorem gotF_len (s : List Int × Int) (p : S49) : (gotF s p).2.2.2.1.length ≤ s.1.length := by
  unfold gotF
  split
  · exact rUint_len _ _
  · split
    · exact rUint_len _ _
    · split
      · unfold rNum
        split
        · exact Nat.le_refl _
        · exact numGo_len _ _ _ _
      · split
        · split
          · exact Nat.le_refl _
          · exact rTake_len _ _
        · exact Nat.le_refl _
theorem gotF_read (l : List Int) (f : Int) (p : S49) (hl : l.length ≤ 200) : if f = 0 then ∃ rs', gotF (l, f) p = ((readF l p).1, (readF l p).2.1, (readF l p).2.2.1, (rs', (readF l p).2.2.2.2)) ∧ 0 ≤ (readF l p).2.2.2.1 ∧ (readF l p).2.2.2.1 ≤ l.length ∧ ((readF l p).2.2.2.2 = 0 → rs' = l.drop (readF l p).2.2.2.1.toNat) ∧ rs'.length ≤ 200 else gotF (l, f) p = (0, 0, [], (l, f)) := by
  split
  · rename_i h
    subst h
    obtain ⟨h1, h2, h3, h4, h5, h6, h7⟩ := got_read l p
    refine ⟨(gotF (l, 0) p).2.2.2.1, ?_, h5, h6, h7, ?_⟩
    · rw [← h1, ← h2, ← h3, ← h4]
    · have := gotF_len (l, 0) p
      simp only at this
      omega
  · rename_i h
    exact got_fault l f h p
set_option maxRecDepth 100000 in
set_option maxHeartbeats 1000000 in
theorem octetsReads_calls (A0 : Option Addr) (c0 : Nat) (bs : List Int) (A1 : Option Addr) (c1 : Nat) (ps : List S49) (w : World) (hr0 : Kd.C (Kd.int .u8) w A0 bs.length bs) (hc0 : bs.length ≤ c0) (hb : Byt bs)
    (hr1 : Kd.C k49 w A1 ps.length ps) (hc1 : ps.length ≤ c1) (hwf : ∀ p ∈ ps, WF49 p) :
    Calls Try.prog 11 #[.slice A0 bs.length c0, .slice A1 ps.length c1] w fun e w' => e = .returned (.bool true) ∧ Below w.heap.size w w' := by
  obtain ⟨b, hbl, hlight⟩ := light_f ps
  have HR0 := Aside0.mk hr0
  have HR1 := Aside0.mk hr1
  have HC0 := Aside0.mk hc0
  have HC1 := Aside0.mk hc1
  have HBL := Aside0.mk hbl
  have HY := Aside0.mk hb
  have hmax := hr0.2.1
  clear hr0 hr1 hc0 hc1 hbl hb
  go_enter Try.func11, Try.ntmps11
  go_wp2_with fail
  refine (damperlaw03_light.calls 64 A1 c1 ps b w HR1.out HC1.out HBL.out).mono ?_
  rintro e w1 ⟨rfl, hd⟩
  have B1 := Aside0.mk hd.below
  have G0 := Aside0.mk (Kd.C_below HR0.out hd.below)
  clear hd
  by_cases hbad : b = false ∨ 200 < bs.length
  · have HA := Aside0.mk (show Calls Try.prog 39 #[] w1 fun e w' => e = .returned (.bool true) ∧ Below w1.heap.size w1 w' from damperlaw03_alive.calls true w1 rfl)
    cases b with
    | false =>
      clear hbad
      go_wp2_with fail
      refine HA.out.mono ?_
      rintro e w2 ⟨rfl, hd⟩
      have B2 := Aside0.mk (Below.trans B1.out (Below.mono hd B1.out.size))
      clear hd
      go_wp2
      go_ret
      exact ⟨rfl, B2.out⟩
    | true =>
      have hbig : 200 < bs.length := by simpa using hbad
      clear hbad
      go_wp2_with fail
      refine HA.out.mono ?_
      rintro e w2 ⟨rfl, hd⟩
      have B2 := Aside0.mk (Below.trans B1.out (Below.mono hd B1.out.size))
      clear hd
      go_wp2
      go_ret
      exact ⟨rfl, B2.out⟩
  · have hbt : b = true := by cases b with
      | true => rfl
      | false => exact absurd (.inl rfl) hbad
    subst hbt
    have hs : bs.length ≤ 200 := by
      have : ¬ 200 < bs.length := fun h => hbad (.inr h)
      omega
    clear hbad hmax
    obtain ⟨hlen, hraw⟩ := hlight rfl
    have HLIM := Aside0.mk hs
    clear hlight hraw
    go_wp2_with fail
    refine (octets_NewReader.calls2 A0 c0 bs w1 G0.out (by omega) HY.out).mono ?_
    rintro e w2 ⟨g, row, rfl, hs2, hb2, hg0, hg1, hrow⟩
    have RS2 := Aside0.mk hs2
    have B2 := Aside0.mk (Below.trans B1.out (Below.mono hb2 B1.out.size))
    have HG := Aside0.mk (show w.heap.size ≤ g from Nat.le_trans B1.out.size hg0)
    have HROW := Aside0.mk (show ∀ k, row = some k → w.heap.size ≤ k from fun k hk => Nat.le_trans B1.out.size (hrow k hk).1)
    have HRLT := Aside0.mk (show ∀ k, row = some k → k < w2.heap.size from fun k hk => (hrow k hk).2)
    clear hs2 hb2 hg0 hg1 hrow G0
    go_wp2_with fail
    go_loopw [0, 7, 8] (fun u0 u7 u8 wr => ∃ (n : Nat) (l rest : List Int) (f : Int) (A : Option Addr) (c : Nat), u0 = .slice A l.length c ∧ u7 = .int .i64 f ∧ u8 = .int .i64 (n : Int) ∧ n ≤ ps.length ∧
      Aside0 (l.length ≤ c ∧ l.length ≤ 200 ∧ rest.length ≤ 200 ∧ Byt l ∧ Kd.C (Kd.int .u8) w A l.length l ∧ (f = 0 → rest = l)) ∧ Aside0 (RS wr g row (rest, f)) ∧ Aside0 (Below w.heap.size w wr) ∧ Aside0 (w2.heap.size ≤ wr.heap.size)) (fun _ _ u8 _ => (ps.length - intOf u8).toNat)
    case atStart => exact ⟨0, bs, bs, 0, A0, c0, rfl, rfl, rfl, by omega, ⟨HC0.out, HLIM.out, HLIM.out, HY.out, HR0.out, fun _ => rfl⟩, RS2, B2, ⟨Nat.le_refl _⟩⟩
    case round =>
      obtain ⟨n, l, rest, f, A, c, rfl, rfl, rfl, hn, HI, HRS, HB, HSZ⟩ := hrel
      by_cases hlt : n < ps.length
      · obtain ⟨ad, hA1⟩ : ∃ ad, A1 = some ad := by obtain ⟨ad, e, _⟩ := HR1.out.2.2 (by omega); exact ⟨ad, e⟩
        subst hA1
        have hpf := hwf ps[n] (List.getElem_mem hlt)
        have hat := fun W hb => at_part (W := W) (p := ps[n]) HR1.out hb hlt rfl
        generalize ps[n] = p at *
        have HAT := Aside0.mk hat
        have HPF := Aside0.mk hpf
        clear hat hpf
        by_cases hf : f = 0
        · subst hf
          obtain ⟨hlc, hl200, hr200, hby, hCl, hrl⟩ := HI.out
          rw [hrl rfl] at HRS
          have HCL := Aside0.mk hCl
          have HBY := Aside0.mk hby
          have HLC := Aside0.mk hlc
          clear hCl hby hrl hlc HI hr200
          have HBX := Aside0.mk (show Box5 (wr.alloc (.cells #[.int .u64 0, .int .i64 0, .slice none 0 0, .int .i64 0, .int .i64 0] 81)) wr.heap.size 0 0 (.slice none 0 0) 0 0 from blk_new wr _)
          obtain ⟨A4, c4, e0, e1, e2, e3, e4, hl4, hC4⟩ := HAT.out (wr.alloc (.cells #[.int .u64 0, .int .i64 0, .slice none 0 0, .int .i64 0, .int .i64 0] 81)) (below_alloc HB.out _)
          clear hl4 hC4
          go_wp2_with fail
          refine (law03_read_calls A c l p A4 c4 _ (Kd.C_alloc (Kd.C_below HCL.out HB.out) _) HLC.out HBY.out (by omega)).mono ?_
          rintro e w3 ⟨B3, m3, rfl, hq3, hA3, hb3⟩
          have HX3 := Aside0.mk (show Box5 w3 wr.heap.size 0 0 (.slice none 0 0) 0 0 from (hb3.block _ (by simp)).trans HBX.out)
          have HGR := gotF_read l 0 p (by omega)
          have HCR := Aside0.mk (readF_C l p B3 HCL.out hA3)
          have HB3 := Aside0.mk (Below.trans HB.out (Below.mono (Below.trans (below_alloc (Below.refl _ _) _) (Below.mono hb3 (by simp))) HB.out.size))
          have HS3 := Aside0.mk (show wr.heap.size < w3.heap.size from by have := hb3.size; simp at this; omega)
          have HRS3 := Aside0.mk (HRS.out.below (Below.trans (below_alloc (Below.refl wr.heap.size wr) (.cells #[.int .u64 0, .int .i64 0, .slice none 0 0, .int .i64 0, .int .i64 0] 81)) (Below.mono hb3 (by simp))))
          have HGW := Aside0.mk (show g < wr.heap.size from HRS.out.lt)
          clear hA3 hb3 HRS HBX e0 e1 e2 e3 e4
          rw [if_pos rfl] at HGR
          generalize readF l p = T at *
          obtain ⟨wn, ws, wraw, wz, f⟩ := T
          obtain ⟨rs', hgot, hwz0, hwz1, hrs', hrs2⟩ := HGR
          dsimp only at *
          obtain ⟨wz, rfl⟩ := Int.eq_ofNat_of_zero_le hwz0
          rw [Int.toNat_natCast] at hrs'
          have HX4 := Aside0.mk (HX3.out.set5 wn ws (wz : Int) f (.slice B3 wraw.length m3))
          have HB4 := Aside0.mk (Below.trans HB3.out ((((((Below.refl w.heap.size w3).setCell (p := ⟨wr.heap.size, 0, none⟩) HB.out.size (.int .u64 wn)).setCell (p := ⟨wr.heap.size, 1, none⟩) HB.out.size (.int .i64 ws)).setCell (p := ⟨wr.heap.size, 2, none⟩) HB.out.size (.slice B3 wraw.length m3)).setCell (p := ⟨wr.heap.size, 3, none⟩) HB.out.size (.int .i64 (wz : Int))).setCell (p := ⟨wr.heap.size, 4, none⟩) HB.out.size (.int .i64 f)))
          have HRS4 := Aside0.mk (HRS3.out.far5 (b := wr.heap.size) (by have := HGW.out; omega) (fun e => by have := HRLT.out _ e; have := HSZ.out; omega) wn ws (wz : Int) f (.slice B3 wraw.length m3))
          have HGOT : Aside0 (∀ (A4 : Option Addr) (c4 : Nat), Calls Try.prog 62 #[.pointer (some ⟨g, 0, none⟩), .agg #[.int .i64 p.f0, .int .i64 p.f1, .int .u64 p.f2, .int .i64 p.f3, .slice A4 p.f4.length c4]] (((((w3.setCell ⟨wr.heap.size, 0, none⟩ (.int .u64 wn)).setCell ⟨wr.heap.size, 1, none⟩ (.int .i64 ws)).setCell ⟨wr.heap.size, 2, none⟩ (.slice B3 wraw.length m3)).setCell ⟨wr.heap.size, 3, none⟩ (.int .i64 (wz : Int))).setCell ⟨wr.heap.size, 4, none⟩ (.int .i64 f)) fun e w' =>
            ∃ B m rs', e = .returned (.agg #[.int .u64 wn, .int .i64 ws, .slice B wraw.length m, .int .i64 0, .int .i64 0]) ∧ wraw.length ≤ m ∧ Kd.C (Kd.int .u8) w' B wraw.length wraw ∧ RPost (((((w3.setCell ⟨wr.heap.size, 0, none⟩ (.int .u64 wn)).setCell ⟨wr.heap.size, 1, none⟩ (.int .i64 ws)).setCell ⟨wr.heap.size, 2, none⟩ (.slice B3 wraw.length m3)).setCell ⟨wr.heap.size, 3, none⟩ (.int .i64 (wz : Int))).setCell ⟨wr.heap.size, 4, none⟩ (.int .i64 f)) g row (rs', f) w' ∧ (f = 0 → rs' = l.drop wz) ∧ rs'.length ≤ 200) := ⟨fun A4 c4 => by
            refine (law03_got_calls g row (l, 0) p A4 c4 _ HRS4.out (fun k hk => by have := HRLT.out k hk; have := HSZ.out; have := HS3.out; simp; omega) HPF.out (by show l.length ≤ _; omega)).mono ?_
            rw [hgot]
            rintro e w' ⟨B, m, he, hq, hC, hp⟩
            exact ⟨B, m, rs', he, hq, hC, hp, hrs', by omega⟩⟩
          have HS4 : Aside0 (wr.heap.size < (((((w3.setCell ⟨wr.heap.size, 0, none⟩ (.int .u64 wn)).setCell ⟨wr.heap.size, 1, none⟩ (.int .i64 ws)).setCell ⟨wr.heap.size, 2, none⟩ (.slice B3 wraw.length m3)).setCell ⟨wr.heap.size, 3, none⟩ (.int .i64 (wz : Int))).setCell ⟨wr.heap.size, 4, none⟩ (.int .i64 f)).heap.size) := ⟨by have := HS3.out; simpa using this⟩
          have HQ3 := Aside0.mk hq3
          have HWZ : Aside0 (wz ≤ l.length) := ⟨by omega⟩
          obtain ⟨d0, d1, d2, d3, d4⟩ := HX3.out.cells
          have z0 := blk_frozen HX3.out 0
          have z1 := blk_frozen HX3.out 1
          have z2 := blk_frozen HX3.out 2
          have z3 := blk_frozen HX3.out 3
          have z4 := blk_frozen HX3.out 4
          obtain ⟨A4, c4, e0, e1, e2, e3, e4, hl4, hC4⟩ := HAT.out (((((w3.setCell ⟨wr.heap.size, 0, none⟩ (.int .u64 wn)).setCell ⟨wr.heap.size, 1, none⟩ (.int .i64 ws)).setCell ⟨wr.heap.size, 2, none⟩ (.slice B3 wraw.length m3)).setCell ⟨wr.heap.size, 3, none⟩ (.int .i64 (wz : Int))).setCell ⟨wr.heap.size, 4, none⟩ (.int .i64 f)) HB4.out
          clear hl4 hC4 hgot hrs' hrs2 hwz0 hwz1 hq3
          go_wp2_with fail
          clear HRS4 HB3 HX3 HRS3 HS3 d0 d1 d2 d3 d4 z0 z1 z2 z3 z4 e0 e1 e2 e3 e4
          generalize (((((w3.setCell ⟨wr.heap.size, 0, none⟩ (.int .u64 wn)).setCell ⟨wr.heap.size, 1, none⟩ (.int .i64 ws)).setCell ⟨wr.heap.size, 2, none⟩ (.slice B3 wraw.length m3)).setCell ⟨wr.heap.size, 3, none⟩ (.int .i64 (wz : Int))).setCell ⟨wr.heap.size, 4, none⟩ (.int .i64 f)) = w4 at *
          have HXX : Aside0 (∃ xf, Box5 w4 wr.heap.size wn ws (.slice B3 wraw.length m3) (wz : Int) xf) := ⟨_, HX4.out⟩
          clear HX4
          generalize hb9 : wr.heap.size = b9 at *
          clear hb9
          obtain ⟨xf, hx⟩ := HXX.out
          have HX4 := Aside0.mk hx
          clear hx HXX
          refine (HGOT.out A4 c4).mono ?_
          rintro e w5 ⟨B5, m5, rs', rfl, hq5, hC5, hp5, hrs5, hrl5⟩
          have HG9 := Aside0.mk (show b9 ≠ g by have := HGW.out; omega)
          have HX5 := Aside0.mk (show Box5 w5 b9 wn ws (.slice B3 wraw.length m3) (wz : Int) xf from hp5.2.blk HX4.out HG9.out)
          have HB5 := Aside0.mk (Below.trans HB4.out (hp5.2.below HB4.out.size (fun k hk => by rw [hk]; exact HG.out)))
          have HRS5 := Aside0.mk hp5.1
          have HQ5 := Aside0.mk hq5
          have HC5 := Aside0.mk hC5
          have HRD := Aside0.mk hrs5
          have HRE := Aside0.mk hrl5
          have HS5 := Aside0.mk (show b9 < w5.heap.size from by have := HS4.out; have := hp5.2.size; omega)
          clear hq5 hC5 hp5 hrs5 hrl5 HX4 HB4 HGOT HS4
          have HY5 := Aside0.mk (show Box5 (w5.alloc (.cells #[.int .u64 wn, .int .i64 ws, .slice B5 wraw.length m5, .int .i64 0, .int .i64 0] 81)) w5.heap.size wn ws (.slice B5 wraw.length m5) 0 0 from blk_new w5 _)
          have HX6 := Aside0.mk (show Box5 (w5.alloc (.cells #[.int .u64 wn, .int .i64 ws, .slice B5 wraw.length m5, .int .i64 0, .int .i64 0] 81)) b9 wn ws (.slice B3 wraw.length m3) (wz : Int) xf from blk_alloc HX5.out _)
          have HBA := Aside0.mk (below_alloc (Below.refl w5.heap.size w5) (.cells #[.int .u64 wn, .int .i64 ws, .slice B5 wraw.length m5, .int .i64 0, .int .i64 0] 81))
          obtain ⟨A4, c4, e0, e1, e2, e3, e4, hl4, hC4⟩ := HAT.out (w5.alloc (.cells #[.int .u64 wn, .int .i64 ws, .slice B5 wraw.length m5, .int .i64 0, .int .i64 0] 81)) (below_alloc HB5.out _)
          clear hl4 hC4
          go_wp2_with fail
          refine (law03_got_nil p.f0 p.f1 p.f2 p.f3 A4 p.f4.length c4 _).mono ?_
          rintro e w6 ⟨B6, m6, rfl, hb6⟩
          have HB6 := Aside0.mk (Below.trans HBA.out (Below.mono hb6 (by simp)))
          have HYY := Aside0.mk (show Box5 w6 w5.heap.size wn ws (.slice B5 wraw.length m5) 0 0 from (hb6.block _ (by simp)).trans HY5.out)
          have HXX := Aside0.mk (show Box5 w6 b9 wn ws (.slice B3 wraw.length m3) (wz : Int) xf from (hb6.block _ (by have := HS5.out; simp; omega)).trans HX6.out)
          have HS6 := Aside0.mk (show w5.heap.size < w6.heap.size from by have := hb6.size; simp at this; omega)
          clear hb6 e0 e1 e2 e3 e4 HBA HY5 HX6 HX5
          have HB7 := Aside0.mk (below_alloc HB6.out (.cells #[.int .u64 0, .int .i64 0, .slice B6 0 m6, .int .i64 0, .int .i64 0] 81))
          have HY7 := Aside0.mk (show Box5 (w6.alloc (.cells #[.int .u64 0, .int .i64 0, .slice B6 0 m6, .int .i64 0, .int .i64 0] 81)) w5.heap.size wn ws (.slice B5 wraw.length m5) 0 0 from blk_alloc HYY.out _)
          have HX7 := Aside0.mk (show Box5 (w6.alloc (.cells #[.int .u64 0, .int .i64 0, .slice B6 0 m6, .int .i64 0, .int .i64 0] 81)) b9 wn ws (.slice B3 wraw.length m3) (wz : Int) xf from blk_alloc HXX.out _)
          have HZ7 := Aside0.mk (show Box5 (w6.alloc (.cells #[.int .u64 0, .int .i64 0, .slice B6 0 m6, .int .i64 0, .int .i64 0] 81)) w6.heap.size 0 0 (.slice B6 0 m6) 0 0 from blk_new w6 _)
          obtain ⟨x0, x1, x2, x3, x4⟩ := HX7.out.cells
          obtain ⟨y0, y1, y2, y3, y4⟩ := HY7.out.cells
          obtain ⟨A', hcut, hA', hR'⟩ := cut_ A l.length c wz HWZ.out
          rw [← List.length_drop] at hcut hR'
          have HCUT := Aside0.mk hR'
          clear hA' hR' x4 y3 y4 HYY HXX
          obtain ⟨v0, v1, v2, v3, v4⟩ := HZ7.out.cells
          go_wp2_with fail
          refine (damperref03_Same.calls B5 m5 wraw B3 m3 wraw true _ (Kd.C_below HC5.out HB7.out) HQ5.out (Kd.C_below HCR.out (Below.trans HB5.out (Below.mono HB7.out HB5.out.size))) HQ3.out (same_of_eq wraw)).mono ?_
          rintro e w8 ⟨rfl, hd⟩
          have HB8 := Aside0.mk (Below.trans HB7.out (Below.mono hd.below (by simp; have := HS6.out; omega)))
          have HX8 := Aside0.mk (show Box5 w8 b9 wn ws (.slice B3 wraw.length m3) (wz : Int) xf from (hd.below.block _ (by have := HS5.out; have := HS6.out; simp; omega)).trans HX7.out)
          have HZ8 := Aside0.mk (show Box5 w8 w6.heap.size 0 0 (.slice B6 0 m6) 0 0 from (hd.below.block _ (by simp)).trans HZ7.out)
          have HRS8 := Aside0.mk (HRS5.out.below HB8.out)
          have HF8 := Aside0.mk (octets_Reader_Fault.calls g row (rs', f) w8 HRS8.out)
          clear hd x0 x1 x2 x3 y0 y1 y2 v0 v1 v2 v3 v4 HX7 HY7 HZ7 HB7 HB6 HC5 HQ5 HCR HQ3
          obtain ⟨x0, x1, x2, x3, x4⟩ := HX8.out.cells
          obtain ⟨v0, v1, v2, v3, v4⟩ := HZ8.out.cells
          clear x0 x1 x2 x4 v3 v4
          go_wp2_with fail
          refine HF8.out.mono ?_
          rintro e w9 ⟨rfl, rfl⟩
          have HBW := Aside0.mk (Below.trans HB5.out (Below.mono HB8.out HB5.out.size))
          have HSW := Aside0.mk (show w2.heap.size ≤ w8.heap.size by have := HSZ.out; have := HS5.out; have := HB8.out.size; omega)
          have HCW := Aside0.mk (HCUT.out w l HLC.out HCL.out)
          have HYW := Aside0.mk (HBY.out.drop wz)
          clear HF8 HCUT HSZ HS5 HS6 HB8 HB5 HX8 HZ8 HCL HBY
          have HLD := Aside0.mk (show (l.drop wz).length ≤ c - wz by have := HLC.out; rw [List.length_drop]; omega)
          have HLE := Aside0.mk (show (l.drop wz).length ≤ 200 by rw [List.length_drop]; omega)
          have HL8 := Aside0.mk (octets_Reader_Left.calls g row (rs', f) w8 HRS8.out)
          clear HLC
          by_cases hf0 : f = 0
          · subst hf0
            rw [HRD.out rfl] at HRS8 HL8
            have HL9 := Aside0.mk (show ((l.drop wz).length : Int) ≤ 200 by have := HLE.out; omega)
            generalize l.drop wz = l2 at *
            go_wp2_with fail
            refine HL8.out.mono ?_
            rintro e w9 ⟨rfl, rfl⟩
            dsimp only
            go_wp2
            go_roundw
            case rel => exact ⟨n + 1, l2, l2, 0, A', c - wz, rfl, rfl, by go_num, by omega, ⟨HLD.out, HLE.out, HLE.out, HYW.out, HCW.out, fun _ => rfl⟩, HRS8, HBW, HSW⟩
            case measure => simp [intOf]; omega
          · have hff : (f == 0) = false := by simpa using hf0
            have HN := Aside0.mk hf0
            clear hf0
            generalize l.drop wz = l2 at *
            go_wp2
            go_roundw
            case rel => exact ⟨n + 1, l2, rs', f, A', c - wz, rfl, rfl, by go_num, by omega, ⟨HLD.out, HLE.out, HRE.out, HYW.out, HCW.out, fun h => absurd h HN.out⟩, HRS8, HBW, HSW⟩
            case measure => simp [intOf]; omega
        · obtain ⟨hlc, hl200, hr200, hby, hCl, hrl⟩ := HI.out
          have HGR := gotF_read l f p (by omega)
          have HGR2 := gotF_read rest f p (by omega)
          rw [if_neg hf] at HGR2
          have HCL := Aside0.mk hCl
          have HBY := Aside0.mk hby
          have HLC := Aside0.mk hlc
          clear hCl hby hrl hlc HI HGR
          have HRS3 := Aside0.mk (HRS.out.below (below_alloc (Below.refl _ _) (.cells #[.int .u64 0, .int .i64 0, .slice none 0 0, .int .i64 0, .int .i64 0] 81)))
          have HGW := Aside0.mk (show g < wr.heap.size from HRS.out.lt)
          have HB4 := Aside0.mk (below_alloc HB.out (.cells #[.int .u64 0, .int .i64 0, .slice none 0 0, .int .i64 0, .int .i64 0] 81))
          have HS4 : Aside0 (wr.heap.size < (wr.alloc (.cells #[.int .u64 0, .int .i64 0, .slice none 0 0, .int .i64 0, .int .i64 0] 81)).heap.size) := ⟨by simp⟩
          obtain ⟨wn, ws, wraw, wz, B3, m3, HXX, HGOT, HCR, HQ3, HWZ⟩ : ∃ (wn ws : Int) (wraw : List Int) (wz : Nat) (B3 : Option Addr) (m3 : Nat), Aside0 (∃ xf, Box5 (wr.alloc (.cells #[.int .u64 0, .int .i64 0, .slice none 0 0, .int .i64 0, .int .i64 0] 81)) wr.heap.size wn ws (.slice B3 wraw.length m3) (wz : Int) xf) ∧
              Aside0 (∀ (A4 : Option Addr) (c4 : Nat), Calls Try.prog 62 #[.pointer (some ⟨g, 0, none⟩), .agg #[.int .i64 p.f0, .int .i64 p.f1, .int .u64 p.f2, .int .i64 p.f3, .slice A4 p.f4.length c4]] (wr.alloc (.cells #[.int .u64 0, .int .i64 0, .slice none 0 0, .int .i64 0, .int .i64 0] 81)) fun e w' =>
            ∃ B m rs', e = .returned (.agg #[.int .u64 wn, .int .i64 ws, .slice B wraw.length m, .int .i64 0, .int .i64 0]) ∧ wraw.length ≤ m ∧ Kd.C (Kd.int .u8) w' B wraw.length wraw ∧ RPost (wr.alloc (.cells #[.int .u64 0, .int .i64 0, .slice none 0 0, .int .i64 0, .int .i64 0] 81)) g row (rs', f) w' ∧ (f = 0 → rs' = l.drop wz) ∧ rs'.length ≤ 200) ∧
              Aside0 (Kd.C (Kd.int .u8) w B3 wraw.length wraw) ∧ Aside0 (wraw.length ≤ m3) ∧ Aside0 (wz ≤ l.length) := by
            refine ⟨0, 0, [], 0, none, 0, ⟨0, blk_new wr _⟩, ⟨fun A4 c4 => ?_⟩, ⟨C_empty w none⟩, ⟨Nat.le_refl _⟩, ⟨Nat.zero_le _⟩⟩
            refine (law03_got_calls g row (rest, f) p A4 c4 _ HRS3.out (fun k hk => by have := HRLT.out k hk; have := HSZ.out; simp; omega) HPF.out (by show rest.length ≤ _; omega)).mono ?_
            rw [HGR2]
            rintro e w' ⟨B, m, he, hq, hC, hp⟩
            exact ⟨B, m, rest, he, hq, hC, hp, fun h => absurd h hf, by omega⟩
          obtain ⟨A4, c4, e0, e1, e2, e3, e4, hl4, hC4⟩ := HAT.out (wr.alloc (.cells #[.int .u64 0, .int .i64 0, .slice none 0 0, .int .i64 0, .int .i64 0] 81)) HB4.out
          have hff : (f == 0) = false := by simpa using hf
          have HFN := Aside0.mk hf
          clear hl4 hC4 HGR2 hr200 hf
          go_wp2_with fail
          clear HRS HRS3 e0 e1 e2 e3 e4 hff
          generalize (wr.alloc (.cells #[.int .u64 0, .int .i64 0, .slice none 0 0, .int .i64 0, .int .i64 0] 81)) = w4 at *
          generalize hb9 : wr.heap.size = b9 at *
          clear hb9
          obtain ⟨xf, hx⟩ := HXX.out
          have HX4 := Aside0.mk hx
          clear hx HXX
          refine (HGOT.out A4 c4).mono ?_
          rintro e w5 ⟨B5, m5, rs', rfl, hq5, hC5, hp5, hrs5, hrl5⟩
          have HG9 := Aside0.mk (show b9 ≠ g by have := HGW.out; omega)
          have HX5 := Aside0.mk (show Box5 w5 b9 wn ws (.slice B3 wraw.length m3) (wz : Int) xf from hp5.2.blk HX4.out HG9.out)
          have HB5 := Aside0.mk (Below.trans HB4.out (hp5.2.below HB4.out.size (fun k hk => by rw [hk]; exact HG.out)))
          have HRS5 := Aside0.mk hp5.1
          have HQ5 := Aside0.mk hq5
          have HC5 := Aside0.mk hC5
          have HRD := Aside0.mk hrs5
          have HRE := Aside0.mk hrl5
          have HS5 := Aside0.mk (show b9 < w5.heap.size from by have := HS4.out; have := hp5.2.size; omega)
          clear hq5 hC5 hp5 hrs5 hrl5 HX4 HB4 HGOT HS4
          have HY5 := Aside0.mk (show Box5 (w5.alloc (.cells #[.int .u64 wn, .int .i64 ws, .slice B5 wraw.length m5, .int .i64 0, .int .i64 0] 81)) w5.heap.size wn ws (.slice B5 wraw.length m5) 0 0 from blk_new w5 _)
          have HX6 := Aside0.mk (show Box5 (w5.alloc (.cells #[.int .u64 wn, .int .i64 ws, .slice B5 wraw.length m5, .int .i64 0, .int .i64 0] 81)) b9 wn ws (.slice B3 wraw.length m3) (wz : Int) xf from blk_alloc HX5.out _)
          have HBA := Aside0.mk (below_alloc (Below.refl w5.heap.size w5) (.cells #[.int .u64 wn, .int .i64 ws, .slice B5 wraw.length m5, .int .i64 0, .int .i64 0] 81))
          obtain ⟨A4, c4, e0, e1, e2, e3, e4, hl4, hC4⟩ := HAT.out (w5.alloc (.cells #[.int .u64 wn, .int .i64 ws, .slice B5 wraw.length m5, .int .i64 0, .int .i64 0] 81)) (below_alloc HB5.out _)
          clear hl4 hC4
          go_wp2_with fail
          refine (law03_got_nil p.f0 p.f1 p.f2 p.f3 A4 p.f4.length c4 _).mono ?_
          rintro e w6 ⟨B6, m6, rfl, hb6⟩
          have HB6 := Aside0.mk (Below.trans HBA.out (Below.mono hb6 (by simp)))
          have HYY := Aside0.mk (show Box5 w6 w5.heap.size wn ws (.slice B5 wraw.length m5) 0 0 from (hb6.block _ (by simp)).trans HY5.out)
          have HXX := Aside0.mk (show Box5 w6 b9 wn ws (.slice B3 wraw.length m3) (wz : Int) xf from (hb6.block _ (by have := HS5.out; simp; omega)).trans HX6.out)
          have HS6 := Aside0.mk (show w5.heap.size < w6.heap.size from by have := hb6.size; simp at this; omega)
          clear hb6 e0 e1 e2 e3 e4 HBA HY5 HX6 HX5
          have HB7 := Aside0.mk (below_alloc HB6.out (.cells #[.int .u64 0, .int .i64 0, .slice B6 0 m6, .int .i64 0, .int .i64 0] 81))
          have HY7 := Aside0.mk (show Box5 (w6.alloc (.cells #[.int .u64 0, .int .i64 0, .slice B6 0 m6, .int .i64 0, .int .i64 0] 81)) w5.heap.size wn ws (.slice B5 wraw.length m5) 0 0 from blk_alloc HYY.out _)
          have HX7 := Aside0.mk (show Box5 (w6.alloc (.cells #[.int .u64 0, .int .i64 0, .slice B6 0 m6, .int .i64 0, .int .i64 0] 81)) b9 wn ws (.slice B3 wraw.length m3) (wz : Int) xf from blk_alloc HXX.out _)
          have HZ7 := Aside0.mk (show Box5 (w6.alloc (.cells #[.int .u64 0, .int .i64 0, .slice B6 0 m6, .int .i64 0, .int .i64 0] 81)) w6.heap.size 0 0 (.slice B6 0 m6) 0 0 from blk_new w6 _)
          obtain ⟨x0, x1, x2, x3, x4⟩ := HX7.out.cells
          obtain ⟨y0, y1, y2, y3, y4⟩ := HY7.out.cells
          obtain ⟨A', hcut, hA', hR'⟩ := cut_ A l.length c wz HWZ.out
          rw [← List.length_drop] at hcut hR'
          have HCUT := Aside0.mk hR'
          clear hA' hR' x4 y3 y4 HYY HXX
          obtain ⟨v0, v1, v2, v3, v4⟩ := HZ7.out.cells
          go_wp2_with fail
          refine (damperref03_Same.calls B5 m5 wraw B3 m3 wraw true _ (Kd.C_below HC5.out HB7.out) HQ5.out (Kd.C_below HCR.out (Below.trans HB5.out (Below.mono HB7.out HB5.out.size))) HQ3.out (same_of_eq wraw)).mono ?_
          rintro e w8 ⟨rfl, hd⟩
          have HB8 := Aside0.mk (Below.trans HB7.out (Below.mono hd.below (by simp; have := HS6.out; omega)))
          have HX8 := Aside0.mk (show Box5 w8 b9 wn ws (.slice B3 wraw.length m3) (wz : Int) xf from (hd.below.block _ (by have := HS5.out; have := HS6.out; simp; omega)).trans HX7.out)
          have HZ8 := Aside0.mk (show Box5 w8 w6.heap.size 0 0 (.slice B6 0 m6) 0 0 from (hd.below.block _ (by simp)).trans HZ7.out)
          have HRS8 := Aside0.mk (HRS5.out.below HB8.out)
          have HF8 := Aside0.mk (octets_Reader_Fault.calls g row (rs', f) w8 HRS8.out)
          clear hd x0 x1 x2 x3 y0 y1 y2 v0 v1 v2 v3 v4 HX7 HY7 HZ7 HB7 HB6 HC5 HQ5 HCR HQ3
          obtain ⟨x0, x1, x2, x3, x4⟩ := HX8.out.cells
          obtain ⟨v0, v1, v2, v3, v4⟩ := HZ8.out.cells
          clear x0 x1 x2 x4 v3 v4
          go_wp2_with fail
          refine HF8.out.mono ?_
          rintro e w9 ⟨rfl, rfl⟩
          have HBW := Aside0.mk (Below.trans HB5.out (Below.mono HB8.out HB5.out.size))
          have HSW := Aside0.mk (show w2.heap.size ≤ w8.heap.size by have := HSZ.out; have := HS5.out; have := HB8.out.size; omega)
          have HCW := Aside0.mk (HCUT.out w l HLC.out HCL.out)
          have HYW := Aside0.mk (HBY.out.drop wz)
          clear HF8 HCUT HSZ HS5 HS6 HB8 HB5 HX8 HZ8 HCL HBY
          have HLD := Aside0.mk (show (l.drop wz).length ≤ c - wz by have := HLC.out; rw [List.length_drop]; omega)
          have HLE := Aside0.mk (show (l.drop wz).length ≤ 200 by rw [List.length_drop]; omega)
          have HL8 := Aside0.mk (octets_Reader_Left.calls g row (rs', f) w8 HRS8.out)
          clear HLC
          by_cases hf0 : f = 0
          · subst hf0
            rw [HRD.out rfl] at HRS8 HL8
            have HL9 := Aside0.mk (show ((l.drop wz).length : Int) ≤ 200 by have := HLE.out; omega)
            generalize l.drop wz = l2 at *
            go_wp2_with fail
            refine HL8.out.mono ?_
            rintro e w9 ⟨rfl, rfl⟩
            dsimp only
            go_wp2
            go_roundw
            case rel => exact ⟨n + 1, l2, l2, 0, A', c - wz, rfl, rfl, by go_num, by omega, ⟨HLD.out, HLE.out, HLE.out, HYW.out, HCW.out, fun _ => rfl⟩, HRS8, HBW, HSW⟩
            case measure => simp [intOf]; omega
          · have hff : (f == 0) = false := by simpa using hf0
            have HN := Aside0.mk hf0
            clear hf0
            generalize l.drop wz = l2 at *
            go_wp2
            go_roundw
            case rel => exact ⟨n + 1, l2, rs', f, A', c - wz, rfl, rfl, by go_num, by omega, ⟨HLD.out, HLE.out, HRE.out, HYW.out, HCW.out, fun h => absurd h HN.out⟩, HRS8, HBW, HSW⟩
            case measure => simp [intOf]; omega
      · have HBW := Aside0.mk HB.out
        go_wp2_with fail
        refine (octets_Reader_Left.nil _).mono ?_
        rintro e w3 ⟨rfl, rfl⟩
        go_wp2_with fail
        refine (octets_Reader_Fault.nil _).mono ?_
        rintro e w3 ⟨rfl, rfl⟩
        go_wp2_with fail
        refine (damperlaw03_alive.calls true wr rfl).mono ?_
        rintro e w3 ⟨rfl, hd⟩
        have B3 := Aside0.mk (Below.trans HBW.out (Below.mono hd HBW.out.size))
        clear hd
        go_wp2
        go_ret
        exact ⟨rfl, B3.out⟩
end Go.Proofs.Ytalpemoodollpaa.P
