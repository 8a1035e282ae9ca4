/- Contracts and plain laws: HOBackW. -/
import Derived.Test.YtalpemoodollpaaX21
/- OctetsBack: the walk, first part: what is put. -/
namespace Go.Proofs.Ytalpemoodollpaa.P
open Go.RowKit Go.Proofs.YtalpemoodollpaaW.PrintWords Go.Proofs.YtalpemoodollpaaW.PrintLast Go.Proofs.YtalpemoodollpaaW.PrintMore
set_option linter.unusedVariables false
set_option linter.unusedSimpArgs false
theorem WK.put {w0 W : World} {g : Nat} {xs : List Int} (h : WK w0 W g xs) (p : S49) (A : Option Addr) (c : Nat) (hf : WF49 p) (hC : Kd.C (Kd.int .u8) W A p.f4.length p.f4) (hl : xs.length + p.f4.length + 100 ≤ 140737488355328) :
    Calls Try.prog 42 #[.pointer (some ⟨g, 0, none⟩), .agg #[.int .i64 p.f0, .int .i64 p.f1, .int .u64 p.f2, .int .i64 p.f3, .slice A p.f4.length c]] W fun e w' => e = .returned (.pointer (some ⟨g, 0, none⟩)) ∧ WK w0 w' g (xs ++ partForm p) := by
  obtain ⟨⟨row, hs, hr⟩, hB, hg⟩ := h
  exact (law03_put_calls g row xs p A c W hs hf hC hl).mono fun e w' ⟨he, hp⟩ => ⟨he, (WK.of_post hs hr hB hg hp).1⟩
theorem forms_snoc (ps : List S49) (n : Nat) (h : n < ps.length) : forms (ps.take (n + 1)) = forms (ps.take n) ++ partForm ps[n] := by
  unfold forms
  rw [List.take_succ_eq_append_getElem h, List.flatMap_append]
  simp
theorem forms_byt (ps : List S49) (hw : ∀ p ∈ ps, WF49 p) : Byt (forms ps) := by
  intro x hx
  obtain ⟨p, hp, hx⟩ := List.mem_flatMap.1 hx
  have h := hw p hp
  have hn := h.n
  have : Byt (partForm p) := by
    unfold partForm
    split
    · split
      · exact Byt.nil
      · exact uintForm_byt _ _
    · split
      · exact intForm_byt _
      · split
        · exact numForm_byt _
        · split
          · intro y hy
            have := bounds_u8 (h.2.2.2.2 y hy)
            omega
          · exact Byt.nil
  exact this x hx
theorem forms_len (ps : List S49) (hw : ∀ p ∈ ps, WF49 p) (h60 : ∀ n (h : n < ps.length), (ps[n]).f4.length ≤ 60) : (forms ps).length ≤ ps.length * 70 := by
  induction ps with
  | nil => simp [forms]
  | cons p ps ih =>
    rw [forms_cons, List.length_append, List.length_cons]
    have h1 := partForm_le p (hw p List.mem_cons_self) (h60 0 (by simp))
    have h2 := ih (fun q hq => hw q (List.mem_cons_of_mem _ hq)) (fun n h => h60 (n + 1) (by simpa using h))
    omega
theorem forms_drop (ps : List S49) (n : Nat) (h : n < ps.length) : forms (ps.drop n) = partForm ps[n] ++ forms (ps.drop (n + 1)) := by
  rw [List.drop_eq_getElem_cons h, forms_cons]
theorem forms_drop_len (ps : List S49) (n : Nat) (h : (forms ps).length ≤ 2800) : (forms (ps.drop n)).length ≤ 140737488355328 := by
  have : forms ps = forms (ps.take n) ++ forms (ps.drop n) := by
    unfold forms
    rw [← List.flatMap_append, List.take_append_drop]
  rw [this, List.length_append] at h
  omega
theorem lit_i64 {n : Int} (h0 : -9223372036854775808 ≤ n) (h1 : n ≤ 9223372036854775807) : (Lit.int .i64 n).wf = true := by
  simp [Lit.wf, IntKind.min, IntKind.max, IntKind.signed, IntKind.bits]
  omega
theorem lit_u64 {n : Int} (h0 : 0 ≤ n) (h1 : n < 18446744073709551616) : (Lit.int .u64 n).wf = true := by
  simp [Lit.wf, IntKind.min, IntKind.max, IntKind.signed, IntKind.bits]
  omega
theorem rdPart_wf (p : S49) (h : WF49 p) (ho : okPart p) (hr : p.f4.length ≤ 60) : WF49 (rdPart p) := by
  have hn := h.n
  refine ⟨h.1, ?_, ?_, h.2.2.2.1, h.2.2.2.2⟩
  · show (Lit.int .i64 (rdSize p)).wf = true
    unfold rdSize
    split
    · exact lit_i64 (by omega) (by omega)
    · exact h.2.1
  · show (Lit.int .u64 (rdN p)).wf = true
    unfold rdN
    split
    · rename_i h1
      obtain ⟨x, hx⟩ := Int.eq_ofNat_of_zero_le hn.1
      have h2 := hn.2
      rw [hx] at h2 ⊢
      have e : (x : Int) % ((2 ^ (8 * p.f1).toNat : Nat) : Int) = ((x % 2 ^ (8 * p.f1).toNat : Nat) : Int) := (Int.natCast_emod _ _).symm
      rw [e]
      have := Nat.mod_le x (2 ^ (8 * p.f1).toNat)
      exact lit_u64 (by omega) (by omega)
    · exact h.2.2.1
theorem numGo_len_ (k : Nat) : ∀ (i : Nat) (n : Int) (l : List Int), (numGo k i n l).2.1.length ≤ l.length := by
  induction k with
  | zero => intro i n l; simp [numGo]
  | succ k ih =>
    intro i n l
    cases l with
    | nil => simp [numGo]
    | cons b bs =>
      rw [numGo]
      split
      · simp
      · split
        · exact Nat.le_trans (ih _ _ _) (by simp)
        · split <;> simp
theorem rTake_len_ (s : List Int × Int) (n : Nat) : (rTake s n).2.2.1.length ≤ s.1.length := by
  unfold rTake
  split
  · exact Nat.le_refl _
  · split
    · exact Nat.le_refl _
    · simp
theorem rUint_len_ (s : List Int × Int) (k : Int) : (rUint s k).2.1.length ≤ s.1.length := by
  unfold rUint
  split
  · exact Nat.le_refl _
  · exact rTake_len_ s k.toNat
theorem gotF_len_ (s : List Int × Int) (p : S49) : (gotF s p).2.2.2.1.length ≤ s.1.length := by
  unfold gotF
  split
  · exact rUint_len_ _ _
  · split
    · exact rUint_len_ _ _
    · split
      · unfold rNum
        split
        · exact Nat.le_refl _
        · exact numGo_len_ _ _ _ _
      · split
        · split
          · exact Nat.le_refl _
          · exact rTake_len_ _ _
        · exact Nat.le_refl _
theorem rdPart2_wf (p : S49) (h : WF49 p) (hr : p.f4.length ≤ 60) : WF49 ⟨p.f0, rdSize p, p.f2, p.f3, p.f4⟩ := by
  refine ⟨h.1, ?_, h.2.2.1, h.2.2.2.1, h.2.2.2.2⟩
  show (Lit.int .i64 (rdSize p)).wf = true
  unfold rdSize
  split
  · exact lit_i64 (by omega) (by omega)
  · exact h.2.1
theorem cell_up {w W : World} {a : Addr} {v : Value} (hb : Below w.heap.size w W) (h : w.cell? a = some v) : W.cell? a = some v := (hb.cell (p := a) (World.block_lt_of_cell? w _ h)).trans h
theorem alive03_calls (w : World) : Calls Try.prog 39 #[] w fun e w' => e = .returned (.bool true) ∧ Below w.heap.size w w' := damperlaw03_alive.calls true w rfl
set_option maxRecDepth 100000 in
set_option maxHeartbeats 8000000 in
theorem octetsBack_calls (A0 : Option Addr) (c0 : Nat) (ps : List S49) (less : Int) (w : World) (hr0 : Kd.C k49 w A0 ps.length ps) (hc0 : ps.length ≤ c0) (hwf : ∀ p ∈ ps, WF49 p) (hless : -9223372036854775808 ≤ less ∧ less ≤ 9223372036854775807) :
    Calls Try.prog 12 #[.slice A0 ps.length c0, .int .i64 less] w fun e w' => e = .returned (.bool true) ∧ Below w.heap.size w w' := by
  obtain ⟨b, hb, hlight⟩ := light_f ps
  have hl1 := hless.1
  have hl2 := hless.2
  have HR := Aside0.mk hr0
  have HC0 := Aside0.mk hc0
  have HB := Aside0.mk hb
  have HWF := Aside0.mk hwf
  clear hr0 hc0 hb hwf hless
  go_enter Try.func12, Try.ntmps12
  go_wp2_with fail
  refine (damperlaw03_light.calls 64 A0 c0 ps b w HR.out HC0.out HB.out).mono ?_
  rintro e w1 ⟨rfl, hd⟩
  have B1 := Aside0.mk hd.below
  clear hd
  cases b with
  | false =>
    go_wp2_with fail
    refine (alive03_calls _).mono ?_
    rintro e w2 ⟨rfl, hd⟩
    have B2 := Aside0.mk (Below.trans B1.out (Below.mono hd B1.out.size))
    clear hd
    go_wp2
    go_ret
    exact ⟨rfl, B2.out⟩
  | true =>
    obtain ⟨hlen, hraw⟩ := hlight rfl
    have HRAW := Aside0.mk hraw
    clear hlight hraw
    by_cases h0 : ps.length = 0
    · have hps : ps = [] := List.eq_nil_of_length_eq_zero h0
      subst hps
      clear h0
      go_wp2_with fail
      refine (alive03_calls _).mono ?_
      rintro e w2 ⟨rfl, hd⟩
      have B2 := Aside0.mk (Below.trans B1.out (Below.mono hd B1.out.size))
      clear hd
      go_wp2
      go_ret
      exact ⟨rfl, B2.out⟩
    · have hpos : 0 < ps.length := by omega
      have HLEN := Aside0.mk hlen
      clear h0
      have K0 := Aside0.mk (WK.new B1.out)
      obtain ⟨ad, hA0⟩ : ∃ ad, A0 = some ad := by obtain ⟨ad, e, _⟩ := HR.out.2.2 hpos; exact ⟨ad, e⟩
      subst hA0
      have hzero : ((ps.length : Int) == 0) = false := beq_false_of_ne (by omega)
      go_wp2
      clear hzero
      generalize hg : w1.heap.size = g at *
      clear hg
      generalize (w1.alloc (.cells #[.slice none 0 0] 39)) = w2 at *
      go_loopw [6] (fun u6 wr => ∃ (n : Nat), u6 = .int .i64 (n : Int) ∧ n ≤ ps.length ∧ Aside0 (∀ j (h : j < n) (h2 : j < ps.length), okPart ps[j]) ∧ Aside0 (WK w wr g (forms (ps.take n)))) (fun u6 _ => (ps.length - intOf u6).toNat)
      case atStart => exact ⟨0, rfl, by omega, ⟨fun j h => absurd h (by omega)⟩, K0⟩
      case round =>
        obtain ⟨n, rfl, hn, HOK, HK⟩ := hrel
        by_cases hlt : n < ps.length
        · have hraw := HRAW.out n hlt
          have hpf := HWF.out ps[n] (List.getElem_mem hlt)
          have hat := fun W hb => at_part (W := W) (p := ps[n]) HR.out hb hlt rfl
          have hsn := forms_snoc ps n hlt
          have hfl := partForm_le ps[n] hpf hraw
          have hxl : (forms (ps.take n)).length ≤ 40 * 70 := by
            have := forms_len (ps.take n) (fun q hq => HWF.out q (List.mem_of_mem_take hq)) (fun j h => by rw [List.getElem_take]; exact HRAW.out j (by rw [List.length_take] at h; omega))
            rw [List.length_take] at this
            have := HLEN.out
            omega
          have HSTEP : Aside0 (okPart ps[n] → ∀ j (h : j < n + 1) (h2 : j < ps.length), okPart ps[j]) := ⟨fun ho j h h2 => by
            by_cases hj : j = n
            · subst hj; exact ho
            · exact HOK.out j (by omega) h2⟩
          generalize hp : ps[n] = p at *
          have HAT := Aside0.mk hat
          have HPF := Aside0.mk hpf
          have HSN := Aside0.mk hsn
          have HXL := Aside0.mk hxl
          have HRW := Aside0.mk hraw
          clear hat hpf hsn hxl hraw hfl hp
          obtain ⟨A4, c4, e0, e1, e2, e3, e4, hl4, hC4⟩ := HAT.out wr HK.out.bel
          have HC4 := Aside0.mk hC4
          clear hl4 hC4
          by_cases hok : okPart p
          · obtain ⟨k1, k4, ks⟩ := hok
            have HO := Aside0.mk (HSTEP.out ⟨k1, k4, ks⟩)
            by_cases h1 : p.f0 = 1
            · obtain ⟨s1, s8⟩ := ks h1
              have HF1 := Aside0.mk h1
              have CX := Aside0.mk (HK.out.put p A4 c4 HPF.out HC4.out (by have := HXL.out; have := HRW.out; omega))
              rw [HF1.out] at CX e0
              clear ks h1
              have h1b : (1 : Int) ≤ 4 := by decide
              clear k1 k4
              go_wp2_with fail
              refine CX.out.mono ?_
              rintro e w3 ⟨rfl, hk⟩
              have HK3 := Aside0.mk hk
              clear hk e0 e1 e2 e3 e4
              go_wp2
              go_roundw
              case rel => exact ⟨n + 1, by go_num, by omega, HO, ⟨by rw [HSN.out]; exact HK3.out⟩⟩
              case measure => simp [intOf]; omega
            · have h1b : (p.f0 == 1) = false := by simpa using h1
              clear ks h1
              go_wp2_with fail
              refine (HK.out.put p A4 c4 HPF.out HC4.out (by have := HXL.out; have := HRW.out; omega)).mono ?_
              rintro e w3 ⟨rfl, hk⟩
              have HK3 := Aside0.mk hk
              clear hk e0 e1 e2 e3 e4
              go_wp2
              go_roundw
              case rel => exact ⟨n + 1, by go_num, by omega, HO, ⟨by rw [HSN.out]; exact HK3.out⟩⟩
              case measure => simp [intOf]; omega
          · by_cases a1 : p.f0 < 1
            · clear hok
              go_wp2_with fail
              refine (alive03_calls _).mono ?_
              rintro e w3 ⟨rfl, hd⟩
              have B3 := Aside0.mk (Below.trans HK.out.bel (Below.mono hd HK.out.bel.size))
              clear hd
              go_wp2
              go_ret
              exact ⟨rfl, B3.out⟩
            · by_cases a4 : 4 < p.f0
              · clear hok
                go_wp2_with fail
                refine (alive03_calls _).mono ?_
                rintro e w3 ⟨rfl, hd⟩
                have B3 := Aside0.mk (Below.trans HK.out.bel (Below.mono hd HK.out.bel.size))
                clear hd
                go_wp2
                go_ret
                exact ⟨rfl, B3.out⟩
              · have hf1 : p.f0 = 1 := Classical.byContradiction fun h => hok ⟨by omega, by omega, fun e => absurd e h⟩
                have hs : p.f1 < 1 ∨ 8 < p.f1 := Classical.byContradiction fun h => hok ⟨by omega, by omega, fun _ => by omega⟩
                have HF1 := Aside0.mk hf1
                rw [hf1] at e0
                clear hok a1 a4
                by_cases b1 : p.f1 < 1
                · clear hs hf1
                  go_wp2_with fail
                  refine (alive03_calls _).mono ?_
                  rintro e w3 ⟨rfl, hd⟩
                  have B3 := Aside0.mk (Below.trans HK.out.bel (Below.mono hd HK.out.bel.size))
                  clear hd
                  go_wp2
                  go_ret
                  exact ⟨rfl, B3.out⟩
                · have b8 : 8 < p.f1 := hs.resolve_left b1
                  clear hs hf1
                  go_wp2_with fail
                  refine (alive03_calls _).mono ?_
                  rintro e w3 ⟨rfl, hd⟩
                  have B3 := Aside0.mk (Below.trans HK.out.bel (Below.mono hd HK.out.bel.size))
                  clear hd
                  go_wp2
                  go_ret
                  exact ⟨rfl, B3.out⟩
        · have hnn : n = ps.length := by omega
          subst hnn
          rw [List.take_length] at HK
          have HA := Aside0.mk (fun j (h : j < ps.length) => HOK.out j h h)
          have YB := Aside0.mk (forms_byt ps HWF.out)
          have LB := Aside0.mk (show (forms ps).length ≤ 2800 by have := forms_len ps HWF.out HRAW.out; have := HLEN.out; omega)
          have LB0 := Aside0.mk LB.out
          clear HOK
          go_wp2_with fail
          refine (HK.out.bytes (by have := LB.out; omega)).mono ?_
          rintro e w3 ⟨v, rfl, hR, hB, _⟩
          obtain ⟨X, m, rfl, hq, hC⟩ := Kd.R_reads hR
          have B3 := Aside0.mk hB
          have HQ := Aside0.mk hq
          have CX := Aside0.mk hC
          clear hR hB hq hC HK
          obtain ⟨bs, hbs⟩ : ∃ bs, bs = forms ps := ⟨_, rfl⟩
          rw [← hbs] at YB LB CX HQ
          rw [← hbs]
          have HBS := Aside0.mk hbs
          clear hbs
          go_wp2_with fail
          refine (octets_NewReader.calls2 X m bs w3 CX.out (by have := LB.out; omega) YB.out).mono ?_
          rintro e w4 ⟨g2, row, rfl, hs2, hb2, hg0, hg1, hrow⟩
          rw [HBS.out] at hs2
          have RS4 := Aside0.mk hs2
          have B4 := Aside0.mk hb2
          have HG0 := Aside0.mk hg0
          have HG1 := Aside0.mk hg1
          have HROW := Aside0.mk hrow
          clear hs2 hb2 hg0 hg1 hrow
          go_wp2_with fail
          go_loopw [9] (fun u9 wr => ∃ (n : Nat), u9 = .int .i64 (n : Int) ∧ n ≤ ps.length ∧ Aside0 (RS wr g2 row (forms (ps.drop n), 0)) ∧ Aside0 (Below w3.heap.size w3 wr) ∧ Aside0 (w4.heap.size ≤ wr.heap.size)) (fun u9 _ => (ps.length - intOf u9).toNat)
          case atStart => exact ⟨0, rfl, by omega, RS4, B4, ⟨Nat.le_refl _⟩⟩
          case round =>
            obtain ⟨n, rfl, hn, HS, HBW, HSZ⟩ := hrel
            have HBB := Aside0.mk (Below.trans B3.out (Below.mono HBW.out B3.out.size))
            by_cases hlt : n < ps.length
            · have hraw := HRAW.out n hlt
              have hpf := HWF.out ps[n] (List.getElem_mem hlt)
              have hok := HA.out n hlt
              have hat := fun W hb => at_part (W := W) (p := ps[n]) HR.out hb hlt rfl
              have hfd := forms_drop ps n hlt
              generalize ps[n] = p at *
              have HAT := Aside0.mk hat
              have HWP := Aside0.mk (rdPart_wf p hpf hok hraw)
              have GB := Aside0.mk (gotF_back p hok hpf (forms (ps.drop (n + 1))))
              have HN := hpf.n
              have hn0 := HN.1
              have hn1 := HN.2
              rw [hfd] at HS
              have HLB : Aside0 ((partForm p ++ forms (ps.drop (n + 1))).length ≤ 140737488355328) := ⟨by have := HS.out; obtain ⟨_, _, _, _, hC, _⟩ := this; rw [← hfd]; exact forms_drop_len ps n LB0.out⟩
              obtain ⟨k1, k4, ks⟩ := hok
              clear hat hpf hfd HN
              obtain ⟨A4, c4, e0, e1, e2, e3, e4, hl4, hC4⟩ := HAT.out w (Below.refl w.heap.size w)
              replace e0 := cell_up HBB.out e0
              replace e1 := cell_up HBB.out e1
              replace e2 := cell_up HBB.out e2
              replace e3 := cell_up HBB.out e3
              replace e4 := cell_up HBB.out e4
              have HQ4 := Aside0.mk hl4
              have HC4 := Aside0.mk hC4
              clear hl4 hC4
              by_cases q1 : p.f0 = 1
              · obtain ⟨t1, t8⟩ := ks q1
                by_cases q1_ : p.f1 = 1
                · have H0 := Aside0.mk q1
                  have HS1 := Aside0.mk q1_
                  rw [q1_] at e1
                  clear ks k1 k4 q1 q1_
                  have CX := Aside0.mk (law03_got_calls g2 row (partForm p ++ forms (ps.drop (n + 1)), 0) (rdPart p) A4 c4 (wr.alloc (.cells #[.int .i64 1, .int .i64 1, .int .u64 (p.f2 % 256), .int .i64 p.f3, .slice A4 p.f4.length c4] 49)) (HS.out.below (below_alloc (Below.refl _ _) _)) (fun k hk => by have := (HROW.out k hk).2; have := HSZ.out; rw [World.size_alloc]; omega) HWP.out HLB.out)
                  rw [GB.out] at CX
                  dsimp only [rdPart] at CX
                  have hrs : rdSize p = 1 := by unfold rdSize; rw [if_neg (by rw [H0.out]; decide)]; exact HS1.out
                  have hrn : rdN p = (p.f2 % 256) := by unfold rdN; rw [if_pos ⟨H0.out, by have := HS1.out; omega⟩, HS1.out, show ((2 ^ (8 * (1 : Int)).toNat : Nat) : Int) = 256 by decide]
                  rw [hrs, hrn] at CX
                  rw [H0.out] at CX e0
                  simp only [reduceIte, Int.reduceEq, or_true, true_or, or_false, false_or] at CX
                  clear hrs hrn
                  have BX := Aside0.mk (blk_new wr (.cells #[.int .i64 1, .int .i64 1, .int .u64 (p.f2 % 256), .int .i64 p.f3, .slice A4 p.f4.length c4] 49))
                  go_wp2_with fail
                  refine CX.out.mono ?_
                  rintro e w5 ⟨B, mm, rfl, hq5, hC5, hp5⟩
                  have HNE := Aside0.mk (show wr.heap.size ≠ g2 by have := HG1.out; have := HSZ.out; omega)
                  have BX5 := Aside0.mk (blk_alloc (hp5.2.blk BX.out HNE.out) (.cells #[.int .u64 ((p.f2 % 256)), .int .i64 (0), .slice B 0 mm, .int .i64 0, .int .i64 0] 81))
                  have RS5 := Aside0.mk (hp5.1.below (below_alloc (Below.refl _ _) (.cells #[.int .u64 ((p.f2 % 256)), .int .i64 (0), .slice B 0 mm, .int .i64 0, .int .i64 0] 81)))
                  have BW5 := Aside0.mk (below_alloc (Below.trans (below_alloc HBW.out (.cells #[.int .i64 1, .int .i64 1, .int .u64 (p.f2 % 256), .int .i64 p.f3, .slice A4 p.f4.length c4] 49)) (hp5.2.below (Nat.le_trans HBW.out.size (by simp)) (fun k hk => by rw [hk]; exact HG0.out))) (.cells #[.int .u64 ((p.f2 % 256)), .int .i64 (0), .slice B 0 mm, .int .i64 0, .int .i64 0] 81))
                  have SZ5 := Aside0.mk (show w4.heap.size ≤ (w5.alloc (.cells #[.int .u64 ((p.f2 % 256)), .int .i64 (0), .slice B 0 mm, .int .i64 0, .int .i64 0] 81)).heap.size by have h5 := hp5.2.size; have := HSZ.out; rw [World.size_alloc] at h5 ⊢; omega)
                  clear hq5 hC5 hp5 e0 e1 e2 e3 e4
                  have x0 := (blk_cell BX5.out 0).trans rfl
                  have x1 := (blk_cell BX5.out 1).trans rfl
                  have x2 := (blk_cell BX5.out 2).trans rfl
                  have x3 := (blk_cell BX5.out 3).trans rfl
                  have x4 := (blk_cell BX5.out 4).trans rfl
                  go_wp2
                  go_roundw
                  case rel => exact ⟨n + 1, by go_num, by omega, RS5.out |> Aside0.mk, BW5, SZ5⟩
                  case measure => simp [intOf]; omega
                · by_cases q2_ : p.f1 = 2
                  · have H0 := Aside0.mk q1
                    have HS1 := Aside0.mk q2_
                    rw [q2_] at e1
                    clear ks k1 k4 q1 q2_
                    have CX := Aside0.mk (law03_got_calls g2 row (partForm p ++ forms (ps.drop (n + 1)), 0) (rdPart p) A4 c4 (wr.alloc (.cells #[.int .i64 1, .int .i64 2, .int .u64 (p.f2 % 65536), .int .i64 p.f3, .slice A4 p.f4.length c4] 49)) (HS.out.below (below_alloc (Below.refl _ _) _)) (fun k hk => by have := (HROW.out k hk).2; have := HSZ.out; rw [World.size_alloc]; omega) HWP.out HLB.out)
                    rw [GB.out] at CX
                    dsimp only [rdPart] at CX
                    have hrs : rdSize p = 2 := by unfold rdSize; rw [if_neg (by rw [H0.out]; decide)]; exact HS1.out
                    have hrn : rdN p = (p.f2 % 65536) := by unfold rdN; rw [if_pos ⟨H0.out, by have := HS1.out; omega⟩, HS1.out, show ((2 ^ (8 * (2 : Int)).toNat : Nat) : Int) = 65536 by decide]
                    rw [hrs, hrn] at CX
                    rw [H0.out] at CX e0
                    simp only [reduceIte, Int.reduceEq, or_true, true_or, or_false, false_or] at CX
                    clear hrs hrn
                    have BX := Aside0.mk (blk_new wr (.cells #[.int .i64 1, .int .i64 2, .int .u64 (p.f2 % 65536), .int .i64 p.f3, .slice A4 p.f4.length c4] 49))
                    go_wp2_with fail
                    refine CX.out.mono ?_
                    rintro e w5 ⟨B, mm, rfl, hq5, hC5, hp5⟩
                    have HNE := Aside0.mk (show wr.heap.size ≠ g2 by have := HG1.out; have := HSZ.out; omega)
                    have BX5 := Aside0.mk (blk_alloc (hp5.2.blk BX.out HNE.out) (.cells #[.int .u64 ((p.f2 % 65536)), .int .i64 (0), .slice B 0 mm, .int .i64 0, .int .i64 0] 81))
                    have RS5 := Aside0.mk (hp5.1.below (below_alloc (Below.refl _ _) (.cells #[.int .u64 ((p.f2 % 65536)), .int .i64 (0), .slice B 0 mm, .int .i64 0, .int .i64 0] 81)))
                    have BW5 := Aside0.mk (below_alloc (Below.trans (below_alloc HBW.out (.cells #[.int .i64 1, .int .i64 2, .int .u64 (p.f2 % 65536), .int .i64 p.f3, .slice A4 p.f4.length c4] 49)) (hp5.2.below (Nat.le_trans HBW.out.size (by simp)) (fun k hk => by rw [hk]; exact HG0.out))) (.cells #[.int .u64 ((p.f2 % 65536)), .int .i64 (0), .slice B 0 mm, .int .i64 0, .int .i64 0] 81))
                    have SZ5 := Aside0.mk (show w4.heap.size ≤ (w5.alloc (.cells #[.int .u64 ((p.f2 % 65536)), .int .i64 (0), .slice B 0 mm, .int .i64 0, .int .i64 0] 81)).heap.size by have h5 := hp5.2.size; have := HSZ.out; rw [World.size_alloc] at h5 ⊢; omega)
                    clear hq5 hC5 hp5 e0 e1 e2 e3 e4
                    have x0 := (blk_cell BX5.out 0).trans rfl
                    have x1 := (blk_cell BX5.out 1).trans rfl
                    have x2 := (blk_cell BX5.out 2).trans rfl
                    have x3 := (blk_cell BX5.out 3).trans rfl
                    have x4 := (blk_cell BX5.out 4).trans rfl
                    go_wp2
                    go_roundw
                    case rel => exact ⟨n + 1, by go_num, by omega, RS5.out |> Aside0.mk, BW5, SZ5⟩
                    case measure => simp [intOf]; omega
                  · by_cases q3_ : p.f1 = 3
                    · have H0 := Aside0.mk q1
                      have HS1 := Aside0.mk q3_
                      rw [q3_] at e1
                      clear ks k1 k4 q1 q3_
                      have CX := Aside0.mk (law03_got_calls g2 row (partForm p ++ forms (ps.drop (n + 1)), 0) (rdPart p) A4 c4 (wr.alloc (.cells #[.int .i64 1, .int .i64 3, .int .u64 (p.f2 % 16777216), .int .i64 p.f3, .slice A4 p.f4.length c4] 49)) (HS.out.below (below_alloc (Below.refl _ _) _)) (fun k hk => by have := (HROW.out k hk).2; have := HSZ.out; rw [World.size_alloc]; omega) HWP.out HLB.out)
                      rw [GB.out] at CX
                      dsimp only [rdPart] at CX
                      have hrs : rdSize p = 3 := by unfold rdSize; rw [if_neg (by rw [H0.out]; decide)]; exact HS1.out
                      have hrn : rdN p = (p.f2 % 16777216) := by unfold rdN; rw [if_pos ⟨H0.out, by have := HS1.out; omega⟩, HS1.out, show ((2 ^ (8 * (3 : Int)).toNat : Nat) : Int) = 16777216 by decide]
                      rw [hrs, hrn] at CX
                      rw [H0.out] at CX e0
                      simp only [reduceIte, Int.reduceEq, or_true, true_or, or_false, false_or] at CX
                      clear hrs hrn
                      have BX := Aside0.mk (blk_new wr (.cells #[.int .i64 1, .int .i64 3, .int .u64 (p.f2 % 16777216), .int .i64 p.f3, .slice A4 p.f4.length c4] 49))
                      go_wp2_with fail
                      refine CX.out.mono ?_
                      rintro e w5 ⟨B, mm, rfl, hq5, hC5, hp5⟩
                      have HNE := Aside0.mk (show wr.heap.size ≠ g2 by have := HG1.out; have := HSZ.out; omega)
                      have BX5 := Aside0.mk (blk_alloc (hp5.2.blk BX.out HNE.out) (.cells #[.int .u64 ((p.f2 % 16777216)), .int .i64 (0), .slice B 0 mm, .int .i64 0, .int .i64 0] 81))
                      have RS5 := Aside0.mk (hp5.1.below (below_alloc (Below.refl _ _) (.cells #[.int .u64 ((p.f2 % 16777216)), .int .i64 (0), .slice B 0 mm, .int .i64 0, .int .i64 0] 81)))
                      have BW5 := Aside0.mk (below_alloc (Below.trans (below_alloc HBW.out (.cells #[.int .i64 1, .int .i64 3, .int .u64 (p.f2 % 16777216), .int .i64 p.f3, .slice A4 p.f4.length c4] 49)) (hp5.2.below (Nat.le_trans HBW.out.size (by simp)) (fun k hk => by rw [hk]; exact HG0.out))) (.cells #[.int .u64 ((p.f2 % 16777216)), .int .i64 (0), .slice B 0 mm, .int .i64 0, .int .i64 0] 81))
                      have SZ5 := Aside0.mk (show w4.heap.size ≤ (w5.alloc (.cells #[.int .u64 ((p.f2 % 16777216)), .int .i64 (0), .slice B 0 mm, .int .i64 0, .int .i64 0] 81)).heap.size by have h5 := hp5.2.size; have := HSZ.out; rw [World.size_alloc] at h5 ⊢; omega)
                      clear hq5 hC5 hp5 e0 e1 e2 e3 e4
                      have x0 := (blk_cell BX5.out 0).trans rfl
                      have x1 := (blk_cell BX5.out 1).trans rfl
                      have x2 := (blk_cell BX5.out 2).trans rfl
                      have x3 := (blk_cell BX5.out 3).trans rfl
                      have x4 := (blk_cell BX5.out 4).trans rfl
                      go_wp2
                      go_roundw
                      case rel => exact ⟨n + 1, by go_num, by omega, RS5.out |> Aside0.mk, BW5, SZ5⟩
                      case measure => simp [intOf]; omega
                    · by_cases q4_ : p.f1 = 4
                      · have H0 := Aside0.mk q1
                        have HS1 := Aside0.mk q4_
                        rw [q4_] at e1
                        clear ks k1 k4 q1 q4_
                        have CX := Aside0.mk (law03_got_calls g2 row (partForm p ++ forms (ps.drop (n + 1)), 0) (rdPart p) A4 c4 (wr.alloc (.cells #[.int .i64 1, .int .i64 4, .int .u64 (p.f2 % 4294967296), .int .i64 p.f3, .slice A4 p.f4.length c4] 49)) (HS.out.below (below_alloc (Below.refl _ _) _)) (fun k hk => by have := (HROW.out k hk).2; have := HSZ.out; rw [World.size_alloc]; omega) HWP.out HLB.out)
                        rw [GB.out] at CX
                        dsimp only [rdPart] at CX
                        have hrs : rdSize p = 4 := by unfold rdSize; rw [if_neg (by rw [H0.out]; decide)]; exact HS1.out
                        have hrn : rdN p = (p.f2 % 4294967296) := by unfold rdN; rw [if_pos ⟨H0.out, by have := HS1.out; omega⟩, HS1.out, show ((2 ^ (8 * (4 : Int)).toNat : Nat) : Int) = 4294967296 by decide]
                        rw [hrs, hrn] at CX
                        rw [H0.out] at CX e0
                        simp only [reduceIte, Int.reduceEq, or_true, true_or, or_false, false_or] at CX
                        clear hrs hrn
                        have BX := Aside0.mk (blk_new wr (.cells #[.int .i64 1, .int .i64 4, .int .u64 (p.f2 % 4294967296), .int .i64 p.f3, .slice A4 p.f4.length c4] 49))
                        go_wp2_with fail
                        refine CX.out.mono ?_
                        rintro e w5 ⟨B, mm, rfl, hq5, hC5, hp5⟩
                        have HNE := Aside0.mk (show wr.heap.size ≠ g2 by have := HG1.out; have := HSZ.out; omega)
                        have BX5 := Aside0.mk (blk_alloc (hp5.2.blk BX.out HNE.out) (.cells #[.int .u64 ((p.f2 % 4294967296)), .int .i64 (0), .slice B 0 mm, .int .i64 0, .int .i64 0] 81))
                        have RS5 := Aside0.mk (hp5.1.below (below_alloc (Below.refl _ _) (.cells #[.int .u64 ((p.f2 % 4294967296)), .int .i64 (0), .slice B 0 mm, .int .i64 0, .int .i64 0] 81)))
                        have BW5 := Aside0.mk (below_alloc (Below.trans (below_alloc HBW.out (.cells #[.int .i64 1, .int .i64 4, .int .u64 (p.f2 % 4294967296), .int .i64 p.f3, .slice A4 p.f4.length c4] 49)) (hp5.2.below (Nat.le_trans HBW.out.size (by simp)) (fun k hk => by rw [hk]; exact HG0.out))) (.cells #[.int .u64 ((p.f2 % 4294967296)), .int .i64 (0), .slice B 0 mm, .int .i64 0, .int .i64 0] 81))
                        have SZ5 := Aside0.mk (show w4.heap.size ≤ (w5.alloc (.cells #[.int .u64 ((p.f2 % 4294967296)), .int .i64 (0), .slice B 0 mm, .int .i64 0, .int .i64 0] 81)).heap.size by have h5 := hp5.2.size; have := HSZ.out; rw [World.size_alloc] at h5 ⊢; omega)
                        clear hq5 hC5 hp5 e0 e1 e2 e3 e4
                        have x0 := (blk_cell BX5.out 0).trans rfl
                        have x1 := (blk_cell BX5.out 1).trans rfl
                        have x2 := (blk_cell BX5.out 2).trans rfl
                        have x3 := (blk_cell BX5.out 3).trans rfl
                        have x4 := (blk_cell BX5.out 4).trans rfl
                        go_wp2
                        go_roundw
                        case rel => exact ⟨n + 1, by go_num, by omega, RS5.out |> Aside0.mk, BW5, SZ5⟩
                        case measure => simp [intOf]; omega
                      · by_cases q5_ : p.f1 = 5
                        · have H0 := Aside0.mk q1
                          have HS1 := Aside0.mk q5_
                          rw [q5_] at e1
                          clear ks k1 k4 q1 q5_
                          have CX := Aside0.mk (law03_got_calls g2 row (partForm p ++ forms (ps.drop (n + 1)), 0) (rdPart p) A4 c4 (wr.alloc (.cells #[.int .i64 1, .int .i64 5, .int .u64 (p.f2 % 1099511627776), .int .i64 p.f3, .slice A4 p.f4.length c4] 49)) (HS.out.below (below_alloc (Below.refl _ _) _)) (fun k hk => by have := (HROW.out k hk).2; have := HSZ.out; rw [World.size_alloc]; omega) HWP.out HLB.out)
                          rw [GB.out] at CX
                          dsimp only [rdPart] at CX
                          have hrs : rdSize p = 5 := by unfold rdSize; rw [if_neg (by rw [H0.out]; decide)]; exact HS1.out
                          have hrn : rdN p = (p.f2 % 1099511627776) := by unfold rdN; rw [if_pos ⟨H0.out, by have := HS1.out; omega⟩, HS1.out, show ((2 ^ (8 * (5 : Int)).toNat : Nat) : Int) = 1099511627776 by decide]
                          rw [hrs, hrn] at CX
                          rw [H0.out] at CX e0
                          simp only [reduceIte, Int.reduceEq, or_true, true_or, or_false, false_or] at CX
                          clear hrs hrn
                          have BX := Aside0.mk (blk_new wr (.cells #[.int .i64 1, .int .i64 5, .int .u64 (p.f2 % 1099511627776), .int .i64 p.f3, .slice A4 p.f4.length c4] 49))
                          go_wp2_with fail
                          refine CX.out.mono ?_
                          rintro e w5 ⟨B, mm, rfl, hq5, hC5, hp5⟩
                          have HNE := Aside0.mk (show wr.heap.size ≠ g2 by have := HG1.out; have := HSZ.out; omega)
                          have BX5 := Aside0.mk (blk_alloc (hp5.2.blk BX.out HNE.out) (.cells #[.int .u64 ((p.f2 % 1099511627776)), .int .i64 (0), .slice B 0 mm, .int .i64 0, .int .i64 0] 81))
                          have RS5 := Aside0.mk (hp5.1.below (below_alloc (Below.refl _ _) (.cells #[.int .u64 ((p.f2 % 1099511627776)), .int .i64 (0), .slice B 0 mm, .int .i64 0, .int .i64 0] 81)))
                          have BW5 := Aside0.mk (below_alloc (Below.trans (below_alloc HBW.out (.cells #[.int .i64 1, .int .i64 5, .int .u64 (p.f2 % 1099511627776), .int .i64 p.f3, .slice A4 p.f4.length c4] 49)) (hp5.2.below (Nat.le_trans HBW.out.size (by simp)) (fun k hk => by rw [hk]; exact HG0.out))) (.cells #[.int .u64 ((p.f2 % 1099511627776)), .int .i64 (0), .slice B 0 mm, .int .i64 0, .int .i64 0] 81))
                          have SZ5 := Aside0.mk (show w4.heap.size ≤ (w5.alloc (.cells #[.int .u64 ((p.f2 % 1099511627776)), .int .i64 (0), .slice B 0 mm, .int .i64 0, .int .i64 0] 81)).heap.size by have h5 := hp5.2.size; have := HSZ.out; rw [World.size_alloc] at h5 ⊢; omega)
                          clear hq5 hC5 hp5 e0 e1 e2 e3 e4
                          have x0 := (blk_cell BX5.out 0).trans rfl
                          have x1 := (blk_cell BX5.out 1).trans rfl
                          have x2 := (blk_cell BX5.out 2).trans rfl
                          have x3 := (blk_cell BX5.out 3).trans rfl
                          have x4 := (blk_cell BX5.out 4).trans rfl
                          go_wp2
                          go_roundw
                          case rel => exact ⟨n + 1, by go_num, by omega, RS5.out |> Aside0.mk, BW5, SZ5⟩
                          case measure => simp [intOf]; omega
                        · by_cases q6_ : p.f1 = 6
                          · have H0 := Aside0.mk q1
                            have HS1 := Aside0.mk q6_
                            rw [q6_] at e1
                            clear ks k1 k4 q1 q6_
                            have CX := Aside0.mk (law03_got_calls g2 row (partForm p ++ forms (ps.drop (n + 1)), 0) (rdPart p) A4 c4 (wr.alloc (.cells #[.int .i64 1, .int .i64 6, .int .u64 (p.f2 % 281474976710656), .int .i64 p.f3, .slice A4 p.f4.length c4] 49)) (HS.out.below (below_alloc (Below.refl _ _) _)) (fun k hk => by have := (HROW.out k hk).2; have := HSZ.out; rw [World.size_alloc]; omega) HWP.out HLB.out)
                            rw [GB.out] at CX
                            dsimp only [rdPart] at CX
                            have hrs : rdSize p = 6 := by unfold rdSize; rw [if_neg (by rw [H0.out]; decide)]; exact HS1.out
                            have hrn : rdN p = (p.f2 % 281474976710656) := by unfold rdN; rw [if_pos ⟨H0.out, by have := HS1.out; omega⟩, HS1.out, show ((2 ^ (8 * (6 : Int)).toNat : Nat) : Int) = 281474976710656 by decide]
                            rw [hrs, hrn] at CX
                            rw [H0.out] at CX e0
                            simp only [reduceIte, Int.reduceEq, or_true, true_or, or_false, false_or] at CX
                            clear hrs hrn
                            have BX := Aside0.mk (blk_new wr (.cells #[.int .i64 1, .int .i64 6, .int .u64 (p.f2 % 281474976710656), .int .i64 p.f3, .slice A4 p.f4.length c4] 49))
                            go_wp2_with fail
                            refine CX.out.mono ?_
                            rintro e w5 ⟨B, mm, rfl, hq5, hC5, hp5⟩
                            have HNE := Aside0.mk (show wr.heap.size ≠ g2 by have := HG1.out; have := HSZ.out; omega)
                            have BX5 := Aside0.mk (blk_alloc (hp5.2.blk BX.out HNE.out) (.cells #[.int .u64 ((p.f2 % 281474976710656)), .int .i64 (0), .slice B 0 mm, .int .i64 0, .int .i64 0] 81))
                            have RS5 := Aside0.mk (hp5.1.below (below_alloc (Below.refl _ _) (.cells #[.int .u64 ((p.f2 % 281474976710656)), .int .i64 (0), .slice B 0 mm, .int .i64 0, .int .i64 0] 81)))
                            have BW5 := Aside0.mk (below_alloc (Below.trans (below_alloc HBW.out (.cells #[.int .i64 1, .int .i64 6, .int .u64 (p.f2 % 281474976710656), .int .i64 p.f3, .slice A4 p.f4.length c4] 49)) (hp5.2.below (Nat.le_trans HBW.out.size (by simp)) (fun k hk => by rw [hk]; exact HG0.out))) (.cells #[.int .u64 ((p.f2 % 281474976710656)), .int .i64 (0), .slice B 0 mm, .int .i64 0, .int .i64 0] 81))
                            have SZ5 := Aside0.mk (show w4.heap.size ≤ (w5.alloc (.cells #[.int .u64 ((p.f2 % 281474976710656)), .int .i64 (0), .slice B 0 mm, .int .i64 0, .int .i64 0] 81)).heap.size by have h5 := hp5.2.size; have := HSZ.out; rw [World.size_alloc] at h5 ⊢; omega)
                            clear hq5 hC5 hp5 e0 e1 e2 e3 e4
                            have x0 := (blk_cell BX5.out 0).trans rfl
                            have x1 := (blk_cell BX5.out 1).trans rfl
                            have x2 := (blk_cell BX5.out 2).trans rfl
                            have x3 := (blk_cell BX5.out 3).trans rfl
                            have x4 := (blk_cell BX5.out 4).trans rfl
                            go_wp2
                            go_roundw
                            case rel => exact ⟨n + 1, by go_num, by omega, RS5.out |> Aside0.mk, BW5, SZ5⟩
                            case measure => simp [intOf]; omega
                          · by_cases q7_ : p.f1 = 7
                            · have H0 := Aside0.mk q1
                              have HS1 := Aside0.mk q7_
                              rw [q7_] at e1
                              clear ks k1 k4 q1 q7_
                              have CX := Aside0.mk (law03_got_calls g2 row (partForm p ++ forms (ps.drop (n + 1)), 0) (rdPart p) A4 c4 (wr.alloc (.cells #[.int .i64 1, .int .i64 7, .int .u64 (p.f2 % 72057594037927936), .int .i64 p.f3, .slice A4 p.f4.length c4] 49)) (HS.out.below (below_alloc (Below.refl _ _) _)) (fun k hk => by have := (HROW.out k hk).2; have := HSZ.out; rw [World.size_alloc]; omega) HWP.out HLB.out)
                              rw [GB.out] at CX
                              dsimp only [rdPart] at CX
                              have hrs : rdSize p = 7 := by unfold rdSize; rw [if_neg (by rw [H0.out]; decide)]; exact HS1.out
                              have hrn : rdN p = (p.f2 % 72057594037927936) := by unfold rdN; rw [if_pos ⟨H0.out, by have := HS1.out; omega⟩, HS1.out, show ((2 ^ (8 * (7 : Int)).toNat : Nat) : Int) = 72057594037927936 by decide]
                              rw [hrs, hrn] at CX
                              rw [H0.out] at CX e0
                              simp only [reduceIte, Int.reduceEq, or_true, true_or, or_false, false_or] at CX
                              clear hrs hrn
                              have BX := Aside0.mk (blk_new wr (.cells #[.int .i64 1, .int .i64 7, .int .u64 (p.f2 % 72057594037927936), .int .i64 p.f3, .slice A4 p.f4.length c4] 49))
                              go_wp2_with fail
                              refine CX.out.mono ?_
                              rintro e w5 ⟨B, mm, rfl, hq5, hC5, hp5⟩
                              have HNE := Aside0.mk (show wr.heap.size ≠ g2 by have := HG1.out; have := HSZ.out; omega)
                              have BX5 := Aside0.mk (blk_alloc (hp5.2.blk BX.out HNE.out) (.cells #[.int .u64 ((p.f2 % 72057594037927936)), .int .i64 (0), .slice B 0 mm, .int .i64 0, .int .i64 0] 81))
                              have RS5 := Aside0.mk (hp5.1.below (below_alloc (Below.refl _ _) (.cells #[.int .u64 ((p.f2 % 72057594037927936)), .int .i64 (0), .slice B 0 mm, .int .i64 0, .int .i64 0] 81)))
                              have BW5 := Aside0.mk (below_alloc (Below.trans (below_alloc HBW.out (.cells #[.int .i64 1, .int .i64 7, .int .u64 (p.f2 % 72057594037927936), .int .i64 p.f3, .slice A4 p.f4.length c4] 49)) (hp5.2.below (Nat.le_trans HBW.out.size (by simp)) (fun k hk => by rw [hk]; exact HG0.out))) (.cells #[.int .u64 ((p.f2 % 72057594037927936)), .int .i64 (0), .slice B 0 mm, .int .i64 0, .int .i64 0] 81))
                              have SZ5 := Aside0.mk (show w4.heap.size ≤ (w5.alloc (.cells #[.int .u64 ((p.f2 % 72057594037927936)), .int .i64 (0), .slice B 0 mm, .int .i64 0, .int .i64 0] 81)).heap.size by have h5 := hp5.2.size; have := HSZ.out; rw [World.size_alloc] at h5 ⊢; omega)
                              clear hq5 hC5 hp5 e0 e1 e2 e3 e4
                              have x0 := (blk_cell BX5.out 0).trans rfl
                              have x1 := (blk_cell BX5.out 1).trans rfl
                              have x2 := (blk_cell BX5.out 2).trans rfl
                              have x3 := (blk_cell BX5.out 3).trans rfl
                              have x4 := (blk_cell BX5.out 4).trans rfl
                              go_wp2
                              go_roundw
                              case rel => exact ⟨n + 1, by go_num, by omega, RS5.out |> Aside0.mk, BW5, SZ5⟩
                              case measure => simp [intOf]; omega
                            · have H0 := Aside0.mk q1
                              have s8 : ¬ p.f1 < 8 := by omega
                              clear ks k1 k4 q1
                              have CX := Aside0.mk (law03_got_calls g2 row (partForm p ++ forms (ps.drop (n + 1)), 0) (rdPart p) A4 c4 (wr.alloc (.cells #[.int .i64 1, .int .i64 p.f1, .int .u64 p.f2, .int .i64 p.f3, .slice A4 p.f4.length c4] 49)) (HS.out.below (below_alloc (Below.refl _ _) _)) (fun k hk => by have := (HROW.out k hk).2; have := HSZ.out; rw [World.size_alloc]; omega) HWP.out HLB.out)
                              rw [GB.out] at CX
                              dsimp only [rdPart] at CX
                              have hrs : rdSize p = p.f1 := by unfold rdSize; rw [if_neg (by rw [H0.out]; decide)]
                              have hrn : rdN p = p.f2 := by unfold rdN; rw [if_neg (by intro h; have := H0.out; omega)]
                              rw [hrs, hrn] at CX
                              rw [H0.out] at CX e0
                              simp only [reduceIte, Int.reduceEq, or_true, true_or, or_false, false_or] at CX
                              clear hrs hrn
                              have BX := Aside0.mk (blk_new wr (.cells #[.int .i64 1, .int .i64 p.f1, .int .u64 p.f2, .int .i64 p.f3, .slice A4 p.f4.length c4] 49))
                              go_wp2_with fail
                              refine CX.out.mono ?_
                              rintro e w5 ⟨B, mm, rfl, hq5, hC5, hp5⟩
                              have HNE := Aside0.mk (show wr.heap.size ≠ g2 by have := HG1.out; have := HSZ.out; omega)
                              have BX5 := Aside0.mk (blk_alloc (hp5.2.blk BX.out HNE.out) (.cells #[.int .u64 (p.f2), .int .i64 (0), .slice B 0 mm, .int .i64 0, .int .i64 0] 81))
                              have RS5 := Aside0.mk (hp5.1.below (below_alloc (Below.refl _ _) (.cells #[.int .u64 (p.f2), .int .i64 (0), .slice B 0 mm, .int .i64 0, .int .i64 0] 81)))
                              have BW5 := Aside0.mk (below_alloc (Below.trans (below_alloc HBW.out (.cells #[.int .i64 1, .int .i64 p.f1, .int .u64 p.f2, .int .i64 p.f3, .slice A4 p.f4.length c4] 49)) (hp5.2.below (Nat.le_trans HBW.out.size (by simp)) (fun k hk => by rw [hk]; exact HG0.out))) (.cells #[.int .u64 (p.f2), .int .i64 (0), .slice B 0 mm, .int .i64 0, .int .i64 0] 81))
                              have SZ5 := Aside0.mk (show w4.heap.size ≤ (w5.alloc (.cells #[.int .u64 (p.f2), .int .i64 (0), .slice B 0 mm, .int .i64 0, .int .i64 0] 81)).heap.size by have h5 := hp5.2.size; have := HSZ.out; rw [World.size_alloc] at h5 ⊢; omega)
                              clear hq5 hC5 hp5 e0 e1 e2 e3 e4
                              have x0 := (blk_cell BX5.out 0).trans rfl
                              have x1 := (blk_cell BX5.out 1).trans rfl
                              have x2 := (blk_cell BX5.out 2).trans rfl
                              have x3 := (blk_cell BX5.out 3).trans rfl
                              have x4 := (blk_cell BX5.out 4).trans rfl
                              go_wp2
                              go_roundw
                              case rel => exact ⟨n + 1, by go_num, by omega, RS5.out |> Aside0.mk, BW5, SZ5⟩
                              case measure => simp [intOf]; omega
              · by_cases q2 : p.f0 = 2
                · have H0 := Aside0.mk q2
                  clear ks k1 k4 q1 q2
                  have CX := Aside0.mk (law03_got_calls g2 row (partForm p ++ forms (ps.drop (n + 1)), 0) (rdPart p) A4 c4 (wr.alloc (.cells #[.int .i64 2, .int .i64 p.f1, .int .u64 p.f2, .int .i64 p.f3, .slice A4 p.f4.length c4] 49)) (HS.out.below (below_alloc (Below.refl _ _) _)) (fun k hk => by have := (HROW.out k hk).2; have := HSZ.out; rw [World.size_alloc]; omega) HWP.out HLB.out)
                  rw [GB.out] at CX
                  dsimp only [rdPart] at CX
                  have hrs : rdSize p = p.f1 := by unfold rdSize; rw [if_neg (by rw [H0.out]; decide)]
                  have hrn : rdN p = p.f2 := by unfold rdN; rw [if_neg (by intro h; have := H0.out; omega)]
                  rw [hrs, hrn] at CX
                  rw [H0.out] at CX e0
                  simp only [reduceIte, Int.reduceEq, or_true, true_or, or_false, false_or] at CX
                  clear hrs hrn
                  have BX := Aside0.mk (blk_new wr (.cells #[.int .i64 2, .int .i64 p.f1, .int .u64 p.f2, .int .i64 p.f3, .slice A4 p.f4.length c4] 49))
                  go_wp2_with fail
                  refine CX.out.mono ?_
                  rintro e w5 ⟨B, mm, rfl, hq5, hC5, hp5⟩
                  have HNE := Aside0.mk (show wr.heap.size ≠ g2 by have := HG1.out; have := HSZ.out; omega)
                  have BX5 := Aside0.mk (blk_alloc (hp5.2.blk BX.out HNE.out) (.cells #[.int .u64 (0), .int .i64 (p.f3), .slice B 0 mm, .int .i64 0, .int .i64 0] 81))
                  have RS5 := Aside0.mk (hp5.1.below (below_alloc (Below.refl _ _) (.cells #[.int .u64 (0), .int .i64 (p.f3), .slice B 0 mm, .int .i64 0, .int .i64 0] 81)))
                  have BW5 := Aside0.mk (below_alloc (Below.trans (below_alloc HBW.out (.cells #[.int .i64 2, .int .i64 p.f1, .int .u64 p.f2, .int .i64 p.f3, .slice A4 p.f4.length c4] 49)) (hp5.2.below (Nat.le_trans HBW.out.size (by simp)) (fun k hk => by rw [hk]; exact HG0.out))) (.cells #[.int .u64 (0), .int .i64 (p.f3), .slice B 0 mm, .int .i64 0, .int .i64 0] 81))
                  have SZ5 := Aside0.mk (show w4.heap.size ≤ (w5.alloc (.cells #[.int .u64 (0), .int .i64 (p.f3), .slice B 0 mm, .int .i64 0, .int .i64 0] 81)).heap.size by have h5 := hp5.2.size; have := HSZ.out; rw [World.size_alloc] at h5 ⊢; omega)
                  clear hq5 hC5 hp5 e0 e1 e2 e3 e4
                  have x0 := (blk_cell BX5.out 0).trans rfl
                  have x1 := (blk_cell BX5.out 1).trans rfl
                  have x2 := (blk_cell BX5.out 2).trans rfl
                  have x3 := (blk_cell BX5.out 3).trans rfl
                  have x4 := (blk_cell BX5.out 4).trans rfl
                  go_wp2
                  go_roundw
                  case rel => exact ⟨n + 1, by go_num, by omega, RS5.out |> Aside0.mk, BW5, SZ5⟩
                  case measure => simp [intOf]; omega
                · by_cases q3 : p.f0 = 3
                  · have H0 := Aside0.mk q3
                    clear ks k1 k4 q1 q2 q3
                    have CX := Aside0.mk (law03_got_calls g2 row (partForm p ++ forms (ps.drop (n + 1)), 0) (rdPart p) A4 c4 (wr.alloc (.cells #[.int .i64 3, .int .i64 p.f1, .int .u64 p.f2, .int .i64 p.f3, .slice A4 p.f4.length c4] 49)) (HS.out.below (below_alloc (Below.refl _ _) _)) (fun k hk => by have := (HROW.out k hk).2; have := HSZ.out; rw [World.size_alloc]; omega) HWP.out HLB.out)
                    rw [GB.out] at CX
                    dsimp only [rdPart] at CX
                    have hrs : rdSize p = p.f1 := by unfold rdSize; rw [if_neg (by rw [H0.out]; decide)]
                    have hrn : rdN p = p.f2 := by unfold rdN; rw [if_neg (by intro h; have := H0.out; omega)]
                    rw [hrs, hrn] at CX
                    rw [H0.out] at CX e0
                    simp only [reduceIte, Int.reduceEq, or_true, true_or, or_false, false_or] at CX
                    clear hrs hrn
                    have BX := Aside0.mk (blk_new wr (.cells #[.int .i64 3, .int .i64 p.f1, .int .u64 p.f2, .int .i64 p.f3, .slice A4 p.f4.length c4] 49))
                    go_wp2_with fail
                    refine CX.out.mono ?_
                    rintro e w5 ⟨B, mm, rfl, hq5, hC5, hp5⟩
                    have HNE := Aside0.mk (show wr.heap.size ≠ g2 by have := HG1.out; have := HSZ.out; omega)
                    have BX5 := Aside0.mk (blk_alloc (hp5.2.blk BX.out HNE.out) (.cells #[.int .u64 (p.f2), .int .i64 (0), .slice B 0 mm, .int .i64 0, .int .i64 0] 81))
                    have RS5 := Aside0.mk (hp5.1.below (below_alloc (Below.refl _ _) (.cells #[.int .u64 (p.f2), .int .i64 (0), .slice B 0 mm, .int .i64 0, .int .i64 0] 81)))
                    have BW5 := Aside0.mk (below_alloc (Below.trans (below_alloc HBW.out (.cells #[.int .i64 3, .int .i64 p.f1, .int .u64 p.f2, .int .i64 p.f3, .slice A4 p.f4.length c4] 49)) (hp5.2.below (Nat.le_trans HBW.out.size (by simp)) (fun k hk => by rw [hk]; exact HG0.out))) (.cells #[.int .u64 (p.f2), .int .i64 (0), .slice B 0 mm, .int .i64 0, .int .i64 0] 81))
                    have SZ5 := Aside0.mk (show w4.heap.size ≤ (w5.alloc (.cells #[.int .u64 (p.f2), .int .i64 (0), .slice B 0 mm, .int .i64 0, .int .i64 0] 81)).heap.size by have h5 := hp5.2.size; have := HSZ.out; rw [World.size_alloc] at h5 ⊢; omega)
                    clear hq5 hC5 hp5 e0 e1 e2 e3 e4
                    have x0 := (blk_cell BX5.out 0).trans rfl
                    have x1 := (blk_cell BX5.out 1).trans rfl
                    have x2 := (blk_cell BX5.out 2).trans rfl
                    have x3 := (blk_cell BX5.out 3).trans rfl
                    have x4 := (blk_cell BX5.out 4).trans rfl
                    go_wp2
                    go_roundw
                    case rel => exact ⟨n + 1, by go_num, by omega, RS5.out |> Aside0.mk, BW5, SZ5⟩
                    case measure => simp [intOf]; omega
                  · have H0 : Aside0 (p.f0 = 4) := ⟨by omega⟩
                    clear ks k1 k4 q1 q2 q3
                    have CX := Aside0.mk (law03_got_calls g2 row (partForm p ++ forms (ps.drop (n + 1)), 0) (rdPart p) A4 c4 (wr.alloc (.cells #[.int .i64 4, .int .i64 (p.f4.length : Int), .int .u64 p.f2, .int .i64 p.f3, .slice A4 p.f4.length c4] 49)) (HS.out.below (below_alloc (Below.refl _ _) _)) (fun k hk => by have := (HROW.out k hk).2; have := HSZ.out; rw [World.size_alloc]; omega) HWP.out HLB.out)
                    rw [GB.out] at CX
                    dsimp only [rdPart] at CX
                    have hrs : rdSize p = (p.f4.length : Int) := by unfold rdSize; rw [if_pos H0.out]
                    have hrn : rdN p = p.f2 := by unfold rdN; rw [if_neg (by intro h; have := H0.out; omega)]
                    rw [hrs, hrn] at CX
                    rw [H0.out] at CX e0
                    simp only [reduceIte, Int.reduceEq, or_true, true_or, or_false, false_or] at CX
                    clear hrs hrn
                    have BX := Aside0.mk (blk_new wr (.cells #[.int .i64 4, .int .i64 (p.f4.length : Int), .int .u64 p.f2, .int .i64 p.f3, .slice A4 p.f4.length c4] 49))
                    go_wp2_with fail
                    refine CX.out.mono ?_
                    rintro e w5 ⟨B, mm, rfl, hq5, hC5, hp5⟩
                    have HNE := Aside0.mk (show wr.heap.size ≠ g2 by have := HG1.out; have := HSZ.out; omega)
                    have BX5 := Aside0.mk (blk_alloc (hp5.2.blk BX.out HNE.out) (.cells #[.int .u64 (0), .int .i64 (0), .slice B p.f4.length mm, .int .i64 0, .int .i64 0] 81))
                    have RS5 := Aside0.mk (hp5.1.below (below_alloc (Below.refl _ _) (.cells #[.int .u64 (0), .int .i64 (0), .slice B p.f4.length mm, .int .i64 0, .int .i64 0] 81)))
                    have BW5 := Aside0.mk (below_alloc (Below.trans (below_alloc HBW.out (.cells #[.int .i64 4, .int .i64 (p.f4.length : Int), .int .u64 p.f2, .int .i64 p.f3, .slice A4 p.f4.length c4] 49)) (hp5.2.below (Nat.le_trans HBW.out.size (by simp)) (fun k hk => by rw [hk]; exact HG0.out))) (.cells #[.int .u64 (0), .int .i64 (0), .slice B p.f4.length mm, .int .i64 0, .int .i64 0] 81))
                    have SZ5 := Aside0.mk (show w4.heap.size ≤ (w5.alloc (.cells #[.int .u64 (0), .int .i64 (0), .slice B p.f4.length mm, .int .i64 0, .int .i64 0] 81)).heap.size by have h5 := hp5.2.size; have := HSZ.out; rw [World.size_alloc] at h5 ⊢; omega)
                    have HQ5 := Aside0.mk hq5
                    have C5 := Aside0.mk (Kd.C_below hC5 (below_alloc (Below.refl _ _) (.cells #[.int .u64 (0), .int .i64 (0), .slice B p.f4.length mm, .int .i64 0, .int .i64 0] 81)))
                    clear hq5 hC5 hp5 e0 e1 e2 e3 e4
                    have x0 := (blk_cell BX5.out 0).trans rfl
                    have x1 := (blk_cell BX5.out 1).trans rfl
                    have x2 := (blk_cell BX5.out 2).trans rfl
                    have x3 := (blk_cell BX5.out 3).trans rfl
                    have x4 := (blk_cell BX5.out 4).trans rfl
                    go_wp2_with fail
                    refine (damperref03_Same.calls B mm p.f4 A4 c4 p.f4 true _ C5.out HQ5.out (Kd.C_below HC4.out (Below.trans B3.out (Below.mono BW5.out B3.out.size))) HQ4.out (same_of_eq p.f4)).mono ?_
                    rintro e w6 ⟨rfl, hd⟩
                    have BX6 := Aside0.mk ((hd.below.block _ (blk_lt BX5.out)).trans BX5.out)
                    have RS6 := Aside0.mk (RS5.out.below hd.below)
                    have BW6 := Aside0.mk (below_then BW5.out BW5.out.size hd.below)
                    have SZ6 := Aside0.mk (Nat.le_trans SZ5.out hd.below.size)
                    clear hd x0 x1 x2 x3 x4
                    have x0 := (blk_cell BX6.out 0).trans rfl
                    go_wp2
                    go_roundw
                    case rel => exact ⟨n + 1, by go_num, by omega, RS6.out |> Aside0.mk, BW6, SZ6⟩
                    case measure => simp [intOf]; omega
            · have hnn : n = ps.length := by omega
              subst hnn
              rw [List.drop_length] at HS
              have HS0 := Aside0.mk (show RS wr g2 row (([] : List Int), (0 : Int)) from HS.out)
              clear HS
              go_wp2_with fail
              refine (octets_Reader_Left.calls g2 row ([], 0) wr HS0.out).mono ?_
              rintro e wf ⟨rfl, rfl⟩
              dsimp only
              go_wp2_with fail
              refine (octets_Reader_Fault.calls g2 row ([], 0) wr HS0.out).mono ?_
              rintro e wf ⟨rfl, rfl⟩
              dsimp only
              have bl : (bs.length : Int) ≤ 2800 := by have := LB.out; omega
              by_cases l1 : less < 1
              · go_wp2_with fail
                refine (alive03_calls _).mono ?_
                rintro e w9 ⟨rfl, hd⟩
                have B9 := Aside0.mk (Below.trans HBB.out (Below.mono hd HBB.out.size))
                clear hd
                go_wp2
                go_ret
                exact ⟨rfl, B9.out⟩
              · by_cases l2 : (bs.length : Int) < less
                · go_wp2_with fail
                  refine (alive03_calls _).mono ?_
                  rintro e w9 ⟨rfl, hd⟩
                  have B9 := Aside0.mk (Below.trans HBB.out (Below.mono hd HBB.out.size))
                  clear hd
                  go_wp2
                  go_ret
                  exact ⟨rfl, B9.out⟩
                · have hj0 : 0 ≤ (bs.length : Int) - less := by omega
                  obtain ⟨i5, hi5⟩ : ∃ i, Try.prog.info? 5 = some i := Option.isSome_iff_exists.1 (by kernel_rfl)
                  obtain ⟨hcut, hrd, hle⟩ := print_take_int (k := .u8) 30 5 Try.underlying30 hi5 (by have h := info5; rw [hi5] at h; simp at h; exact h.2.1) X m bs ((bs.length : Int) - less) hj0 (by omega) HQ.out
                  have CT := Aside0.mk (Kd.C_of_reads (d := (0 : Int)) (h1 := fun _ => rfl) (hrd _ (Kd.reads_of_C (d := (0 : Int)) (Kd.C_below CX.out HBW.out))) : Kd.C (Kd.int .u8) wr X (bs.take ((bs.length : Int) - less).toNat).length (bs.take ((bs.length : Int) - less).toNat))
                  have YT := Aside0.mk (YB.out.take ((bs.length : Int) - less).toNat)
                  have LT := Aside0.mk (show (bs.take ((bs.length : Int) - less).toNat).length ≤ 2800 by have := LB.out; rw [List.length_take]; omega)
                  have SH := Aside0.mk (ShP.start ps ((bs.length : Int) - less).toNat (by rw [← HBS.out]; omega))
                  rw [← HBS.out] at SH
                  clear hrd hle hi5 HS0
                  generalize bs.take ((bs.length : Int) - less).toNat = bt at *
                  go_wp2_with fail
                  refine (octets_NewReader.calls2 X m bt wr CT.out (by have := LT.out; omega) YT.out).mono ?_
                  rintro e w5 ⟨g3, row3, rfl, hs3, hb3, hg0, hg1, hrow⟩
                  have RS5 := Aside0.mk hs3
                  have HG30 := Aside0.mk (Nat.le_trans (Nat.le_trans B3.out.size HBW.out.size) hg0)
                  have HROW3 := Aside0.mk hrow
                  have BW5 := Aside0.mk (Below.trans HBB.out (Below.mono hb3 HBB.out.size))
                  clear hs3 hb3 hg0 hg1 hrow
                  go_wp2_with fail
                  go_loopw [12] (fun u12 wr3 => ∃ (n : Nat) (s : List Int × Int), u12 = .int .i64 (n : Int) ∧ n ≤ ps.length ∧ Aside0 (ShP (ps.drop n) s) ∧ Aside0 (RS wr3 g3 row3 s) ∧ Aside0 (s.1.length ≤ 2800) ∧ Aside0 (Below w.heap.size w wr3) ∧ Aside0 (w5.heap.size ≤ wr3.heap.size)) (fun u12 _ => (ps.length - intOf u12).toNat)
                  case atStart => exact ⟨0, (bt, 0), rfl, by omega, SH, RS5, LT, BW5, ⟨Nat.le_refl _⟩⟩
                  case round =>
                    obtain ⟨n, s, rfl, hn, HSH, HS, HLS, HBW, HSZ⟩ := hrel
                    by_cases hlt : n < ps.length
                    · have hraw := HRAW.out n hlt
                      have hpf := HWF.out ps[n] (List.getElem_mem hlt)
                      have hok := HA.out n hlt
                      have hat := fun W hb => at_part (W := W) (p := ps[n]) HR.out hb hlt rfl
                      have hsh := HSH.out
                      rw [List.drop_eq_getElem_cons hlt] at hsh
                      have hstep := hsh.step hok hpf
                      generalize ps[n] = p at *
                      have HAT := Aside0.mk hat
                      have HPF := Aside0.mk hpf
                      have HRW := Aside0.mk hraw
                      have HSTEP := Aside0.mk hstep
                      clear hat hpf hraw hok hsh hstep HSH
                      obtain ⟨A4, c4, e0, e1, e2, e3, e4, hl4, hC4⟩ := HAT.out wr HBW.out
                      clear hl4 hC4
                      by_cases q4 : p.f0 = 4
                      · have CG := Aside0.mk (law03_got_calls g3 row3 s ⟨p.f0, rdSize p, p.f2, p.f3, p.f4⟩ A4 c4 (wr.alloc (.cells #[.int .i64 4, .int .i64 (p.f4.length : Int), .int .u64 p.f2, .int .i64 p.f3, .slice A4 p.f4.length c4] 49)) (HS.out.below (below_alloc (Below.refl _ _) _)) (fun k hk => by have := (HROW3.out k hk).2; have := HSZ.out; rw [World.size_alloc]; omega) (rdPart2_wf p HPF.out HRW.out) (by have := HLS.out; omega))
                        rw [show gotF s ⟨p.f0, rdSize p, p.f2, p.f3, p.f4⟩ = gotF s (rdPart p) from rfl] at CG
                        have hrs : rdSize p = (p.f4.length : Int) := by unfold rdSize; rw [if_pos q4]
                        dsimp only at CG
                        rw [hrs] at CG
                        rw [q4] at CG e0
                        clear q4
                        clear hrs
                        go_wp2_with fail
                        refine CG.out.mono ?_
                        rintro e w6 ⟨B, mm, rfl, _, _, hp6⟩
                        have RS6 := Aside0.mk hp6.1
                        have BW6 := Aside0.mk (Below.trans (below_alloc HBW.out (.cells #[.int .i64 4, .int .i64 (p.f4.length : Int), .int .u64 p.f2, .int .i64 p.f3, .slice A4 p.f4.length c4] 49)) (hp6.2.below (Nat.le_trans HBW.out.size (by simp)) (fun k hk => by rw [hk]; exact HG30.out)))
                        have SZ6 := Aside0.mk (show w5.heap.size ≤ w6.heap.size by have h5 := hp6.2.size; have := HSZ.out; rw [World.size_alloc] at h5; omega)
                        clear hp6 e0 e1 e2 e3 e4
                        go_wp2
                        go_roundw
                        case rel => exact ⟨n + 1, (gotF s (rdPart p)).2.2.2, by go_num, by omega, HSTEP, RS6, ⟨Nat.le_trans (gotF_len_ s (rdPart p)) HLS.out⟩, BW6, SZ6⟩
                        case measure => simp [intOf]; omega
                      · have CG := Aside0.mk (law03_got_calls g3 row3 s ⟨p.f0, rdSize p, p.f2, p.f3, p.f4⟩ A4 c4 (wr.alloc (.cells #[.int .i64 p.f0, .int .i64 p.f1, .int .u64 p.f2, .int .i64 p.f3, .slice A4 p.f4.length c4] 49)) (HS.out.below (below_alloc (Below.refl _ _) _)) (fun k hk => by have := (HROW3.out k hk).2; have := HSZ.out; rw [World.size_alloc]; omega) (rdPart2_wf p HPF.out HRW.out) (by have := HLS.out; omega))
                        rw [show gotF s ⟨p.f0, rdSize p, p.f2, p.f3, p.f4⟩ = gotF s (rdPart p) from rfl] at CG
                        have hrs : rdSize p = p.f1 := by unfold rdSize; rw [if_neg q4]
                        dsimp only at CG
                        rw [hrs] at CG
                        have q4b : (p.f0 == 4) = false := by simpa using q4
                        clear q4
                        clear hrs
                        go_wp2_with fail
                        refine CG.out.mono ?_
                        rintro e w6 ⟨B, mm, rfl, _, _, hp6⟩
                        have RS6 := Aside0.mk hp6.1
                        have BW6 := Aside0.mk (Below.trans (below_alloc HBW.out (.cells #[.int .i64 p.f0, .int .i64 p.f1, .int .u64 p.f2, .int .i64 p.f3, .slice A4 p.f4.length c4] 49)) (hp6.2.below (Nat.le_trans HBW.out.size (by simp)) (fun k hk => by rw [hk]; exact HG30.out)))
                        have SZ6 := Aside0.mk (show w5.heap.size ≤ w6.heap.size by have h5 := hp6.2.size; have := HSZ.out; rw [World.size_alloc] at h5; omega)
                        clear hp6 e0 e1 e2 e3 e4
                        go_wp2
                        go_roundw
                        case rel => exact ⟨n + 1, (gotF s (rdPart p)).2.2.2, by go_num, by omega, HSTEP, RS6, ⟨Nat.le_trans (gotF_len_ s (rdPart p)) HLS.out⟩, BW6, SZ6⟩
                        case measure => simp [intOf]; omega
                    · have hnn : n = ps.length := by omega
                      subst hnn
                      have h3 := HSH.out
                      rw [List.drop_length] at h3
                      have h33 := h3.nil
                      have FX := Aside0.mk (octets_Reader_Fault.calls g3 row3 s wr HS.out)
                      rw [h33] at FX
                      clear h3 h33
                      go_wp2_with fail
                      refine FX.out.mono ?_
                      rintro e wf ⟨rfl, rfl⟩
                      go_wp2_with fail
                      refine (alive03_calls _).mono ?_
                      rintro e w9 ⟨rfl, hd⟩
                      have B9 := Aside0.mk (Below.trans HBW.out (Below.mono hd HBW.out.size))
                      clear hd
                      go_wp2
                      go_ret
                      exact ⟨rfl, B9.out⟩
end Go.Proofs.Ytalpemoodollpaa.P
