/- The walk of OctetsApart. -/
import Derived.Test.YtalpemoodollpaaHForms
namespace Go.Proofs.Ytalpemoodollpaa.P
open Go.RowKit Go.Proofs.YtalpemoodollpaaW.PrintWords Go.Proofs.YtalpemoodollpaaW.PrintLast Go.Proofs.YtalpemoodollpaaW.PrintMore
set_option linter.unusedVariables false
set_option linter.unusedSimpArgs false

/-- What stays told of a slice that is read while a writer is written. -/
theorem WPost.C {w w1 : World} {g : Nat} {row : Option Nat} {ys : List Int} (h : WPost w g row ys w1) {A : Option Addr} {xs : List Int} (hc : Kd.C (Kd.int .u8) w A xs.length xs) (hg : ∀ k, A.map (·.block) = some k → k ≠ g ∧ row ≠ some k) : Kd.C (Kd.int .u8) w1 A xs.length xs := by
  obtain ⟨_, _, _, hf⟩ := h
  exact hf.C hc (fun k hk hS => hS.elim (hg k hk).1 (hg k hk).2)
theorem WPost.ws_other {w w1 : World} {g g' : Nat} {row row' : Option Nat} {xs ys : List Int} (h : WPost w g row ys w1) (hs : WS w g' row' xs) (hne : g' ≠ g) (h1 : row ≠ some g') (h2 : ∀ k, row' = some k → k ≠ g ∧ row ≠ some k) : WS w1 g' row' xs := by
  obtain ⟨_, _, _, hf⟩ := h
  exact hs.fr hf (fun hS => hS.elim hne h1) (fun k hk hS => hS.elim (h2 k hk).1 (h2 k hk).2)

set_option maxRecDepth 100000 in
set_option maxHeartbeats 2000000 in
theorem octetsApart_calls (a b c d : Int) (w : World) (ha0 : 0 ≤ a) (ha1 : a < 18446744073709551616) (hb0 : 0 ≤ b) (hb1 : b < 18446744073709551616)
    (hc0 : -9223372036854775808 ≤ c) (hc1 : c ≤ 9223372036854775807) (hd0 : -9223372036854775808 ≤ d) (hd1 : d ≤ 9223372036854775807) :
    Calls Try.prog 5 #[.int .u64 a, .int .u64 b, .int .i64 c, .int .i64 d] w fun e w' => e = .returned (.bool true) ∧ Below w.heap.size w w' := by
  have HA := Aside0.mk ha1
  have HB := Aside0.mk hb1
  have HC := Aside0.mk (And.intro hc0 hc1)
  have HD := Aside0.mk (And.intro hd0 hd1)
  clear ha1 hb1 hc0 hc1 hd0 hd1
  have HX := Aside0.mk (And.intro ha0 hb0)
  clear ha0 hb0
  have s1 := (((WS.new w).alloc (.cells #[.slice none 0 0] 39)).alloc (.cells #[.slice none 0 0] 39)).alloc (.cells #[.slice none 0 0] 39)
  have s2 := ((WS.new (w.alloc (.cells #[.slice none 0 0] 39))).alloc (.cells #[.slice none 0 0] 39)).alloc (.cells #[.slice none 0 0] 39)
  have s3 := (WS.new ((w.alloc (.cells #[.slice none 0 0] 39)).alloc (.cells #[.slice none 0 0] 39))).alloc (.cells #[.slice none 0 0] 39)
  have s4 := WS.new (((w.alloc (.cells #[.slice none 0 0] 39)).alloc (.cells #[.slice none 0 0] 39)).alloc (.cells #[.slice none 0 0] 39))
  simp only [World.size_alloc] at s2 s3 s4
  have b0 := below_alloc (below_alloc (below_alloc (below_alloc (Below.refl w.heap.size w) (.cells #[.slice none 0 0] 39)) (.cells #[.slice none 0 0] 39)) (.cells #[.slice none 0 0] 39)) (.cells #[.slice none 0 0] 39)
  have S1 := Aside0.mk s1
  have S2 := Aside0.mk s2
  have S3 := Aside0.mk s3
  have S4 := Aside0.mk s4
  have B0 := Aside0.mk b0
  clear s1 s2 s3 s4 b0
  go_enter Try.func5, Try.ntmps5
  go_wp2_with fail
  have hsz : w.heap.size + 4 = ((((w.alloc (.cells #[.slice none 0 0] 39)).alloc (.cells #[.slice none 0 0] 39)).alloc (.cells #[.slice none 0 0] 39)).alloc (.cells #[.slice none 0 0] 39)).heap.size := by simp
  have HZ := Aside0.mk hsz
  clear hsz
  generalize ((((w.alloc (.cells #[.slice none 0 0] 39)).alloc (.cells #[.slice none 0 0] 39)).alloc (.cells #[.slice none 0 0] 39)).alloc (.cells #[.slice none 0 0] 39)) = W0 at *
  -- u
  refine (octets_Writer_Num.calls w.heap.size none [] a W0 HX.out.1 S1.out (by have := numForm_ten a HA.out; simp; omega)).mono ?_
  rintro e W1 ⟨rfl, hp⟩
  obtain ⟨row1, hs1, hb1, hr1⟩ := WPost.below B0.out (Nat.le_refl _) (fun k hk => by cases hk) hp
  have s2 := hp.ws_other S2.out (by omega) (by simp) (by simp)
  have s3 := hp.ws_other S3.out (by omega) (by simp) (by simp)
  have s4 := hp.ws_other S4.out (by omega) (by simp) (by simp)
  have T1 := Aside0.mk hs1
  have T2 := Aside0.mk s2
  have T3 := Aside0.mk s3
  have T4 := Aside0.mk s4
  have B1 := Aside0.mk hb1
  have Z1 := Aside0.mk (Nat.le_trans (Nat.le_of_eq HZ.out) hp.choose_spec.2.2.size)
  clear hp hs1 hb1 hr1 s2 s3 s4 S1 S2 S3 S4 B0 HZ
  go_wp2_with fail
  refine (octets_Writer_Bytes.calls w.heap.size row1 _ W1 T1.out (by have := numForm_ten a HA.out; simp; omega)).mono ?_
  rintro e W2 ⟨v, rfl, hR, hB⟩
  obtain ⟨Ap, cp, rfl, hlp, hCp, hkp⟩ := R_open hR
  have S2 := Aside0.mk (T2.out.below hB)
  have S3 := Aside0.mk (T3.out.below hB)
  have S4 := Aside0.mk (T4.out.below hB)
  have B2 := Aside0.mk (below_then B1.out B1.out.size hB)
  have KP := Aside0.mk (fun k hk => Nat.le_trans Z1.out (hkp k hk).1)
  have CP := Aside0.mk hCp
  have Z2 := Aside0.mk (Nat.le_trans Z1.out hB.size)
  clear hR hB hCp hkp T1 T2 T3 T4 B1 Z1
  rw [List.nil_append] at CP
  -- v
  go_wp2_with fail
  refine (octets_Writer_Num.calls (w.heap.size + 1) none [] b W2 HX.out.2 S2.out (by have := numForm_ten b HB.out; simp; omega)).mono ?_
  rintro e W3 ⟨rfl, hp⟩
  obtain ⟨row2, hs1, hb1, hr1⟩ := WPost.below B2.out (Nat.le_succ _) (fun k hk => by cases hk) hp
  have s3 := hp.ws_other S3.out (by omega) (by simp) (by simp)
  have s4 := hp.ws_other S4.out (by omega) (by simp) (by simp)
  have cp1 := hp.C CP.out (fun k hk => ⟨by have := KP.out k hk; omega, by simp⟩)
  have T1 := Aside0.mk hs1
  have T3 := Aside0.mk s3
  have T4 := Aside0.mk s4
  have B3 := Aside0.mk hb1
  have CP3 := Aside0.mk cp1
  have Z3 := Aside0.mk (Nat.le_trans Z2.out hp.choose_spec.2.2.size)
  clear hp hs1 hb1 hr1 s3 s4 cp1 S2 S3 S4 B2 CP Z2
  go_wp2_with fail
  refine (octets_Writer_Bytes.calls (w.heap.size + 1) row2 _ W3 T1.out (by have := numForm_ten b HB.out; simp; omega)).mono ?_
  rintro e W4 ⟨v, rfl, hR, hB⟩
  obtain ⟨Aq, cq, rfl, hlq, hCq, hkq⟩ := R_open hR
  have S3 := Aside0.mk (T3.out.below hB)
  have S4 := Aside0.mk (T4.out.below hB)
  have B4 := Aside0.mk (below_then B3.out B3.out.size hB)
  have KQ := Aside0.mk (fun k hk => Nat.le_trans Z3.out (hkq k hk).1)
  have CQ := Aside0.mk hCq
  have CP := Aside0.mk (Kd.C_below CP3.out hB)
  have Z4 := Aside0.mk (Nat.le_trans Z3.out hB.size)
  clear hR hB hCq hkq T1 T3 T4 B3 CP3 Z3
  rw [List.nil_append] at CQ
  -- w
  go_wp2_with fail
  refine (octets_Writer_Int.calls (w.heap.size + 1 + 1) none [] c W4 HC.out.1 HC.out.2 S3.out (by simp)).mono ?_
  rintro e W5 ⟨rfl, hp⟩
  obtain ⟨row3, hs1, hb1, hr1⟩ := WPost.below B4.out (by omega) (fun k hk => by cases hk) hp
  have s4 := hp.ws_other S4.out (by omega) (by simp) (by simp)
  have cp1 := hp.C CP.out (fun k hk => ⟨by have := KP.out k hk; omega, by simp⟩)
  have cq1 := hp.C CQ.out (fun k hk => ⟨by have := KQ.out k hk; omega, by simp⟩)
  have T1 := Aside0.mk hs1
  have T4 := Aside0.mk s4
  have B5 := Aside0.mk hb1
  have CP5 := Aside0.mk cp1
  have CQ5 := Aside0.mk cq1
  have Z5 := Aside0.mk (Nat.le_trans Z4.out hp.choose_spec.2.2.size)
  clear hp hs1 hb1 hr1 s4 cp1 cq1 S3 S4 B4 CP CQ Z4
  go_wp2_with fail
  refine (octets_Writer_Bytes.calls (w.heap.size + 1 + 1) row3 _ W5 T1.out (by simp [intForm_length])).mono ?_
  rintro e W6 ⟨v, rfl, hR, hB⟩
  obtain ⟨As, cs, rfl, hls, hCs, hks⟩ := R_open hR
  have S4 := Aside0.mk (T4.out.below hB)
  have B6 := Aside0.mk (below_then B5.out B5.out.size hB)
  have KS := Aside0.mk (fun k hk => Nat.le_trans Z5.out (hks k hk).1)
  have CS := Aside0.mk hCs
  have CP := Aside0.mk (Kd.C_below CP5.out hB)
  have CQ := Aside0.mk (Kd.C_below CQ5.out hB)
  have Z6 := Aside0.mk (Nat.le_trans Z5.out hB.size)
  clear hR hB hCs hks T1 T4 B5 CP5 CQ5 Z5
  rw [List.nil_append] at CS
  -- x
  go_wp2_with fail
  refine (octets_Writer_Int.calls (w.heap.size + 1 + 1 + 1) none [] d W6 HD.out.1 HD.out.2 S4.out (by simp)).mono ?_
  rintro e W7 ⟨rfl, hp⟩
  obtain ⟨row4, hs1, hb1, hr1⟩ := WPost.below B6.out (by omega) (fun k hk => by cases hk) hp
  have cp1 := hp.C CP.out (fun k hk => ⟨by have := KP.out k hk; omega, by simp⟩)
  have cq1 := hp.C CQ.out (fun k hk => ⟨by have := KQ.out k hk; omega, by simp⟩)
  have cs1 := hp.C CS.out (fun k hk => ⟨by have := KS.out k hk; omega, by simp⟩)
  have T1 := Aside0.mk hs1
  have B7 := Aside0.mk hb1
  have CP7 := Aside0.mk cp1
  have CQ7 := Aside0.mk cq1
  have CS7 := Aside0.mk cs1
  clear hp hs1 hb1 hr1 cp1 cq1 cs1 S4 B6 CP CQ CS Z6 KP KQ KS
  go_wp2_with fail
  refine (octets_Writer_Bytes.calls (w.heap.size + 1 + 1 + 1) row4 _ W7 T1.out (by simp [intForm_length])).mono ?_
  rintro e W8 ⟨v, rfl, hR, hB⟩
  obtain ⟨At, ct, rfl, hlt, hCt, hkt⟩ := R_open hR
  have B8 := Aside0.mk (below_then B7.out B7.out.size hB)
  have CT := Aside0.mk hCt
  have CP := Aside0.mk (Kd.C_below CP7.out hB)
  have CQ := Aside0.mk (Kd.C_below CQ7.out hB)
  have CS := Aside0.mk (Kd.C_below CS7.out hB)
  clear hR hB hCt hkt T1 B7 CP7 CQ7 CS7
  rw [List.nil_append] at CT hlp hlq hls hlt
  simp only [List.nil_append]
  -- the tests
  have hbeg := begins_iff a.toNat b.toNat
  have YP := Aside0.mk (numForm_byt a.toNat)
  have YQ := Aside0.mk (numForm_byt b.toNat)
  have YS := Aside0.mk (intForm_byt c)
  have YT := Aside0.mk (intForm_byt d)
  have hab : a.toNat = b.toNat ↔ a = b := by have := HX.out; omega
  have hcd : intForm c = intForm d ↔ c = d := ⟨intForm_inj HC.out.1 HC.out.2 HD.out.1 HD.out.2, fun h => by rw [h]⟩
  have hlc : (intForm c).length = 8 := intForm_length c
  have hld : (intForm d).length = 8 := intForm_length d
  rw [hab] at hbeg
  have LP := Aside0.mk (numForm_ten a HA.out)
  have LQ := Aside0.mk (numForm_ten b HB.out)
  generalize numForm a.toNat = p at *
  generalize numForm b.toNat = q at *
  generalize intForm c = sc at *
  generalize intForm d = td at *
  have HBEG := Aside0.mk hbeg
  have HCD := Aside0.mk hcd
  have HLC := Aside0.mk hlc
  have HLD := Aside0.mk hld
  clear hbeg hcd hlc hld hab HA HB HC HD HX
  by_cases hle : p.length ≤ q.length
  · have lq := LQ.out
    have lp := LP.out
    go_wp2_with fail
    have hlq : (q.take p.length).length = p.length := by rw [List.length_take]; omega
    have hS := same_calls Ap cp p Aq cq (q.take p.length) W8 CP.out (by assumption) (by rw [hlq]; exact C_take CQ.out _ hle) (by rw [hlq]; omega) YP.out (YQ.out.take _)
    rw [hlq] at hS
    refine hS.mono ?_
    rintro e W9 ⟨rfl, hd⟩
    have B9 := Aside0.mk (below_then B8.out B8.out.size hd.below)
    have CS2 := Aside0.mk (Kd.C_below CS.out hd.below)
    have CT2 := Aside0.mk (Kd.C_below CT.out hd.below)
    have HLS := Aside0.mk hls
    have HLT := Aside0.mk hlt
    rw [show decide (p = q.take p.length) = (a == b) from by
      have h := HBEG.out
      rw [Nat.min_eq_left hle] at h
      rw [Bool.eq_iff_iff]
      simp only [decide_eq_true_eq, beq_iff_eq, ← h, hle, true_and]]
    clear hd hlq hS hls hlt
    go_wp2_with fail
    refine (same_calls As cs sc At ct td _ CS2.out HLS.out CT2.out HLT.out YS.out YT.out).mono ?_
    rintro e W10 ⟨rfl, hd⟩
    have B10 := Aside0.mk (below_then B9.out B9.out.size hd.below)
    rw [show decide (sc = td) = (c == d) from by rw [Bool.eq_iff_iff]; simp [HCD.out]]
    clear hd
    go_wp2_with fail
    refine (damperlaw03_alive.calls true W10 rfl).mono ?_
    rintro e W11 ⟨rfl, hd⟩
    have B11 := Aside0.mk (below_then B10.out B10.out.size hd)
    clear hd
    go_wp2
    go_ret
    exact ⟨rfl, B11.out⟩
  · have hnab : (a == b) = false := by
      have h := HBEG.out
      simp only [beq_eq_false_iff_ne]
      exact fun e => hle (h.2 e).1
    have hle' : q.length < p.length := by omega
    have B9 := B8
    have CS2 := CS
    have CT2 := CT
    have HLS := Aside0.mk hls
    have HLT := Aside0.mk hlt
    clear hls hlt
    go_wp2_with fail
    refine (same_calls As cs sc At ct td _ CS2.out HLS.out CT2.out HLT.out YS.out YT.out).mono ?_
    rintro e W10 ⟨rfl, hd⟩
    have B10 := Aside0.mk (below_then B9.out B9.out.size hd.below)
    rw [show decide (sc = td) = (c == d) from by rw [Bool.eq_iff_iff]; simp [HCD.out]]
    clear hd
    go_wp2_with fail
    refine (damperlaw03_alive.calls true W10 rfl).mono ?_
    rintro e W11 ⟨rfl, hd⟩
    have B11 := Aside0.mk (below_then B10.out B10.out.size hd)
    clear hd
    go_wp2
    go_ret
    exact ⟨rfl, B11.out⟩
end Go.Proofs.Ytalpemoodollpaa.P
