/- damperlaw03's form and put. -/
import Derived.Test.YtalpemoodollpaaHRefNum
import Derived.Test.YtalpemoodollpaaHOpen
import Derived.Test.YtalpemoodollpaaHForms
import Derived.Test.YtalpemoodollpaaP41
namespace Go.Proofs.Ytalpemoodollpaa.P
open Go.RowKit Go.Proofs.YtalpemoodollpaaW.PrintWords Go.Proofs.YtalpemoodollpaaW.PrintLast Go.Proofs.YtalpemoodollpaaW.PrintMore
set_option linter.unusedVariables false
set_option linter.unusedSimpArgs false

/-- What the document says that a part puts. -/
def partForm (p : S49) : List Int :=
  if p.f0 = 1 then (if p.f1 < 1 ∨ 8 < p.f1 then [] else uintForm p.f2.toNat p.f1.toNat) else if p.f0 = 2 then intForm p.f3 else if p.f0 = 3 then numForm p.f2.toNat else if p.f0 = 4 then p.f4 else []
def partVal (p : S49) (A : Option Addr) (c : Nat) : Value := .agg #[.int .i64 p.f0, .int .i64 p.f1, .int .u64 p.f2, .int .i64 p.f3, .slice A p.f4.length c]
theorem WF49.n {p : S49} (h : WF49 p) : 0 ≤ p.f2 ∧ p.f2 < 18446744073709551616 := row.wf_u64 h.2.2.1
theorem WF49.s {p : S49} (h : WF49 p) : -9223372036854775808 ≤ p.f3 ∧ p.f3 ≤ 9223372036854775807 := row.wf_i64 h.2.2.2.1
set_option maxRecDepth 100000 in
set_option maxHeartbeats 2000000 in
theorem law03_form_calls (p : S49) (A : Option Addr) (c : Nat) (w : World) (hw : WF49 p) (hc : p.f4.length ≤ c) (hC : Kd.C (Kd.int .u8) w A p.f4.length p.f4) :
    Calls Try.prog 41 #[.agg #[.int .i64 p.f0, .int .i64 p.f1, .int .u64 p.f2, .int .i64 p.f3, .slice A p.f4.length c]] w fun e w' => ∃ B m, e = .returned (.slice B (partForm p).length m) ∧ (partForm p).length ≤ m ∧ Kd.C (Kd.int .u8) w' B (partForm p).length (partForm p) ∧ Below w.heap.size w w' := by
  obtain ⟨f0, f1, f2, f3, f4⟩ := p
  have hn := hw.n
  have hs := hw.s
  generalize hF : partForm ⟨f0, f1, f2, f3, f4⟩ = F
  unfold partForm at hF
  dsimp only at *
  have HC := Aside0.mk hC
  have HL := Aside0.mk hc
  clear hw hC hc
  by_cases h1 : f0 = 1
  · subst h1
    rw [if_pos rfl] at hF
    have hX : damperref03_Uint.f 12 f2 f1 = some F := by
      rw [← hF]
      by_cases h : f1 < 1 ∨ 8 < f1
      · rw [if_pos h, refUint_none f2 f1 h 12 (by omega)]
      · rw [if_neg h, refUint f2 f1 hn.1 hn.2 (by omega) (by omega) 12 (by omega)]
    have HX := Aside0.mk hX
    clear hX hF hn hs
    have HA := Aside0.mk (below_alloc (Below.refl w.heap.size w) (.cells #[.int .i64 1, .int .i64 f1, .int .u64 f2, .int .i64 f3, .slice A f4.length c] 49))
    go_enter Try.func41, Try.ntmps41
    go_wp2_with fail
    refine (damperref03_Uint.calls 12 f2 f1 F _ HX.out).mono ?_
    rintro e w1 ⟨v1, rfl, hR, hb⟩
    obtain ⟨X1, x1, rfl, hq, hC⟩ := Kd.R_reads hR
    have CX := Aside0.mk hC
    have QX := Aside0.mk hq
    have B1 := Aside0.mk (Below.trans HA.out (Below.mono hb HA.out.size))
    clear hR hb hC hq HA
    go_wp2
    go_ret
    exact ⟨X1, x1, rfl, QX.out, CX.out, B1.out⟩
  · by_cases h2 : f0 = 2
    · subst h2
      rw [if_neg h1, if_pos rfl] at hF
      have hX : damperref03_Int.f 12 f3 = some F := by
        rw [← hF, refInt f3 hs.1 hs.2 12 (by omega)]
      have HX := Aside0.mk hX
      clear hX hF hn hs h1
      have HA := Aside0.mk (below_alloc (Below.refl w.heap.size w) (.cells #[.int .i64 2, .int .i64 f1, .int .u64 f2, .int .i64 f3, .slice A f4.length c] 49))
      go_enter Try.func41, Try.ntmps41
      go_wp2_with fail
      refine (damperref03_Int.calls 12 f3 F _ HX.out).mono ?_
      rintro e w1 ⟨v1, rfl, hR, hb⟩
      obtain ⟨X1, x1, rfl, hq, hC⟩ := Kd.R_reads hR
      have CX := Aside0.mk hC
      have QX := Aside0.mk hq
      have B1 := Aside0.mk (Below.trans HA.out (Below.mono hb HA.out.size))
      clear hR hb hC hq HA
      go_wp2
      go_ret
      exact ⟨X1, x1, rfl, QX.out, CX.out, B1.out⟩
    · by_cases h3 : f0 = 3
      · subst h3
        rw [if_neg h1, if_neg h2, if_pos rfl] at hF
        have hX : damperref03_Num.f 12 f2 = some F := by
          rw [← hF, refNum f2 hn.1 hn.2 12 (by omega)]
        have HX := Aside0.mk hX
        clear hX hF hn hs h1 h2
        have HA := Aside0.mk (below_alloc (Below.refl w.heap.size w) (.cells #[.int .i64 3, .int .i64 f1, .int .u64 f2, .int .i64 f3, .slice A f4.length c] 49))
        go_enter Try.func41, Try.ntmps41
        go_wp2_with fail
        refine (damperref03_Num.calls 12 f2 F _ HX.out).mono ?_
        rintro e w1 ⟨v1, rfl, hR, hb⟩
        obtain ⟨X1, x1, rfl, hq, hC⟩ := Kd.R_reads hR
        have CX := Aside0.mk hC
        have QX := Aside0.mk hq
        have B1 := Aside0.mk (Below.trans HA.out (Below.mono hb HA.out.size))
        clear hR hb hC hq HA
        go_wp2
        go_ret
        exact ⟨X1, x1, rfl, QX.out, CX.out, B1.out⟩
      · by_cases h4 : f0 = 4
        · subst h4
          rw [if_neg h1, if_neg h2, if_neg h3, if_pos rfl] at hF
          subst hF
          clear hn hs h1 h2 h3
          have HA := Aside0.mk (below_alloc (Below.refl w.heap.size w) (.cells #[.int .i64 4, .int .i64 f1, .int .u64 f2, .int .i64 f3, .slice A f4.length c] 49))
          have HC2 := Aside0.mk (Kd.C_alloc HC.out (.cells #[.int .i64 4, .int .i64 f1, .int .u64 f2, .int .i64 f3, .slice A f4.length c] 49))
          go_enter Try.func41, Try.ntmps41
          go_wp2
          go_ret
          exact ⟨A, c, rfl, HL.out, HC2.out, HA.out⟩
        · rw [if_neg h1, if_neg h2, if_neg h3, if_neg h4] at hF
          subst hF
          clear hn hs
          have HA := Aside0.mk (below_alloc (Below.refl w.heap.size w) (.cells #[.int .i64 f0, .int .i64 f1, .int .u64 f2, .int .i64 f3, .slice A f4.length c] 49))
          have HC2 := Aside0.mk (Kd.C_nil (Kd.int .u8) (w.alloc (.cells #[.int .i64 f0, .int .i64 f1, .int .u64 f2, .int .i64 f3, .slice A f4.length c] 49)))
          go_enter Try.func41, Try.ntmps41
          go_wp2
          go_ret
          exact ⟨none, 0, rfl, Nat.le_refl _, HC2.out, HA.out⟩
theorem WPost.of_alloc {w w' : World} {g : Nat} {row : Option Nat} {ys : List Int} {o : Obj} (h : WPost (w.alloc o) g row ys w') : WPost w g row ys w' := by
  obtain ⟨row', hs, hr, hf⟩ := h
  refine ⟨row', hs, hr.imp_right (fun ⟨b, hb, hl⟩ => ⟨b, hb, by rw [World.size_alloc] at hl; omega⟩), ((Fr.refl w (fun k => k = g ∨ row = some k)).alloc o).trans hf (fun _ _ h => h)⟩
theorem WS.post {w : World} {g : Nat} {row : Option Nat} {xs : List Int} (h : WS w g row xs) (o : Obj) : WPost w g row xs (w.alloc o) :=
  ⟨row, h.alloc o, .inl rfl, (Fr.refl w _).alloc o⟩
set_option maxRecDepth 100000 in
set_option maxHeartbeats 2000000 in
theorem law03_put_calls (g : Nat) (row : Option Nat) (xs : List Int) (p : S49) (A : Option Addr) (c : Nat) (w : World) (hw : WS w g row xs) (hf : WF49 p) (hC : Kd.C (Kd.int .u8) w A p.f4.length p.f4) (hl : xs.length + p.f4.length + 100 ≤ 140737488355328) :
    Calls Try.prog 42 #[.pointer (some ⟨g, 0, none⟩), .agg #[.int .i64 p.f0, .int .i64 p.f1, .int .u64 p.f2, .int .i64 p.f3, .slice A p.f4.length c]] w fun e w' => e = .returned (.pointer (some ⟨g, 0, none⟩)) ∧ WPost w g row (xs ++ partForm p) w' := by
  obtain ⟨f0, f1, f2, f3, f4⟩ := p
  have hn := hf.n
  have hs := hf.s
  generalize hF : partForm ⟨f0, f1, f2, f3, f4⟩ = F
  unfold partForm at hF
  dsimp only at *
  clear hf
  have hten := numForm_ten f2 hn.2
  by_cases h1 : f0 = 1
  · subst h1
    rw [if_pos rfl] at hF
    by_cases hk : f1 < 1 ∨ 8 < f1
    · rw [if_pos hk] at hF
      subst hF
      have HX := Aside0.mk (octets_Writer_Uint.none g f2 f1 (w.alloc (.cells #[.int .i64 1, .int .i64 f1, .int .u64 f2, .int .i64 f3, .slice A f4.length c] 49)) hk)
      have HS := Aside0.mk hw
      clear hn hs hw hl hten hk
      go_enter Try.func42, Try.ntmps42
      go_wp2_with fail
      refine HX.out.mono ?_
      rintro e w1 ⟨rfl, rfl⟩
      go_wp2
      go_ret
      exact ⟨rfl, by rw [List.append_nil]; exact HS.out.post _⟩
    · rw [if_neg hk] at hF
      subst hF
      have HX := Aside0.mk (octets_Writer_Uint.calls g row xs f2 f1 (w.alloc (.cells #[.int .i64 1, .int .i64 f1, .int .u64 f2, .int .i64 f3, .slice A f4.length c] 49)) hn.1 (hw.alloc _) (by omega) (by omega) (by omega))
      clear hn hs hw hl hten hk
      go_enter Try.func42, Try.ntmps42
      go_wp2_with fail
      refine HX.out.mono ?_
      rintro e w1 ⟨rfl, hp⟩
      have HP := Aside0.mk hp
      clear hp
      go_wp2
      go_ret
      exact ⟨rfl, HP.out.of_alloc⟩
  · by_cases h2 : f0 = 2
    · rw [if_neg h1, if_pos h2] at hF
      subst h2
      subst hF
      have HX := Aside0.mk (octets_Writer_Int.calls g row xs f3 (w.alloc (.cells #[.int .i64 2, .int .i64 f1, .int .u64 f2, .int .i64 f3, .slice A f4.length c] 49)) hs.1 hs.2 (hw.alloc _) (by omega))
      clear hn hs hw hl hten h1 hC
      go_enter Try.func42, Try.ntmps42
      go_wp2_with fail
      refine HX.out.mono ?_
      rintro e w1 ⟨rfl, hp⟩
      have HP := Aside0.mk hp
      clear hp
      go_wp2
      go_ret
      exact ⟨rfl, HP.out.of_alloc⟩
    · by_cases h3 : f0 = 3
      · rw [if_neg h1, if_neg h2, if_pos h3] at hF
        subst h3
        subst hF
        have HX := Aside0.mk (octets_Writer_Num.calls g row xs f2 (w.alloc (.cells #[.int .i64 3, .int .i64 f1, .int .u64 f2, .int .i64 f3, .slice A f4.length c] 49)) hn.1 (hw.alloc _) (by omega))
        clear hn hs hw hl hten h1 h2 hC
        go_enter Try.func42, Try.ntmps42
        go_wp2_with fail
        refine HX.out.mono ?_
        rintro e w1 ⟨rfl, hp⟩
        have HP := Aside0.mk hp
        clear hp
        go_wp2
        go_ret
        exact ⟨rfl, HP.out.of_alloc⟩
      · by_cases h4 : f0 = 4
        · rw [if_neg h1, if_neg h2, if_neg h3, if_pos h4] at hF
          subst h4
          subst hF
          have HX := Aside0.mk (octets_Writer_Raw.calls g row xs f4 A c (w.alloc (.cells #[.int .i64 4, .int .i64 f1, .int .u64 f2, .int .i64 f3, .slice A f4.length c] 49)) (hw.alloc _) (Kd.C_alloc hC _) (by omega))
          clear hn hs hw hl hten h1 h2 h3 hC
          go_enter Try.func42, Try.ntmps42
          go_wp2_with fail
          refine HX.out.mono ?_
          rintro e w1 ⟨rfl, hp⟩
          have HP := Aside0.mk hp
          clear hp
          go_wp2
          go_ret
          exact ⟨rfl, HP.out.of_alloc⟩
        · rw [if_neg h1, if_neg h2, if_neg h3, if_neg h4] at hF
          subst hF
          have HS := Aside0.mk hw
          clear hn hs hw hl hten hC
          go_enter Try.func42, Try.ntmps42
          go_wp2
          go_ret
          exact ⟨rfl, by rw [List.append_nil]; exact HS.out.post _⟩
set_option maxRecDepth 100000 in
set_option maxHeartbeats 2000000 in
theorem law03_put_nil (f0 f1 f2 f3 : Int) (n c : Nat) (A : Option Addr) (w : World) :
    Calls Try.prog 42 #[.pointer none, .agg #[.int .i64 f0, .int .i64 f1, .int .u64 f2, .int .i64 f3, .slice A n c]] w fun e w' => e = .returned (.pointer none) ∧ Below w.heap.size w w' := by
  have HB := Aside0.mk (below_alloc (Below.refl w.heap.size w) (.cells #[.int .i64 f0, .int .i64 f1, .int .u64 f2, .int .i64 f3, .slice A n c] 49))
  by_cases h1 : f0 = 1
  · subst h1
    skip
    go_enter Try.func42, Try.ntmps42
    go_wp2_with fail
    refine (octets_Writer_Uint.nil _ _ _).mono ?_
    rintro e w1 ⟨rfl, rfl⟩
    go_wp2
    go_ret
    exact ⟨rfl, HB.out⟩
  · by_cases h2 : f0 = 2
    · subst h2
      clear h1
      go_enter Try.func42, Try.ntmps42
      go_wp2_with fail
      refine (octets_Writer_Int.nil _ _).mono ?_
      rintro e w1 ⟨rfl, rfl⟩
      go_wp2
      go_ret
      exact ⟨rfl, HB.out⟩
    · by_cases h3 : f0 = 3
      · subst h3
        clear h1 h2
        go_enter Try.func42, Try.ntmps42
        go_wp2_with fail
        refine (octets_Writer_Num.nil _ _).mono ?_
        rintro e w1 ⟨rfl, rfl⟩
        go_wp2
        go_ret
        exact ⟨rfl, HB.out⟩
      · by_cases h4 : f0 = 4
        · subst h4
          clear h1 h2 h3
          go_enter Try.func42, Try.ntmps42
          go_wp2_with fail
          refine (octets_Writer_Raw.nil _ _).mono ?_
          rintro e w1 ⟨rfl, rfl⟩
          go_wp2
          go_ret
          exact ⟨rfl, HB.out⟩
        · go_enter Try.func42, Try.ntmps42
          go_wp2
          go_ret
          exact ⟨rfl, HB.out⟩
end Go.Proofs.Ytalpemoodollpaa.P
