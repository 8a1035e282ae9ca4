/- The walk of OctetsPuts. -/
import Derived.Test.YtalpemoodollpaaHPut
import Derived.Test.YtalpemoodollpaaHApart
import Derived.Test.YtalpemoodollpaaP40
import Derived.LaidEqlPtr
namespace Go.Proofs.Ytalpemoodollpaa.P
open Go.RowKit Go.Proofs.YtalpemoodollpaaW.PrintWords Go.Proofs.YtalpemoodollpaaW.PrintLast Go.Proofs.YtalpemoodollpaaW.PrintMore
set_option linter.unusedVariables false
set_option linter.unusedSimpArgs false

theorem info39_ : (Try.prog.info? 39).isSome = true := by kernel_rfl
theorem info39 : ∃ j, Try.prog.info? 39 = some j := Option.isSome_iff_exists.1 info39_
theorem neq_ptr_same (w : World) (a : Addr) : (binOp .neq 40 (.pointer (some a)) (.pointer (some a))).run Try.prog w = .ok (.bool false) w := by
  obtain ⟨j, hj⟩ := info39
  have h : ∀ d : Nat, (Op.equalIn (d + 1) 40 (.pointer (some a)) (.pointer (some a))).run Try.prog w = .ok true w := fun d => by
    simp [Op.equalIn, run_underlying Try.underlying40, sizeOf, typeInfo, hj, run_sameAddr_same]
  simp only [binOp]
  simp [Op.equal, Op.maxDepth, h 9999]
theorem rdT49_eq (l : List S49) (i : Nat) (h : i < l.length) : rd_T49 l (i : Int) = l[i] := by
  simp [rd_T49, List.getD_eq_getElem?_getD, h]
theorem light_go (ps : List S49) (hl : ps.length ≤ 40) : ∀ (j i : Nat), i + j = ps.length →
    ∃ b, damperlaw03_light.l0 (j + 1) ps (i : Int) = some b ∧ (b = true → ∀ n (h : n < ps.length), i ≤ n → (ps[n]).f4.length ≤ 60) := by
  intro j
  induction j with
  | zero =>
    intro i hi
    unfold damperlaw03_light.l0
    rw [if_neg (by omega)]
    exact ⟨true, rfl, fun _ n h hn => by omega⟩
  | succ j ih =>
    intro i hi
    obtain ⟨b, hb, hall⟩ := ih (i + 1) (by omega)
    unfold damperlaw03_light.l0
    rw [if_pos (by omega), if_pos (by omega), rdT49_eq ps i (by omega)]
    by_cases h6 : ((ps[i]'(by omega)).f4.length : Int) > 60
    · rw [if_pos h6]
      exact ⟨false, rfl, fun h => by cases h⟩
    · rw [if_neg h6, show wrap64 ((i : Int) + 1) = ((i + 1 : Nat) : Int) by rw [wrap64_eq]; omega]
      refine ⟨b, hb, fun ht n hn hin => ?_⟩
      by_cases he : n = i
      · subst he; omega
      · exact hall ht n hn (by omega)
theorem light_f (ps : List S49) : ∃ b, damperlaw03_light.f 64 ps = some b ∧ (b = true → ps.length ≤ 40 ∧ ∀ n (h : n < ps.length), (ps[n]).f4.length ≤ 60) := by
  show ∃ b, damperlaw03_light.f 64 ps = some b ∧ _
  by_cases h : (ps.length : Int) > 40
  · refine ⟨false, ?_, fun h => by cases h⟩
    unfold damperlaw03_light.f
    rw [if_pos h]
  · obtain ⟨b, hb, hall⟩ := light_go ps (by omega) ps.length 0 (by omega)
    refine ⟨b, ?_, fun ht => ⟨by omega, fun n hn => hall ht n hn (by omega)⟩⟩
    have hup := up_ (f := fun k => damperlaw03_light.f k ps) (k := ps.length + 1) (r := b) (fun k => damperlaw03_light.mono ps k) (by
      show damperlaw03_light.f (ps.length + 1) ps = some b
      unfold damperlaw03_light.f
      rw [if_neg h]
      exact hb) 64 (by omega)
    exact hup
/-- A writer, and a list of bytes of one's own beside it. -/
structure PW (w W : World) (g : Nat) (want : Value) (xs ys : List Int) : Prop where
  ex : ∃ row, WS W g row xs ∧ (∀ k, row = some k → w.heap.size ≤ k) ∧ (∀ k, want.ownBlock = some k → k ≠ g ∧ row ≠ some k)
  own : W.ownsRow w.heap.size 5 1 want ys.length (nums .u8 ys)
  bel : Below w.heap.size w W
  hg : w.heap.size ≤ g
namespace PW
variable {w W W1 : World} {g : Nat} {want v1 : Value} {xs ys F : List Int}
theorem new (hB : Below w.heap.size w W) : PW w (W.alloc (.cells #[.slice none 0 0] 39)) W.heap.size (.slice none 0 0) [] [] :=
  ⟨⟨none, WS.new W, (fun k hk => by cases hk), (fun k hk => by simp [Value.ownBlock] at hk)⟩, own_nil _ _ _ _, below_alloc hB _, hB.size⟩
theorem below (h : PW w W g want xs ys) (hb : Below W.heap.size W W1) : PW w W1 g want xs ys := by
  obtain ⟨⟨row, hs, hr, hne⟩, ho, hB, hg⟩ := h
  exact ⟨⟨row, hs.below hb, hr, hne⟩, (Fr.of_below hb (fun _ => False)).own ho (fun _ _ h => h), below_then hB hB.size hb, hg⟩
theorem append (h : PW w W g want xs ys) (hown : W1.ownsRow w.heap.size 5 1 v1 (ys ++ F).length (nums .u8 (ys ++ F))) (hB : Below w.heap.size w W1) (hg : W.grownBy W1 want.ownBlock)
    (hat : v1.ownBlock = want.ownBlock ∨ ∃ b, v1.ownBlock = some b ∧ W.heap.size ≤ b) : PW w W1 g v1 xs (ys ++ F) := by
  obtain ⟨⟨row, hs, hr, hne⟩, ho, _, hgg⟩ := h
  have hf : Fr W W1 (fun k => want.ownBlock = some k) := (Fr.refl W _).grown hg (fun k _ hk => hk)
  have hlt := hs.lt
  have hrlt : ∀ k, row = some k → k < W.heap.size := fun k hk => by
    obtain ⟨v, hb2, hr2, ho2⟩ := hs
    exact own_lt ho2 k (by rw [hr2, hk])
  refine ⟨⟨row, hs.fr hf (fun hS => (hne g hS).1 rfl) (fun k hk hS => (hne k hS).2 hk), hr, fun k hk => ?_⟩, hown, hB, hgg⟩
  rcases hat with hat | ⟨b, hb, hbl⟩
  · rw [hat] at hk
    exact hne k hk
  · rw [hb] at hk
    injection hk with hk
    subst hk
    exact ⟨by omega, fun hrb => by have := hrlt b hrb; omega⟩
theorem post {row : Option Nat} (hs : WS W g row xs) (hr : ∀ k, row = some k → w.heap.size ≤ k) (hne : ∀ k, want.ownBlock = some k → k ≠ g ∧ row ≠ some k) (ho : W.ownsRow w.heap.size 5 1 want ys.length (nums .u8 ys))
    (hB : Below w.heap.size w W) (hg : w.heap.size ≤ g) {zs : List Int} (hp : WPost W g row zs W1) : PW w W1 g want zs ys := by
  obtain ⟨row', hs', hr', hf⟩ := hp
  refine ⟨⟨row', hs', fun k hk => ?_, fun k hk => ⟨(hne k hk).1, ?_⟩⟩, hf.own ho (fun k hk hS => hS.elim (hne k hk).1 (hne k hk).2), ?_, hg⟩
  · rcases hr' with rfl | ⟨b, rfl, hb⟩
    · exact hr k hk
    · injection hk with hk
      have := hB.size
      omega
  · rcases hr' with rfl | ⟨b, rfl, hb⟩
    · exact (hne k hk).2
    · intro e
      injection e with e
      have := own_lt ho k hk
      omega
  · exact Below.trans hB (hf.below hB.size (fun k hS => hS.elim (fun e => by omega) (fun e => hr k e)))
theorem put (h : PW w W g want xs ys) (p : S49) (A : Option Addr) (c : Nat) (hf : WF49 p) (hC : Kd.C (Kd.int .u8) W A p.f4.length p.f4) (hl : xs.length + p.f4.length + 100 ≤ 140737488355328) :
    Calls Try.prog 42 #[.pointer (some ⟨g, 0, none⟩), .agg #[.int .i64 p.f0, .int .i64 p.f1, .int .u64 p.f2, .int .i64 p.f3, .slice A p.f4.length c]] W fun e w' => e = .returned (.pointer (some ⟨g, 0, none⟩)) ∧ PW w w' g want (xs ++ partForm p) ys := by
  obtain ⟨⟨row, hs, hr, hne⟩, ho, hB, hg⟩ := h
  exact (law03_put_calls g row xs p A c W hs hf hC hl).mono fun e w' ⟨he, hp⟩ => ⟨he, post hs hr hne ho hB hg hp⟩
theorem bytes (h : PW w W g want xs ys) (hl : xs.length ≤ 140737488355328) :
    Calls Try.prog 37 #[.pointer (some ⟨g, 0, none⟩)] W fun e w' => ∃ A c, e = .returned (.slice A xs.length c) ∧ xs.length ≤ c ∧ Kd.C (Kd.int .u8) w' A xs.length xs ∧ Below W.heap.size W w' := by
  obtain ⟨⟨row, hs, hr, hne⟩, ho, hB, hg⟩ := h
  refine (octets_Writer_Bytes.calls g row xs W hs hl).mono ?_
  rintro e w' ⟨v, rfl, hR, hb⟩
  obtain ⟨A, c, rfl, hq, hC⟩ := Kd.R_reads hR
  exact ⟨A, c, rfl, hq, hC, hb⟩
theorem want_C (h : PW w W g want xs ys) : ∃ A c, want = .slice A ys.length c ∧ ys.length ≤ c ∧ Kd.C (Kd.int .u8) W A ys.length ys := by
  obtain ⟨A, c, e, hq, hR⟩ := own_reads_of_le (enc := Value.int .u8) (d := (0 : Int)) h.own
  exact ⟨A, c, e, hq, Kd.C_of_reads hR⟩
end PW
theorem partForm_le (p : S49) (hf : WF49 p) (h : p.f4.length ≤ 60) : (partForm p).length ≤ 70 := by
  unfold partForm
  have := numForm_ten p.f2 hf.n.2
  split
  · split
    · simp
    · rw [uintForm_length]; omega
  · split
    · rw [intForm_length]; omega
    · split
      · omega
      · split <;> simp <;> omega
/-- The cells of an element, in a world that has kept what was. -/
theorem at_part {w W : World} {ad : Addr} {ps : List S49} {p : S49} {n : Nat} (h : Kd.C k49 w (some ad) ps.length ps) (hb : Below w.heap.size w W) (hlt : n < ps.length) (hp : ps[n] = p) :
    ∃ A4 c4, W.cell? (ad.add (n * 5)) = some (.int .i64 p.f0) ∧ W.cell? ⟨(ad.add (n * 5)).block, (ad.add (n * 5)).off + 1, none⟩ = some (.int .i64 p.f1) ∧ W.cell? ⟨(ad.add (n * 5)).block, (ad.add (n * 5)).off + 2, none⟩ = some (.int .u64 p.f2) ∧
      W.cell? ⟨(ad.add (n * 5)).block, (ad.add (n * 5)).off + 3, none⟩ = some (.int .i64 p.f3) ∧ W.cell? ⟨(ad.add (n * 5)).block, (ad.add (n * 5)).off + 4, none⟩ = some (.slice A4 p.f4.length c4) ∧ p.f4.length ≤ c4 ∧ Kd.C (Kd.int .u8) W A4 p.f4.length p.f4 := by
  obtain ⟨ad', A4, c4, hA0, e0, e1, e2, e3, e4, hl4, hC4⟩ := at_T49 (Kd.C_below h hb) (n : Int) (by omega) (by omega)
  injection hA0 with hA0
  subst hA0
  rw [rdT49_eq ps n hlt, hp] at e0 e1 e2 e3 e4 hl4 hC4
  rw [Int.toNat_natCast] at e0 e1 e2 e3 e4
  exact ⟨A4, c4, e0, e1, e2, e3, e4, hl4, hC4⟩
set_option maxRecDepth 100000 in
set_option maxHeartbeats 4000000 in
theorem octetsPuts_calls (A0 : Option Addr) (c0 : Nat) (ps : List S49) (w : World) (hr0 : Kd.C k49 w A0 ps.length ps) (hc0 : ps.length ≤ c0) (hwf : ∀ p ∈ ps, WF49 p) :
    Calls Try.prog 6 #[.slice A0 ps.length c0] w fun e w' => e = .returned (.bool true) ∧ Below w.heap.size w w' := by
  obtain ⟨b, hb, hlight⟩ := light_f ps
  have HR := Aside0.mk hr0
  have HC0 := Aside0.mk hc0
  have HB := Aside0.mk hb
  clear hr0 hc0 hb
  go_enter Try.func6, Try.ntmps6
  go_wp2_with fail
  refine (damperlaw03_light.calls 64 A0 c0 ps b w HR.out HC0.out HB.out).mono ?_
  rintro e w1 ⟨rfl, hd⟩
  have B1 := Aside0.mk hd.below
  have HR1 := Aside0.mk (Kd.C_below HR.out hd.below)
  clear hd
  cases b with
  | false =>
    go_wp2_with fail
    refine (damperlaw03_alive.calls true w1 rfl).mono ?_
    rintro e w2 ⟨rfl, hd⟩
    have B2 := Aside0.mk (Below.trans B1.out (Below.mono hd B1.out.size))
    clear hd
    go_wp2
    go_ret
    exact ⟨rfl, B2.out⟩
  | true =>
    obtain ⟨hlen, hraw⟩ := hlight rfl
    have HRAW := Aside0.mk hraw
    clear hlight hraw
    go_wp2_with fail
    have P0 := Aside0.mk (PW.new B1.out)
    have HC := Aside0.mk HR.out
    clear HB HR1 HR B1
    go_loopw [5, 6] (fun u5 u6 wr => ∃ (n : Nat) (xs : List Int), u6 = .int .i64 (n : Int) ∧ n ≤ ps.length ∧ Aside0 (xs.length ≤ n * 70) ∧ Aside0 (PW w wr w1.heap.size u5 xs xs)) (fun _ u6 _ => (ps.length - intOf u6).toNat)
    case atStart => exact ⟨0, [], rfl, by omega, ⟨by simp⟩, P0⟩
    case round =>
      obtain ⟨n, xs, rfl, hn, HXL, HP⟩ := hrel
      by_cases hlt : n < ps.length
      · obtain ⟨ad, hA0⟩ : ∃ ad, A0 = some ad := by obtain ⟨ad, e, _⟩ := HC.out.2.2 (by omega); exact ⟨ad, e⟩
        subst hA0
        have hraw := HRAW.out n hlt
        have hpf := hwf ps[n] (List.getElem_mem hlt)
        have hat := fun W hb => at_part (W := W) (p := ps[n]) HC.out hb hlt rfl
        generalize ps[n] = p at *
        have HAT := Aside0.mk hat
        have HPF := Aside0.mk hpf
        have HFL := Aside0.mk (partForm_le p hpf hraw)
        have HRW := Aside0.mk hraw
        clear hat hpf hraw
        obtain ⟨A4, c4, e0, e1, e2, e3, e4, hl4, hC4⟩ := HAT.out wr HP.out.bel
        have HQ4 := Aside0.mk hl4
        have HC4 := Aside0.mk hC4
        clear hl4 hC4
        go_wp2_with fail
        refine (law03_form_calls p A4 c4 wr HPF.out HQ4.out HC4.out).mono ?_
        rintro e w2 ⟨B2, m2, rfl, hq, hC2, hb⟩
        have HP2 := Aside0.mk (HP.out.below hb)
        have HF2 := Aside0.mk (Kd.reads_of_C (d := (0 : Int)) hC2)
        have hlen2 : (xs.length + (partForm p).length) * 1 ≤ 140737488355328 := by have := HFL.out; have := HXL.out; omega
        have HL2 := Aside0.mk hlen2
        clear hq hC2 hb HQ4 HC4 e0 e1 e2 e3 e4 HP hlen2
        go_wp2_with (at_builtin; refine print_append_row (w0 := w) w.heap.size rfl (.tmp 17) (.tmp 22) 30 5 .u8 1 rfl Try.underlying30 info5 (by decide) u5 xs (partForm p) B2 (partForm p).length m2 rfl rfl HP2.out.own HF2.out HP2.out.bel HP2.out.bel.size HL2.out ?_; intro v3 w3 hown hb hg hat; have HP3 := Aside0.mk (HP2.out.append hown hb hg hat); clear hown hb hg hat HP2 HF2; obtain ⟨A4, c4, e0, e1, e2, e3, e4, hl4, hC4⟩ := HAT.out w3 HP3.out.bel; have HQ4 := Aside0.mk hl4; have HC4 := Aside0.mk hC4; clear hl4 hC4)
        refine (HP3.out.put p A4 c4 HPF.out HC4.out (by have := HFL.out; have := HXL.out; have := HRW.out; omega)).mono ?_
        rintro e w4 ⟨rfl, hp4⟩
        have HP4 := Aside0.mk hp4
        clear hp4 HP3 HQ4 HC4 e0 e1 e2 e3 e4
        have kp := fun w => neq_ptr_same w ⟨w1.heap.size, 0, none⟩
        obtain ⟨A5, c5, e0, e1, e2, e3, e4, hl4, hC4⟩ := HAT.out w4 HP4.out.bel
        clear hl4 hC4
        go_wp2_with fail
        refine (law03_put_nil p.f0 p.f1 p.f2 p.f3 p.f4.length c5 A5 w4).mono ?_
        rintro e w5 ⟨rfl, hb⟩
        have HP5 := Aside0.mk (HP4.out.below hb)
        clear hb HP4 e0 e1 e2 e3 e4
        have HXF : Aside0 ((xs ++ partForm p).length ≤ (n + 1) * 70) := ⟨by have := HFL.out; have := HXL.out; rw [List.length_append]; omega⟩
        generalize xs ++ partForm p = ys at *
        go_wp2_with fail
        refine (HP5.out.bytes (by have := HXF.out; omega)).mono ?_
        rintro e w6 ⟨B6, m6, rfl, hq6, hC6, hb⟩
        have HP6 := Aside0.mk (HP5.out.below hb)
        obtain ⟨B7, m7, hv, hq7, hC7⟩ := HP6.out.want_C
        subst hv
        have HQ6 := Aside0.mk hq6
        have HQ7 := Aside0.mk hq7
        have HC6 := Aside0.mk hC6
        have HC7 := Aside0.mk hC7
        clear hb HP5 hq6 hC6 hq7 hC7
        go_wp2_with fail
        refine (damperref03_Same.calls B6 m6 ys B7 m7 ys true w6 HC6.out HQ6.out HC7.out HQ7.out (same_of_eq ys)).mono ?_
        rintro e w7 ⟨rfl, hd⟩
        have HP7 := Aside0.mk (HP6.out.below hd.below)
        clear hd HP6 HC6 HC7 HQ6 HQ7
        go_wp2
        go_roundw
        case rel => exact ⟨n + 1, ys, rfl, by omega, HXF, HP7⟩
        case measure => simp [intOf]; omega
      · have hB := HP.out.bel
        have HB := Aside0.mk hB
        clear hB HP
        go_wp2_with fail
        refine (octets_Writer_Bytes.nil wr).mono ?_
        rintro e w2 ⟨rfl, rfl⟩
        go_wp2_with fail
        refine (damperlaw03_alive.calls true wr rfl).mono ?_
        rintro e w3 ⟨rfl, hd⟩
        have B3 := Aside0.mk (Below.trans HB.out (Below.mono hd HB.out.size))
        clear hd
        go_wp2
        go_ret
        exact ⟨rfl, B3.out⟩
end Go.Proofs.Ytalpemoodollpaa.P
