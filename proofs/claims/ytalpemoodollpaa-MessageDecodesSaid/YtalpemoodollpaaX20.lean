/- Contracts and plain laws: P40, HPuts, HReads, HFS, P97, P33, HMsgR, HrefMsg, HWK, Hmessage, P34, P35, PE0, P18, HMsgDecLaw, HByt. -/
import Derived.LaidEqlPtr
import Derived.RegionTactic
import Derived.Deep.RegionHeld3
import Derived.Test.YtalpemoodollpaaX1
import Derived.Test.YtalpemoodollpaaX19
-- Printed by hookprint.py (the session's own program, over the kit's print.py): checked by Lean like any text.
namespace Go.Proofs.Ytalpemoodollpaa.P
open Go.RowKit Go.Proofs.YtalpemoodollpaaW.PrintWords Go.Proofs.YtalpemoodollpaaW.PrintLast Go.Proofs.YtalpemoodollpaaW.PrintMore
attribute [local go_sem] max2_int min2_int max_two min_two max_three min_three max_four min_four   -- for this text's walks alone
set_option linter.unusedVariables false
set_option linter.unusedSimpArgs false

/-! ### damperlaw03_light: function 40 -/
def damperlaw03_light.l0 : Nat → List (S49) → Int → Option (Bool)
  | 0, _, _ => none
  | k + 1, x0, x3 => if x3 < (x0.length : Int) then (if 0 ≤ x3 then (if (((rd_T49 x0 x3).f4).length : Int) > 60 then (some false) else (damperlaw03_light.l0 k x0 (wrap64 (x3 + 1)))) else (none)) else (some true)
def damperlaw03_light.f (k : Nat) (l0 : List (S49)) : Option (Bool) := if (l0.length : Int) > 40 then (some false) else (damperlaw03_light.l0 k l0 0)
theorem damperlaw03_light.mono_l : ∀ k, (∀ y0 y1, LeO (damperlaw03_light.l0 k y0 y1) (damperlaw03_light.l0 (k + 1) y0 y1))
  | 0 => fun _ _ r h => by simp [damperlaw03_light.l0] at h
  | k + 1 => by
    have ih0 := damperlaw03_light.mono_l k
    · intro y0 y1
      unfold damperlaw03_light.l0
      repeat' first
      | (with_reducible exact ih0 _ _)
      | (with_reducible exact LeO.refl _)
      | (with_reducible exact LeO.none _)
      | (with_reducible refine LeO.ite ?_ ?_)
      | (with_reducible refine LeO.bind ?_ (fun _ => ?_))
      | exact ih0 _ _
      | exact LeO.none _
      | refine LeO.ite ?_ ?_
      | refine LeO.bind ?_ (fun _ => ?_)
theorem damperlaw03_light.mono : ∀ a0 k, LeO (damperlaw03_light.f k a0) (damperlaw03_light.f (k + 1) a0) := by
  intro a0 k
  have ih0 := damperlaw03_light.mono_l k
  unfold damperlaw03_light.f
  repeat' first
      | (with_reducible exact ih0 _ _)
      | (with_reducible exact LeO.refl _)
      | (with_reducible exact LeO.none _)
      | (with_reducible refine LeO.ite ?_ ?_)
      | (with_reducible refine LeO.bind ?_ (fun _ => ?_))
      | exact ih0 _ _
      | exact LeO.none _
      | refine LeO.ite ?_ ?_
      | refine LeO.bind ?_ (fun _ => ?_)
set_option maxHeartbeats 8000000 in
set_option maxRecDepth 100000 in
theorem damperlaw03_light.calls (k : Nat) (A0 : Option Addr) (c0 : Nat) (l0 : List (S49)) (r : Bool) (w : World) (hr0 : Kd.C k49 w A0 l0.length l0) (hc0 : l0.length ≤ c0) (h : damperlaw03_light.f k l0 = some r) :
    Calls Try.prog 40 #[.slice A0 l0.length c0] w fun e w' => e = .returned (.bool r) ∧ Drawn0 w w' := by
  have HR0 := Aside0.mk hr0
  have HC0 := Aside0.mk hc0
  clear hr0 hc0
  have H : (if (l0.length : Int) > 40 then (some false) else (damperlaw03_light.l0 k l0 0)) = some r := h
  clear h
  by_cases c2 : (l0.length : Int) > 40
  · rw [if_pos c2] at H
    have c2b0 : decide (40 < (l0.length : Int)) = true := decide_eq_true c2
    have c2b1 : decide (40 < l0.length) = true := decide_eq_true (by omega)
    clear c2
    obtain rfl := Option.some.inj H
    go_enter Try.func40, Try.ntmps40
    go_wp2
    go_ret
    exact ⟨by first | rfl | (simp; done) | (simp [*]; done), by repeat (first | exact Drawn0.refl _ | apply Drawn0.step)⟩
  · rw [if_neg c2] at H
    have c2b0 : decide (40 < (l0.length : Int)) = false := decide_eq_false c2
    have c2b1 : decide (40 < l0.length) = false := decide_eq_false (by omega)
    clear c2
    have H' := Aside0.mk H
    clear H
    go_enter Try.func40, Try.ntmps40
    go_wp2
    go_loopg [3] k (fun kq v3 w' => ∃ (x3_1 : Int), v3 = .int .i64 x3_1 ∧ Aside0 (damperlaw03_light.l0 kq l0 x3_1 = some r) ∧ Aside0 (kq ≤ k) ∧ Drawn0 w w')
    case atStart => exact ⟨(0), (by first | rfl | (simp; done) | (simp [*]; done)), H', ⟨Nat.le_refl _⟩, by repeat (first | exact Drawn0.refl _ | apply Drawn0.step)⟩
    case round =>
      clear H'
      try clear c2
      try clear c2b0
      try clear c2b1
      try clear p2
      obtain ⟨x3_1, rfl, HA, HK1, ⟨m1, rfl⟩⟩ := hrel
      cases gk with
      | zero => exact absurd HA.out (by simp [damperlaw03_light.l0])
      | succ k1 =>
        have H := HA.out
        clear HA
        simp only [damperlaw03_light.l0] at H
        by_cases c3 : x3_1 < (l0.length : Int)
        · rw [if_pos c3] at H
          have c3b0 : decide (x3_1 < (l0.length : Int)) = true := decide_eq_true c3
          clear c3
          by_cases c4 : 0 ≤ x3_1
          · rw [if_pos c4] at H
            have c4b0 : decide (0 ≤ x3_1) = true := decide_eq_true c4
            clear c4
            by_cases c5 : (((rd_T49 l0 x3_1).f4).length : Int) > 60
            · rw [if_pos c5] at H
              have c5b0 : decide (60 < (((rd_T49 l0 x3_1).f4).length : Int)) = true := decide_eq_true c5
              have c5b1 : decide (60 < ((rd_T49 l0 x3_1).f4).length) = true := decide_eq_true (by omega)
              clear c5
              obtain rfl := Option.some.inj H
              have p235 : 0 ≤ (x3_1 : Int) := of_decide_eq_true (by first | (with_reducible assumption) | assumption)
              have q235 : x3_1 < (l0.length : Int) := of_decide_eq_true (by first | (with_reducible assumption) | assumption)
              obtain ⟨ad235, A235_4, c235_4, e235, hx235_0, hx235_1, hx235_2, hx235_3, hx235_4, hl235_4, hi235_4⟩ := at_T49 HR0.out x3_1 p235 q235
              cases e235
              have HR235_4 := Aside0.mk hi235_4
              have HC235_4 := Aside0.mk hl235_4
              clear hi235_4 hl235_4
              replace p235 := eq_true p235
              replace q235 := eq_true q235
              go_wp2
              go_ret
              exact ⟨by first | rfl | (simp; done) | (simp [*]; done), by repeat (first | exact Drawn0.refl _ | apply Drawn0.step)⟩
            · rw [if_neg c5] at H
              have c5b0 : decide (60 < (((rd_T49 l0 x3_1).f4).length : Int)) = false := decide_eq_false c5
              have c5b1 : decide (60 < ((rd_T49 l0 x3_1).f4).length) = false := decide_eq_false (by omega)
              clear c5
              have H' := Aside0.mk H
              clear H
              have p235 : 0 ≤ (x3_1 : Int) := of_decide_eq_true (by first | (with_reducible assumption) | assumption)
              have q235 : x3_1 < (l0.length : Int) := of_decide_eq_true (by first | (with_reducible assumption) | assumption)
              obtain ⟨ad235, A235_4, c235_4, e235, hx235_0, hx235_1, hx235_2, hx235_3, hx235_4, hl235_4, hi235_4⟩ := at_T49 HR0.out x3_1 p235 q235
              cases e235
              have HR235_4 := Aside0.mk hi235_4
              have HC235_4 := Aside0.mk hl235_4
              clear hi235_4 hl235_4
              replace p235 := eq_true p235
              replace q235 := eq_true q235
              go_wp2
              go_roundg k1
              case measure => have := HK1.out; omega
              case rel => exact ⟨(wrap64 (x3_1 + 1)), (by first | rfl | (simp; done) | (simp [*]; done)), H', ⟨by have := HK1.out; omega⟩, by repeat (first | exact Drawn0.refl _ | apply Drawn0.step)⟩
          · rw [if_neg c4] at H
            exact absurd H (by simp)
        · rw [if_neg c3] at H
          have c3b0 : decide (x3_1 < (l0.length : Int)) = false := decide_eq_false c3
          clear c3
          obtain rfl := Option.some.inj H
          go_wp2
          go_ret
          exact ⟨by first | rfl | (simp; done) | (simp [*]; done), by repeat (first | exact Drawn0.refl _ | apply Drawn0.step)⟩

end Go.Proofs.Ytalpemoodollpaa.P
/- The walk of OctetsPuts. -/
namespace Go.Proofs.Ytalpemoodollpaa.P
open Go.RowKit Go.Proofs.YtalpemoodollpaaW.PrintWords Go.Proofs.YtalpemoodollpaaW.PrintLast Go.Proofs.YtalpemoodollpaaW.PrintMore
set_option linter.unusedVariables false
set_option linter.unusedSimpArgs false

theorem info39_ : (Try.prog.info? 39).isSome = true := by kernel_rfl
theorem info39 : ∃ j, Try.prog.info? 39 = some j := Option.isSome_iff_exists.1 info39_
theorem neq_ptr_same (w : World) (a : Addr) : (binOp .neq 40 (.pointer (some a)) (.pointer (some a))).run Try.prog w = .ok (.bool false) w := by
  obtain ⟨j, hj⟩ := info39
  have h : ∀ d : Nat, (Op.equalIn (d + 1) 40 (.pointer (some a)) (.pointer (some a))).run Try.prog w = .ok true w := fun d => by
    simp [Op.equalIn, run_underlying Try.underlying40, sizeOf, typeInfo, hj, run_sameAddr_same]
  simp only [binOp]
  simp [Op.equal, Op.maxDepth, h 9999]
theorem rdT49_eq (l : List S49) (i : Nat) (h : i < l.length) : rd_T49 l (i : Int) = l[i] := by
  simp [rd_T49, List.getD_eq_getElem?_getD, h]
theorem light_go (ps : List S49) (hl : ps.length ≤ 40) : ∀ (j i : Nat), i + j = ps.length →
    ∃ b, damperlaw03_light.l0 (j + 1) ps (i : Int) = some b ∧ (b = true → ∀ n (h : n < ps.length), i ≤ n → (ps[n]).f4.length ≤ 60) := by
  intro j
  induction j with
  | zero =>
    intro i hi
    unfold damperlaw03_light.l0
    rw [if_neg (by omega)]
    exact ⟨true, rfl, fun _ n h hn => by omega⟩
  | succ j ih =>
    intro i hi
    obtain ⟨b, hb, hall⟩ := ih (i + 1) (by omega)
    unfold damperlaw03_light.l0
    rw [if_pos (by omega), if_pos (by omega), rdT49_eq ps i (by omega)]
    by_cases h6 : ((ps[i]'(by omega)).f4.length : Int) > 60
    · rw [if_pos h6]
      exact ⟨false, rfl, fun h => by cases h⟩
    · rw [if_neg h6, show wrap64 ((i : Int) + 1) = ((i + 1 : Nat) : Int) by rw [wrap64_eq]; omega]
      refine ⟨b, hb, fun ht n hn hin => ?_⟩
      by_cases he : n = i
      · subst he; omega
      · exact hall ht n hn (by omega)
theorem light_f (ps : List S49) : ∃ b, damperlaw03_light.f 64 ps = some b ∧ (b = true → ps.length ≤ 40 ∧ ∀ n (h : n < ps.length), (ps[n]).f4.length ≤ 60) := by
  show ∃ b, damperlaw03_light.f 64 ps = some b ∧ _
  by_cases h : (ps.length : Int) > 40
  · refine ⟨false, ?_, fun h => by cases h⟩
    unfold damperlaw03_light.f
    rw [if_pos h]
  · obtain ⟨b, hb, hall⟩ := light_go ps (by omega) ps.length 0 (by omega)
    refine ⟨b, ?_, fun ht => ⟨by omega, fun n hn => hall ht n hn (by omega)⟩⟩
    have hup := up_ (f := fun k => damperlaw03_light.f k ps) (k := ps.length + 1) (r := b) (fun k => damperlaw03_light.mono ps k) (by
      show damperlaw03_light.f (ps.length + 1) ps = some b
      unfold damperlaw03_light.f
      rw [if_neg h]
      exact hb) 64 (by omega)
    exact hup
/-- A writer, and a list of bytes of one's own beside it. -/
structure PW (w W : World) (g : Nat) (want : Value) (xs ys : List Int) : Prop where
  ex : ∃ row, WS W g row xs ∧ (∀ k, row = some k → w.heap.size ≤ k) ∧ (∀ k, want.ownBlock = some k → k ≠ g ∧ row ≠ some k)
  own : W.ownsRow w.heap.size 5 1 want ys.length (nums .u8 ys)
  bel : Below w.heap.size w W
  hg : w.heap.size ≤ g
namespace PW
variable {w W W1 : World} {g : Nat} {want v1 : Value} {xs ys F : List Int}
theorem new (hB : Below w.heap.size w W) : PW w (W.alloc (.cells #[.slice none 0 0] 39)) W.heap.size (.slice none 0 0) [] [] :=
  ⟨⟨none, WS.new W, (fun k hk => by cases hk), (fun k hk => by simp [Value.ownBlock] at hk)⟩, own_nil _ _ _ _, below_alloc hB _, hB.size⟩
theorem below (h : PW w W g want xs ys) (hb : Below W.heap.size W W1) : PW w W1 g want xs ys := by
  obtain ⟨⟨row, hs, hr, hne⟩, ho, hB, hg⟩ := h
  exact ⟨⟨row, hs.below hb, hr, hne⟩, (Fr.of_below hb (fun _ => False)).own ho (fun _ _ h => h), below_then hB hB.size hb, hg⟩
theorem append (h : PW w W g want xs ys) (hown : W1.ownsRow w.heap.size 5 1 v1 (ys ++ F).length (nums .u8 (ys ++ F))) (hB : Below w.heap.size w W1) (hg : W.grownBy W1 want.ownBlock)
    (hat : v1.ownBlock = want.ownBlock ∨ ∃ b, v1.ownBlock = some b ∧ W.heap.size ≤ b) : PW w W1 g v1 xs (ys ++ F) := by
  obtain ⟨⟨row, hs, hr, hne⟩, ho, _, hgg⟩ := h
  have hf : Fr W W1 (fun k => want.ownBlock = some k) := (Fr.refl W _).grown hg (fun k _ hk => hk)
  have hlt := hs.lt
  have hrlt : ∀ k, row = some k → k < W.heap.size := fun k hk => by
    obtain ⟨v, hb2, hr2, ho2⟩ := hs
    exact own_lt ho2 k (by rw [hr2, hk])
  refine ⟨⟨row, hs.fr hf (fun hS => (hne g hS).1 rfl) (fun k hk hS => (hne k hS).2 hk), hr, fun k hk => ?_⟩, hown, hB, hgg⟩
  rcases hat with hat | ⟨b, hb, hbl⟩
  · rw [hat] at hk
    exact hne k hk
  · rw [hb] at hk
    injection hk with hk
    subst hk
    exact ⟨by omega, fun hrb => by have := hrlt b hrb; omega⟩
theorem post {row : Option Nat} (hs : WS W g row xs) (hr : ∀ k, row = some k → w.heap.size ≤ k) (hne : ∀ k, want.ownBlock = some k → k ≠ g ∧ row ≠ some k) (ho : W.ownsRow w.heap.size 5 1 want ys.length (nums .u8 ys))
    (hB : Below w.heap.size w W) (hg : w.heap.size ≤ g) {zs : List Int} (hp : WPost W g row zs W1) : PW w W1 g want zs ys := by
  obtain ⟨row', hs', hr', hf⟩ := hp
  refine ⟨⟨row', hs', fun k hk => ?_, fun k hk => ⟨(hne k hk).1, ?_⟩⟩, hf.own ho (fun k hk hS => hS.elim (hne k hk).1 (hne k hk).2), ?_, hg⟩
  · rcases hr' with rfl | ⟨b, rfl, hb⟩
    · exact hr k hk
    · injection hk with hk
      have := hB.size
      omega
  · rcases hr' with rfl | ⟨b, rfl, hb⟩
    · exact (hne k hk).2
    · intro e
      injection e with e
      have := own_lt ho k hk
      omega
  · exact Below.trans hB (hf.below hB.size (fun k hS => hS.elim (fun e => by omega) (fun e => hr k e)))
theorem put (h : PW w W g want xs ys) (p : S49) (A : Option Addr) (c : Nat) (hf : WF49 p) (hC : Kd.C (Kd.int .u8) W A p.f4.length p.f4) (hl : xs.length + p.f4.length + 100 ≤ 140737488355328) :
    Calls Try.prog 42 #[.pointer (some ⟨g, 0, none⟩), .agg #[.int .i64 p.f0, .int .i64 p.f1, .int .u64 p.f2, .int .i64 p.f3, .slice A p.f4.length c]] W fun e w' => e = .returned (.pointer (some ⟨g, 0, none⟩)) ∧ PW w w' g want (xs ++ partForm p) ys := by
  obtain ⟨⟨row, hs, hr, hne⟩, ho, hB, hg⟩ := h
  exact (law03_put_calls g row xs p A c W hs hf hC hl).mono fun e w' ⟨he, hp⟩ => ⟨he, post hs hr hne ho hB hg hp⟩
theorem bytes (h : PW w W g want xs ys) (hl : xs.length ≤ 140737488355328) :
    Calls Try.prog 37 #[.pointer (some ⟨g, 0, none⟩)] W fun e w' => ∃ A c, e = .returned (.slice A xs.length c) ∧ xs.length ≤ c ∧ Kd.C (Kd.int .u8) w' A xs.length xs ∧ Below W.heap.size W w' := by
  obtain ⟨⟨row, hs, hr, hne⟩, ho, hB, hg⟩ := h
  refine (octets_Writer_Bytes.calls g row xs W hs hl).mono ?_
  rintro e w' ⟨v, rfl, hR, hb⟩
  obtain ⟨A, c, rfl, hq, hC⟩ := Kd.R_reads hR
  exact ⟨A, c, rfl, hq, hC, hb⟩
theorem want_C (h : PW w W g want xs ys) : ∃ A c, want = .slice A ys.length c ∧ ys.length ≤ c ∧ Kd.C (Kd.int .u8) W A ys.length ys := by
  obtain ⟨A, c, e, hq, hR⟩ := own_reads_of_le (enc := Value.int .u8) (d := (0 : Int)) h.own
  exact ⟨A, c, e, hq, Kd.C_of_reads hR⟩
end PW
theorem partForm_le (p : S49) (hf : WF49 p) (h : p.f4.length ≤ 60) : (partForm p).length ≤ 70 := by
  unfold partForm
  have := numForm_ten p.f2 hf.n.2
  split
  · split
    · simp
    · rw [uintForm_length]; omega
  · split
    · rw [intForm_length]; omega
    · split
      · omega
      · split <;> simp <;> omega
/-- The cells of an element, in a world that has kept what was. -/
theorem at_part {w W : World} {ad : Addr} {ps : List S49} {p : S49} {n : Nat} (h : Kd.C k49 w (some ad) ps.length ps) (hb : Below w.heap.size w W) (hlt : n < ps.length) (hp : ps[n] = p) :
    ∃ A4 c4, W.cell? (ad.add (n * 5)) = some (.int .i64 p.f0) ∧ W.cell? ⟨(ad.add (n * 5)).block, (ad.add (n * 5)).off + 1, none⟩ = some (.int .i64 p.f1) ∧ W.cell? ⟨(ad.add (n * 5)).block, (ad.add (n * 5)).off + 2, none⟩ = some (.int .u64 p.f2) ∧
      W.cell? ⟨(ad.add (n * 5)).block, (ad.add (n * 5)).off + 3, none⟩ = some (.int .i64 p.f3) ∧ W.cell? ⟨(ad.add (n * 5)).block, (ad.add (n * 5)).off + 4, none⟩ = some (.slice A4 p.f4.length c4) ∧ p.f4.length ≤ c4 ∧ Kd.C (Kd.int .u8) W A4 p.f4.length p.f4 := by
  obtain ⟨ad', A4, c4, hA0, e0, e1, e2, e3, e4, hl4, hC4⟩ := at_T49 (Kd.C_below h hb) (n : Int) (by omega) (by omega)
  injection hA0 with hA0
  subst hA0
  rw [rdT49_eq ps n hlt, hp] at e0 e1 e2 e3 e4 hl4 hC4
  rw [Int.toNat_natCast] at e0 e1 e2 e3 e4
  exact ⟨A4, c4, e0, e1, e2, e3, e4, hl4, hC4⟩
set_option maxRecDepth 100000 in
set_option maxHeartbeats 4000000 in
theorem octetsPuts_calls (A0 : Option Addr) (c0 : Nat) (ps : List S49) (w : World) (hr0 : Kd.C k49 w A0 ps.length ps) (hc0 : ps.length ≤ c0) (hwf : ∀ p ∈ ps, WF49 p) :
    Calls Try.prog 6 #[.slice A0 ps.length c0] w fun e w' => e = .returned (.bool true) ∧ Below w.heap.size w w' := by
  obtain ⟨b, hb, hlight⟩ := light_f ps
  have HR := Aside0.mk hr0
  have HC0 := Aside0.mk hc0
  have HB := Aside0.mk hb
  clear hr0 hc0 hb
  go_enter Try.func6, Try.ntmps6
  go_wp2_with fail
  refine (damperlaw03_light.calls 64 A0 c0 ps b w HR.out HC0.out HB.out).mono ?_
  rintro e w1 ⟨rfl, hd⟩
  have B1 := Aside0.mk hd.below
  have HR1 := Aside0.mk (Kd.C_below HR.out hd.below)
  clear hd
  cases b with
  | false =>
    go_wp2_with fail
    refine (damperlaw03_alive.calls true w1 rfl).mono ?_
    rintro e w2 ⟨rfl, hd⟩
    have B2 := Aside0.mk (Below.trans B1.out (Below.mono hd B1.out.size))
    clear hd
    go_wp2
    go_ret
    exact ⟨rfl, B2.out⟩
  | true =>
    obtain ⟨hlen, hraw⟩ := hlight rfl
    have HRAW := Aside0.mk hraw
    clear hlight hraw
    go_wp2_with fail
    have P0 := Aside0.mk (PW.new B1.out)
    have HC := Aside0.mk HR.out
    clear HB HR1 HR B1
    go_loopw [5, 6] (fun u5 u6 wr => ∃ (n : Nat) (xs : List Int), u6 = .int .i64 (n : Int) ∧ n ≤ ps.length ∧ Aside0 (xs.length ≤ n * 70) ∧ Aside0 (PW w wr w1.heap.size u5 xs xs)) (fun _ u6 _ => (ps.length - intOf u6).toNat)
    case atStart => exact ⟨0, [], rfl, by omega, ⟨by simp⟩, P0⟩
    case round =>
      obtain ⟨n, xs, rfl, hn, HXL, HP⟩ := hrel
      by_cases hlt : n < ps.length
      · obtain ⟨ad, hA0⟩ : ∃ ad, A0 = some ad := by obtain ⟨ad, e, _⟩ := HC.out.2.2 (by omega); exact ⟨ad, e⟩
        subst hA0
        have hraw := HRAW.out n hlt
        have hpf := hwf ps[n] (List.getElem_mem hlt)
        have hat := fun W hb => at_part (W := W) (p := ps[n]) HC.out hb hlt rfl
        generalize ps[n] = p at *
        have HAT := Aside0.mk hat
        have HPF := Aside0.mk hpf
        have HFL := Aside0.mk (partForm_le p hpf hraw)
        have HRW := Aside0.mk hraw
        clear hat hpf hraw
        obtain ⟨A4, c4, e0, e1, e2, e3, e4, hl4, hC4⟩ := HAT.out wr HP.out.bel
        have HQ4 := Aside0.mk hl4
        have HC4 := Aside0.mk hC4
        clear hl4 hC4
        go_wp2_with fail
        refine (law03_form_calls p A4 c4 wr HPF.out HQ4.out HC4.out).mono ?_
        rintro e w2 ⟨B2, m2, rfl, hq, hC2, hb⟩
        have HP2 := Aside0.mk (HP.out.below hb)
        have HF2 := Aside0.mk (Kd.reads_of_C (d := (0 : Int)) hC2)
        have hlen2 : (xs.length + (partForm p).length) * 1 ≤ 140737488355328 := by have := HFL.out; have := HXL.out; omega
        have HL2 := Aside0.mk hlen2
        clear hq hC2 hb HQ4 HC4 e0 e1 e2 e3 e4 HP hlen2
        go_wp2_with (at_builtin; refine print_append_row (w0 := w) w.heap.size rfl (.tmp 17) (.tmp 22) 30 5 .u8 1 rfl Try.underlying30 info5 (by decide) u5 xs (partForm p) B2 (partForm p).length m2 rfl rfl HP2.out.own HF2.out HP2.out.bel HP2.out.bel.size HL2.out ?_; intro v3 w3 hown hb hg hat; have HP3 := Aside0.mk (HP2.out.append hown hb hg hat); clear hown hb hg hat HP2 HF2; obtain ⟨A4, c4, e0, e1, e2, e3, e4, hl4, hC4⟩ := HAT.out w3 HP3.out.bel; have HQ4 := Aside0.mk hl4; have HC4 := Aside0.mk hC4; clear hl4 hC4)
        refine (HP3.out.put p A4 c4 HPF.out HC4.out (by have := HFL.out; have := HXL.out; have := HRW.out; omega)).mono ?_
        rintro e w4 ⟨rfl, hp4⟩
        have HP4 := Aside0.mk hp4
        clear hp4 HP3 HQ4 HC4 e0 e1 e2 e3 e4
        have kp := fun w => neq_ptr_same w ⟨w1.heap.size, 0, none⟩
        obtain ⟨A5, c5, e0, e1, e2, e3, e4, hl4, hC4⟩ := HAT.out w4 HP4.out.bel
        clear hl4 hC4
        go_wp2_with fail
        refine (law03_put_nil p.f0 p.f1 p.f2 p.f3 p.f4.length c5 A5 w4).mono ?_
        rintro e w5 ⟨rfl, hb⟩
        have HP5 := Aside0.mk (HP4.out.below hb)
        clear hb HP4 e0 e1 e2 e3 e4
        have HXF : Aside0 ((xs ++ partForm p).length ≤ (n + 1) * 70) := ⟨by have := HFL.out; have := HXL.out; rw [List.length_append]; omega⟩
        generalize xs ++ partForm p = ys at *
        go_wp2_with fail
        refine (HP5.out.bytes (by have := HXF.out; omega)).mono ?_
        rintro e w6 ⟨B6, m6, rfl, hq6, hC6, hb⟩
        have HP6 := Aside0.mk (HP5.out.below hb)
        obtain ⟨B7, m7, hv, hq7, hC7⟩ := HP6.out.want_C
        subst hv
        have HQ6 := Aside0.mk hq6
        have HQ7 := Aside0.mk hq7
        have HC6 := Aside0.mk hC6
        have HC7 := Aside0.mk hC7
        clear hb HP5 hq6 hC6 hq7 hC7
        go_wp2_with fail
        refine (damperref03_Same.calls B6 m6 ys B7 m7 ys true w6 HC6.out HQ6.out HC7.out HQ7.out (same_of_eq ys)).mono ?_
        rintro e w7 ⟨rfl, hd⟩
        have HP7 := Aside0.mk (HP6.out.below hd.below)
        clear hd HP6 HC6 HC7 HQ6 HQ7
        go_wp2
        go_roundw
        case rel => exact ⟨n + 1, ys, rfl, by omega, HXF, HP7⟩
        case measure => simp [intOf]; omega
      · have hB := HP.out.bel
        have HB := Aside0.mk hB
        clear hB HP
        go_wp2_with fail
        refine (octets_Writer_Bytes.nil wr).mono ?_
        rintro e w2 ⟨rfl, rfl⟩
        go_wp2_with fail
        refine (damperlaw03_alive.calls true wr rfl).mono ?_
        rintro e w3 ⟨rfl, hd⟩
        have B3 := Aside0.mk (Below.trans HB.out (Below.mono hd HB.out.size))
        clear hd
        go_wp2
        go_ret
        exact ⟨rfl, B3.out⟩
end Go.Proofs.Ytalpemoodollpaa.P
/- What is got is what the document reads. -/
namespace Go.Proofs.Ytalpemoodollpaa.P
open Go.RowKit Go.Proofs.YtalpemoodollpaaW.PrintWords Go.Proofs.YtalpemoodollpaaW.PrintLast Go.Proofs.YtalpemoodollpaaW.PrintMore
set_option linter.unusedVariables false
set_option linter.unusedSimpArgs false
theorem rTake_0 (l : List Int) (n : Nat) : rTake (l, 0) n = if l.length < n then ([], false, (l, 3)) else (l.take n, true, (l.drop n, 0)) := by
  unfold rTake
  rw [if_neg (by simp)]
theorem rTake_f (l : List Int) (f : Int) (hf : f ≠ 0) (n : Nat) : rTake (l, f) n = ([], false, (l, f)) := by
  unfold rTake
  rw [if_pos hf]
theorem numGo_fin (k : Nat) : ∀ (i : Nat) (n : Int) (l : List Int), ((numGo k i n l).2.2 ≠ 0 → (numGo k i n l).1 = 0) ∧ ((numGo k i n l).2.2 = 0 → ∃ m, m ≤ l.length ∧ (numGo k i n l).2.1 = l.drop m) := by
  induction k with
  | zero => intro i n l; exact ⟨fun _ => rfl, fun h => absurd h (by simp [numGo])⟩
  | succ k ih =>
    intro i n l
    cases l with
    | nil => exact ⟨fun _ => rfl, fun h => absurd h (by simp [numGo])⟩
    | cons b bs =>
      rw [numGo]
      split
      · exact ⟨fun _ => rfl, fun h => absurd h (by simp)⟩
      · split
        · obtain ⟨h1, h2⟩ := ih (i + 1) (n + b % 128 * ((128 ^ i : Nat) : Int)) bs
          refine ⟨h1, fun h => ?_⟩
          obtain ⟨m, hm, he⟩ := h2 h
          exact ⟨m + 1, by simp; omega, by rw [he]; rfl⟩
        · split
          · exact ⟨fun _ => rfl, fun h => absurd h (by simp)⟩
          · exact ⟨fun h => absurd rfl h, fun _ => ⟨1, by simp, rfl⟩⟩
theorem got_read (l : List Int) (p : S49) : (gotF (l, 0) p).1 = (readF l p).1 ∧ (gotF (l, 0) p).2.1 = (readF l p).2.1 ∧ (gotF (l, 0) p).2.2.1 = (readF l p).2.2.1 ∧ (gotF (l, 0) p).2.2.2.2 = (readF l p).2.2.2.2 ∧
    0 ≤ (readF l p).2.2.2.1 ∧ (readF l p).2.2.2.1 ≤ l.length ∧ ((readF l p).2.2.2.2 = 0 → (gotF (l, 0) p).2.2.2.1 = l.drop (readF l p).2.2.2.1.toNat) := by
  unfold gotF readF
  by_cases h1 : p.f0 = 1
  · rw [if_pos h1, if_pos h1]
    unfold rUint rdUint
    by_cases hk : p.f1 < 1 ∨ 8 < p.f1
    · rw [if_pos hk, if_pos hk]
      exact ⟨rfl, rfl, rfl, rfl, by simp, by simp, fun _ => rfl⟩
    · rw [if_neg hk, if_neg hk, rTake_0]
      by_cases hl : l.length < p.f1.toNat
      · rw [if_pos hl, if_pos (show (l.length : Int) < p.f1 by omega)]
        exact ⟨rfl, rfl, rfl, rfl, by simp, by simp, fun h => absurd h (by simp)⟩
      · rw [if_neg hl, if_neg (show ¬ (l.length : Int) < p.f1 by omega)]
        exact ⟨rfl, rfl, rfl, rfl, by show 0 ≤ p.f1; omega, by show p.f1 ≤ (l.length : Int); omega, fun _ => rfl⟩
  · rw [if_neg h1, if_neg h1]
    by_cases h2 : p.f0 = 2
    · rw [if_pos h2, if_pos h2]
      unfold rUint rdInt
      rw [if_neg (show ¬ ((8 : Int) < 1 ∨ (8 : Int) < 8) by decide), show (8 : Int).toNat = 8 from rfl, rTake_0]
      by_cases hl : l.length < 8
      · rw [if_pos hl, if_pos hl]
        exact ⟨rfl, by show unzig 0 = 0; decide, rfl, rfl, by simp, by simp, fun h => absurd h (by simp)⟩
      · rw [if_neg hl, if_neg hl]
        exact ⟨rfl, rfl, rfl, rfl, by simp, by show (8 : Int) ≤ (l.length : Int); omega, fun _ => rfl⟩
    · rw [if_neg h2, if_neg h2]
      by_cases h3 : p.f0 = 3
      · rw [if_pos h3, if_pos h3]
        unfold rNum fin3
        rw [if_neg (by simp)]
        obtain ⟨hz, hd⟩ := numGo_fin 10 0 0 l
        by_cases hf : (numGo 10 0 0 l).2.2 = 0
        · rw [if_pos hf]
          obtain ⟨m, hm, he⟩ := hd hf
          refine ⟨rfl, rfl, rfl, hf, ?_, ?_, fun _ => ?_⟩
          · show 0 ≤ (l.length : Int) - ((numGo 10 0 0 l).2.1.length : Int)
            rw [he, List.length_drop]; omega
          · show (l.length : Int) - ((numGo 10 0 0 l).2.1.length : Int) ≤ _
            omega
          · show (numGo 10 0 0 l).2.1 = l.drop ((l.length : Int) - ((numGo 10 0 0 l).2.1.length : Int)).toNat
            rw [he, List.length_drop]
            congr 1
            omega
        · rw [if_neg hf]
          exact ⟨hz hf, rfl, rfl, rfl, by simp, by simp, fun h => absurd h hf⟩
      · rw [if_neg h3, if_neg h3]
        by_cases h4 : p.f0 = 4
        · rw [if_pos h4, if_pos h4]
          unfold rdRaw
          by_cases hn : p.f1 < 0
          · rw [if_pos hn, if_pos hn]
            exact ⟨rfl, rfl, rfl, rfl, by simp, by simp, fun _ => rfl⟩
          · rw [if_neg hn, if_neg hn, rTake_0]
            by_cases hl : l.length < p.f1.toNat
            · rw [if_pos hl, if_pos (show (l.length : Int) < p.f1 by omega)]
              exact ⟨rfl, rfl, rfl, rfl, by simp, by simp, fun h => absurd h (by simp)⟩
            · rw [if_neg hl, if_neg (show ¬ (l.length : Int) < p.f1 by omega)]
              exact ⟨rfl, rfl, rfl, rfl, by show 0 ≤ p.f1; omega, by show p.f1 ≤ (l.length : Int); omega, fun _ => rfl⟩
        · rw [if_neg h4, if_neg h4]
          exact ⟨rfl, rfl, rfl, rfl, by simp, by simp, fun _ => rfl⟩
theorem got_fault (l : List Int) (f : Int) (hf : f ≠ 0) (p : S49) : gotF (l, f) p = (0, 0, [], (l, f)) := by
  unfold gotF rUint rNum
  have e := rTake_f l f hf
  split
  · split
    · rfl
    · rw [e]; rfl
  · split
    · rw [if_neg (by decide), e]; rfl
    · split
      · rfl
      · split
        · split
          · rfl
          · rw [e]
        · rfl
end Go.Proofs.Ytalpemoodollpaa.P
/- The state of damperref06.Decode: nine parts in an array, the result's box. -/
namespace Go.Proofs.Ytalpemoodollpaa.P
open Go.RowKit Go.Proofs.YtalpemoodollpaaW.PrintWords Go.Proofs.YtalpemoodollpaaW.PrintLast Go.Proofs.YtalpemoodollpaaW.PrintMore
set_option linter.unusedVariables false
set_option linter.unusedSimpArgs false
theorem rUint_ff (l : List Int) (f : Int) (hf : f ≠ 0) (k : Int) : rUint (l, f) k = (0, (l, f)) := by
  unfold rUint
  rw [rTake_f l f hf]
  split <;> rfl
theorem rNum_ff (l : List Int) (f : Int) (hf : f ≠ 0) : rNum (l, f) = (0, (l, f)) := by
  unfold rNum
  rw [if_pos hf]
def zero5 (j : Nat) : Value := if j % 5 = 0 then .int .u64 0 else if j % 5 = 2 then .slice none 0 0 else .int .i64 0
def arr45 (f : Nat → Value) : Array Value := ((List.range 45).map f).toArray
theorem arr_set (f : Nat → Value) (k : Nat) (v : Value) : (arr45 f).setIfInBounds k v = arr45 (fun j => if j = k then v else f j) := by
  apply Array.ext'
  show ((arr45 f).setIfInBounds k v).toList = (List.range 45).map (fun j => if j = k then v else f j)
  rw [Array.toList_setIfInBounds]
  show ((List.range 45).map f).set k v = _
  apply List.ext_getElem
  · simp
  · intro i h1 h2
    rw [List.getElem_set, List.getElem_map, List.getElem_map, List.getElem_range]
    by_cases e : k = i
    · rw [if_pos e, if_pos e.symm]
    · rw [if_neg e, if_neg (fun x => e x.symm)]
structure FS (w W : World) (ba : Nat) (f : Nat → Value) : Prop where
  arr : W.heap[ba]? = some (.cells (arr45 f) 153 (0, 0))
  zx : Box9 W 29 w.heap.size 0 0 0 0 0 0 0 0 0
  bel : Below w.heap.size w W
  hba : w.heap.size < ba
namespace FS
variable {w W W1 : World} {ba : Nat} {f : Nat → Value}
theorem below (h : FS w W ba f) (hb : Below W.heap.size W W1) : FS w W1 ba f := ⟨(hb.block _ (blk_lt h.arr)).trans h.arr, (hb.block _ (blk_lt h.zx)).trans h.zx, below_then h.bel h.bel.size hb, h.hba⟩
theorem cell (h : FS w W ba f) (j : Nat) (hj : j < 45) : W.cell? ⟨ba, j, none⟩ = some (f j) := by
  rw [blk_cell h.arr j]
  simp [arr45, hj]
theorem frozen (h : FS w W ba f) (j : Nat) : W.frozen? ⟨ba, j, none⟩ = false := blk_frozen h.arr j
theorem set (h : FS w W ba f) (k : Nat) (v : Value) : FS w (W.setCell ⟨ba, k, none⟩ v) ba (fun j => if j = k then v else f j) := by
  refine ⟨?_, blk_far h.zx (by have := h.hba; show w.heap.size ≠ ba; omega) v, h.bel.setCell (p := ⟨ba, k, none⟩) (by have := h.hba; show w.heap.size ≤ ba; omega) v, h.hba⟩
  refine (blk_set h.arr k v).trans ?_
  rw [arr_set]
theorem store5 (h : FS w W ba f) (k : Nat) (n s z q : Int) (v : Value) :
    ∃ f', FS w (((((W.setCell ⟨ba, k, none⟩ (.int .u64 n)).setCell ⟨ba, k + 1, none⟩ (.int .i64 s)).setCell ⟨ba, k + 2, none⟩ v).setCell ⟨ba, k + 3, none⟩ (.int .i64 z)).setCell ⟨ba, k + 4, none⟩ (.int .i64 q)) ba f' ∧
      f' k = .int .u64 n ∧ f' (k + 1) = .int .i64 s ∧ f' (k + 3) = .int .i64 z ∧ f' (k + 4) = .int .i64 q ∧ ∀ j, (j < k ∨ k + 5 ≤ j) → f' j = f j := by
  refine ⟨_, ((((h.set k (.int .u64 n)).set (k + 1) (.int .i64 s)).set (k + 2) v).set (k + 3) (.int .i64 z)).set (k + 4) (.int .i64 q), ?_, ?_, ?_, ?_, ?_⟩
  · simp
  · simp
  · simp
  · simp
  · intro j hj
    rw [if_neg (by omega), if_neg (by omega), if_neg (by omega), if_neg (by omega), if_neg (by omega)]
end FS
/-- The end, as the document says it. -/
def refMFin (k sym seq tick id wi price qty code : Int) (s : List Int × Int) : S29 × Int :=
  if s.2 ≠ 0 then (⟨0, 0, 0, 0, 0, 0, 0, 0, 0⟩, s.2)
  else if 0 < s.1.length ∨ 4611686018427387904 < seq ∨ 4611686018427387904 < tick then (⟨0, 0, 0, 0, 0, 0, 0, 0, 0⟩, 4)
  else if msgRight ⟨k, sym, seq, tick, id, wi, price, qty, code⟩ = false then (⟨0, 0, 0, 0, 0, 0, 0, 0, 0⟩, 4)
  else (⟨k, sym, seq, tick, id, wi, price, qty, code⟩, 0)
theorem mn_le2 {a b : Int} (h : ¬ b < a) : mn a b = a := by unfold mn; rw [if_neg (by omega)]
theorem mfin_eq (k sym seq tick id wi price qty code : Int) (s : List Int × Int) : msgFin k sym seq tick id wi price qty code s = refMFin k sym seq tick id wi price qty code s := by
  unfold msgFin refMFin
  by_cases hs : s.2 = 0
  · rw [if_neg (show ¬ s.2 ≠ 0 from fun h => h hs), if_neg (show ¬ s.2 ≠ 0 from fun h => h hs)]
    by_cases hl : 0 < s.1.length
    · rw [if_pos (Or.inl hl), if_pos (Or.inl hl)]
    · by_cases hi : 4611686018427387904 < seq
      · have e : mn seq 4611686018427387905 = 4611686018427387905 := by unfold mn; split <;> omega
        rw [if_pos (Or.inr (by rw [e]; simp [msgRight, within_])), if_pos (Or.inr (Or.inl hi))]
      · have e : mn seq 4611686018427387905 = seq := mn_le2 (by omega)
        rw [e]
        by_cases ho : 4611686018427387904 < tick
        · have e2 : mn tick 4611686018427387905 = 4611686018427387905 := by unfold mn; split <;> omega
          rw [if_pos (Or.inr (by rw [e2]; simp [msgRight, within_])), if_pos (Or.inr (Or.inr ho))]
        · have e2 : mn tick 4611686018427387905 = tick := mn_le2 (by omega)
          rw [e2, if_neg (show ¬ (0 < s.1.length ∨ 4611686018427387904 < seq ∨ 4611686018427387904 < tick) by omega)]
          by_cases hr : msgRight ⟨k, sym, seq, tick, id, wi, price, qty, code⟩ = false
          · rw [if_pos (Or.inr hr), if_pos hr]
          · rw [if_neg (by intro h; rcases h with h | h; exact hl h; exact hr h), if_neg hr]
  · rw [if_pos (show s.2 ≠ 0 from hs), if_pos (show s.2 ≠ 0 from hs)]
/-- A read, as the document's part tells it. -/
theorem rd_uint (l : List Int) (hb : Byt l) : (rUint (l, 0) 1).1 = (rdUint l 1).1 ∧ (rUint (l, 0) 1).2.2 = (rdUint l 1).2.2.2.2 ∧ 0 ≤ (rdUint l 1).2.2.2.1 ∧ (rdUint l 1).2.2.2.1 ≤ l.length ∧ ((rdUint l 1).2.2.2.2 = 0 → (rUint (l, 0) 1).2.1 = l.drop (rdUint l 1).2.2.2.1.toNat) := by
  have h := got_read l ⟨1, 1, 0, 0, []⟩
  rw [show gotF (l, 0) ⟨1, 1, 0, 0, []⟩ = ((rUint (l, 0) 1).1, 0, [], (rUint (l, 0) 1).2) from rfl, show readF l ⟨1, 1, 0, 0, []⟩ = rdUint l 1 from rfl] at h
  exact ⟨h.1, h.2.2.2.1, h.2.2.2.2.1, h.2.2.2.2.2.1, h.2.2.2.2.2.2⟩
theorem rd_num (l : List Int) (hb : Byt l) : (rNum (l, 0)).1 = (fin3 l (numGo 10 0 0 l)).1 ∧ (rNum (l, 0)).2.2 = (fin3 l (numGo 10 0 0 l)).2.2.2.2 ∧ 0 ≤ (fin3 l (numGo 10 0 0 l)).2.2.2.1 ∧ (fin3 l (numGo 10 0 0 l)).2.2.2.1 ≤ l.length ∧ ((fin3 l (numGo 10 0 0 l)).2.2.2.2 = 0 → (rNum (l, 0)).2.1 = l.drop (fin3 l (numGo 10 0 0 l)).2.2.2.1.toNat) := by
  have h := got_read l ⟨3, 0, 0, 0, []⟩
  rw [show gotF (l, 0) ⟨3, 0, 0, 0, []⟩ = ((rNum (l, 0)).1, 0, [], (rNum (l, 0)).2) from rfl, show readF l ⟨3, 0, 0, 0, []⟩ = fin3 l (numGo 10 0 0 l) from rfl] at h
  exact ⟨h.1, h.2.2.2.1, h.2.2.2.2.1, h.2.2.2.2.2.1, h.2.2.2.2.2.2⟩
theorem rd_int (l : List Int) (hb : Byt l) : unzig (rUint (l, 0) 8).1 = (rdInt l).2.1 ∧ (rUint (l, 0) 8).2.2 = (rdInt l).2.2.2.2 ∧ 0 ≤ (rdInt l).2.2.2.1 ∧ (rdInt l).2.2.2.1 ≤ l.length ∧ ((rdInt l).2.2.2.2 = 0 → (rUint (l, 0) 8).2.1 = l.drop (rdInt l).2.2.2.1.toNat) := by
  have h := got_read l ⟨2, 0, 0, 0, []⟩
  rw [show gotF (l, 0) ⟨2, 0, 0, 0, []⟩ = (0, unzig (rUint (l, 0) 8).1, [], (rUint (l, 0) 8).2) from rfl, show readF l ⟨2, 0, 0, 0, []⟩ = rdInt l from rfl] at h
  exact ⟨h.2.1, h.2.2.2.1, h.2.2.2.2.1, h.2.2.2.2.2.1, h.2.2.2.2.2.2⟩
end Go.Proofs.Ytalpemoodollpaa.P
-- Printed by hookprint.py (the session's own program, over the kit's print.py): checked by Lean like any text.
namespace Go.Proofs.Ytalpemoodollpaa.P
open Go.RowKit Go.Proofs.YtalpemoodollpaaW.PrintWords Go.Proofs.YtalpemoodollpaaW.PrintLast Go.Proofs.YtalpemoodollpaaW.PrintMore
attribute [local go_sem] max2_int min2_int max_two min_two max_three min_three max_four min_four   -- for this text's walks alone
set_option linter.unusedVariables false
set_option linter.unusedSimpArgs false

/-! ### damperref06_in: function 97 -/
def damperref06_in.f (a0 : Int) (a1 : Int) (a2 : Int) : Option (Bool) := if a0 ≥ a1 then (some (decide (a0 ≤ a2))) else (some false)
set_option maxHeartbeats 8000000 in
set_option maxRecDepth 100000 in
theorem damperref06_in.calls (a0 : Int) (a1 : Int) (a2 : Int) (r : Bool) (w : World) (h : damperref06_in.f a0 a1 a2 = some r) :
    Calls Try.prog 97 #[.int .i64 a0, .int .i64 a1, .int .i64 a2] w fun e w' => e = .returned (.bool r) ∧ Drawn0 w w' := by
  have H : (if a0 ≥ a1 then (some (decide (a0 ≤ a2))) else (some false)) = some r := h
  clear h
  by_cases c4 : a0 ≥ a1
  · rw [if_pos c4] at H
    have c4b0 : decide (a1 ≤ a0) = true := decide_eq_true c4
    clear c4
    obtain rfl := Option.some.inj H
    go_enter Try.func97, Try.ntmps97
    go_wp2
    go_ret
    exact ⟨by first | rfl | (simp; done) | (simp [*]; done), by repeat (first | exact Drawn0.refl _ | apply Drawn0.step)⟩
  · rw [if_neg c4] at H
    have c4b0 : decide (a1 ≤ a0) = false := decide_eq_false c4
    clear c4
    obtain rfl := Option.some.inj H
    go_enter Try.func97, Try.ntmps97
    go_wp2
    go_ret
    exact ⟨by first | rfl | (simp; done) | (simp [*]; done), by repeat (first | exact Drawn0.refl _ | apply Drawn0.step)⟩

end Go.Proofs.Ytalpemoodollpaa.P
-- Printed by hookprint.py (the session's own program, over the kit's print.py): checked by Lean like any text.
namespace Go.Proofs.Ytalpemoodollpaa.P
open Go.RowKit Go.Proofs.YtalpemoodollpaaW.PrintWords Go.Proofs.YtalpemoodollpaaW.PrintLast Go.Proofs.YtalpemoodollpaaW.PrintMore
attribute [local go_sem] max2_int min2_int max_two min_two max_three min_three max_four min_four   -- for this text's walks alone
set_option linter.unusedVariables false
set_option linter.unusedSimpArgs false

/-! ### damperref06_Right: function 33 -/
def damperref06_Right.f (a0_0 : Int) (a0_1 : Int) (a0_2 : Int) (a0_3 : Int) (a0_4 : Int) (a0_5 : Int) (a0_6 : Int) (a0_7 : Int) (a0_8 : Int) : Option (Bool) := (damperref06_in.f a0_0 1 9).bind fun t140 => (if t140 = true then ((damperref06_in.f a0_1 0 255).bind fun t141 => (if t141 = true then ((damperref06_in.f a0_8 0 255).bind fun t142 => (if t142 = true then ((damperref06_in.f a0_2 0 4611686018427387904).bind fun t143 => (if t143 = true then ((damperref06_in.f a0_3 0 4611686018427387904).bind fun t144 => (if t144 = true then ((damperref06_in.f a0_4 (-1) 4611686018427387904).bind fun t145 => (if t145 = true then ((damperref06_in.f a0_5 (-1) 4611686018427387904).bind fun t146 => (some t146)) else (some false))) else (some false))) else (some false))) else (some false))) else (some false))) else (some false))
set_option maxHeartbeats 8000000 in
set_option maxRecDepth 100000 in
theorem damperref06_Right.calls (a0_0 : Int) (a0_1 : Int) (a0_2 : Int) (a0_3 : Int) (a0_4 : Int) (a0_5 : Int) (a0_6 : Int) (a0_7 : Int) (a0_8 : Int) (r : Bool) (w : World) (h : damperref06_Right.f a0_0 a0_1 a0_2 a0_3 a0_4 a0_5 a0_6 a0_7 a0_8 = some r) :
    Calls Try.prog 33 #[.agg #[.int .i64 a0_0, .int .i64 a0_1, .int .i64 a0_2, .int .i64 a0_3, .int .i64 a0_4, .int .i64 a0_5, .int .i64 a0_6, .int .i64 a0_7, .int .i64 a0_8]] w fun e w' => e = .returned (.bool r) ∧ Below w.heap.size w w' := by
  have hu29 := Try.underlying29
  have HB := Aside0.mk (Below.refl w.heap.size w)
  have H : ((damperref06_in.f a0_0 1 9).bind fun t140 => (if t140 = true then ((damperref06_in.f a0_1 0 255).bind fun t141 => (if t141 = true then ((damperref06_in.f a0_8 0 255).bind fun t142 => (if t142 = true then ((damperref06_in.f a0_2 0 4611686018427387904).bind fun t143 => (if t143 = true then ((damperref06_in.f a0_3 0 4611686018427387904).bind fun t144 => (if t144 = true then ((damperref06_in.f a0_4 (-1) 4611686018427387904).bind fun t145 => (if t145 = true then ((damperref06_in.f a0_5 (-1) 4611686018427387904).bind fun t146 => (some t146)) else (some false))) else (some false))) else (some false))) else (some false))) else (some false))) else (some false))) = some r := h
  clear h
  replace H := Option.bind_eq_some_iff.mp H
  obtain ⟨t140, A20, H⟩ := H
  replace H : (if t140 = true then ((damperref06_in.f a0_1 0 255).bind fun t141 => (if t141 = true then ((damperref06_in.f a0_8 0 255).bind fun t142 => (if t142 = true then ((damperref06_in.f a0_2 0 4611686018427387904).bind fun t143 => (if t143 = true then ((damperref06_in.f a0_3 0 4611686018427387904).bind fun t144 => (if t144 = true then ((damperref06_in.f a0_4 (-1) 4611686018427387904).bind fun t145 => (if t145 = true then ((damperref06_in.f a0_5 (-1) 4611686018427387904).bind fun t146 => (some t146)) else (some false))) else (some false))) else (some false))) else (some false))) else (some false))) else (some false)) = some r := H
  have A2 := Aside0.mk A20
  clear A20
  by_cases c3 : t140 = true
  · subst c3
    have H1 : ((damperref06_in.f a0_1 0 255).bind fun t141 => (if t141 = true then ((damperref06_in.f a0_8 0 255).bind fun t142 => (if t142 = true then ((damperref06_in.f a0_2 0 4611686018427387904).bind fun t143 => (if t143 = true then ((damperref06_in.f a0_3 0 4611686018427387904).bind fun t144 => (if t144 = true then ((damperref06_in.f a0_4 (-1) 4611686018427387904).bind fun t145 => (if t145 = true then ((damperref06_in.f a0_5 (-1) 4611686018427387904).bind fun t146 => (some t146)) else (some false))) else (some false))) else (some false))) else (some false))) else (some false))) = some r := by rw [if_pos rfl] at H; exact H
    clear H
    have H := H1
    clear H1
    replace H := Option.bind_eq_some_iff.mp H
    obtain ⟨t141, A40, H⟩ := H
    replace H : (if t141 = true then ((damperref06_in.f a0_8 0 255).bind fun t142 => (if t142 = true then ((damperref06_in.f a0_2 0 4611686018427387904).bind fun t143 => (if t143 = true then ((damperref06_in.f a0_3 0 4611686018427387904).bind fun t144 => (if t144 = true then ((damperref06_in.f a0_4 (-1) 4611686018427387904).bind fun t145 => (if t145 = true then ((damperref06_in.f a0_5 (-1) 4611686018427387904).bind fun t146 => (some t146)) else (some false))) else (some false))) else (some false))) else (some false))) else (some false)) = some r := H
    have A4 := Aside0.mk A40
    clear A40
    by_cases c5 : t141 = true
    · subst c5
      have H1 : ((damperref06_in.f a0_8 0 255).bind fun t142 => (if t142 = true then ((damperref06_in.f a0_2 0 4611686018427387904).bind fun t143 => (if t143 = true then ((damperref06_in.f a0_3 0 4611686018427387904).bind fun t144 => (if t144 = true then ((damperref06_in.f a0_4 (-1) 4611686018427387904).bind fun t145 => (if t145 = true then ((damperref06_in.f a0_5 (-1) 4611686018427387904).bind fun t146 => (some t146)) else (some false))) else (some false))) else (some false))) else (some false))) = some r := by rw [if_pos rfl] at H; exact H
      clear H
      have H := H1
      clear H1
      replace H := Option.bind_eq_some_iff.mp H
      obtain ⟨t142, A60, H⟩ := H
      replace H : (if t142 = true then ((damperref06_in.f a0_2 0 4611686018427387904).bind fun t143 => (if t143 = true then ((damperref06_in.f a0_3 0 4611686018427387904).bind fun t144 => (if t144 = true then ((damperref06_in.f a0_4 (-1) 4611686018427387904).bind fun t145 => (if t145 = true then ((damperref06_in.f a0_5 (-1) 4611686018427387904).bind fun t146 => (some t146)) else (some false))) else (some false))) else (some false))) else (some false)) = some r := H
      have A6 := Aside0.mk A60
      clear A60
      by_cases c7 : t142 = true
      · subst c7
        have H1 : ((damperref06_in.f a0_2 0 4611686018427387904).bind fun t143 => (if t143 = true then ((damperref06_in.f a0_3 0 4611686018427387904).bind fun t144 => (if t144 = true then ((damperref06_in.f a0_4 (-1) 4611686018427387904).bind fun t145 => (if t145 = true then ((damperref06_in.f a0_5 (-1) 4611686018427387904).bind fun t146 => (some t146)) else (some false))) else (some false))) else (some false))) = some r := by rw [if_pos rfl] at H; exact H
        clear H
        have H := H1
        clear H1
        replace H := Option.bind_eq_some_iff.mp H
        obtain ⟨t143, A80, H⟩ := H
        replace H : (if t143 = true then ((damperref06_in.f a0_3 0 4611686018427387904).bind fun t144 => (if t144 = true then ((damperref06_in.f a0_4 (-1) 4611686018427387904).bind fun t145 => (if t145 = true then ((damperref06_in.f a0_5 (-1) 4611686018427387904).bind fun t146 => (some t146)) else (some false))) else (some false))) else (some false)) = some r := H
        have A8 := Aside0.mk A80
        clear A80
        by_cases c9 : t143 = true
        · subst c9
          have H1 : ((damperref06_in.f a0_3 0 4611686018427387904).bind fun t144 => (if t144 = true then ((damperref06_in.f a0_4 (-1) 4611686018427387904).bind fun t145 => (if t145 = true then ((damperref06_in.f a0_5 (-1) 4611686018427387904).bind fun t146 => (some t146)) else (some false))) else (some false))) = some r := by rw [if_pos rfl] at H; exact H
          clear H
          have H := H1
          clear H1
          replace H := Option.bind_eq_some_iff.mp H
          obtain ⟨t144, A100, H⟩ := H
          replace H : (if t144 = true then ((damperref06_in.f a0_4 (-1) 4611686018427387904).bind fun t145 => (if t145 = true then ((damperref06_in.f a0_5 (-1) 4611686018427387904).bind fun t146 => (some t146)) else (some false))) else (some false)) = some r := H
          have A10 := Aside0.mk A100
          clear A100
          by_cases c11 : t144 = true
          · subst c11
            have H1 : ((damperref06_in.f a0_4 (-1) 4611686018427387904).bind fun t145 => (if t145 = true then ((damperref06_in.f a0_5 (-1) 4611686018427387904).bind fun t146 => (some t146)) else (some false))) = some r := by rw [if_pos rfl] at H; exact H
            clear H
            have H := H1
            clear H1
            replace H := Option.bind_eq_some_iff.mp H
            obtain ⟨t145, A120, H⟩ := H
            replace H : (if t145 = true then ((damperref06_in.f a0_5 (-1) 4611686018427387904).bind fun t146 => (some t146)) else (some false)) = some r := H
            have A12 := Aside0.mk A120
            clear A120
            by_cases c13 : t145 = true
            · subst c13
              have H1 : ((damperref06_in.f a0_5 (-1) 4611686018427387904).bind fun t146 => (some t146)) = some r := by rw [if_pos rfl] at H; exact H
              clear H
              have H := H1
              clear H1
              replace H := Option.bind_eq_some_iff.mp H
              obtain ⟨t146, A140, H⟩ := H
              replace H : (some t146) = some r := H
              have A14 := Aside0.mk A140
              clear A140
              obtain rfl := Option.some.inj H
              go_enter Try.func33, Try.ntmps33
              go_wp2_with (first | ((with_reducible refine gate_dst (N := 1) rfl ?_); refine box_event ?hg (N := 1) ?hd (cs := #[.int .i64 a0_0, .int .i64 a0_1, .int .i64 a0_2, .int .i64 a0_3, .int .i64 a0_4, .int .i64 a0_5, .int .i64 a0_6, .int .i64 a0_7, .int .i64 a0_8]) (t := 29) ?hr ?_; (case hd => rfl); (case hg => rfl); (case hr => first | (go_simp; done) | (go_simp; rfl)); intro gb139 hg w15 hbox hb; have n0_ := Aside0.mk (below_step (by repeat (first | (with_reducible first | exact HB.out | apply below_alloc | apply pw_below_drewN | apply below_drew1) | exact HB.out)) hb); have n1_ := Aside0.mk (hbox); have n2_ := Aside0.mk ((by rw [hg]; exact (below_size (by repeat (first | (with_reducible first | exact HB.out | apply below_alloc | apply pw_below_drewN | apply below_drew1) | exact HB.out))) : w.heap.size ≤ gb139)); have n3_ := Aside0.mk ((by rw [hg]; exact (below_size (by repeat (first | (with_reducible first | exact HB.out | apply below_alloc | apply pw_below_drewN | apply below_drew1) | exact HB.out))) : w.heap.size ≤ gb139)); clear HB; have HB := n0_; have BK139 := n1_; have GW139 := n2_; have GE139 := n3_; clear n0_ n1_ n2_ n3_; clear hb hbox hg; have hcz16_0 : w15.cell? ⟨gb139, 0, none⟩ = some (.int .i64 a0_0) := (blk_cell BK139.out 0).trans rfl; have hcz16_1 : w15.cell? ⟨gb139, 1, none⟩ = some (.int .i64 a0_1) := (blk_cell BK139.out 1).trans rfl; have hcz16_2 : w15.cell? ⟨gb139, 2, none⟩ = some (.int .i64 a0_2) := (blk_cell BK139.out 2).trans rfl; have hcz16_3 : w15.cell? ⟨gb139, 3, none⟩ = some (.int .i64 a0_3) := (blk_cell BK139.out 3).trans rfl; have hcz16_4 : w15.cell? ⟨gb139, 4, none⟩ = some (.int .i64 a0_4) := (blk_cell BK139.out 4).trans rfl; have hcz16_5 : w15.cell? ⟨gb139, 5, none⟩ = some (.int .i64 a0_5) := (blk_cell BK139.out 5).trans rfl; have hcz16_6 : w15.cell? ⟨gb139, 6, none⟩ = some (.int .i64 a0_6) := (blk_cell BK139.out 6).trans rfl; have hcz16_7 : w15.cell? ⟨gb139, 7, none⟩ = some (.int .i64 a0_7) := (blk_cell BK139.out 7).trans rfl; have hcz16_8 : w15.cell? ⟨gb139, 8, none⟩ = some (.int .i64 a0_8) := (blk_cell BK139.out 8).trans rfl; have hfz16_0 := blk_frozen BK139.out 0; have hfz16_1 := blk_frozen BK139.out 1; have hfz16_2 := blk_frozen BK139.out 2; have hfz16_3 := blk_frozen BK139.out 3; have hfz16_4 := blk_frozen BK139.out 4; have hfz16_5 := blk_frozen BK139.out 5; have hfz16_6 := blk_frozen BK139.out 6; have hfz16_7 := blk_frozen BK139.out 7; have hfz16_8 := blk_frozen BK139.out 8) | ((with_reducible refine gate_callee (f := 97) rfl ?_); refine goesL_ (some 5) rfl rfl Try.func97 (by kernel_rfl) rfl #[.int .i64 a0_0, .int .i64 1, .int .i64 9] rfl (by (try simp only [List.map_toArray, List.map_cons, List.map_nil]); first | done | rfl | (simp only [List.length_drop, List.length_take]; rfl)) ?_; (with_reducible refine (damperref06_in.calls a0_0 1 9 true _ A2.out).mono ?_); rintro e w' ⟨rfl, ⟨nd, rfl⟩⟩; refine ⟨_, rfl, ?_⟩) | (go_at_call 97; (with_reducible refine (damperref06_in.calls a0_1 0 255 true _ A4.out).mono ?_); rintro e w' ⟨rfl, ⟨nd, rfl⟩⟩) | (go_at_call 97; (with_reducible refine (damperref06_in.calls a0_8 0 255 true _ A6.out).mono ?_); rintro e w' ⟨rfl, ⟨nd, rfl⟩⟩) | (go_at_call 97; (with_reducible refine (damperref06_in.calls a0_2 0 4611686018427387904 true _ A8.out).mono ?_); rintro e w' ⟨rfl, ⟨nd, rfl⟩⟩) | (go_at_call 97; (with_reducible refine (damperref06_in.calls a0_3 0 4611686018427387904 true _ A10.out).mono ?_); rintro e w' ⟨rfl, ⟨nd, rfl⟩⟩) | (go_at_call 97; (with_reducible refine (damperref06_in.calls a0_4 (-1) 4611686018427387904 true _ A12.out).mono ?_); rintro e w' ⟨rfl, ⟨nd, rfl⟩⟩) | (go_at_call 97; (with_reducible refine (damperref06_in.calls a0_5 (-1) 4611686018427387904 t146 _ A14.out).mono ?_); rintro e w' ⟨rfl, ⟨nd, rfl⟩⟩))
              go_ret
              exact ⟨by first | rfl | (simp [errW_none, errW_some] <;> rfl) | (simp [*, errW_none, errW_some] <;> rfl), by repeat (first | (with_reducible first | exact HB.out | apply below_alloc | apply pw_below_drewN | apply below_drew1 | refine below_set ?_ GE139.out) | exact HB.out)⟩
            · replace c13 := Bool.eq_false_iff.mpr c13
              subst c13
              have H1 : (some false) = some r := by rw [if_neg (show ¬ (false = true) by decide)] at H; exact H
              clear H
              have H := H1
              clear H1
              obtain rfl := Option.some.inj H
              go_enter Try.func33, Try.ntmps33
              go_wp2_with (first | ((with_reducible refine gate_dst (N := 1) rfl ?_); refine box_event ?hg (N := 1) ?hd (cs := #[.int .i64 a0_0, .int .i64 a0_1, .int .i64 a0_2, .int .i64 a0_3, .int .i64 a0_4, .int .i64 a0_5, .int .i64 a0_6, .int .i64 a0_7, .int .i64 a0_8]) (t := 29) ?hr ?_; (case hd => rfl); (case hg => rfl); (case hr => first | (go_simp; done) | (go_simp; rfl)); intro gb139 hg w17 hbox hb; have n0_ := Aside0.mk (below_step (by repeat (first | (with_reducible first | exact HB.out | apply below_alloc | apply pw_below_drewN | apply below_drew1) | exact HB.out)) hb); have n1_ := Aside0.mk (hbox); have n2_ := Aside0.mk ((by rw [hg]; exact (below_size (by repeat (first | (with_reducible first | exact HB.out | apply below_alloc | apply pw_below_drewN | apply below_drew1) | exact HB.out))) : w.heap.size ≤ gb139)); have n3_ := Aside0.mk ((by rw [hg]; exact (below_size (by repeat (first | (with_reducible first | exact HB.out | apply below_alloc | apply pw_below_drewN | apply below_drew1) | exact HB.out))) : w.heap.size ≤ gb139)); clear HB; have HB := n0_; have BK139 := n1_; have GW139 := n2_; have GE139 := n3_; clear n0_ n1_ n2_ n3_; clear hb hbox hg; have hcz18_0 : w17.cell? ⟨gb139, 0, none⟩ = some (.int .i64 a0_0) := (blk_cell BK139.out 0).trans rfl; have hcz18_1 : w17.cell? ⟨gb139, 1, none⟩ = some (.int .i64 a0_1) := (blk_cell BK139.out 1).trans rfl; have hcz18_2 : w17.cell? ⟨gb139, 2, none⟩ = some (.int .i64 a0_2) := (blk_cell BK139.out 2).trans rfl; have hcz18_3 : w17.cell? ⟨gb139, 3, none⟩ = some (.int .i64 a0_3) := (blk_cell BK139.out 3).trans rfl; have hcz18_4 : w17.cell? ⟨gb139, 4, none⟩ = some (.int .i64 a0_4) := (blk_cell BK139.out 4).trans rfl; have hcz18_5 : w17.cell? ⟨gb139, 5, none⟩ = some (.int .i64 a0_5) := (blk_cell BK139.out 5).trans rfl; have hcz18_6 : w17.cell? ⟨gb139, 6, none⟩ = some (.int .i64 a0_6) := (blk_cell BK139.out 6).trans rfl; have hcz18_7 : w17.cell? ⟨gb139, 7, none⟩ = some (.int .i64 a0_7) := (blk_cell BK139.out 7).trans rfl; have hcz18_8 : w17.cell? ⟨gb139, 8, none⟩ = some (.int .i64 a0_8) := (blk_cell BK139.out 8).trans rfl; have hfz18_0 := blk_frozen BK139.out 0; have hfz18_1 := blk_frozen BK139.out 1; have hfz18_2 := blk_frozen BK139.out 2; have hfz18_3 := blk_frozen BK139.out 3; have hfz18_4 := blk_frozen BK139.out 4; have hfz18_5 := blk_frozen BK139.out 5; have hfz18_6 := blk_frozen BK139.out 6; have hfz18_7 := blk_frozen BK139.out 7; have hfz18_8 := blk_frozen BK139.out 8) | ((with_reducible refine gate_callee (f := 97) rfl ?_); refine goesL_ (some 5) rfl rfl Try.func97 (by kernel_rfl) rfl #[.int .i64 a0_0, .int .i64 1, .int .i64 9] rfl (by (try simp only [List.map_toArray, List.map_cons, List.map_nil]); first | done | rfl | (simp only [List.length_drop, List.length_take]; rfl)) ?_; (with_reducible refine (damperref06_in.calls a0_0 1 9 true _ A2.out).mono ?_); rintro e w' ⟨rfl, ⟨nd, rfl⟩⟩; refine ⟨_, rfl, ?_⟩) | (go_at_call 97; (with_reducible refine (damperref06_in.calls a0_1 0 255 true _ A4.out).mono ?_); rintro e w' ⟨rfl, ⟨nd, rfl⟩⟩) | (go_at_call 97; (with_reducible refine (damperref06_in.calls a0_8 0 255 true _ A6.out).mono ?_); rintro e w' ⟨rfl, ⟨nd, rfl⟩⟩) | (go_at_call 97; (with_reducible refine (damperref06_in.calls a0_2 0 4611686018427387904 true _ A8.out).mono ?_); rintro e w' ⟨rfl, ⟨nd, rfl⟩⟩) | (go_at_call 97; (with_reducible refine (damperref06_in.calls a0_3 0 4611686018427387904 true _ A10.out).mono ?_); rintro e w' ⟨rfl, ⟨nd, rfl⟩⟩) | (go_at_call 97; (with_reducible refine (damperref06_in.calls a0_4 (-1) 4611686018427387904 false _ A12.out).mono ?_); rintro e w' ⟨rfl, ⟨nd, rfl⟩⟩))
              go_ret
              exact ⟨by first | rfl | (simp [errW_none, errW_some] <;> rfl) | (simp [*, errW_none, errW_some] <;> rfl), by repeat (first | (with_reducible first | exact HB.out | apply below_alloc | apply pw_below_drewN | apply below_drew1 | refine below_set ?_ GE139.out) | exact HB.out)⟩
          · replace c11 := Bool.eq_false_iff.mpr c11
            subst c11
            have H1 : (some false) = some r := by rw [if_neg (show ¬ (false = true) by decide)] at H; exact H
            clear H
            have H := H1
            clear H1
            obtain rfl := Option.some.inj H
            go_enter Try.func33, Try.ntmps33
            go_wp2_with (first | ((with_reducible refine gate_dst (N := 1) rfl ?_); refine box_event ?hg (N := 1) ?hd (cs := #[.int .i64 a0_0, .int .i64 a0_1, .int .i64 a0_2, .int .i64 a0_3, .int .i64 a0_4, .int .i64 a0_5, .int .i64 a0_6, .int .i64 a0_7, .int .i64 a0_8]) (t := 29) ?hr ?_; (case hd => rfl); (case hg => rfl); (case hr => first | (go_simp; done) | (go_simp; rfl)); intro gb139 hg w19 hbox hb; have n0_ := Aside0.mk (below_step (by repeat (first | (with_reducible first | exact HB.out | apply below_alloc | apply pw_below_drewN | apply below_drew1) | exact HB.out)) hb); have n1_ := Aside0.mk (hbox); have n2_ := Aside0.mk ((by rw [hg]; exact (below_size (by repeat (first | (with_reducible first | exact HB.out | apply below_alloc | apply pw_below_drewN | apply below_drew1) | exact HB.out))) : w.heap.size ≤ gb139)); have n3_ := Aside0.mk ((by rw [hg]; exact (below_size (by repeat (first | (with_reducible first | exact HB.out | apply below_alloc | apply pw_below_drewN | apply below_drew1) | exact HB.out))) : w.heap.size ≤ gb139)); clear HB; have HB := n0_; have BK139 := n1_; have GW139 := n2_; have GE139 := n3_; clear n0_ n1_ n2_ n3_; clear hb hbox hg; have hcz20_0 : w19.cell? ⟨gb139, 0, none⟩ = some (.int .i64 a0_0) := (blk_cell BK139.out 0).trans rfl; have hcz20_1 : w19.cell? ⟨gb139, 1, none⟩ = some (.int .i64 a0_1) := (blk_cell BK139.out 1).trans rfl; have hcz20_2 : w19.cell? ⟨gb139, 2, none⟩ = some (.int .i64 a0_2) := (blk_cell BK139.out 2).trans rfl; have hcz20_3 : w19.cell? ⟨gb139, 3, none⟩ = some (.int .i64 a0_3) := (blk_cell BK139.out 3).trans rfl; have hcz20_4 : w19.cell? ⟨gb139, 4, none⟩ = some (.int .i64 a0_4) := (blk_cell BK139.out 4).trans rfl; have hcz20_5 : w19.cell? ⟨gb139, 5, none⟩ = some (.int .i64 a0_5) := (blk_cell BK139.out 5).trans rfl; have hcz20_6 : w19.cell? ⟨gb139, 6, none⟩ = some (.int .i64 a0_6) := (blk_cell BK139.out 6).trans rfl; have hcz20_7 : w19.cell? ⟨gb139, 7, none⟩ = some (.int .i64 a0_7) := (blk_cell BK139.out 7).trans rfl; have hcz20_8 : w19.cell? ⟨gb139, 8, none⟩ = some (.int .i64 a0_8) := (blk_cell BK139.out 8).trans rfl; have hfz20_0 := blk_frozen BK139.out 0; have hfz20_1 := blk_frozen BK139.out 1; have hfz20_2 := blk_frozen BK139.out 2; have hfz20_3 := blk_frozen BK139.out 3; have hfz20_4 := blk_frozen BK139.out 4; have hfz20_5 := blk_frozen BK139.out 5; have hfz20_6 := blk_frozen BK139.out 6; have hfz20_7 := blk_frozen BK139.out 7; have hfz20_8 := blk_frozen BK139.out 8) | ((with_reducible refine gate_callee (f := 97) rfl ?_); refine goesL_ (some 5) rfl rfl Try.func97 (by kernel_rfl) rfl #[.int .i64 a0_0, .int .i64 1, .int .i64 9] rfl (by (try simp only [List.map_toArray, List.map_cons, List.map_nil]); first | done | rfl | (simp only [List.length_drop, List.length_take]; rfl)) ?_; (with_reducible refine (damperref06_in.calls a0_0 1 9 true _ A2.out).mono ?_); rintro e w' ⟨rfl, ⟨nd, rfl⟩⟩; refine ⟨_, rfl, ?_⟩) | (go_at_call 97; (with_reducible refine (damperref06_in.calls a0_1 0 255 true _ A4.out).mono ?_); rintro e w' ⟨rfl, ⟨nd, rfl⟩⟩) | (go_at_call 97; (with_reducible refine (damperref06_in.calls a0_8 0 255 true _ A6.out).mono ?_); rintro e w' ⟨rfl, ⟨nd, rfl⟩⟩) | (go_at_call 97; (with_reducible refine (damperref06_in.calls a0_2 0 4611686018427387904 true _ A8.out).mono ?_); rintro e w' ⟨rfl, ⟨nd, rfl⟩⟩) | (go_at_call 97; (with_reducible refine (damperref06_in.calls a0_3 0 4611686018427387904 false _ A10.out).mono ?_); rintro e w' ⟨rfl, ⟨nd, rfl⟩⟩))
            go_ret
            exact ⟨by first | rfl | (simp [errW_none, errW_some] <;> rfl) | (simp [*, errW_none, errW_some] <;> rfl), by repeat (first | (with_reducible first | exact HB.out | apply below_alloc | apply pw_below_drewN | apply below_drew1 | refine below_set ?_ GE139.out) | exact HB.out)⟩
        · replace c9 := Bool.eq_false_iff.mpr c9
          subst c9
          have H1 : (some false) = some r := by rw [if_neg (show ¬ (false = true) by decide)] at H; exact H
          clear H
          have H := H1
          clear H1
          obtain rfl := Option.some.inj H
          go_enter Try.func33, Try.ntmps33
          go_wp2_with (first | ((with_reducible refine gate_dst (N := 1) rfl ?_); refine box_event ?hg (N := 1) ?hd (cs := #[.int .i64 a0_0, .int .i64 a0_1, .int .i64 a0_2, .int .i64 a0_3, .int .i64 a0_4, .int .i64 a0_5, .int .i64 a0_6, .int .i64 a0_7, .int .i64 a0_8]) (t := 29) ?hr ?_; (case hd => rfl); (case hg => rfl); (case hr => first | (go_simp; done) | (go_simp; rfl)); intro gb139 hg w21 hbox hb; have n0_ := Aside0.mk (below_step (by repeat (first | (with_reducible first | exact HB.out | apply below_alloc | apply pw_below_drewN | apply below_drew1) | exact HB.out)) hb); have n1_ := Aside0.mk (hbox); have n2_ := Aside0.mk ((by rw [hg]; exact (below_size (by repeat (first | (with_reducible first | exact HB.out | apply below_alloc | apply pw_below_drewN | apply below_drew1) | exact HB.out))) : w.heap.size ≤ gb139)); have n3_ := Aside0.mk ((by rw [hg]; exact (below_size (by repeat (first | (with_reducible first | exact HB.out | apply below_alloc | apply pw_below_drewN | apply below_drew1) | exact HB.out))) : w.heap.size ≤ gb139)); clear HB; have HB := n0_; have BK139 := n1_; have GW139 := n2_; have GE139 := n3_; clear n0_ n1_ n2_ n3_; clear hb hbox hg; have hcz22_0 : w21.cell? ⟨gb139, 0, none⟩ = some (.int .i64 a0_0) := (blk_cell BK139.out 0).trans rfl; have hcz22_1 : w21.cell? ⟨gb139, 1, none⟩ = some (.int .i64 a0_1) := (blk_cell BK139.out 1).trans rfl; have hcz22_2 : w21.cell? ⟨gb139, 2, none⟩ = some (.int .i64 a0_2) := (blk_cell BK139.out 2).trans rfl; have hcz22_3 : w21.cell? ⟨gb139, 3, none⟩ = some (.int .i64 a0_3) := (blk_cell BK139.out 3).trans rfl; have hcz22_4 : w21.cell? ⟨gb139, 4, none⟩ = some (.int .i64 a0_4) := (blk_cell BK139.out 4).trans rfl; have hcz22_5 : w21.cell? ⟨gb139, 5, none⟩ = some (.int .i64 a0_5) := (blk_cell BK139.out 5).trans rfl; have hcz22_6 : w21.cell? ⟨gb139, 6, none⟩ = some (.int .i64 a0_6) := (blk_cell BK139.out 6).trans rfl; have hcz22_7 : w21.cell? ⟨gb139, 7, none⟩ = some (.int .i64 a0_7) := (blk_cell BK139.out 7).trans rfl; have hcz22_8 : w21.cell? ⟨gb139, 8, none⟩ = some (.int .i64 a0_8) := (blk_cell BK139.out 8).trans rfl; have hfz22_0 := blk_frozen BK139.out 0; have hfz22_1 := blk_frozen BK139.out 1; have hfz22_2 := blk_frozen BK139.out 2; have hfz22_3 := blk_frozen BK139.out 3; have hfz22_4 := blk_frozen BK139.out 4; have hfz22_5 := blk_frozen BK139.out 5; have hfz22_6 := blk_frozen BK139.out 6; have hfz22_7 := blk_frozen BK139.out 7; have hfz22_8 := blk_frozen BK139.out 8) | ((with_reducible refine gate_callee (f := 97) rfl ?_); refine goesL_ (some 5) rfl rfl Try.func97 (by kernel_rfl) rfl #[.int .i64 a0_0, .int .i64 1, .int .i64 9] rfl (by (try simp only [List.map_toArray, List.map_cons, List.map_nil]); first | done | rfl | (simp only [List.length_drop, List.length_take]; rfl)) ?_; (with_reducible refine (damperref06_in.calls a0_0 1 9 true _ A2.out).mono ?_); rintro e w' ⟨rfl, ⟨nd, rfl⟩⟩; refine ⟨_, rfl, ?_⟩) | (go_at_call 97; (with_reducible refine (damperref06_in.calls a0_1 0 255 true _ A4.out).mono ?_); rintro e w' ⟨rfl, ⟨nd, rfl⟩⟩) | (go_at_call 97; (with_reducible refine (damperref06_in.calls a0_8 0 255 true _ A6.out).mono ?_); rintro e w' ⟨rfl, ⟨nd, rfl⟩⟩) | (go_at_call 97; (with_reducible refine (damperref06_in.calls a0_2 0 4611686018427387904 false _ A8.out).mono ?_); rintro e w' ⟨rfl, ⟨nd, rfl⟩⟩))
          go_ret
          exact ⟨by first | rfl | (simp [errW_none, errW_some] <;> rfl) | (simp [*, errW_none, errW_some] <;> rfl), by repeat (first | (with_reducible first | exact HB.out | apply below_alloc | apply pw_below_drewN | apply below_drew1 | refine below_set ?_ GE139.out) | exact HB.out)⟩
      · replace c7 := Bool.eq_false_iff.mpr c7
        subst c7
        have H1 : (some false) = some r := by rw [if_neg (show ¬ (false = true) by decide)] at H; exact H
        clear H
        have H := H1
        clear H1
        obtain rfl := Option.some.inj H
        go_enter Try.func33, Try.ntmps33
        go_wp2_with (first | ((with_reducible refine gate_dst (N := 1) rfl ?_); refine box_event ?hg (N := 1) ?hd (cs := #[.int .i64 a0_0, .int .i64 a0_1, .int .i64 a0_2, .int .i64 a0_3, .int .i64 a0_4, .int .i64 a0_5, .int .i64 a0_6, .int .i64 a0_7, .int .i64 a0_8]) (t := 29) ?hr ?_; (case hd => rfl); (case hg => rfl); (case hr => first | (go_simp; done) | (go_simp; rfl)); intro gb139 hg w23 hbox hb; have n0_ := Aside0.mk (below_step (by repeat (first | (with_reducible first | exact HB.out | apply below_alloc | apply pw_below_drewN | apply below_drew1) | exact HB.out)) hb); have n1_ := Aside0.mk (hbox); have n2_ := Aside0.mk ((by rw [hg]; exact (below_size (by repeat (first | (with_reducible first | exact HB.out | apply below_alloc | apply pw_below_drewN | apply below_drew1) | exact HB.out))) : w.heap.size ≤ gb139)); have n3_ := Aside0.mk ((by rw [hg]; exact (below_size (by repeat (first | (with_reducible first | exact HB.out | apply below_alloc | apply pw_below_drewN | apply below_drew1) | exact HB.out))) : w.heap.size ≤ gb139)); clear HB; have HB := n0_; have BK139 := n1_; have GW139 := n2_; have GE139 := n3_; clear n0_ n1_ n2_ n3_; clear hb hbox hg; have hcz24_0 : w23.cell? ⟨gb139, 0, none⟩ = some (.int .i64 a0_0) := (blk_cell BK139.out 0).trans rfl; have hcz24_1 : w23.cell? ⟨gb139, 1, none⟩ = some (.int .i64 a0_1) := (blk_cell BK139.out 1).trans rfl; have hcz24_2 : w23.cell? ⟨gb139, 2, none⟩ = some (.int .i64 a0_2) := (blk_cell BK139.out 2).trans rfl; have hcz24_3 : w23.cell? ⟨gb139, 3, none⟩ = some (.int .i64 a0_3) := (blk_cell BK139.out 3).trans rfl; have hcz24_4 : w23.cell? ⟨gb139, 4, none⟩ = some (.int .i64 a0_4) := (blk_cell BK139.out 4).trans rfl; have hcz24_5 : w23.cell? ⟨gb139, 5, none⟩ = some (.int .i64 a0_5) := (blk_cell BK139.out 5).trans rfl; have hcz24_6 : w23.cell? ⟨gb139, 6, none⟩ = some (.int .i64 a0_6) := (blk_cell BK139.out 6).trans rfl; have hcz24_7 : w23.cell? ⟨gb139, 7, none⟩ = some (.int .i64 a0_7) := (blk_cell BK139.out 7).trans rfl; have hcz24_8 : w23.cell? ⟨gb139, 8, none⟩ = some (.int .i64 a0_8) := (blk_cell BK139.out 8).trans rfl; have hfz24_0 := blk_frozen BK139.out 0; have hfz24_1 := blk_frozen BK139.out 1; have hfz24_2 := blk_frozen BK139.out 2; have hfz24_3 := blk_frozen BK139.out 3; have hfz24_4 := blk_frozen BK139.out 4; have hfz24_5 := blk_frozen BK139.out 5; have hfz24_6 := blk_frozen BK139.out 6; have hfz24_7 := blk_frozen BK139.out 7; have hfz24_8 := blk_frozen BK139.out 8) | ((with_reducible refine gate_callee (f := 97) rfl ?_); refine goesL_ (some 5) rfl rfl Try.func97 (by kernel_rfl) rfl #[.int .i64 a0_0, .int .i64 1, .int .i64 9] rfl (by (try simp only [List.map_toArray, List.map_cons, List.map_nil]); first | done | rfl | (simp only [List.length_drop, List.length_take]; rfl)) ?_; (with_reducible refine (damperref06_in.calls a0_0 1 9 true _ A2.out).mono ?_); rintro e w' ⟨rfl, ⟨nd, rfl⟩⟩; refine ⟨_, rfl, ?_⟩) | (go_at_call 97; (with_reducible refine (damperref06_in.calls a0_1 0 255 true _ A4.out).mono ?_); rintro e w' ⟨rfl, ⟨nd, rfl⟩⟩) | (go_at_call 97; (with_reducible refine (damperref06_in.calls a0_8 0 255 false _ A6.out).mono ?_); rintro e w' ⟨rfl, ⟨nd, rfl⟩⟩))
        go_ret
        exact ⟨by first | rfl | (simp [errW_none, errW_some] <;> rfl) | (simp [*, errW_none, errW_some] <;> rfl), by repeat (first | (with_reducible first | exact HB.out | apply below_alloc | apply pw_below_drewN | apply below_drew1 | refine below_set ?_ GE139.out) | exact HB.out)⟩
    · replace c5 := Bool.eq_false_iff.mpr c5
      subst c5
      have H1 : (some false) = some r := by rw [if_neg (show ¬ (false = true) by decide)] at H; exact H
      clear H
      have H := H1
      clear H1
      obtain rfl := Option.some.inj H
      go_enter Try.func33, Try.ntmps33
      go_wp2_with (first | ((with_reducible refine gate_dst (N := 1) rfl ?_); refine box_event ?hg (N := 1) ?hd (cs := #[.int .i64 a0_0, .int .i64 a0_1, .int .i64 a0_2, .int .i64 a0_3, .int .i64 a0_4, .int .i64 a0_5, .int .i64 a0_6, .int .i64 a0_7, .int .i64 a0_8]) (t := 29) ?hr ?_; (case hd => rfl); (case hg => rfl); (case hr => first | (go_simp; done) | (go_simp; rfl)); intro gb139 hg w25 hbox hb; have n0_ := Aside0.mk (below_step (by repeat (first | (with_reducible first | exact HB.out | apply below_alloc | apply pw_below_drewN | apply below_drew1) | exact HB.out)) hb); have n1_ := Aside0.mk (hbox); have n2_ := Aside0.mk ((by rw [hg]; exact (below_size (by repeat (first | (with_reducible first | exact HB.out | apply below_alloc | apply pw_below_drewN | apply below_drew1) | exact HB.out))) : w.heap.size ≤ gb139)); have n3_ := Aside0.mk ((by rw [hg]; exact (below_size (by repeat (first | (with_reducible first | exact HB.out | apply below_alloc | apply pw_below_drewN | apply below_drew1) | exact HB.out))) : w.heap.size ≤ gb139)); clear HB; have HB := n0_; have BK139 := n1_; have GW139 := n2_; have GE139 := n3_; clear n0_ n1_ n2_ n3_; clear hb hbox hg; have hcz26_0 : w25.cell? ⟨gb139, 0, none⟩ = some (.int .i64 a0_0) := (blk_cell BK139.out 0).trans rfl; have hcz26_1 : w25.cell? ⟨gb139, 1, none⟩ = some (.int .i64 a0_1) := (blk_cell BK139.out 1).trans rfl; have hcz26_2 : w25.cell? ⟨gb139, 2, none⟩ = some (.int .i64 a0_2) := (blk_cell BK139.out 2).trans rfl; have hcz26_3 : w25.cell? ⟨gb139, 3, none⟩ = some (.int .i64 a0_3) := (blk_cell BK139.out 3).trans rfl; have hcz26_4 : w25.cell? ⟨gb139, 4, none⟩ = some (.int .i64 a0_4) := (blk_cell BK139.out 4).trans rfl; have hcz26_5 : w25.cell? ⟨gb139, 5, none⟩ = some (.int .i64 a0_5) := (blk_cell BK139.out 5).trans rfl; have hcz26_6 : w25.cell? ⟨gb139, 6, none⟩ = some (.int .i64 a0_6) := (blk_cell BK139.out 6).trans rfl; have hcz26_7 : w25.cell? ⟨gb139, 7, none⟩ = some (.int .i64 a0_7) := (blk_cell BK139.out 7).trans rfl; have hcz26_8 : w25.cell? ⟨gb139, 8, none⟩ = some (.int .i64 a0_8) := (blk_cell BK139.out 8).trans rfl; have hfz26_0 := blk_frozen BK139.out 0; have hfz26_1 := blk_frozen BK139.out 1; have hfz26_2 := blk_frozen BK139.out 2; have hfz26_3 := blk_frozen BK139.out 3; have hfz26_4 := blk_frozen BK139.out 4; have hfz26_5 := blk_frozen BK139.out 5; have hfz26_6 := blk_frozen BK139.out 6; have hfz26_7 := blk_frozen BK139.out 7; have hfz26_8 := blk_frozen BK139.out 8) | ((with_reducible refine gate_callee (f := 97) rfl ?_); refine goesL_ (some 5) rfl rfl Try.func97 (by kernel_rfl) rfl #[.int .i64 a0_0, .int .i64 1, .int .i64 9] rfl (by (try simp only [List.map_toArray, List.map_cons, List.map_nil]); first | done | rfl | (simp only [List.length_drop, List.length_take]; rfl)) ?_; (with_reducible refine (damperref06_in.calls a0_0 1 9 true _ A2.out).mono ?_); rintro e w' ⟨rfl, ⟨nd, rfl⟩⟩; refine ⟨_, rfl, ?_⟩) | (go_at_call 97; (with_reducible refine (damperref06_in.calls a0_1 0 255 false _ A4.out).mono ?_); rintro e w' ⟨rfl, ⟨nd, rfl⟩⟩))
      go_ret
      exact ⟨by first | rfl | (simp [errW_none, errW_some] <;> rfl) | (simp [*, errW_none, errW_some] <;> rfl), by repeat (first | (with_reducible first | exact HB.out | apply below_alloc | apply pw_below_drewN | apply below_drew1 | refine below_set ?_ GE139.out) | exact HB.out)⟩
  · replace c3 := Bool.eq_false_iff.mpr c3
    subst c3
    have H1 : (some false) = some r := by rw [if_neg (show ¬ (false = true) by decide)] at H; exact H
    clear H
    have H := H1
    clear H1
    obtain rfl := Option.some.inj H
    go_enter Try.func33, Try.ntmps33
    go_wp2_with (first | ((with_reducible refine gate_dst (N := 1) rfl ?_); refine box_event ?hg (N := 1) ?hd (cs := #[.int .i64 a0_0, .int .i64 a0_1, .int .i64 a0_2, .int .i64 a0_3, .int .i64 a0_4, .int .i64 a0_5, .int .i64 a0_6, .int .i64 a0_7, .int .i64 a0_8]) (t := 29) ?hr ?_; (case hd => rfl); (case hg => rfl); (case hr => first | (go_simp; done) | (go_simp; rfl)); intro gb139 hg w27 hbox hb; have n0_ := Aside0.mk (below_step (by repeat (first | (with_reducible first | exact HB.out | apply below_alloc | apply pw_below_drewN | apply below_drew1) | exact HB.out)) hb); have n1_ := Aside0.mk (hbox); have n2_ := Aside0.mk ((by rw [hg]; exact (below_size (by repeat (first | (with_reducible first | exact HB.out | apply below_alloc | apply pw_below_drewN | apply below_drew1) | exact HB.out))) : w.heap.size ≤ gb139)); have n3_ := Aside0.mk ((by rw [hg]; exact (below_size (by repeat (first | (with_reducible first | exact HB.out | apply below_alloc | apply pw_below_drewN | apply below_drew1) | exact HB.out))) : w.heap.size ≤ gb139)); clear HB; have HB := n0_; have BK139 := n1_; have GW139 := n2_; have GE139 := n3_; clear n0_ n1_ n2_ n3_; clear hb hbox hg; have hcz28_0 : w27.cell? ⟨gb139, 0, none⟩ = some (.int .i64 a0_0) := (blk_cell BK139.out 0).trans rfl; have hcz28_1 : w27.cell? ⟨gb139, 1, none⟩ = some (.int .i64 a0_1) := (blk_cell BK139.out 1).trans rfl; have hcz28_2 : w27.cell? ⟨gb139, 2, none⟩ = some (.int .i64 a0_2) := (blk_cell BK139.out 2).trans rfl; have hcz28_3 : w27.cell? ⟨gb139, 3, none⟩ = some (.int .i64 a0_3) := (blk_cell BK139.out 3).trans rfl; have hcz28_4 : w27.cell? ⟨gb139, 4, none⟩ = some (.int .i64 a0_4) := (blk_cell BK139.out 4).trans rfl; have hcz28_5 : w27.cell? ⟨gb139, 5, none⟩ = some (.int .i64 a0_5) := (blk_cell BK139.out 5).trans rfl; have hcz28_6 : w27.cell? ⟨gb139, 6, none⟩ = some (.int .i64 a0_6) := (blk_cell BK139.out 6).trans rfl; have hcz28_7 : w27.cell? ⟨gb139, 7, none⟩ = some (.int .i64 a0_7) := (blk_cell BK139.out 7).trans rfl; have hcz28_8 : w27.cell? ⟨gb139, 8, none⟩ = some (.int .i64 a0_8) := (blk_cell BK139.out 8).trans rfl; have hfz28_0 := blk_frozen BK139.out 0; have hfz28_1 := blk_frozen BK139.out 1; have hfz28_2 := blk_frozen BK139.out 2; have hfz28_3 := blk_frozen BK139.out 3; have hfz28_4 := blk_frozen BK139.out 4; have hfz28_5 := blk_frozen BK139.out 5; have hfz28_6 := blk_frozen BK139.out 6; have hfz28_7 := blk_frozen BK139.out 7; have hfz28_8 := blk_frozen BK139.out 8) | ((with_reducible refine gate_callee (f := 97) rfl ?_); refine goesL_ (some 5) rfl rfl Try.func97 (by kernel_rfl) rfl #[.int .i64 a0_0, .int .i64 1, .int .i64 9] rfl (by (try simp only [List.map_toArray, List.map_cons, List.map_nil]); first | done | rfl | (simp only [List.length_drop, List.length_take]; rfl)) ?_; (with_reducible refine (damperref06_in.calls a0_0 1 9 false _ A2.out).mono ?_); rintro e w' ⟨rfl, ⟨nd, rfl⟩⟩; refine ⟨_, rfl, ?_⟩))
    go_ret
    exact ⟨by first | rfl | (simp [errW_none, errW_some] <;> rfl) | (simp [*, errW_none, errW_some] <;> rfl), by repeat (first | (with_reducible first | exact HB.out | apply below_alloc | apply pw_below_drewN | apply below_drew1 | refine below_set ?_ GE139.out) | exact HB.out)⟩

end Go.Proofs.Ytalpemoodollpaa.P
/- The document's right messages are the program's. -/
namespace Go.Proofs.Ytalpemoodollpaa.P
open Go.RowKit Go.Proofs.YtalpemoodollpaaW.PrintWords Go.Proofs.YtalpemoodollpaaW.PrintLast Go.Proofs.YtalpemoodollpaaW.PrintMore
theorem refIn06_ (a lo hi : Int) : damperref06_in.f a lo hi = some (within_ lo hi a) := by
  unfold damperref06_in.f within_
  by_cases h : lo ≤ a
  · rw [if_pos (by omega)]; simp [h]
  · rw [if_neg (by omega)]; simp [h]
theorem refMsgRight_ (m : S29) : damperref06_Right.f m.f0 m.f1 m.f2 m.f3 m.f4 m.f5 m.f6 m.f7 m.f8 = some (msgRight m) := by
  unfold damperref06_Right.f msgRight
  simp only [refIn06_, Option.bind_some]
  cases within_ 1 9 m.f0 <;> cases within_ 0 255 m.f1 <;> cases within_ 0 255 m.f8 <;> cases within_ 0 4611686018427387904 m.f2 <;> cases within_ 0 4611686018427387904 m.f3 <;> cases within_ (-1) 4611686018427387904 m.f4 <;> simp
theorem refMRight_calls (m : S29) (w : World) : Calls Try.prog 33 #[.agg #[.int .i64 m.f0, .int .i64 m.f1, .int .i64 m.f2, .int .i64 m.f3, .int .i64 m.f4, .int .i64 m.f5, .int .i64 m.f6, .int .i64 m.f7, .int .i64 m.f8]] w fun e w' => e = .returned (.bool (msgRight m)) ∧ Below w.heap.size w w' :=
  damperref06_Right.calls _ _ _ _ _ _ _ _ _ _ w (refMsgRight_ m)
end Go.Proofs.Ytalpemoodollpaa.P
/- The contract of damperref06.Decode. -/
namespace Go.Proofs.Ytalpemoodollpaa.P
open Go.RowKit Go.Proofs.YtalpemoodollpaaW.PrintWords Go.Proofs.YtalpemoodollpaaW.PrintLast Go.Proofs.YtalpemoodollpaaW.PrintMore
set_option linter.unusedVariables false
set_option linter.unusedSimpArgs false
theorem FS.res {w W : World} {ba : Nat} {f : Nat → Value} (h : FS w W ba f) (v0 v1 v2 v3 v4 v5 v6 v7 v8 : Int) : Box9 (((((((((W.setCell ⟨w.heap.size, 0, none⟩ (.int .i64 v0)).setCell ⟨w.heap.size, 1, none⟩ (.int .i64 v1)).setCell ⟨w.heap.size, 2, none⟩ (.int .i64 v2)).setCell ⟨w.heap.size, 3, none⟩ (.int .i64 v3)).setCell ⟨w.heap.size, 4, none⟩ (.int .i64 v4)).setCell ⟨w.heap.size, 5, none⟩ (.int .i64 v5)).setCell ⟨w.heap.size, 6, none⟩ (.int .i64 v6)).setCell ⟨w.heap.size, 7, none⟩ (.int .i64 v7)).setCell ⟨w.heap.size, 8, none⟩ (.int .i64 v8)) 29 w.heap.size v0 v1 v2 v3 v4 v5 v6 v7 v8 ∧ Below w.heap.size w (((((((((W.setCell ⟨w.heap.size, 0, none⟩ (.int .i64 v0)).setCell ⟨w.heap.size, 1, none⟩ (.int .i64 v1)).setCell ⟨w.heap.size, 2, none⟩ (.int .i64 v2)).setCell ⟨w.heap.size, 3, none⟩ (.int .i64 v3)).setCell ⟨w.heap.size, 4, none⟩ (.int .i64 v4)).setCell ⟨w.heap.size, 5, none⟩ (.int .i64 v5)).setCell ⟨w.heap.size, 6, none⟩ (.int .i64 v6)).setCell ⟨w.heap.size, 7, none⟩ (.int .i64 v7)).setCell ⟨w.heap.size, 8, none⟩ (.int .i64 v8)) ∧ (((((((((W.setCell ⟨w.heap.size, 0, none⟩ (.int .i64 v0)).setCell ⟨w.heap.size, 1, none⟩ (.int .i64 v1)).setCell ⟨w.heap.size, 2, none⟩ (.int .i64 v2)).setCell ⟨w.heap.size, 3, none⟩ (.int .i64 v3)).setCell ⟨w.heap.size, 4, none⟩ (.int .i64 v4)).setCell ⟨w.heap.size, 5, none⟩ (.int .i64 v5)).setCell ⟨w.heap.size, 6, none⟩ (.int .i64 v6)).setCell ⟨w.heap.size, 7, none⟩ (.int .i64 v7)).setCell ⟨w.heap.size, 8, none⟩ (.int .i64 v8)).heap[ba]? = some (.cells (arr45 f) 153 (0, 0)) := ⟨(blk_set (blk_set (blk_set (blk_set (blk_set (blk_set (blk_set (blk_set (blk_set h.zx 0 (.int .i64 v0)) 1 (.int .i64 v1)) 2 (.int .i64 v2)) 3 (.int .i64 v3)) 4 (.int .i64 v4)) 5 (.int .i64 v5)) 6 (.int .i64 v6)) 7 (.int .i64 v7)) 8 (.int .i64 v8)).trans (by simp), (((((((((h.bel.setCell (p := ⟨w.heap.size, 0, none⟩) (Nat.le_refl _) (.int .i64 v0)).setCell (p := ⟨w.heap.size, 1, none⟩) (Nat.le_refl _) (.int .i64 v1)).setCell (p := ⟨w.heap.size, 2, none⟩) (Nat.le_refl _) (.int .i64 v2)).setCell (p := ⟨w.heap.size, 3, none⟩) (Nat.le_refl _) (.int .i64 v3)).setCell (p := ⟨w.heap.size, 4, none⟩) (Nat.le_refl _) (.int .i64 v4)).setCell (p := ⟨w.heap.size, 5, none⟩) (Nat.le_refl _) (.int .i64 v5)).setCell (p := ⟨w.heap.size, 6, none⟩) (Nat.le_refl _) (.int .i64 v6)).setCell (p := ⟨w.heap.size, 7, none⟩) (Nat.le_refl _) (.int .i64 v7)).setCell (p := ⟨w.heap.size, 8, none⟩) (Nat.le_refl _) (.int .i64 v8)), (blk_far (blk_far (blk_far (blk_far (blk_far (blk_far (blk_far (blk_far (blk_far h.arr (p := ⟨w.heap.size, 0, none⟩) (by have := h.hba; show ba ≠ w.heap.size; omega) (.int .i64 v0)) (p := ⟨w.heap.size, 1, none⟩) (by have := h.hba; show ba ≠ w.heap.size; omega) (.int .i64 v1)) (p := ⟨w.heap.size, 2, none⟩) (by have := h.hba; show ba ≠ w.heap.size; omega) (.int .i64 v2)) (p := ⟨w.heap.size, 3, none⟩) (by have := h.hba; show ba ≠ w.heap.size; omega) (.int .i64 v3)) (p := ⟨w.heap.size, 4, none⟩) (by have := h.hba; show ba ≠ w.heap.size; omega) (.int .i64 v4)) (p := ⟨w.heap.size, 5, none⟩) (by have := h.hba; show ba ≠ w.heap.size; omega) (.int .i64 v5)) (p := ⟨w.heap.size, 6, none⟩) (by have := h.hba; show ba ≠ w.heap.size; omega) (.int .i64 v6)) (p := ⟨w.heap.size, 7, none⟩) (by have := h.hba; show ba ≠ w.heap.size; omega) (.int .i64 v7)) (p := ⟨w.heap.size, 8, none⟩) (by have := h.hba; show ba ≠ w.heap.size; omega) (.int .i64 v8))⟩
theorem FS.zfrozen {w W : World} {ba : Nat} {f : Nat → Value} (h : FS w W ba f) : W.frozen? ⟨w.heap.size, 0, none⟩ = false ∧ W.frozen? ⟨w.heap.size, 1, none⟩ = false ∧ W.frozen? ⟨w.heap.size, 2, none⟩ = false ∧ W.frozen? ⟨w.heap.size, 3, none⟩ = false ∧ W.frozen? ⟨w.heap.size, 4, none⟩ = false ∧ W.frozen? ⟨w.heap.size, 5, none⟩ = false ∧ W.frozen? ⟨w.heap.size, 6, none⟩ = false ∧ W.frozen? ⟨w.heap.size, 7, none⟩ = false ∧ W.frozen? ⟨w.heap.size, 8, none⟩ = false := ⟨blk_frozen h.zx 0, blk_frozen h.zx 1, blk_frozen h.zx 2, blk_frozen h.zx 3, blk_frozen h.zx 4, blk_frozen h.zx 5, blk_frozen h.zx 6, blk_frozen h.zx 7, blk_frozen h.zx 8⟩
theorem arr_cell {W : World} {ba : Nat} {f : Nat → Value} (h : W.heap[ba]? = some (.cells (arr45 f) 153 (0, 0))) (j : Nat) (hj : j < 45) : W.cell? ⟨ba, j, none⟩ = some (f j) := by
  rw [blk_cell h j]
  simp [arr45, hj]
theorem box_drew {W : World} {t b : Nat} {v0 v1 v2 v3 v4 v5 v6 v7 v8 : Int} (h : Box9 W t b v0 v1 v2 v3 v4 v5 v6 v7 v8) : Box9 W.drew t b v0 v1 v2 v3 v4 v5 v6 v7 v8 := h
set_option maxRecDepth 100000 in
set_option maxHeartbeats 4000000 in
theorem refMDec_calls (A0 : Option Addr) (c0 : Nat) (b : List Int) (w : World) (hr0 : Kd.C (Kd.int .u8) w A0 b.length b) (hc0 : b.length ≤ c0) (hl : b.length ≤ 140737488355328) (hb : Byt b) :
    Calls Try.prog 81 #[.slice A0 b.length c0] w fun e w' => e = .returned (.tuple #[.agg #[.int .i64 (msgDec b).1.f0, .int .i64 (msgDec b).1.f1, .int .i64 (msgDec b).1.f2, .int .i64 (msgDec b).1.f3, .int .i64 (msgDec b).1.f4, .int .i64 (msgDec b).1.f5, .int .i64 (msgDec b).1.f6, .int .i64 (msgDec b).1.f7, .int .i64 (msgDec b).1.f8], .int .i64 (msgDec b).2]) ∧ Below w.heap.size w w' := by
  have hu29 := Try.underlying29
  have HR0 := Aside0.mk hr0
  have HY0 := Aside0.mk hb
  have HC0 := Aside0.mk hc0
  have HL0 := Aside0.mk hl
  clear hr0 hb hc0 hl
  generalize hG : msgDec b = G
  unfold msgDec msgMid msgTail at hG
  rw [mfin_eq] at hG
  have HG := Aside0.mk hG
  clear hG
  have F0 : Aside0 (FS w ((w.alloc (.cells #[.int .i64 0, .int .i64 0, .int .i64 0, .int .i64 0, .int .i64 0, .int .i64 0, .int .i64 0, .int .i64 0, .int .i64 0] 29)).alloc (.cells #[.int .u64 0, .int .i64 0, .slice none 0 0, .int .i64 0, .int .i64 0, .int .u64 0, .int .i64 0, .slice none 0 0, .int .i64 0, .int .i64 0, .int .u64 0, .int .i64 0, .slice none 0 0, .int .i64 0, .int .i64 0, .int .u64 0, .int .i64 0, .slice none 0 0, .int .i64 0, .int .i64 0, .int .u64 0, .int .i64 0, .slice none 0 0, .int .i64 0, .int .i64 0, .int .u64 0, .int .i64 0, .slice none 0 0, .int .i64 0, .int .i64 0, .int .u64 0, .int .i64 0, .slice none 0 0, .int .i64 0, .int .i64 0, .int .u64 0, .int .i64 0, .slice none 0 0, .int .i64 0, .int .i64 0, .int .u64 0, .int .i64 0, .slice none 0 0, .int .i64 0, .int .i64 0] 153)) (w.heap.size + 1) zero5) := ⟨by
    refine ⟨?_, blk_alloc (blk_new w _) _, below_alloc (below_alloc (Below.refl _ _) _) _, by omega⟩
    have h := blk_new (w.alloc (.cells #[.int .i64 0, .int .i64 0, .int .i64 0, .int .i64 0, .int .i64 0, .int .i64 0, .int .i64 0, .int .i64 0, .int .i64 0] 29)) (.cells #[.int .u64 0, .int .i64 0, .slice none 0 0, .int .i64 0, .int .i64 0, .int .u64 0, .int .i64 0, .slice none 0 0, .int .i64 0, .int .i64 0, .int .u64 0, .int .i64 0, .slice none 0 0, .int .i64 0, .int .i64 0, .int .u64 0, .int .i64 0, .slice none 0 0, .int .i64 0, .int .i64 0, .int .u64 0, .int .i64 0, .slice none 0 0, .int .i64 0, .int .i64 0, .int .u64 0, .int .i64 0, .slice none 0 0, .int .i64 0, .int .i64 0, .int .u64 0, .int .i64 0, .slice none 0 0, .int .i64 0, .int .i64 0, .int .u64 0, .int .i64 0, .slice none 0 0, .int .i64 0, .int .i64 0, .int .u64 0, .int .i64 0, .slice none 0 0, .int .i64 0, .int .i64 0] 153)
    rw [World.size_alloc] at h
    exact h.trans (by rfl)⟩
  go_enter Try.func81, Try.ntmps81
  go_wp2
  refine wp_loop_rounds 10 ?_
  rw [rounds_succ]
  go_wp2_with fail
  generalize ((w.alloc (.cells #[.int .i64 0, .int .i64 0, .int .i64 0, .int .i64 0, .int .i64 0, .int .i64 0, .int .i64 0, .int .i64 0, .int .i64 0] 29)).alloc (.cells #[.int .u64 0, .int .i64 0, .slice none 0 0, .int .i64 0, .int .i64 0, .int .u64 0, .int .i64 0, .slice none 0 0, .int .i64 0, .int .i64 0, .int .u64 0, .int .i64 0, .slice none 0 0, .int .i64 0, .int .i64 0, .int .u64 0, .int .i64 0, .slice none 0 0, .int .i64 0, .int .i64 0, .int .u64 0, .int .i64 0, .slice none 0 0, .int .i64 0, .int .i64 0, .int .u64 0, .int .i64 0, .slice none 0 0, .int .i64 0, .int .i64 0, .int .u64 0, .int .i64 0, .slice none 0 0, .int .i64 0, .int .i64 0, .int .u64 0, .int .i64 0, .slice none 0 0, .int .i64 0, .int .i64 0, .int .u64 0, .int .i64 0, .slice none 0 0, .int .i64 0, .int .i64 0] 153)) = v0 at *
  generalize hba : w.heap.size + 1 = ba at *
  have HBA := Aside0.mk (show w.heap.size ≠ ba by omega)
  clear hba
  generalize zero5 = f0 at *
  generalize b = l0 at *
  have CX := Aside0.mk (RD.uint A0 c0 l0 1 v0 (Kd.C_below HR0.out F0.out.bel) HC0.out HY0.out)
  unfold RD at CX
  have RG := rd_uint l0 HY0.out
  have RN0 := Aside0.mk (rUint1_range (l0, 0) HY0.out)
  generalize rUint (l0, 0) 1 = P at *
  generalize rdUint l0 1 = T at *
  obtain ⟨n0, pl, pf⟩ := P
  obtain ⟨tn, sg, raw, z, q⟩ := T
  try dsimp only at *
  obtain ⟨hv, hq, hz0, hz1, hd⟩ := RG
  subst hq
  subst hv
  obtain ⟨z, rfl⟩ := Int.eq_ofNat_of_zero_le hz0
  have HZ := Aside0.mk (show z ≤ l0.length by omega)
  clear hz0 hz1
  rw [Int.toNat_natCast] at hd
  have HD := Aside0.mk hd
  clear hd
  refine CX.out.mono ?_
  rintro e u0 ⟨B, m, rfl, hqB, hBA, hb1⟩
  have G := Aside0.mk (F0.out.below hb1)
  clear hqB hBA hb1 CX
  obtain ⟨f1, hF, e0, e1, e3, e4, ee⟩ := G.out.store5 0 n0 sg (z : Int) pf (.slice B raw.length m)
  have F1 : Aside0 (FS w (((((u0.setCell ⟨ba, 0, none⟩ (.int .u64 n0)).setCell ⟨ba, 1, none⟩ (.int .i64 sg)).setCell ⟨ba, 2, none⟩ (.slice B raw.length m)).setCell ⟨ba, 3, none⟩ (.int .i64 (z : Int))).setCell ⟨ba, 4, none⟩ (.int .i64 pf)) ba f1) := ⟨hF⟩
  have E0 : Aside0 (f1 0 = .int .u64 n0) := ⟨e0⟩
  have EE0 := Aside0.mk ee
  have d3 := F1.out.cell 3 (by decide)
  have d4 := F1.out.cell 4 (by decide)
  rw [show f1 3 = .int .i64 (z : Int) from e3] at d3
  rw [show f1 4 = .int .i64 pf from e4] at d4
  have E4 : Aside0 (f1 4 = .int .i64 pf) := ⟨e4⟩
  clear hF e0 e1 e3 e4 ee
  have c0_ := G.out.cell 0 (by decide)
  have z0_ := G.out.frozen 0
  have c1_ := G.out.cell 1 (by decide)
  have z1_ := G.out.frozen 1
  have c2_ := G.out.cell 2 (by decide)
  have z2_ := G.out.frozen 2
  have c3_ := G.out.cell 3 (by decide)
  have z3_ := G.out.frozen 3
  have c4_ := G.out.cell 4 (by decide)
  have z4_ := G.out.frozen 4
  by_cases hf : pf = 0
  rotate_left
  · have hff : (pf != 0) = true := by simpa using hf
    try simp only [rUint_ff _ _ hf, rNum_ff _ _ hf] at HG
    unfold refMFin at HG
    rw [if_pos (show pf ≠ 0 from hf)] at HG
    clear hf
    obtain ⟨hres, hbel, harr⟩ := F1.out.res 0 0 0 0 0 0 0 0 0
    have HRES := Aside0.mk (box_drew hres)
    have HBEL := Aside0.mk hbel.drew
    have gx := arr_cell harr 4 (by decide)
    rw [E4.out] at gx
    have hzz := HBA.out
    obtain ⟨r0, r1, r2, r3, r4, r5, r6, r7, r8⟩ := F1.out.zx.cells
    obtain ⟨y0, y1, y2, y3, y4, y5, y6, y7, y8⟩ := F1.out.zfrozen
    clear hres hbel harr
    obtain rfl := HG.out
    go_wp2
    go_region
    go_wp2
    exact bodyPost_ret (results_ct (fn := Try.f81) (p := 2) (u := 3) (ty := 29) rfl _ _ w.heap.size 29 #[.int .i64 0, .int .i64 0, .int .i64 0, .int .i64 0, .int .i64 0, .int .i64 0, .int .i64 0, .int .i64 0, .int .i64 0] (0, 0) _ rfl HRES.out Try.underlying29 rfl (by kernel_rfl)) rfl ⟨rfl, HBEL.out⟩
  subst hf
  obtain ⟨A1, hcut, hA', hR'⟩ := cut_ A0 l0.length c0 z HZ.out
  rw [← List.length_drop] at hcut hR'
  have HR1 := Aside0.mk (hR' w l0 HC0.out HR0.out)
  have HY1 := Aside0.mk (HY0.out.drop z)
  have HC1 := Aside0.mk (show (l0.drop z).length ≤ c0 - z by have := HC0.out; rw [List.length_drop]; omega)
  have HL1 := Aside0.mk (show (l0.drop z).length ≤ 140737488355328 by have := HL0.out; rw [List.length_drop]; omega)
  rw [HD.out rfl] at HG
  clear hA' hR' HZ HD
  generalize l0.drop z = l1 at *
  generalize c0 - z = c1 at *
  go_wp2
  rw [rounds_succ]
  go_wp2_with fail
  generalize (((((u0.setCell ⟨ba, 0, none⟩ (.int .u64 n0)).setCell ⟨ba, 1, none⟩ (.int .i64 sg)).setCell ⟨ba, 2, none⟩ (.slice B raw.length m)).setCell ⟨ba, 3, none⟩ (.int .i64 (z : Int))).setCell ⟨ba, 4, none⟩ (.int .i64 0)) = v1 at *
  clear d3 d4 c0_ c1_ c2_ c3_ c4_ z0_ z1_ z2_ z3_ z4_ G E4 HR0 HC0 HY0 HL0
  have CX := Aside0.mk (RD.uint A1 c1 l1 1 v1 (Kd.C_below HR1.out F1.out.bel) HC1.out HY1.out)
  unfold RD at CX
  have RG := rd_uint l1 HY1.out
  have RN1 := Aside0.mk (rUint1_range (l1, 0) HY1.out)
  generalize rUint (l1, 0) 1 = P at *
  generalize rdUint l1 1 = T at *
  obtain ⟨n1, pl, pf⟩ := P
  obtain ⟨tn, sg, raw, z, q⟩ := T
  try dsimp only at *
  obtain ⟨hv, hq, hz0, hz1, hd⟩ := RG
  subst hq
  subst hv
  obtain ⟨z, rfl⟩ := Int.eq_ofNat_of_zero_le hz0
  have HZ := Aside0.mk (show z ≤ l1.length by omega)
  clear hz0 hz1
  rw [Int.toNat_natCast] at hd
  have HD := Aside0.mk hd
  clear hd
  refine CX.out.mono ?_
  rintro e u1 ⟨B, m, rfl, hqB, hBA, hb1⟩
  have G := Aside0.mk (F1.out.below hb1)
  clear hqB hBA hb1 CX
  obtain ⟨f2, hF, e0, e1, e3, e4, ee⟩ := G.out.store5 5 n1 sg (z : Int) pf (.slice B raw.length m)
  have F2 : Aside0 (FS w (((((u1.setCell ⟨ba, 5, none⟩ (.int .u64 n1)).setCell ⟨ba, 6, none⟩ (.int .i64 sg)).setCell ⟨ba, 7, none⟩ (.slice B raw.length m)).setCell ⟨ba, 8, none⟩ (.int .i64 (z : Int))).setCell ⟨ba, 9, none⟩ (.int .i64 pf)) ba f2) := ⟨hF⟩
  have E1 : Aside0 (f2 5 = .int .u64 n1) := ⟨e0⟩
  have EE1 := Aside0.mk ee
  have d3 := F2.out.cell 8 (by decide)
  have d4 := F2.out.cell 9 (by decide)
  rw [show f2 8 = .int .i64 (z : Int) from e3] at d3
  rw [show f2 9 = .int .i64 pf from e4] at d4
  have E4 : Aside0 (f2 9 = .int .i64 pf) := ⟨e4⟩
  clear hF e0 e1 e3 e4 ee
  have c0_ := G.out.cell 5 (by decide)
  have z0_ := G.out.frozen 5
  have c1_ := G.out.cell 6 (by decide)
  have z1_ := G.out.frozen 6
  have c2_ := G.out.cell 7 (by decide)
  have z2_ := G.out.frozen 7
  have c3_ := G.out.cell 8 (by decide)
  have z3_ := G.out.frozen 8
  have c4_ := G.out.cell 9 (by decide)
  have z4_ := G.out.frozen 9
  by_cases hf : pf = 0
  rotate_left
  · have hff : (pf != 0) = true := by simpa using hf
    try simp only [rUint_ff _ _ hf, rNum_ff _ _ hf] at HG
    unfold refMFin at HG
    rw [if_pos (show pf ≠ 0 from hf)] at HG
    clear hf
    obtain ⟨hres, hbel, harr⟩ := F2.out.res 0 0 0 0 0 0 0 0 0
    have HRES := Aside0.mk (box_drew hres)
    have HBEL := Aside0.mk hbel.drew
    have gx := arr_cell harr 9 (by decide)
    rw [E4.out] at gx
    have hzz := HBA.out
    obtain ⟨r0, r1, r2, r3, r4, r5, r6, r7, r8⟩ := F2.out.zx.cells
    obtain ⟨y0, y1, y2, y3, y4, y5, y6, y7, y8⟩ := F2.out.zfrozen
    clear hres hbel harr
    obtain rfl := HG.out
    go_wp2
    go_region
    go_wp2
    exact bodyPost_ret (results_ct (fn := Try.f81) (p := 2) (u := 3) (ty := 29) rfl _ _ w.heap.size 29 #[.int .i64 0, .int .i64 0, .int .i64 0, .int .i64 0, .int .i64 0, .int .i64 0, .int .i64 0, .int .i64 0, .int .i64 0] (0, 0) _ rfl HRES.out Try.underlying29 rfl (by kernel_rfl)) rfl ⟨rfl, HBEL.out⟩
  subst hf
  obtain ⟨A2, hcut, hA', hR'⟩ := cut_ A1 l1.length c1 z HZ.out
  rw [← List.length_drop] at hcut hR'
  have HR2 := Aside0.mk (hR' w l1 HC1.out HR1.out)
  have HY2 := Aside0.mk (HY1.out.drop z)
  have HC2 := Aside0.mk (show (l1.drop z).length ≤ c1 - z by have := HC1.out; rw [List.length_drop]; omega)
  have HL2 := Aside0.mk (show (l1.drop z).length ≤ 140737488355328 by have := HL1.out; rw [List.length_drop]; omega)
  rw [HD.out rfl] at HG
  clear hA' hR' HZ HD
  generalize l1.drop z = l2 at *
  generalize c1 - z = c2 at *
  go_wp2
  rw [rounds_succ]
  go_wp2_with fail
  generalize (((((u1.setCell ⟨ba, 5, none⟩ (.int .u64 n1)).setCell ⟨ba, 6, none⟩ (.int .i64 sg)).setCell ⟨ba, 7, none⟩ (.slice B raw.length m)).setCell ⟨ba, 8, none⟩ (.int .i64 (z : Int))).setCell ⟨ba, 9, none⟩ (.int .i64 0)) = v2 at *
  clear d3 d4 c0_ c1_ c2_ c3_ c4_ z0_ z1_ z2_ z3_ z4_ G E4 HR1 HC1 HY1 HL1
  have CX := Aside0.mk (RD.uint A2 c2 l2 1 v2 (Kd.C_below HR2.out F2.out.bel) HC2.out HY2.out)
  unfold RD at CX
  have RG := rd_uint l2 HY2.out
  have RN2 := Aside0.mk (rUint1_range (l2, 0) HY2.out)
  generalize rUint (l2, 0) 1 = P at *
  generalize rdUint l2 1 = T at *
  obtain ⟨n2, pl, pf⟩ := P
  obtain ⟨tn, sg, raw, z, q⟩ := T
  try dsimp only at *
  obtain ⟨hv, hq, hz0, hz1, hd⟩ := RG
  subst hq
  subst hv
  obtain ⟨z, rfl⟩ := Int.eq_ofNat_of_zero_le hz0
  have HZ := Aside0.mk (show z ≤ l2.length by omega)
  clear hz0 hz1
  rw [Int.toNat_natCast] at hd
  have HD := Aside0.mk hd
  clear hd
  refine CX.out.mono ?_
  rintro e u2 ⟨B, m, rfl, hqB, hBA, hb1⟩
  have G := Aside0.mk (F2.out.below hb1)
  clear hqB hBA hb1 CX
  obtain ⟨f3, hF, e0, e1, e3, e4, ee⟩ := G.out.store5 10 n2 sg (z : Int) pf (.slice B raw.length m)
  have F3 : Aside0 (FS w (((((u2.setCell ⟨ba, 10, none⟩ (.int .u64 n2)).setCell ⟨ba, 11, none⟩ (.int .i64 sg)).setCell ⟨ba, 12, none⟩ (.slice B raw.length m)).setCell ⟨ba, 13, none⟩ (.int .i64 (z : Int))).setCell ⟨ba, 14, none⟩ (.int .i64 pf)) ba f3) := ⟨hF⟩
  have E2 : Aside0 (f3 10 = .int .u64 n2) := ⟨e0⟩
  have EE2 := Aside0.mk ee
  have d3 := F3.out.cell 13 (by decide)
  have d4 := F3.out.cell 14 (by decide)
  rw [show f3 13 = .int .i64 (z : Int) from e3] at d3
  rw [show f3 14 = .int .i64 pf from e4] at d4
  have E4 : Aside0 (f3 14 = .int .i64 pf) := ⟨e4⟩
  clear hF e0 e1 e3 e4 ee
  have c0_ := G.out.cell 10 (by decide)
  have z0_ := G.out.frozen 10
  have c1_ := G.out.cell 11 (by decide)
  have z1_ := G.out.frozen 11
  have c2_ := G.out.cell 12 (by decide)
  have z2_ := G.out.frozen 12
  have c3_ := G.out.cell 13 (by decide)
  have z3_ := G.out.frozen 13
  have c4_ := G.out.cell 14 (by decide)
  have z4_ := G.out.frozen 14
  by_cases hf : pf = 0
  rotate_left
  · have hff : (pf != 0) = true := by simpa using hf
    try simp only [rUint_ff _ _ hf, rNum_ff _ _ hf] at HG
    unfold refMFin at HG
    rw [if_pos (show pf ≠ 0 from hf)] at HG
    clear hf
    obtain ⟨hres, hbel, harr⟩ := F3.out.res 0 0 0 0 0 0 0 0 0
    have HRES := Aside0.mk (box_drew hres)
    have HBEL := Aside0.mk hbel.drew
    have gx := arr_cell harr 14 (by decide)
    rw [E4.out] at gx
    have hzz := HBA.out
    obtain ⟨r0, r1, r2, r3, r4, r5, r6, r7, r8⟩ := F3.out.zx.cells
    obtain ⟨y0, y1, y2, y3, y4, y5, y6, y7, y8⟩ := F3.out.zfrozen
    clear hres hbel harr
    obtain rfl := HG.out
    go_wp2
    go_region
    go_wp2
    exact bodyPost_ret (results_ct (fn := Try.f81) (p := 2) (u := 3) (ty := 29) rfl _ _ w.heap.size 29 #[.int .i64 0, .int .i64 0, .int .i64 0, .int .i64 0, .int .i64 0, .int .i64 0, .int .i64 0, .int .i64 0, .int .i64 0] (0, 0) _ rfl HRES.out Try.underlying29 rfl (by kernel_rfl)) rfl ⟨rfl, HBEL.out⟩
  subst hf
  obtain ⟨A3, hcut, hA', hR'⟩ := cut_ A2 l2.length c2 z HZ.out
  rw [← List.length_drop] at hcut hR'
  have HR3 := Aside0.mk (hR' w l2 HC2.out HR2.out)
  have HY3 := Aside0.mk (HY2.out.drop z)
  have HC3 := Aside0.mk (show (l2.drop z).length ≤ c2 - z by have := HC2.out; rw [List.length_drop]; omega)
  have HL3 := Aside0.mk (show (l2.drop z).length ≤ 140737488355328 by have := HL2.out; rw [List.length_drop]; omega)
  rw [HD.out rfl] at HG
  clear hA' hR' HZ HD
  generalize l2.drop z = l3 at *
  generalize c2 - z = c3 at *
  go_wp2
  rw [rounds_succ]
  go_wp2_with fail
  generalize (((((u2.setCell ⟨ba, 10, none⟩ (.int .u64 n2)).setCell ⟨ba, 11, none⟩ (.int .i64 sg)).setCell ⟨ba, 12, none⟩ (.slice B raw.length m)).setCell ⟨ba, 13, none⟩ (.int .i64 (z : Int))).setCell ⟨ba, 14, none⟩ (.int .i64 0)) = v3 at *
  clear d3 d4 c0_ c1_ c2_ c3_ c4_ z0_ z1_ z2_ z3_ z4_ G E4 HR2 HC2 HY2 HL2
  have CX := Aside0.mk (RD.num A3 c3 l3 v3 (Kd.C_below HR3.out F3.out.bel) HC3.out HY3.out HL3.out)
  unfold RD at CX
  have RG := rd_num l3 HY3.out
  have RN3 := Aside0.mk (rNum_range (l3, 0) HY3.out)
  generalize rNum (l3, 0) = P at *
  generalize fin3 l3 (numGo 10 0 0 l3) = T at *
  obtain ⟨n3, pl, pf⟩ := P
  obtain ⟨tn, sg, raw, z, q⟩ := T
  try dsimp only at *
  obtain ⟨hv, hq, hz0, hz1, hd⟩ := RG
  subst hq
  subst hv
  obtain ⟨z, rfl⟩ := Int.eq_ofNat_of_zero_le hz0
  have HZ := Aside0.mk (show z ≤ l3.length by omega)
  clear hz0 hz1
  rw [Int.toNat_natCast] at hd
  have HD := Aside0.mk hd
  clear hd
  refine CX.out.mono ?_
  rintro e u3 ⟨B, m, rfl, hqB, hBA, hb1⟩
  have G := Aside0.mk (F3.out.below hb1)
  clear hqB hBA hb1 CX
  obtain ⟨f4, hF, e0, e1, e3, e4, ee⟩ := G.out.store5 15 n3 sg (z : Int) pf (.slice B raw.length m)
  have F4 : Aside0 (FS w (((((u3.setCell ⟨ba, 15, none⟩ (.int .u64 n3)).setCell ⟨ba, 16, none⟩ (.int .i64 sg)).setCell ⟨ba, 17, none⟩ (.slice B raw.length m)).setCell ⟨ba, 18, none⟩ (.int .i64 (z : Int))).setCell ⟨ba, 19, none⟩ (.int .i64 pf)) ba f4) := ⟨hF⟩
  have E3 : Aside0 (f4 15 = .int .u64 n3) := ⟨e0⟩
  have EE3 := Aside0.mk ee
  have d3 := F4.out.cell 18 (by decide)
  have d4 := F4.out.cell 19 (by decide)
  rw [show f4 18 = .int .i64 (z : Int) from e3] at d3
  rw [show f4 19 = .int .i64 pf from e4] at d4
  have E4 : Aside0 (f4 19 = .int .i64 pf) := ⟨e4⟩
  clear hF e0 e1 e3 e4 ee
  have c0_ := G.out.cell 15 (by decide)
  have z0_ := G.out.frozen 15
  have c1_ := G.out.cell 16 (by decide)
  have z1_ := G.out.frozen 16
  have c2_ := G.out.cell 17 (by decide)
  have z2_ := G.out.frozen 17
  have c3_ := G.out.cell 18 (by decide)
  have z3_ := G.out.frozen 18
  have c4_ := G.out.cell 19 (by decide)
  have z4_ := G.out.frozen 19
  by_cases hf : pf = 0
  rotate_left
  · have hff : (pf != 0) = true := by simpa using hf
    try simp only [rUint_ff _ _ hf, rNum_ff _ _ hf] at HG
    unfold refMFin at HG
    rw [if_pos (show pf ≠ 0 from hf)] at HG
    clear hf
    obtain ⟨hres, hbel, harr⟩ := F4.out.res 0 0 0 0 0 0 0 0 0
    have HRES := Aside0.mk (box_drew hres)
    have HBEL := Aside0.mk hbel.drew
    have gx := arr_cell harr 19 (by decide)
    rw [E4.out] at gx
    have hzz := HBA.out
    obtain ⟨r0, r1, r2, r3, r4, r5, r6, r7, r8⟩ := F4.out.zx.cells
    obtain ⟨y0, y1, y2, y3, y4, y5, y6, y7, y8⟩ := F4.out.zfrozen
    clear hres hbel harr
    obtain rfl := HG.out
    go_wp2
    go_region
    go_wp2
    exact bodyPost_ret (results_ct (fn := Try.f81) (p := 2) (u := 3) (ty := 29) rfl _ _ w.heap.size 29 #[.int .i64 0, .int .i64 0, .int .i64 0, .int .i64 0, .int .i64 0, .int .i64 0, .int .i64 0, .int .i64 0, .int .i64 0] (0, 0) _ rfl HRES.out Try.underlying29 rfl (by kernel_rfl)) rfl ⟨rfl, HBEL.out⟩
  subst hf
  obtain ⟨A4, hcut, hA', hR'⟩ := cut_ A3 l3.length c3 z HZ.out
  rw [← List.length_drop] at hcut hR'
  have HR4 := Aside0.mk (hR' w l3 HC3.out HR3.out)
  have HY4 := Aside0.mk (HY3.out.drop z)
  have HC4 := Aside0.mk (show (l3.drop z).length ≤ c3 - z by have := HC3.out; rw [List.length_drop]; omega)
  have HL4 := Aside0.mk (show (l3.drop z).length ≤ 140737488355328 by have := HL3.out; rw [List.length_drop]; omega)
  rw [HD.out rfl] at HG
  clear hA' hR' HZ HD
  generalize l3.drop z = l4 at *
  generalize c3 - z = c4 at *
  go_wp2
  rw [rounds_succ]
  go_wp2_with fail
  generalize (((((u3.setCell ⟨ba, 15, none⟩ (.int .u64 n3)).setCell ⟨ba, 16, none⟩ (.int .i64 sg)).setCell ⟨ba, 17, none⟩ (.slice B raw.length m)).setCell ⟨ba, 18, none⟩ (.int .i64 (z : Int))).setCell ⟨ba, 19, none⟩ (.int .i64 0)) = v4 at *
  clear d3 d4 c0_ c1_ c2_ c3_ c4_ z0_ z1_ z2_ z3_ z4_ G E4 HR3 HC3 HY3 HL3
  have CX := Aside0.mk (RD.num A4 c4 l4 v4 (Kd.C_below HR4.out F4.out.bel) HC4.out HY4.out HL4.out)
  unfold RD at CX
  have RG := rd_num l4 HY4.out
  have RN4 := Aside0.mk (rNum_range (l4, 0) HY4.out)
  generalize rNum (l4, 0) = P at *
  generalize fin3 l4 (numGo 10 0 0 l4) = T at *
  obtain ⟨n4, pl, pf⟩ := P
  obtain ⟨tn, sg, raw, z, q⟩ := T
  try dsimp only at *
  obtain ⟨hv, hq, hz0, hz1, hd⟩ := RG
  subst hq
  subst hv
  obtain ⟨z, rfl⟩ := Int.eq_ofNat_of_zero_le hz0
  have HZ := Aside0.mk (show z ≤ l4.length by omega)
  clear hz0 hz1
  rw [Int.toNat_natCast] at hd
  have HD := Aside0.mk hd
  clear hd
  refine CX.out.mono ?_
  rintro e u4 ⟨B, m, rfl, hqB, hBA, hb1⟩
  have G := Aside0.mk (F4.out.below hb1)
  clear hqB hBA hb1 CX
  obtain ⟨f5, hF, e0, e1, e3, e4, ee⟩ := G.out.store5 20 n4 sg (z : Int) pf (.slice B raw.length m)
  have F5 : Aside0 (FS w (((((u4.setCell ⟨ba, 20, none⟩ (.int .u64 n4)).setCell ⟨ba, 21, none⟩ (.int .i64 sg)).setCell ⟨ba, 22, none⟩ (.slice B raw.length m)).setCell ⟨ba, 23, none⟩ (.int .i64 (z : Int))).setCell ⟨ba, 24, none⟩ (.int .i64 pf)) ba f5) := ⟨hF⟩
  have E4 : Aside0 (f5 20 = .int .u64 n4) := ⟨e0⟩
  have EE4 := Aside0.mk ee
  have d3 := F5.out.cell 23 (by decide)
  have d4 := F5.out.cell 24 (by decide)
  rw [show f5 23 = .int .i64 (z : Int) from e3] at d3
  rw [show f5 24 = .int .i64 pf from e4] at d4
  have E4 : Aside0 (f5 24 = .int .i64 pf) := ⟨e4⟩
  clear hF e0 e1 e3 e4 ee
  have c0_ := G.out.cell 20 (by decide)
  have z0_ := G.out.frozen 20
  have c1_ := G.out.cell 21 (by decide)
  have z1_ := G.out.frozen 21
  have c2_ := G.out.cell 22 (by decide)
  have z2_ := G.out.frozen 22
  have c3_ := G.out.cell 23 (by decide)
  have z3_ := G.out.frozen 23
  have c4_ := G.out.cell 24 (by decide)
  have z4_ := G.out.frozen 24
  by_cases hf : pf = 0
  rotate_left
  · have hff : (pf != 0) = true := by simpa using hf
    try simp only [rUint_ff _ _ hf, rNum_ff _ _ hf] at HG
    unfold refMFin at HG
    rw [if_pos (show pf ≠ 0 from hf)] at HG
    clear hf
    obtain ⟨hres, hbel, harr⟩ := F5.out.res 0 0 0 0 0 0 0 0 0
    have HRES := Aside0.mk (box_drew hres)
    have HBEL := Aside0.mk hbel.drew
    have gx := arr_cell harr 24 (by decide)
    rw [E4.out] at gx
    have hzz := HBA.out
    obtain ⟨r0, r1, r2, r3, r4, r5, r6, r7, r8⟩ := F5.out.zx.cells
    obtain ⟨y0, y1, y2, y3, y4, y5, y6, y7, y8⟩ := F5.out.zfrozen
    clear hres hbel harr
    obtain rfl := HG.out
    go_wp2
    go_region
    go_wp2
    exact bodyPost_ret (results_ct (fn := Try.f81) (p := 2) (u := 3) (ty := 29) rfl _ _ w.heap.size 29 #[.int .i64 0, .int .i64 0, .int .i64 0, .int .i64 0, .int .i64 0, .int .i64 0, .int .i64 0, .int .i64 0, .int .i64 0] (0, 0) _ rfl HRES.out Try.underlying29 rfl (by kernel_rfl)) rfl ⟨rfl, HBEL.out⟩
  subst hf
  obtain ⟨A5, hcut, hA', hR'⟩ := cut_ A4 l4.length c4 z HZ.out
  rw [← List.length_drop] at hcut hR'
  have HR5 := Aside0.mk (hR' w l4 HC4.out HR4.out)
  have HY5 := Aside0.mk (HY4.out.drop z)
  have HC5 := Aside0.mk (show (l4.drop z).length ≤ c4 - z by have := HC4.out; rw [List.length_drop]; omega)
  have HL5 := Aside0.mk (show (l4.drop z).length ≤ 140737488355328 by have := HL4.out; rw [List.length_drop]; omega)
  rw [HD.out rfl] at HG
  clear hA' hR' HZ HD
  generalize l4.drop z = l5 at *
  generalize c4 - z = c5 at *
  go_wp2
  rw [rounds_succ]
  go_wp2_with fail
  generalize (((((u4.setCell ⟨ba, 20, none⟩ (.int .u64 n4)).setCell ⟨ba, 21, none⟩ (.int .i64 sg)).setCell ⟨ba, 22, none⟩ (.slice B raw.length m)).setCell ⟨ba, 23, none⟩ (.int .i64 (z : Int))).setCell ⟨ba, 24, none⟩ (.int .i64 0)) = v5 at *
  clear d3 d4 c0_ c1_ c2_ c3_ c4_ z0_ z1_ z2_ z3_ z4_ G E4 HR4 HC4 HY4 HL4
  have CX := Aside0.mk (RD.int A5 c5 l5 v5 (Kd.C_below HR5.out F5.out.bel) HC5.out HY5.out)
  unfold RD at CX
  have RG := rd_int l5 HY5.out
  have RN5 := Aside0.mk (rUint_range (l5, 0) 8 HY5.out)
  generalize rUint (l5, 0) 8 = P at *
  generalize rdInt l5 = T at *
  obtain ⟨n5, pl, pf⟩ := P
  obtain ⟨tn, sg, raw, z, q⟩ := T
  try dsimp only at *
  obtain ⟨hv, hq, hz0, hz1, hd⟩ := RG
  subst hq
  generalize unzig n5 = g5 at *
  subst hv
  obtain ⟨z, rfl⟩ := Int.eq_ofNat_of_zero_le hz0
  have HZ := Aside0.mk (show z ≤ l5.length by omega)
  clear hz0 hz1
  rw [Int.toNat_natCast] at hd
  have HD := Aside0.mk hd
  clear hd
  refine CX.out.mono ?_
  rintro e u5 ⟨B, m, rfl, hqB, hBA, hb1⟩
  have G := Aside0.mk (F5.out.below hb1)
  clear hqB hBA hb1 CX
  obtain ⟨f6, hF, e0, e1, e3, e4, ee⟩ := G.out.store5 25 tn g5 (z : Int) pf (.slice B raw.length m)
  have F6 : Aside0 (FS w (((((u5.setCell ⟨ba, 25, none⟩ (.int .u64 tn)).setCell ⟨ba, 26, none⟩ (.int .i64 g5)).setCell ⟨ba, 27, none⟩ (.slice B raw.length m)).setCell ⟨ba, 28, none⟩ (.int .i64 (z : Int))).setCell ⟨ba, 29, none⟩ (.int .i64 pf)) ba f6) := ⟨hF⟩
  have E5 : Aside0 (f6 26 = .int .i64 g5) := ⟨e1⟩
  have EE5 := Aside0.mk ee
  have d3 := F6.out.cell 28 (by decide)
  have d4 := F6.out.cell 29 (by decide)
  rw [show f6 28 = .int .i64 (z : Int) from e3] at d3
  rw [show f6 29 = .int .i64 pf from e4] at d4
  have E4 : Aside0 (f6 29 = .int .i64 pf) := ⟨e4⟩
  clear hF e0 e1 e3 e4 ee
  have c0_ := G.out.cell 25 (by decide)
  have z0_ := G.out.frozen 25
  have c1_ := G.out.cell 26 (by decide)
  have z1_ := G.out.frozen 26
  have c2_ := G.out.cell 27 (by decide)
  have z2_ := G.out.frozen 27
  have c3_ := G.out.cell 28 (by decide)
  have z3_ := G.out.frozen 28
  have c4_ := G.out.cell 29 (by decide)
  have z4_ := G.out.frozen 29
  by_cases hf : pf = 0
  rotate_left
  · have hff : (pf != 0) = true := by simpa using hf
    try simp only [rUint_ff _ _ hf, rNum_ff _ _ hf] at HG
    unfold refMFin at HG
    rw [if_pos (show pf ≠ 0 from hf)] at HG
    clear hf
    obtain ⟨hres, hbel, harr⟩ := F6.out.res 0 0 0 0 0 0 0 0 0
    have HRES := Aside0.mk (box_drew hres)
    have HBEL := Aside0.mk hbel.drew
    have gx := arr_cell harr 29 (by decide)
    rw [E4.out] at gx
    have hzz := HBA.out
    obtain ⟨r0, r1, r2, r3, r4, r5, r6, r7, r8⟩ := F6.out.zx.cells
    obtain ⟨y0, y1, y2, y3, y4, y5, y6, y7, y8⟩ := F6.out.zfrozen
    clear hres hbel harr
    obtain rfl := HG.out
    go_wp2
    go_region
    go_wp2
    exact bodyPost_ret (results_ct (fn := Try.f81) (p := 2) (u := 3) (ty := 29) rfl _ _ w.heap.size 29 #[.int .i64 0, .int .i64 0, .int .i64 0, .int .i64 0, .int .i64 0, .int .i64 0, .int .i64 0, .int .i64 0, .int .i64 0] (0, 0) _ rfl HRES.out Try.underlying29 rfl (by kernel_rfl)) rfl ⟨rfl, HBEL.out⟩
  subst hf
  obtain ⟨A6, hcut, hA', hR'⟩ := cut_ A5 l5.length c5 z HZ.out
  rw [← List.length_drop] at hcut hR'
  have HR6 := Aside0.mk (hR' w l5 HC5.out HR5.out)
  have HY6 := Aside0.mk (HY5.out.drop z)
  have HC6 := Aside0.mk (show (l5.drop z).length ≤ c5 - z by have := HC5.out; rw [List.length_drop]; omega)
  have HL6 := Aside0.mk (show (l5.drop z).length ≤ 140737488355328 by have := HL5.out; rw [List.length_drop]; omega)
  rw [HD.out rfl] at HG
  clear hA' hR' HZ HD
  generalize l5.drop z = l6 at *
  generalize c5 - z = c6 at *
  go_wp2
  rw [rounds_succ]
  go_wp2_with fail
  generalize (((((u5.setCell ⟨ba, 25, none⟩ (.int .u64 tn)).setCell ⟨ba, 26, none⟩ (.int .i64 g5)).setCell ⟨ba, 27, none⟩ (.slice B raw.length m)).setCell ⟨ba, 28, none⟩ (.int .i64 (z : Int))).setCell ⟨ba, 29, none⟩ (.int .i64 0)) = v6 at *
  clear d3 d4 c0_ c1_ c2_ c3_ c4_ z0_ z1_ z2_ z3_ z4_ G E4 HR5 HC5 HY5 HL5
  have CX := Aside0.mk (RD.int A6 c6 l6 v6 (Kd.C_below HR6.out F6.out.bel) HC6.out HY6.out)
  unfold RD at CX
  have RG := rd_int l6 HY6.out
  have RN6 := Aside0.mk (rUint_range (l6, 0) 8 HY6.out)
  generalize rUint (l6, 0) 8 = P at *
  generalize rdInt l6 = T at *
  obtain ⟨n6, pl, pf⟩ := P
  obtain ⟨tn, sg, raw, z, q⟩ := T
  try dsimp only at *
  obtain ⟨hv, hq, hz0, hz1, hd⟩ := RG
  subst hq
  generalize unzig n6 = g6 at *
  subst hv
  obtain ⟨z, rfl⟩ := Int.eq_ofNat_of_zero_le hz0
  have HZ := Aside0.mk (show z ≤ l6.length by omega)
  clear hz0 hz1
  rw [Int.toNat_natCast] at hd
  have HD := Aside0.mk hd
  clear hd
  refine CX.out.mono ?_
  rintro e u6 ⟨B, m, rfl, hqB, hBA, hb1⟩
  have G := Aside0.mk (F6.out.below hb1)
  clear hqB hBA hb1 CX
  obtain ⟨f7, hF, e0, e1, e3, e4, ee⟩ := G.out.store5 30 tn g6 (z : Int) pf (.slice B raw.length m)
  have F7 : Aside0 (FS w (((((u6.setCell ⟨ba, 30, none⟩ (.int .u64 tn)).setCell ⟨ba, 31, none⟩ (.int .i64 g6)).setCell ⟨ba, 32, none⟩ (.slice B raw.length m)).setCell ⟨ba, 33, none⟩ (.int .i64 (z : Int))).setCell ⟨ba, 34, none⟩ (.int .i64 pf)) ba f7) := ⟨hF⟩
  have E6 : Aside0 (f7 31 = .int .i64 g6) := ⟨e1⟩
  have EE6 := Aside0.mk ee
  have d3 := F7.out.cell 33 (by decide)
  have d4 := F7.out.cell 34 (by decide)
  rw [show f7 33 = .int .i64 (z : Int) from e3] at d3
  rw [show f7 34 = .int .i64 pf from e4] at d4
  have E4 : Aside0 (f7 34 = .int .i64 pf) := ⟨e4⟩
  clear hF e0 e1 e3 e4 ee
  have c0_ := G.out.cell 30 (by decide)
  have z0_ := G.out.frozen 30
  have c1_ := G.out.cell 31 (by decide)
  have z1_ := G.out.frozen 31
  have c2_ := G.out.cell 32 (by decide)
  have z2_ := G.out.frozen 32
  have c3_ := G.out.cell 33 (by decide)
  have z3_ := G.out.frozen 33
  have c4_ := G.out.cell 34 (by decide)
  have z4_ := G.out.frozen 34
  by_cases hf : pf = 0
  rotate_left
  · have hff : (pf != 0) = true := by simpa using hf
    try simp only [rUint_ff _ _ hf, rNum_ff _ _ hf] at HG
    unfold refMFin at HG
    rw [if_pos (show pf ≠ 0 from hf)] at HG
    clear hf
    obtain ⟨hres, hbel, harr⟩ := F7.out.res 0 0 0 0 0 0 0 0 0
    have HRES := Aside0.mk (box_drew hres)
    have HBEL := Aside0.mk hbel.drew
    have gx := arr_cell harr 34 (by decide)
    rw [E4.out] at gx
    have hzz := HBA.out
    obtain ⟨r0, r1, r2, r3, r4, r5, r6, r7, r8⟩ := F7.out.zx.cells
    obtain ⟨y0, y1, y2, y3, y4, y5, y6, y7, y8⟩ := F7.out.zfrozen
    clear hres hbel harr
    obtain rfl := HG.out
    go_wp2
    go_region
    go_wp2
    exact bodyPost_ret (results_ct (fn := Try.f81) (p := 2) (u := 3) (ty := 29) rfl _ _ w.heap.size 29 #[.int .i64 0, .int .i64 0, .int .i64 0, .int .i64 0, .int .i64 0, .int .i64 0, .int .i64 0, .int .i64 0, .int .i64 0] (0, 0) _ rfl HRES.out Try.underlying29 rfl (by kernel_rfl)) rfl ⟨rfl, HBEL.out⟩
  subst hf
  obtain ⟨A7, hcut, hA', hR'⟩ := cut_ A6 l6.length c6 z HZ.out
  rw [← List.length_drop] at hcut hR'
  have HR7 := Aside0.mk (hR' w l6 HC6.out HR6.out)
  have HY7 := Aside0.mk (HY6.out.drop z)
  have HC7 := Aside0.mk (show (l6.drop z).length ≤ c6 - z by have := HC6.out; rw [List.length_drop]; omega)
  have HL7 := Aside0.mk (show (l6.drop z).length ≤ 140737488355328 by have := HL6.out; rw [List.length_drop]; omega)
  rw [HD.out rfl] at HG
  clear hA' hR' HZ HD
  generalize l6.drop z = l7 at *
  generalize c6 - z = c7 at *
  go_wp2
  rw [rounds_succ]
  go_wp2_with fail
  generalize (((((u6.setCell ⟨ba, 30, none⟩ (.int .u64 tn)).setCell ⟨ba, 31, none⟩ (.int .i64 g6)).setCell ⟨ba, 32, none⟩ (.slice B raw.length m)).setCell ⟨ba, 33, none⟩ (.int .i64 (z : Int))).setCell ⟨ba, 34, none⟩ (.int .i64 0)) = v7 at *
  clear d3 d4 c0_ c1_ c2_ c3_ c4_ z0_ z1_ z2_ z3_ z4_ G E4 HR6 HC6 HY6 HL6
  have CX := Aside0.mk (RD.int A7 c7 l7 v7 (Kd.C_below HR7.out F7.out.bel) HC7.out HY7.out)
  unfold RD at CX
  have RG := rd_int l7 HY7.out
  have RN7 := Aside0.mk (rUint_range (l7, 0) 8 HY7.out)
  generalize rUint (l7, 0) 8 = P at *
  generalize rdInt l7 = T at *
  obtain ⟨n7, pl, pf⟩ := P
  obtain ⟨tn, sg, raw, z, q⟩ := T
  try dsimp only at *
  obtain ⟨hv, hq, hz0, hz1, hd⟩ := RG
  subst hq
  generalize unzig n7 = g7 at *
  subst hv
  obtain ⟨z, rfl⟩ := Int.eq_ofNat_of_zero_le hz0
  have HZ := Aside0.mk (show z ≤ l7.length by omega)
  clear hz0 hz1
  rw [Int.toNat_natCast] at hd
  have HD := Aside0.mk hd
  clear hd
  refine CX.out.mono ?_
  rintro e u7 ⟨B, m, rfl, hqB, hBA, hb1⟩
  have G := Aside0.mk (F7.out.below hb1)
  clear hqB hBA hb1 CX
  obtain ⟨f8, hF, e0, e1, e3, e4, ee⟩ := G.out.store5 35 tn g7 (z : Int) pf (.slice B raw.length m)
  have F8 : Aside0 (FS w (((((u7.setCell ⟨ba, 35, none⟩ (.int .u64 tn)).setCell ⟨ba, 36, none⟩ (.int .i64 g7)).setCell ⟨ba, 37, none⟩ (.slice B raw.length m)).setCell ⟨ba, 38, none⟩ (.int .i64 (z : Int))).setCell ⟨ba, 39, none⟩ (.int .i64 pf)) ba f8) := ⟨hF⟩
  have E7 : Aside0 (f8 36 = .int .i64 g7) := ⟨e1⟩
  have EE7 := Aside0.mk ee
  have d3 := F8.out.cell 38 (by decide)
  have d4 := F8.out.cell 39 (by decide)
  rw [show f8 38 = .int .i64 (z : Int) from e3] at d3
  rw [show f8 39 = .int .i64 pf from e4] at d4
  have E4 : Aside0 (f8 39 = .int .i64 pf) := ⟨e4⟩
  clear hF e0 e1 e3 e4 ee
  have c0_ := G.out.cell 35 (by decide)
  have z0_ := G.out.frozen 35
  have c1_ := G.out.cell 36 (by decide)
  have z1_ := G.out.frozen 36
  have c2_ := G.out.cell 37 (by decide)
  have z2_ := G.out.frozen 37
  have c3_ := G.out.cell 38 (by decide)
  have z3_ := G.out.frozen 38
  have c4_ := G.out.cell 39 (by decide)
  have z4_ := G.out.frozen 39
  by_cases hf : pf = 0
  rotate_left
  · have hff : (pf != 0) = true := by simpa using hf
    try simp only [rUint_ff _ _ hf, rNum_ff _ _ hf] at HG
    unfold refMFin at HG
    rw [if_pos (show pf ≠ 0 from hf)] at HG
    clear hf
    obtain ⟨hres, hbel, harr⟩ := F8.out.res 0 0 0 0 0 0 0 0 0
    have HRES := Aside0.mk (box_drew hres)
    have HBEL := Aside0.mk hbel.drew
    have gx := arr_cell harr 39 (by decide)
    rw [E4.out] at gx
    have hzz := HBA.out
    obtain ⟨r0, r1, r2, r3, r4, r5, r6, r7, r8⟩ := F8.out.zx.cells
    obtain ⟨y0, y1, y2, y3, y4, y5, y6, y7, y8⟩ := F8.out.zfrozen
    clear hres hbel harr
    obtain rfl := HG.out
    go_wp2
    go_region
    go_wp2
    exact bodyPost_ret (results_ct (fn := Try.f81) (p := 2) (u := 3) (ty := 29) rfl _ _ w.heap.size 29 #[.int .i64 0, .int .i64 0, .int .i64 0, .int .i64 0, .int .i64 0, .int .i64 0, .int .i64 0, .int .i64 0, .int .i64 0] (0, 0) _ rfl HRES.out Try.underlying29 rfl (by kernel_rfl)) rfl ⟨rfl, HBEL.out⟩
  subst hf
  obtain ⟨A8, hcut, hA', hR'⟩ := cut_ A7 l7.length c7 z HZ.out
  rw [← List.length_drop] at hcut hR'
  have HR8 := Aside0.mk (hR' w l7 HC7.out HR7.out)
  have HY8 := Aside0.mk (HY7.out.drop z)
  have HC8 := Aside0.mk (show (l7.drop z).length ≤ c7 - z by have := HC7.out; rw [List.length_drop]; omega)
  have HL8 := Aside0.mk (show (l7.drop z).length ≤ 140737488355328 by have := HL7.out; rw [List.length_drop]; omega)
  rw [HD.out rfl] at HG
  clear hA' hR' HZ HD
  generalize l7.drop z = l8 at *
  generalize c7 - z = c8 at *
  go_wp2
  rw [rounds_succ]
  go_wp2_with fail
  generalize (((((u7.setCell ⟨ba, 35, none⟩ (.int .u64 tn)).setCell ⟨ba, 36, none⟩ (.int .i64 g7)).setCell ⟨ba, 37, none⟩ (.slice B raw.length m)).setCell ⟨ba, 38, none⟩ (.int .i64 (z : Int))).setCell ⟨ba, 39, none⟩ (.int .i64 0)) = v8 at *
  clear d3 d4 c0_ c1_ c2_ c3_ c4_ z0_ z1_ z2_ z3_ z4_ G E4 HR7 HC7 HY7 HL7
  have CX := Aside0.mk (RD.int A8 c8 l8 v8 (Kd.C_below HR8.out F8.out.bel) HC8.out HY8.out)
  unfold RD at CX
  have RG := rd_int l8 HY8.out
  have RN8 := Aside0.mk (rUint_range (l8, 0) 8 HY8.out)
  generalize rUint (l8, 0) 8 = P at *
  generalize rdInt l8 = T at *
  obtain ⟨n8, pl, pf⟩ := P
  obtain ⟨tn, sg, raw, z, q⟩ := T
  try dsimp only at *
  obtain ⟨hv, hq, hz0, hz1, hd⟩ := RG
  subst hq
  generalize unzig n8 = g8 at *
  subst hv
  obtain ⟨z, rfl⟩ := Int.eq_ofNat_of_zero_le hz0
  have HZ := Aside0.mk (show z ≤ l8.length by omega)
  clear hz0 hz1
  rw [Int.toNat_natCast] at hd
  have HD := Aside0.mk hd
  clear hd
  refine CX.out.mono ?_
  rintro e u8 ⟨B, m, rfl, hqB, hBA, hb1⟩
  have G := Aside0.mk (F8.out.below hb1)
  clear hqB hBA hb1 CX
  obtain ⟨f9, hF, e0, e1, e3, e4, ee⟩ := G.out.store5 40 tn g8 (z : Int) pf (.slice B raw.length m)
  have F9 : Aside0 (FS w (((((u8.setCell ⟨ba, 40, none⟩ (.int .u64 tn)).setCell ⟨ba, 41, none⟩ (.int .i64 g8)).setCell ⟨ba, 42, none⟩ (.slice B raw.length m)).setCell ⟨ba, 43, none⟩ (.int .i64 (z : Int))).setCell ⟨ba, 44, none⟩ (.int .i64 pf)) ba f9) := ⟨hF⟩
  have E8 : Aside0 (f9 41 = .int .i64 g8) := ⟨e1⟩
  have EE8 := Aside0.mk ee
  have d3 := F9.out.cell 43 (by decide)
  have d4 := F9.out.cell 44 (by decide)
  rw [show f9 43 = .int .i64 (z : Int) from e3] at d3
  rw [show f9 44 = .int .i64 pf from e4] at d4
  have E4 : Aside0 (f9 44 = .int .i64 pf) := ⟨e4⟩
  clear hF e0 e1 e3 e4 ee
  have c0_ := G.out.cell 40 (by decide)
  have z0_ := G.out.frozen 40
  have c1_ := G.out.cell 41 (by decide)
  have z1_ := G.out.frozen 41
  have c2_ := G.out.cell 42 (by decide)
  have z2_ := G.out.frozen 42
  have c3_ := G.out.cell 43 (by decide)
  have z3_ := G.out.frozen 43
  have c4_ := G.out.cell 44 (by decide)
  have z4_ := G.out.frozen 44
  by_cases hf : pf = 0
  rotate_left
  · have hff : (pf != 0) = true := by simpa using hf
    try simp only [rUint_ff _ _ hf, rNum_ff _ _ hf] at HG
    unfold refMFin at HG
    rw [if_pos (show pf ≠ 0 from hf)] at HG
    clear hf
    obtain ⟨hres, hbel, harr⟩ := F9.out.res 0 0 0 0 0 0 0 0 0
    have HRES := Aside0.mk (box_drew hres)
    have HBEL := Aside0.mk hbel.drew
    have gx := arr_cell harr 44 (by decide)
    rw [E4.out] at gx
    have hzz := HBA.out
    obtain ⟨r0, r1, r2, r3, r4, r5, r6, r7, r8⟩ := F9.out.zx.cells
    obtain ⟨y0, y1, y2, y3, y4, y5, y6, y7, y8⟩ := F9.out.zfrozen
    clear hres hbel harr
    obtain rfl := HG.out
    go_wp2
    go_region
    go_wp2
    exact bodyPost_ret (results_ct (fn := Try.f81) (p := 2) (u := 3) (ty := 29) rfl _ _ w.heap.size 29 #[.int .i64 0, .int .i64 0, .int .i64 0, .int .i64 0, .int .i64 0, .int .i64 0, .int .i64 0, .int .i64 0, .int .i64 0] (0, 0) _ rfl HRES.out Try.underlying29 rfl (by kernel_rfl)) rfl ⟨rfl, HBEL.out⟩
  subst hf
  obtain ⟨A9, hcut, hA', hR'⟩ := cut_ A8 l8.length c8 z HZ.out
  rw [← List.length_drop] at hcut hR'
  have HR9 := Aside0.mk (hR' w l8 HC8.out HR8.out)
  have HY9 := Aside0.mk (HY8.out.drop z)
  have HC9 := Aside0.mk (show (l8.drop z).length ≤ c8 - z by have := HC8.out; rw [List.length_drop]; omega)
  have HL9 := Aside0.mk (show (l8.drop z).length ≤ 140737488355328 by have := HL8.out; rw [List.length_drop]; omega)
  rw [HD.out rfl] at HG
  clear hA' hR' HZ HD
  generalize l8.drop z = l9 at *
  generalize c8 - z = c9 at *
  go_wp2
  rw [rounds_succ]
  generalize (((((u8.setCell ⟨ba, 40, none⟩ (.int .u64 tn)).setCell ⟨ba, 41, none⟩ (.int .i64 g8)).setCell ⟨ba, 42, none⟩ (.slice B raw.length m)).setCell ⟨ba, 43, none⟩ (.int .i64 (z : Int))).setCell ⟨ba, 44, none⟩ (.int .i64 0)) = v9 at *
  clear d3 d4 c0_ c1_ c2_ c3_ c4_ z0_ z1_ z2_ z3_ z4_ G E4 HR8 HC8 HY8 HL8
  have x0 := F9.out.cell 0 (by decide)
  rw [((EE8.out 0 (by omega)).trans ((EE7.out 0 (by omega)).trans ((EE6.out 0 (by omega)).trans ((EE5.out 0 (by omega)).trans ((EE4.out 0 (by omega)).trans ((EE3.out 0 (by omega)).trans ((EE2.out 0 (by omega)).trans ((EE1.out 0 (by omega)).trans E0.out))))))))] at x0
  have x1 := F9.out.cell 5 (by decide)
  rw [((EE8.out 5 (by omega)).trans ((EE7.out 5 (by omega)).trans ((EE6.out 5 (by omega)).trans ((EE5.out 5 (by omega)).trans ((EE4.out 5 (by omega)).trans ((EE3.out 5 (by omega)).trans ((EE2.out 5 (by omega)).trans E1.out)))))))] at x1
  have x2 := F9.out.cell 10 (by decide)
  rw [((EE8.out 10 (by omega)).trans ((EE7.out 10 (by omega)).trans ((EE6.out 10 (by omega)).trans ((EE5.out 10 (by omega)).trans ((EE4.out 10 (by omega)).trans ((EE3.out 10 (by omega)).trans E2.out))))))] at x2
  have x3 := F9.out.cell 15 (by decide)
  rw [((EE8.out 15 (by omega)).trans ((EE7.out 15 (by omega)).trans ((EE6.out 15 (by omega)).trans ((EE5.out 15 (by omega)).trans ((EE4.out 15 (by omega)).trans E3.out)))))] at x3
  have x4 := F9.out.cell 20 (by decide)
  rw [((EE8.out 20 (by omega)).trans ((EE7.out 20 (by omega)).trans ((EE6.out 20 (by omega)).trans ((EE5.out 20 (by omega)).trans E4.out))))] at x4
  have x5 := F9.out.cell 26 (by decide)
  rw [((EE8.out 26 (by omega)).trans ((EE7.out 26 (by omega)).trans ((EE6.out 26 (by omega)).trans E5.out)))] at x5
  have x6 := F9.out.cell 31 (by decide)
  rw [((EE8.out 31 (by omega)).trans ((EE7.out 31 (by omega)).trans E6.out))] at x6
  have x7 := F9.out.cell 36 (by decide)
  rw [((EE8.out 36 (by omega)).trans E7.out)] at x7
  have x8 := F9.out.cell 41 (by decide)
  rw [E8.out] at x8
  unfold refMFin at HG
  rw [if_neg (by simp)] at HG
  dsimp only at HG
  obtain ⟨lm, hlm⟩ : ∃ m : Int, (l9.length : Int) = m := ⟨_, rfl⟩
  have HLM := Aside0.mk hlm
  have n00 := RN0.out.1
  have n01 := RN0.out.2
  have n10 := RN1.out.1
  have n11 := RN1.out.2
  have n20 := RN2.out.1
  have n21 := RN2.out.2
  have n30 := RN3.out.1
  have n40 := RN4.out.1
  obtain ⟨r0, r1, r2, r3, r4, r5, r6, r7, r8⟩ := F9.out.zx.cells
  obtain ⟨y0, y1, y2, y3, y4, y5, y6, y7, y8⟩ := F9.out.zfrozen
  have hl9 : (l9.length : Int) = lm := hlm
  by_cases hl : 0 < lm
  · have h0 : 0 < l9.length := by omega
    clear hlm
    rw [if_pos (Or.inl h0)] at HG
    obtain ⟨hres, hbel, _⟩ := F9.out.res 0 0 0 0 0 0 0 0 0
    have HRES := Aside0.mk hres
    have HBEL := Aside0.mk hbel
    clear hres hbel
    obtain rfl := HG.out
    go_wp2
    exact bodyPost_ret (results_ct (fn := Try.f81) (p := 2) (u := 3) (ty := 29) rfl _ _ w.heap.size 29 #[.int .i64 0, .int .i64 0, .int .i64 0, .int .i64 0, .int .i64 0, .int .i64 0, .int .i64 0, .int .i64 0, .int .i64 0] (0, 0) _ rfl HRES.out Try.underlying29 rfl (by kernel_rfl)) rfl ⟨rfl, HBEL.out⟩
  · have h0 : ¬ 0 < l9.length := by omega
    by_cases hs : 4611686018427387904 < n3
    · rw [if_pos (Or.inr (Or.inl hs))] at HG
      obtain ⟨hres, hbel, _⟩ := F9.out.res 0 0 0 0 0 0 0 0 0
      have HRES := Aside0.mk hres
      have HBEL := Aside0.mk hbel
      clear hres hbel
      obtain rfl := HG.out
      go_wp2
      exact bodyPost_ret (results_ct (fn := Try.f81) (p := 2) (u := 3) (ty := 29) rfl _ _ w.heap.size 29 #[.int .i64 0, .int .i64 0, .int .i64 0, .int .i64 0, .int .i64 0, .int .i64 0, .int .i64 0, .int .i64 0, .int .i64 0] (0, 0) _ rfl HRES.out Try.underlying29 rfl (by kernel_rfl)) rfl ⟨rfl, HBEL.out⟩
    · by_cases ht : 4611686018427387904 < n4
      · rw [if_pos (Or.inr (Or.inr ht))] at HG
        obtain ⟨hres, hbel, _⟩ := F9.out.res 0 0 0 0 0 0 0 0 0
        have HRES := Aside0.mk hres
        have HBEL := Aside0.mk hbel
        clear hres hbel
        obtain rfl := HG.out
        go_wp2
        exact bodyPost_ret (results_ct (fn := Try.f81) (p := 2) (u := 3) (ty := 29) rfl _ _ w.heap.size 29 #[.int .i64 0, .int .i64 0, .int .i64 0, .int .i64 0, .int .i64 0, .int .i64 0, .int .i64 0, .int .i64 0, .int .i64 0] (0, 0) _ rfl HRES.out Try.underlying29 rfl (by kernel_rfl)) rfl ⟨rfl, HBEL.out⟩
      · rw [if_neg (by have := HLM.out; omega)] at HG
        have F10 := Aside0.mk (F9.out.below (below_alloc (Below.refl _ _) (.cells #[.int .i64 n0, .int .i64 n1, .int .i64 n3, .int .i64 n4, .int .i64 g5, .int .i64 g6, .int .i64 g7, .int .i64 g8, .int .i64 n2] 29)))
        have BM := Aside0.mk (show Box9 (v9.alloc (.cells #[.int .i64 n0, .int .i64 n1, .int .i64 n3, .int .i64 n4, .int .i64 g5, .int .i64 g6, .int .i64 g7, .int .i64 g8, .int .i64 n2] 29)) 29 v9.heap.size n0 n1 n3 n4 g5 g6 g7 g8 n2 from blk_new v9 _)
        go_wp2_with fail
        refine (refMRight_calls ⟨n0, n1, n3, n4, g5, g6, g7, g8, n2⟩ _).mono ?_
        rintro e vr ⟨rfl, hbr⟩
        have F11 := Aside0.mk (F10.out.below hbr)
        have BM2 := Aside0.mk (show Box9 vr 29 v9.heap.size n0 n1 n3 n4 g5 g6 g7 g8 n2 from (hbr.block _ (by simp)).trans BM.out)
        clear hbr r0 r1 r2 r3 r4 r5 r6 r7 r8 y0 y1 y2 y3 y4 y5 y6 y7 y8 x0 x1 x2 x3 x4 x5 x6 x7 x8
        obtain ⟨r0, r1, r2, r3, r4, r5, r6, r7, r8⟩ := F11.out.zx.cells
        obtain ⟨y0, y1, y2, y3, y4, y5, y6, y7, y8⟩ := F11.out.zfrozen
        obtain ⟨q0, q1, q2, q3, q4, q5, q6, q7, q8⟩ := BM2.out.cells
        cases hr : msgRight ⟨n0, n1, n3, n4, g5, g6, g7, g8, n2⟩ with
        | false =>
          rw [if_pos hr] at HG
          obtain ⟨hres, hbel, _⟩ := F11.out.res 0 0 0 0 0 0 0 0 0
          have HRES := Aside0.mk hres
          have HBEL := Aside0.mk hbel
          clear hres hbel
          obtain rfl := HG.out
          go_wp2
          exact bodyPost_ret (results_ct (fn := Try.f81) (p := 2) (u := 3) (ty := 29) rfl _ _ w.heap.size 29 #[.int .i64 0, .int .i64 0, .int .i64 0, .int .i64 0, .int .i64 0, .int .i64 0, .int .i64 0, .int .i64 0, .int .i64 0] (0, 0) _ rfl HRES.out Try.underlying29 rfl (by kernel_rfl)) rfl ⟨rfl, HBEL.out⟩
        | true =>
          rw [if_neg (by rw [hr]; decide)] at HG
          obtain ⟨hres, hbel, _⟩ := F11.out.res n0 n1 n3 n4 g5 g6 g7 g8 n2
          have HRES := Aside0.mk hres
          have HBEL := Aside0.mk hbel
          clear hres hbel
          obtain rfl := HG.out
          go_wp2
          exact bodyPost_ret (results_ct (fn := Try.f81) (p := 2) (u := 3) (ty := 29) rfl _ _ w.heap.size 29 #[.int .i64 n0, .int .i64 n1, .int .i64 n3, .int .i64 n4, .int .i64 g5, .int .i64 g6, .int .i64 g7, .int .i64 g8, .int .i64 n2] (0, 0) _ rfl HRES.out Try.underlying29 rfl (by kernel_rfl)) rfl ⟨rfl, HBEL.out⟩
def damperref06_Decode.f (l0 : List Int) : Option (Int × Int × Int × Int × Int × Int × Int × Int × Int × Int) :=
  if bytB l0 = true ∧ l0.length ≤ 140737488355328 then some ((msgDec l0).1.f0, (msgDec l0).1.f1, (msgDec l0).1.f2, (msgDec l0).1.f3, (msgDec l0).1.f4, (msgDec l0).1.f5, (msgDec l0).1.f6, (msgDec l0).1.f7, (msgDec l0).1.f8, (msgDec l0).2) else none
theorem damperref06_Decode.calls (A0 : Option Addr) (c0 : Nat) (l0 : List Int) (r1 r2 r3 r4 r5 r6 r7 r8 r9 r10 : Int) (w : World) (hr0 : Kd.C (Kd.int .u8) w A0 l0.length l0) (hc0 : l0.length ≤ c0) (h : damperref06_Decode.f l0 = some (r1, r2, r3, r4, r5, r6, r7, r8, r9, r10)) :
    Calls Try.prog 81 #[.slice A0 l0.length c0] w fun e w' => e = .returned (.tuple #[.agg #[.int .i64 r1, .int .i64 r2, .int .i64 r3, .int .i64 r4, .int .i64 r5, .int .i64 r6, .int .i64 r7, .int .i64 r8, .int .i64 r9], .int .i64 r10]) ∧ Below w.heap.size w w' := by
  unfold damperref06_Decode.f at h
  by_cases hp : bytB l0 = true ∧ l0.length ≤ 140737488355328
  · rw [if_pos hp] at h
    have h := Option.some.inj h
    simp only [Prod.mk.injEq] at h
    obtain ⟨rfl, rfl, rfl, rfl, rfl, rfl, rfl, rfl, rfl, rfl⟩ := h
    exact refMDec_calls A0 c0 l0 w hr0 hc0 hp.2 (byt_of hp.1)
  · rw [if_neg hp] at h
    cases h
end Go.Proofs.Ytalpemoodollpaa.P
/- A writer of one's own, call by call. -/
namespace Go.Proofs.Ytalpemoodollpaa.P
open Go.RowKit Go.Proofs.YtalpemoodollpaaW.PrintWords Go.Proofs.YtalpemoodollpaaW.PrintLast Go.Proofs.YtalpemoodollpaaW.PrintMore
set_option linter.unusedVariables false
set_option linter.unusedSimpArgs false

theorem lit_C (W : World) (xs : List Int) (hl : xs.length ≤ 9223372036854775807) : Kd.C (Kd.int .u8) (W.alloc (.cells (nums .u8 xs).toArray 5)) (some ⟨W.heap.size, 0, none⟩) xs.length xs := by
  have h := own_lit W W.heap.size 5 .u8 xs (Nat.le_refl _) hl
  obtain ⟨A, c, e, h2⟩ := own_reads h
  injection e with e1 e2 e3
  subst e1
  exact Kd.C_of_reads (d := (0 : Int)) (h1 := fun _ => rfl) h2
/-- Blocks of other types stay. -/
def KeepT (W W1 : World) (g : Nat) : Prop := ∀ (b : Nat) (cs : Array Value) (t : Nat), W.heap[b]? = some (.cells cs t (0, 0)) → t ≠ 5 → b ≠ g → W1.heap[b]? = some (.cells cs t (0, 0))
structure WK (w0 W : World) (g : Nat) (xs : List Int) : Prop where
  ex : ∃ row, WS W g row xs ∧ ∀ k, row = some k → w0.heap.size ≤ k
  bel : Below w0.heap.size w0 W
  hg : w0.heap.size ≤ g
namespace WK
variable {w0 W W1 : World} {g : Nat} {xs ys : List Int}
theorem new (hB : Below w0.heap.size w0 W) : WK w0 (W.alloc (.cells #[.slice none 0 0] 39)) W.heap.size [] :=
  ⟨⟨none, WS.new W, fun k hk => by cases hk⟩, below_alloc hB _, hB.size⟩
theorem below (h : WK w0 W g xs) (hb : Below W.heap.size W W1) : WK w0 W1 g xs := by
  obtain ⟨⟨row, hs, hr⟩, hB, hg⟩ := h
  exact ⟨⟨row, hs.below hb, hr⟩, below_then hB hB.size hb, hg⟩
theorem alloc (h : WK w0 W g xs) (o : Obj) : WK w0 (W.alloc o) g xs := h.below (below_alloc (Below.refl _ _) _)
theorem drew (h : WK w0 W g xs) : WK w0 W.drew g xs := ⟨h.ex, h.bel.drew, h.hg⟩
/-- What a call leaves. -/
theorem of_post {row : Option Nat} (hs : WS W g row xs) (hr : ∀ k, row = some k → w0.heap.size ≤ k) (hB : Below w0.heap.size w0 W) (hg : w0.heap.size ≤ g) (hp : WPost W g row ys W1) : WK w0 W1 g ys ∧ KeepT W W1 g := by
  obtain ⟨row1, h1, h2, h3⟩ := hp.below hB hg hr
  refine ⟨⟨⟨row1, h1, h3⟩, h2, hg⟩, fun b cs t hb ht hne => ?_⟩
  obtain ⟨_, _, _, hf⟩ := hp
  refine hf.blk hb (fun hS => hS.elim hne (fun hrow => ?_))
  obtain ⟨v, hb2, hr2, ho⟩ := hs
  exact own_ne ho hb (Ne.symm ht) (by rw [hr2, hrow])
theorem num (h : WK w0 W g xs) (n : Int) (h0 : 0 ≤ n) (h1 : n < 18446744073709551616) (hl : xs.length ≤ 1000000) :
    Calls Try.prog 36 #[.pointer (some ⟨g, 0, none⟩), .int .u64 n] W fun e w' => e = .returned (.pointer (some ⟨g, 0, none⟩)) ∧ WK w0 w' g (xs ++ numForm n.toNat) ∧ KeepT W w' g := by
  obtain ⟨⟨row, hs, hr⟩, hB, hg⟩ := h
  have := numForm_ten n h1
  exact (octets_Writer_Num.calls g row xs n W h0 hs (by omega)).mono fun e w' ⟨he, hp⟩ => ⟨he, of_post hs hr hB hg hp⟩
theorem int (h : WK w0 W g xs) (n : Int) (h0 : -9223372036854775808 ≤ n) (h1 : n ≤ 9223372036854775807) (hl : xs.length ≤ 1000000) :
    Calls Try.prog 38 #[.pointer (some ⟨g, 0, none⟩), .int .i64 n] W fun e w' => e = .returned (.pointer (some ⟨g, 0, none⟩)) ∧ WK w0 w' g (xs ++ intForm n) ∧ KeepT W w' g := by
  obtain ⟨⟨row, hs, hr⟩, hB, hg⟩ := h
  exact (octets_Writer_Int.calls g row xs n W h0 h1 hs (by omega)).mono fun e w' ⟨he, hp⟩ => ⟨he, of_post hs hr hB hg hp⟩
theorem uint (h : WK w0 W g xs) (n k : Int) (h0 : 0 ≤ n) (h1 : 1 ≤ k) (h2 : k ≤ 8) (hl : xs.length ≤ 1000000) :
    Calls Try.prog 99 #[.pointer (some ⟨g, 0, none⟩), .int .u64 n, .int .i64 k] W fun e w' => e = .returned (.pointer (some ⟨g, 0, none⟩)) ∧ WK w0 w' g (xs ++ uintForm n.toNat k.toNat) ∧ KeepT W w' g := by
  obtain ⟨⟨row, hs, hr⟩, hB, hg⟩ := h
  exact (octets_Writer_Uint.calls g row xs n k W h0 hs h1 h2 (by omega)).mono fun e w' ⟨he, hp⟩ => ⟨he, of_post hs hr hB hg hp⟩
theorem raw (h : WK w0 W g xs) (zs : List Int) (A : Option Addr) (c : Nat) (hz : Kd.C (Kd.int .u8) W A zs.length zs) (hl : xs.length ≤ 1000000) (hl2 : zs.length ≤ 1000000) :
    Calls Try.prog 94 #[.pointer (some ⟨g, 0, none⟩), .slice A zs.length c] W fun e w' => e = .returned (.pointer (some ⟨g, 0, none⟩)) ∧ WK w0 w' g (xs ++ zs) ∧ KeepT W w' g := by
  obtain ⟨⟨row, hs, hr⟩, hB, hg⟩ := h
  exact (octets_Writer_Raw.calls g row xs zs A c W hs hz (by omega)).mono fun e w' ⟨he, hp⟩ => ⟨he, of_post hs hr hB hg hp⟩
theorem bytes (h : WK w0 W g xs) (hl : xs.length ≤ 100000000) :
    Calls Try.prog 37 #[.pointer (some ⟨g, 0, none⟩)] W fun e w' => ∃ v0_ : Value, e = .returned v0_ ∧ Kd.R (Kd.int .u8) 5 w' w0.heap.size (fun _ => True) v0_ xs ∧ Below w0.heap.size w0 w' ∧ Below W.heap.size W w' := by
  obtain ⟨⟨row, hs, hr⟩, hB, hg⟩ := h
  exact (octets_Writer_Bytes.calls g row xs W hs (by omega)).mono fun e w' ⟨v, he, hR, hb⟩ => ⟨v, he, Kd.R_lower hR hB.size, below_then hB hB.size hb, hb⟩
theorem numA (h : WK w0 W g xs) (o : Obj) (n : Int) (h0 : 0 ≤ n) (h1 : n < 18446744073709551616) (hl : xs.length ≤ 1000000) :
    Calls Try.prog 36 #[.pointer (some ⟨g, 0, none⟩), .int .u64 n] (W.alloc o).drew fun e w' => e = .returned (.pointer (some ⟨g, 0, none⟩)) ∧ WK w0 w' g (xs ++ numForm n.toNat) ∧ KeepT (W.alloc o) w' g ∧ w'.heap[W.heap.size]? = some o := by
  obtain ⟨⟨row, hs, hr⟩, hB, hg⟩ := h
  have := numForm_ten n h1
  have hs2 : WS (W.alloc o).drew g row xs := hs.alloc o
  refine (octets_Writer_Num.calls g row xs n _ h0 hs2 (by omega)).mono fun e w' ⟨he, hp⟩ => ?_
  have h2 := of_post (w0 := w0) hs2 hr (below_alloc hB o).drew hg hp
  refine ⟨he, h2.1, h2.2, ?_⟩
  obtain ⟨_, _, _, hf⟩ := hp
  refine hf.blk (blk_new W o) (fun hS => ?_)
  rcases hS with hS | hS
  · have := hs.lt; omega
  · obtain ⟨v, hb2, hr2, ho⟩ := hs
    have := own_lt ho W.heap.size (by rw [hr2, hS])
    omega
end WK
theorem lit_at {W : World} {b : Nat} {xs : List Int} (h : W.heap[b]? = some (.cells (nums .u8 xs).toArray 5 (0, 0))) (hl : xs.length ≤ 9223372036854775807) : Kd.C (Kd.int .u8) W (some ⟨b, 0, none⟩) xs.length xs := by
  refine Kd.C_of_reads (d := (0 : Int)) (h1 := fun _ => rfl) ⟨rfl, hl, fun _ => ⟨_, rfl, fun j hj => ?_⟩⟩
  rw [add_plain, blk_cell h j]
  simp [nums, List.getD_eq_getElem?_getD, hj]
end Go.Proofs.Ytalpemoodollpaa.P
/- The contract of message.Encode. -/
namespace Go.Proofs.Ytalpemoodollpaa.P
open Go.RowKit Go.Proofs.YtalpemoodollpaaW.PrintWords Go.Proofs.YtalpemoodollpaaW.PrintLast Go.Proofs.YtalpemoodollpaaW.PrintMore
set_option linter.unusedVariables false
set_option linter.unusedSimpArgs false

def message_Encode.f (a0_0 a0_1 a0_2 a0_3 a0_4 a0_5 a0_6 a0_7 a0_8 : Int) : Option (List Int × Int) :=
  if i64B a0_6 = true ∧ i64B a0_7 = true then some (if msgRight ⟨a0_0, a0_1, a0_2, a0_3, a0_4, a0_5, a0_6, a0_7, a0_8⟩ = true then (msgForm ⟨a0_0, a0_1, a0_2, a0_3, a0_4, a0_5, a0_6, a0_7, a0_8⟩, 0) else ([], 1)) else none
set_option maxRecDepth 100000 in
set_option maxHeartbeats 2000000 in
theorem message_Encode.calls (a0_0 a0_1 a0_2 a0_3 a0_4 a0_5 a0_6 a0_7 a0_8 : Int) (r1 : List Int) (r2 : Int) (w : World) (h : message_Encode.f a0_0 a0_1 a0_2 a0_3 a0_4 a0_5 a0_6 a0_7 a0_8 = some (r1, r2)) :
    Calls Try.prog 29 #[.agg #[.int .i64 a0_0, .int .i64 a0_1, .int .i64 a0_2, .int .i64 a0_3, .int .i64 a0_4, .int .i64 a0_5, .int .i64 a0_6, .int .i64 a0_7, .int .i64 a0_8]] w fun e w' => ∃ v0_ : Value, e = .returned (.tuple #[v0_, .int .i64 r2]) ∧ Kd.R (Kd.int .u8) 5 w' w.heap.size (fun _ => True) v0_ r1 ∧ Below w.heap.size w w' := by
  unfold message_Encode.f at h
  by_cases hp : i64B a0_6 = true ∧ i64B a0_7 = true
  · rw [if_pos hp] at h
    have H := Option.some.inj h
    clear h
    have HRC : ∀ W : World, Calls Try.prog 32 #[.agg #[.int .i64 a0_0, .int .i64 a0_1, .int .i64 a0_2, .int .i64 a0_3, .int .i64 a0_4, .int .i64 a0_5, .int .i64 a0_6, .int .i64 a0_7, .int .i64 a0_8]] W fun e w' => e = .returned (.bool (msgRight ⟨a0_0, a0_1, a0_2, a0_3, a0_4, a0_5, a0_6, a0_7, a0_8⟩)) ∧ Below W.heap.size W w' := fun W => msgRight_calls ⟨a0_0, a0_1, a0_2, a0_3, a0_4, a0_5, a0_6, a0_7, a0_8⟩ W
    have hu29 := Try.underlying29
    have bx : Box9 (w.alloc (.cells #[.int .i64 a0_0, .int .i64 a0_1, .int .i64 a0_2, .int .i64 a0_3, .int .i64 a0_4, .int .i64 a0_5, .int .i64 a0_6, .int .i64 a0_7, .int .i64 a0_8] 29)) 29 w.heap.size a0_0 a0_1 a0_2 a0_3 a0_4 a0_5 a0_6 a0_7 a0_8 := blk_new w _
    have hb0 := below_alloc (Below.refl w.heap.size w) (.cells #[.int .i64 a0_0, .int .i64 a0_1, .int .i64 a0_2, .int .i64 a0_3, .int .i64 a0_4, .int .i64 a0_5, .int .i64 a0_6, .int .i64 a0_7, .int .i64 a0_8] 29)
    have BX := Aside0.mk bx
    have HB0 := Aside0.mk hb0
    have HP := Aside0.mk hp
    clear hb0 hp
    obtain ⟨c0, c1, c2, c3, c4, c5, c6, c7, c8⟩ := bx.cells
    clear bx
    by_cases hr : msgRight ⟨a0_0, a0_1, a0_2, a0_3, a0_4, a0_5, a0_6, a0_7, a0_8⟩ = true
    · rw [if_pos hr] at H
      obtain ⟨rfl, rfl⟩ := Prod.mk.inj H
      clear H
      have HR := Aside0.mk hr
      go_enter Try.func29, Try.ntmps29
      go_wp2_with fail
      refine (HRC _).mono ?_
      rintro e w1 ⟨rfl, hb⟩
      rw [HR.out]
      have BX1 := Aside0.mk (show Box9 w1 29 w.heap.size a0_0 a0_1 a0_2 a0_3 a0_4 a0_5 a0_6 a0_7 a0_8 from (hb.block _ (by simp)).trans BX.out)
      have HB1 := Aside0.mk (below_then HB0.out HB0.out.size hb)
      have HZ := Aside0.mk (show w.heap.size < w1.heap.size from by have := hb.size; simp at this; omega)
      clear hb c0 c1 c2 c3 c4 c5 c6 c7 c8 BX HB0
      have HK := Aside0.mk (WK.new HB1.out)
      have BX2 := Aside0.mk (show Box9 (w1.alloc (.cells #[.slice none 0 0] 39)) 29 w.heap.size a0_0 a0_1 a0_2 a0_3 a0_4 a0_5 a0_6 a0_7 a0_8 from blk_alloc BX1.out _)
      obtain ⟨c0, c1, c2, c3, c4, c5, c6, c7, c8⟩ := BX2.out.cells
      go_wp2_with fail
      have HG := Aside0.mk (show w.heap.size < w1.heap.size from HZ.out)
      clear HZ BX1 HB1
      generalize hg : w1.heap.size = g at *
      generalize (w1.alloc (.cells #[.slice none 0 0] 39)) = W2 at *
      clear hg
      have H94 : Aside0 (Calls Try.prog 94 #[.pointer (some ⟨g, 0, none⟩), .slice (some ⟨W2.heap.size, 0, none⟩) 3 3] (W2.alloc (.cells #[.int .u8 (IntKind.u8.wrap a0_0), .int .u8 (IntKind.u8.wrap a0_1), .int .u8 (IntKind.u8.wrap a0_8)] 5)).drew fun e w' => e = .returned (.pointer (some ⟨g, 0, none⟩)) ∧ WK w w' g ([] ++ [IntKind.u8.wrap a0_0, IntKind.u8.wrap a0_1, IntKind.u8.wrap a0_8]) ∧ KeepT (W2.alloc (.cells #[.int .u8 (IntKind.u8.wrap a0_0), .int .u8 (IntKind.u8.wrap a0_1), .int .u8 (IntKind.u8.wrap a0_8)] 5)).drew w' g) :=
        ⟨(HK.out.alloc (.cells (nums .u8 [IntKind.u8.wrap a0_0, IntKind.u8.wrap a0_1, IntKind.u8.wrap a0_8]).toArray 5)).drew.raw [IntKind.u8.wrap a0_0, IntKind.u8.wrap a0_1, IntKind.u8.wrap a0_8] _ 3 (lit_C W2 [IntKind.u8.wrap a0_0, IntKind.u8.wrap a0_1, IntKind.u8.wrap a0_8] (by simp)) (by simp) (by simp)⟩
      have BX3 := Aside0.mk (show Box9 (W2.alloc (.cells #[.int .u8 (IntKind.u8.wrap a0_0), .int .u8 (IntKind.u8.wrap a0_1), .int .u8 (IntKind.u8.wrap a0_8)] 5)).drew 29 w.heap.size a0_0 a0_1 a0_2 a0_3 a0_4 a0_5 a0_6 a0_7 a0_8 from blk_alloc BX2.out _)
      have R2 : 0 ≤ IntKind.u64.wrap a0_2 ∧ IntKind.u64.wrap a0_2 < 18446744073709551616 := wrap_u64_range _
      have R3 : 0 ≤ IntKind.u64.wrap a0_3 ∧ IntKind.u64.wrap a0_3 < 18446744073709551616 := wrap_u64_range _
      have HR2 := Aside0.mk R2
      have HR3 := Aside0.mk R3
      clear R2 R3
      have hr3 := HR.out
      simp only [msgRight, Bool.and_eq_true, within_iff] at hr3
      have hp3 := HP.out
      simp only [i64B, within_iff] at hp3
      have HL4 : Aside0 (-9223372036854775808 ≤ a0_4 ∧ a0_4 ≤ 9223372036854775807) := ⟨by omega⟩
      have HL5 : Aside0 (-9223372036854775808 ≤ a0_5 ∧ a0_5 ≤ 9223372036854775807) := ⟨by omega⟩
      have HL6 : Aside0 (-9223372036854775808 ≤ a0_6 ∧ a0_6 ≤ 9223372036854775807) := ⟨hp3.1⟩
      have HL7 : Aside0 (-9223372036854775808 ≤ a0_7 ∧ a0_7 ≤ 9223372036854775807) := ⟨hp3.2⟩
      clear hr3 hp3
      go_region_held3 (fun w' => w'.cell? ⟨w.heap.size, 0, none⟩ = some (.int .i64 a0_0) ∧ w'.cell? ⟨w.heap.size, 1, none⟩ = some (.int .i64 a0_1) ∧ w'.cell? ⟨w.heap.size, 8, none⟩ = some (.int .i64 a0_8) ∧ w'.cell? ⟨w.heap.size, 2, none⟩ = some (.int .i64 a0_2) ∧ w'.cell? ⟨w.heap.size, 3, none⟩ = some (.int .i64 a0_3)) (first | (refine ⟨?_, ?_, ?_, ?_, ?_⟩ <;> assumption) | go_keep)
        (first | (go_at_call 94; refine H94.out.mono ?_; rintro e w3 ⟨rfl, hk3, kt⟩; have HK3 := Aside0.mk hk3; have BX4 := Aside0.mk (show Box9 w3 29 w.heap.size a0_0 a0_1 a0_2 a0_3 a0_4 a0_5 a0_6 a0_7 a0_8 from kt _ _ _ BX3.out (by decide) (by have := HG.out; omega)); obtain ⟨d0, d1, d2, d3, d4, d5, d6, d7, d8⟩ := BX4.out.cells; clear hk3 kt) | (go_at_call 36; (with_reducible refine (HK4.out.num (IntKind.u64.wrap a0_3) HR3.out.1 HR3.out.2 (by have := numForm_ten _ HR2.out.2; simp; omega)).mono ?_); rintro e w5 ⟨rfl, hk5, kt⟩; have HK5 := Aside0.mk hk5; have BX6 := Aside0.mk (show Box9 w5 29 w.heap.size a0_0 a0_1 a0_2 a0_3 a0_4 a0_5 a0_6 a0_7 a0_8 from kt _ _ _ BX5.out (by decide) (by have := HG.out; omega)); obtain ⟨f0, f1, f2, f3, f4, f5, f6, f7, f8⟩ := BX6.out.cells; clear hk5 kt) | (go_at_call 36; (with_reducible refine (HK3.out.num (IntKind.u64.wrap a0_2) HR2.out.1 HR2.out.2 (by simp)).mono ?_); rintro e w4 ⟨rfl, hk4, kt⟩; have HK4 := Aside0.mk hk4; have BX5 := Aside0.mk (show Box9 w4 29 w.heap.size a0_0 a0_1 a0_2 a0_3 a0_4 a0_5 a0_6 a0_7 a0_8 from kt _ _ _ BX4.out (by decide) (by have := HG.out; omega)); obtain ⟨e0, e1, e2, e3, e4, e5, e6, e7, e8⟩ := BX5.out.cells; clear hk4 kt))
      have hmf : ∀ (fn : Fn) (first cap : Array Value) (w : World), (Instr.makeFunc fn first cap).run Try.prog w = .ok (.func fn first cap) w := fun _ _ _ _ => rfl
      have i0 : ∀ w, (Instr.index 124 (.agg #[.int .i64 a0_4, .int .i64 a0_5, .int .i64 a0_6, .int .i64 a0_7]) (.int .i64 0)).run Try.prog w = .ok (.int .i64 a0_4) w := fun _ => by kernel_rfl
      have i1 : ∀ w, (Instr.index 124 (.agg #[.int .i64 a0_4, .int .i64 a0_5, .int .i64 a0_6, .int .i64 a0_7]) (.int .i64 1)).run Try.prog w = .ok (.int .i64 a0_5) w := fun _ => by kernel_rfl
      have i2 : ∀ w, (Instr.index 124 (.agg #[.int .i64 a0_4, .int .i64 a0_5, .int .i64 a0_6, .int .i64 a0_7]) (.int .i64 2)).run Try.prog w = .ok (.int .i64 a0_6) w := fun _ => by kernel_rfl
      have i3 : ∀ w, (Instr.index 124 (.agg #[.int .i64 a0_4, .int .i64 a0_5, .int .i64 a0_6, .int .i64 a0_7]) (.int .i64 3)).run Try.prog w = .ok (.int .i64 a0_7) w := fun _ => by kernel_rfl
      go_wp2
      refine wp_loop_rounds 5 ?_
      rw [rounds_succ]
      go_wp2_with fail
      refine (HK5.out.int a0_4 HL4.out.1 HL4.out.2 (by have := numForm_ten _ HR2.out.2; have := numForm_ten _ HR3.out.2; simp [intForm_length]; omega)).mono ?_
      rintro e w6 ⟨rfl, hk, kt⟩
      have HK6 := Aside0.mk hk
      clear hk kt
      go_wp2
      rw [rounds_succ]
      go_wp2_with fail
      refine (HK6.out.int a0_5 HL5.out.1 HL5.out.2 (by have := numForm_ten _ HR2.out.2; have := numForm_ten _ HR3.out.2; simp [intForm_length]; omega)).mono ?_
      rintro e w7 ⟨rfl, hk, kt⟩
      have HK7 := Aside0.mk hk
      clear hk kt
      go_wp2
      rw [rounds_succ]
      go_wp2_with fail
      refine (HK7.out.int a0_6 HL6.out.1 HL6.out.2 (by have := numForm_ten _ HR2.out.2; have := numForm_ten _ HR3.out.2; simp [intForm_length]; omega)).mono ?_
      rintro e w8 ⟨rfl, hk, kt⟩
      have HK8 := Aside0.mk hk
      clear hk kt
      go_wp2
      rw [rounds_succ]
      go_wp2_with fail
      refine (HK8.out.int a0_7 HL7.out.1 HL7.out.2 (by have := numForm_ten _ HR2.out.2; have := numForm_ten _ HR3.out.2; simp [intForm_length]; omega)).mono ?_
      rintro e w9 ⟨rfl, hk, kt⟩
      have HK9 := Aside0.mk hk
      clear hk kt
      go_wp2
      rw [rounds_succ]
      go_wp2_with fail
      refine (HK9.out.bytes (by have := numForm_ten _ HR2.out.2; have := numForm_ten _ HR3.out.2; simp [intForm_length]; omega)).mono ?_
      rintro e w10 ⟨v, rfl, hR, hB, _⟩
      have HRR := Aside0.mk hR
      have HBB := Aside0.mk hB
      clear hR hB
      go_wp2
      go_ret2
      refine ⟨_, rfl, ?_, HBB.out⟩
      have hr2 := HR.out
      simp only [msgRight, Bool.and_eq_true, within_iff] at hr2
      have e0 : IntKind.u8.wrap a0_0 = a0_0 := by rw [IntKind.wrap_u8]; omega
      have e1 : IntKind.u8.wrap a0_1 = a0_1 := by rw [IntKind.wrap_u8]; omega
      have e8 : IntKind.u8.wrap a0_8 = a0_8 := by rw [IntKind.wrap_u8]; omega
      have e2 : IntKind.u64.wrap a0_2 = a0_2 := by rw [wrap_u64]; omega
      have e3 : IntKind.u64.wrap a0_3 = a0_3 := by rw [wrap_u64]; omega
      have h := HRR.out
      rw [e0, e1, e8, e2, e3] at h
      exact h
    · rw [if_neg hr] at H
      obtain ⟨rfl, rfl⟩ := Prod.mk.inj H
      clear H
      have hr2 : msgRight ⟨a0_0, a0_1, a0_2, a0_3, a0_4, a0_5, a0_6, a0_7, a0_8⟩ = false := by simpa using hr
      have HR := Aside0.mk hr2
      clear hr hr2
      go_enter Try.func29, Try.ntmps29
      go_wp2_with fail
      refine (HRC _).mono ?_
      rintro e w1 ⟨rfl, hb⟩
      rw [HR.out]
      have HB1 := Aside0.mk (below_then HB0.out HB0.out.size hb)
      clear hb c0 c1 c2 c3 c4 c5 c6 c7 c8 BX HB0
      go_wp2
      go_ret2
      exact ⟨_, rfl, Kd.R_nil _ _ _ _ _, HB1.out⟩
  · rw [if_neg hp] at h
    cases h
end Go.Proofs.Ytalpemoodollpaa.P
-- Printed by hookprint.py (the session's own program, over the kit's print.py): checked by Lean like any text.
namespace Go.Proofs.Ytalpemoodollpaa.P
open Go.RowKit Go.Proofs.YtalpemoodollpaaW.PrintWords Go.Proofs.YtalpemoodollpaaW.PrintLast Go.Proofs.YtalpemoodollpaaW.PrintMore
attribute [local go_sem] max2_int min2_int max_two min_two max_three min_three max_four min_four   -- for this text's walks alone
set_option linter.unusedVariables false
set_option linter.unusedSimpArgs false

/-! ### message_Is: function 34 -/
def message_Is.f (a0_0 : Int) (a0_1 : Int) (a0_2 : Int) (a0_3 : Int) (a0_4 : Int) (a0_5 : Int) (a0_6 : Int) (a0_7 : Int) (a0_8 : Int) (a1 : Int) (a2 : Int) : Option (Bool) := if a0_0 = a1 then (some (a0_1 == a2)) else (some false)
set_option maxHeartbeats 8000000 in
set_option maxRecDepth 100000 in
theorem message_Is.calls (a0_0 : Int) (a0_1 : Int) (a0_2 : Int) (a0_3 : Int) (a0_4 : Int) (a0_5 : Int) (a0_6 : Int) (a0_7 : Int) (a0_8 : Int) (a1 : Int) (a2 : Int) (r : Bool) (w : World) (h : message_Is.f a0_0 a0_1 a0_2 a0_3 a0_4 a0_5 a0_6 a0_7 a0_8 a1 a2 = some r) :
    Calls Try.prog 34 #[.agg #[.int .i64 a0_0, .int .i64 a0_1, .int .i64 a0_2, .int .i64 a0_3, .int .i64 a0_4, .int .i64 a0_5, .int .i64 a0_6, .int .i64 a0_7, .int .i64 a0_8], .int .i64 a1, .int .i64 a2] w fun e w' => e = .returned (.bool r) ∧ Below w.heap.size w w' := by
  have hu29 := Try.underlying29
  have HB := Aside0.mk (Below.refl w.heap.size w)
  have H : (if a0_0 = a1 then (some (a0_1 == a2)) else (some false)) = some r := h
  clear h
  by_cases c4 : a0_0 = a1
  · rw [if_pos c4] at H
    have c4b0 : (a0_0 == a1) = true := beq_iff_eq.mpr c4
    have c4b1 : (a0_0 != a1) = false := bne_eq_false_iff_eq.mpr c4
    clear c4
    obtain rfl := Option.some.inj H
    go_enter Try.func34, Try.ntmps34
    go_wp2_with (first | ((with_reducible refine gate_dst (N := 3) rfl ?_); refine box_event ?hg (N := 3) ?hd (cs := #[.int .i64 a0_0, .int .i64 a0_1, .int .i64 a0_2, .int .i64 a0_3, .int .i64 a0_4, .int .i64 a0_5, .int .i64 a0_6, .int .i64 a0_7, .int .i64 a0_8]) (t := 29) ?hr ?_; (case hd => rfl); (case hg => rfl); (case hr => first | (go_simp; done) | (go_simp; rfl)); intro gb208 hg w5 hbox hb; have n0_ := Aside0.mk (below_step (by repeat (first | (with_reducible first | exact HB.out | apply below_alloc | apply pw_below_drewN | apply below_drew1) | exact HB.out)) hb); have n1_ := Aside0.mk (hbox); have n2_ := Aside0.mk ((by rw [hg]; exact (below_size (by repeat (first | (with_reducible first | exact HB.out | apply below_alloc | apply pw_below_drewN | apply below_drew1) | exact HB.out))) : w.heap.size ≤ gb208)); have n3_ := Aside0.mk ((by rw [hg]; exact (below_size (by repeat (first | (with_reducible first | exact HB.out | apply below_alloc | apply pw_below_drewN | apply below_drew1) | exact HB.out))) : w.heap.size ≤ gb208)); clear HB; have HB := n0_; have BK208 := n1_; have GW208 := n2_; have GE208 := n3_; clear n0_ n1_ n2_ n3_; clear hb hbox hg; have hcz6_0 : w5.cell? ⟨gb208, 0, none⟩ = some (.int .i64 a0_0) := (blk_cell BK208.out 0).trans rfl; have hcz6_1 : w5.cell? ⟨gb208, 1, none⟩ = some (.int .i64 a0_1) := (blk_cell BK208.out 1).trans rfl; have hcz6_2 : w5.cell? ⟨gb208, 2, none⟩ = some (.int .i64 a0_2) := (blk_cell BK208.out 2).trans rfl; have hcz6_3 : w5.cell? ⟨gb208, 3, none⟩ = some (.int .i64 a0_3) := (blk_cell BK208.out 3).trans rfl; have hcz6_4 : w5.cell? ⟨gb208, 4, none⟩ = some (.int .i64 a0_4) := (blk_cell BK208.out 4).trans rfl; have hcz6_5 : w5.cell? ⟨gb208, 5, none⟩ = some (.int .i64 a0_5) := (blk_cell BK208.out 5).trans rfl; have hcz6_6 : w5.cell? ⟨gb208, 6, none⟩ = some (.int .i64 a0_6) := (blk_cell BK208.out 6).trans rfl; have hcz6_7 : w5.cell? ⟨gb208, 7, none⟩ = some (.int .i64 a0_7) := (blk_cell BK208.out 7).trans rfl; have hcz6_8 : w5.cell? ⟨gb208, 8, none⟩ = some (.int .i64 a0_8) := (blk_cell BK208.out 8).trans rfl; have hfz6_0 := blk_frozen BK208.out 0; have hfz6_1 := blk_frozen BK208.out 1; have hfz6_2 := blk_frozen BK208.out 2; have hfz6_3 := blk_frozen BK208.out 3; have hfz6_4 := blk_frozen BK208.out 4; have hfz6_5 := blk_frozen BK208.out 5; have hfz6_6 := blk_frozen BK208.out 6; have hfz6_7 := blk_frozen BK208.out 7; have hfz6_8 := blk_frozen BK208.out 8))
    go_ret
    exact ⟨by first | rfl | (simp [errW_none, errW_some] <;> rfl) | (simp [*, errW_none, errW_some] <;> rfl), by repeat (first | (with_reducible first | exact HB.out | apply below_alloc | apply pw_below_drewN | apply below_drew1 | refine below_set ?_ GE208.out) | exact HB.out)⟩
  · rw [if_neg c4] at H
    have c4b0 : (a0_0 == a1) = false := beq_eq_false_iff_ne.mpr c4
    have c4b1 : (a0_0 != a1) = true := bne_iff_ne.mpr c4
    obtain rfl := Option.some.inj H
    go_enter Try.func34, Try.ntmps34
    go_wp2_with (first | ((with_reducible refine gate_dst (N := 3) rfl ?_); refine box_event ?hg (N := 3) ?hd (cs := #[.int .i64 a0_0, .int .i64 a0_1, .int .i64 a0_2, .int .i64 a0_3, .int .i64 a0_4, .int .i64 a0_5, .int .i64 a0_6, .int .i64 a0_7, .int .i64 a0_8]) (t := 29) ?hr ?_; (case hd => rfl); (case hg => rfl); (case hr => first | (go_simp; done) | (go_simp; rfl)); intro gb208 hg w7 hbox hb; have n0_ := Aside0.mk (below_step (by repeat (first | (with_reducible first | exact HB.out | apply below_alloc | apply pw_below_drewN | apply below_drew1) | exact HB.out)) hb); have n1_ := Aside0.mk (hbox); have n2_ := Aside0.mk ((by rw [hg]; exact (below_size (by repeat (first | (with_reducible first | exact HB.out | apply below_alloc | apply pw_below_drewN | apply below_drew1) | exact HB.out))) : w.heap.size ≤ gb208)); have n3_ := Aside0.mk ((by rw [hg]; exact (below_size (by repeat (first | (with_reducible first | exact HB.out | apply below_alloc | apply pw_below_drewN | apply below_drew1) | exact HB.out))) : w.heap.size ≤ gb208)); clear HB; have HB := n0_; have BK208 := n1_; have GW208 := n2_; have GE208 := n3_; clear n0_ n1_ n2_ n3_; clear hb hbox hg; have hcz8_0 : w7.cell? ⟨gb208, 0, none⟩ = some (.int .i64 a0_0) := (blk_cell BK208.out 0).trans rfl; have hcz8_1 : w7.cell? ⟨gb208, 1, none⟩ = some (.int .i64 a0_1) := (blk_cell BK208.out 1).trans rfl; have hcz8_2 : w7.cell? ⟨gb208, 2, none⟩ = some (.int .i64 a0_2) := (blk_cell BK208.out 2).trans rfl; have hcz8_3 : w7.cell? ⟨gb208, 3, none⟩ = some (.int .i64 a0_3) := (blk_cell BK208.out 3).trans rfl; have hcz8_4 : w7.cell? ⟨gb208, 4, none⟩ = some (.int .i64 a0_4) := (blk_cell BK208.out 4).trans rfl; have hcz8_5 : w7.cell? ⟨gb208, 5, none⟩ = some (.int .i64 a0_5) := (blk_cell BK208.out 5).trans rfl; have hcz8_6 : w7.cell? ⟨gb208, 6, none⟩ = some (.int .i64 a0_6) := (blk_cell BK208.out 6).trans rfl; have hcz8_7 : w7.cell? ⟨gb208, 7, none⟩ = some (.int .i64 a0_7) := (blk_cell BK208.out 7).trans rfl; have hcz8_8 : w7.cell? ⟨gb208, 8, none⟩ = some (.int .i64 a0_8) := (blk_cell BK208.out 8).trans rfl; have hfz8_0 := blk_frozen BK208.out 0; have hfz8_1 := blk_frozen BK208.out 1; have hfz8_2 := blk_frozen BK208.out 2; have hfz8_3 := blk_frozen BK208.out 3; have hfz8_4 := blk_frozen BK208.out 4; have hfz8_5 := blk_frozen BK208.out 5; have hfz8_6 := blk_frozen BK208.out 6; have hfz8_7 := blk_frozen BK208.out 7; have hfz8_8 := blk_frozen BK208.out 8))
    go_ret
    exact ⟨by first | rfl | (simp [errW_none, errW_some] <;> rfl) | (simp [*, errW_none, errW_some] <;> rfl), by repeat (first | (with_reducible first | exact HB.out | apply below_alloc | apply pw_below_drewN | apply below_drew1 | refine below_set ?_ GE208.out) | exact HB.out)⟩

end Go.Proofs.Ytalpemoodollpaa.P
-- Printed by hookprint.py (the session's own program, over the kit's print.py): checked by Lean like any text.
namespace Go.Proofs.Ytalpemoodollpaa.P
open Go.RowKit Go.Proofs.YtalpemoodollpaaW.PrintWords Go.Proofs.YtalpemoodollpaaW.PrintLast Go.Proofs.YtalpemoodollpaaW.PrintMore
attribute [local go_sem] max2_int min2_int max_two min_two max_three min_three max_four min_four   -- for this text's walks alone
set_option linter.unusedVariables false
set_option linter.unusedSimpArgs false

/-! ### damperlaw06_alive: function 35 -/
def damperlaw06_alive.f  : Option (Bool) := (message_Encode.f 6 1 0 0 0 0 0 0 2).bind fun bt209 => (if bt209.2 = 0 then (if (bt209.1.length : Int) = 37 then (if 0 < (bt209.1.length : Int) then (if (rd bt209.1 0) = 6 then (if 2 < (bt209.1.length : Int) then (if (rd bt209.1 2) = 2 then ((message_Is.f 3 1 0 0 0 0 0 0 0 3 1).bind fun t215 => (some t215)) else (some false)) else (none)) else (some false)) else (none)) else (some false)) else (some false))
set_option maxHeartbeats 8000000 in
set_option maxRecDepth 100000 in
theorem damperlaw06_alive.calls  (r : Bool) (w : World) (h : damperlaw06_alive.f  = some r) :
    Calls Try.prog 35 #[] w fun e w' => e = .returned (.bool r) ∧ Below w.heap.size w w' := by
  have hu29 := Try.underlying29
  have HB := Aside0.mk (Below.refl w.heap.size w)
  have H : ((message_Encode.f 6 1 0 0 0 0 0 0 2).bind fun bt209 => (if bt209.2 = 0 then (if (bt209.1.length : Int) = 37 then (if 0 < (bt209.1.length : Int) then (if (rd bt209.1 0) = 6 then (if 2 < (bt209.1.length : Int) then (if (rd bt209.1 2) = 2 then ((message_Is.f 3 1 0 0 0 0 0 0 0 3 1).bind fun t215 => (some t215)) else (some false)) else (none)) else (some false)) else (none)) else (some false)) else (some false))) = some r := h
  clear h
  replace H := Option.bind_eq_some_iff.mp H
  obtain ⟨⟨t209, t212⟩, A10, H⟩ := H
  replace H : (if t212 = 0 then (if (t209.length : Int) = 37 then (if 0 < (t209.length : Int) then (if (rd t209 0) = 6 then (if 2 < (t209.length : Int) then (if (rd t209 2) = 2 then ((message_Is.f 3 1 0 0 0 0 0 0 0 3 1).bind fun t215 => (some t215)) else (some false)) else (none)) else (some false)) else (none)) else (some false)) else (some false)) = some r := H
  have A1 := Aside0.mk A10
  clear A10
  by_cases c2 : t212 = 0
  · rw [if_pos c2] at H
    have c2b0 : (t212 == 0) = true := beq_iff_eq.mpr c2
    have c2b1 : (t212 != 0) = false := bne_eq_false_iff_eq.mpr c2
    clear c2
    by_cases c3 : (t209.length : Int) = 37
    · rw [if_pos c3] at H
      have c3b0 : ((t209.length : Int) == 37) = true := beq_iff_eq.mpr c3
      have c3b1 : ((t209.length : Int) != 37) = false := bne_eq_false_iff_eq.mpr c3
      clear c3
      by_cases c4 : 0 < (t209.length : Int)
      · rw [if_pos c4] at H
        have c4b0 : decide (0 < (t209.length : Int)) = true := decide_eq_true c4
        have c4b1 : decide (0 < t209.length) = true := decide_eq_true (by omega)
        clear c4
        by_cases c5 : (rd t209 0) = 6
        · rw [if_pos c5] at H
          have c5b0 : ((rd t209 0) == 6) = true := beq_iff_eq.mpr c5
          have c5b1 : ((rd t209 0) != 6) = false := bne_eq_false_iff_eq.mpr c5
          clear c5
          by_cases c6 : 2 < (t209.length : Int)
          · rw [if_pos c6] at H
            have c6b0 : decide (2 < (t209.length : Int)) = true := decide_eq_true c6
            have c6b1 : decide (2 < t209.length) = true := decide_eq_true (by omega)
            clear c6
            by_cases c7 : (rd t209 2) = 2
            · rw [if_pos c7] at H
              have c7b0 : ((rd t209 2) == 2) = true := beq_iff_eq.mpr c7
              have c7b1 : ((rd t209 2) != 2) = false := bne_eq_false_iff_eq.mpr c7
              clear c7
              replace H := Option.bind_eq_some_iff.mp H
              obtain ⟨t215, A80, H⟩ := H
              replace H : (some t215) = some r := H
              have A8 := Aside0.mk A80
              clear A80
              obtain rfl := Option.some.inj H
              go_enter Try.func35, Try.ntmps35
              go_wp2_with (first | ((with_reducible refine gate_callee (f := 29) rfl ?_); refine goesL_ (some 5) rfl rfl Try.func29 (by kernel_rfl) rfl #[.agg #[.int .i64 6, .int .i64 1, .int .i64 0, .int .i64 0, .int .i64 0, .int .i64 0, .int .i64 0, .int .i64 0, .int .i64 2]] rfl (by (try simp only [List.map_toArray, List.map_cons, List.map_nil]); first | done | rfl | (simp only [List.length_drop, List.length_take]; rfl)) ?_; (with_reducible refine (message_Encode.calls 6 1 0 0 0 0 0 0 2 t209 t212 _ A1.out).mono ?_); rintro e w9 ⟨v210, rfl, ho0, hb⟩; refine ⟨_, rfl, ?_⟩; have n0_ := Aside0.mk (Kd.R_lower ho0 (below_size (by repeat (first | (with_reducible first | exact HB.out | apply below_alloc | apply pw_below_drewN | apply below_drew1) | exact HB.out)))); have n1_ := Aside0.mk (below_step (by repeat (first | (with_reducible first | exact HB.out | apply below_alloc | apply pw_below_drewN | apply below_drew1) | exact HB.out)) hb); clear HB; have HO211 := n0_; have HB := n1_; clear n0_ n1_; (try clear hb); (try clear hb2); (try clear hk); (try clear hi); (try clear ho0); obtain ⟨Ao10, co10, eo10⟩ := Kd.R_slice HO211.out; subst eo10; have p213 : 0 ≤ (0 : Int) := (by omega); have q213 : 0 < (t209.length : Int) := of_decide_eq_true (by first | (with_reducible assumption) | assumption); obtain ⟨ad213, e213, hx213_0⟩ := Kd.at_int (Kd.R_reads' HO211.out).2.2 0 p213 q213; cases e213; have qi213 : (0 < t209.length) = True := eq_true (by omega); (try rw [show ((0 : Int)).toNat = 0 from rfl] at hx213_0); (try rw [Addr.add_zero'] at hx213_0); replace p213 := eq_true p213; replace q213 := eq_true q213; have p214 : 0 ≤ (2 : Int) := (by omega); have q214 : 2 < (t209.length : Int) := of_decide_eq_true (by first | (with_reducible assumption) | assumption); obtain ⟨ad214, e214, hx214_0⟩ := Kd.at_int (Kd.R_reads' HO211.out).2.2 2 p214 q214; obtain rfl : ad213 = ad214 := (by injection e214); (try simp only [show (2 : Int).toNat = 2 from rfl, Nat.reduceMul, Nat.reduceEqDiff, Go.Addr.add, ↓reduceIte] at hx214_0); have qi214 : (2 < t209.length) = True := eq_true (by omega); (try rw [show ((2 : Int)).toNat = 2 from rfl] at hx214_0); replace p214 := eq_true p214; replace q214 := eq_true q214) | (go_at_call 34; (with_reducible refine (message_Is.calls 3 1 0 0 0 0 0 0 0 3 1 t215 _ A8.out).mono ?_); rintro e w11 ⟨rfl, hb⟩; have n0_ := Aside0.mk (Kd.R_below (by (with_reducible repeat (first | apply Kd.R_alloc | apply Kd.R_drewN | apply Kd.R_drew)); exact HO211.out) hb); have n1_ := Aside0.mk (below_step (by repeat (first | (with_reducible first | exact HB.out | apply below_alloc | apply pw_below_drewN | apply below_drew1) | exact HB.out)) hb); clear HO211; clear HB; have HO211 := n0_; have HB := n1_; clear n0_ n1_; (try clear hb); (try clear hb2); (try clear hk); (try clear hi)))
              go_ret
              exact ⟨by first | rfl | (simp [errW_none, errW_some] <;> rfl) | (simp [*, errW_none, errW_some] <;> rfl), by repeat (first | (with_reducible first | exact HB.out | apply below_alloc | apply pw_below_drewN | apply below_drew1) | exact HB.out)⟩
            · rw [if_neg c7] at H
              have c7b0 : ((rd t209 2) == 2) = false := beq_eq_false_iff_ne.mpr c7
              have c7b1 : ((rd t209 2) != 2) = true := bne_iff_ne.mpr c7
              obtain rfl := Option.some.inj H
              go_enter Try.func35, Try.ntmps35
              go_wp2_with (first | ((with_reducible refine gate_callee (f := 29) rfl ?_); refine goesL_ (some 5) rfl rfl Try.func29 (by kernel_rfl) rfl #[.agg #[.int .i64 6, .int .i64 1, .int .i64 0, .int .i64 0, .int .i64 0, .int .i64 0, .int .i64 0, .int .i64 0, .int .i64 2]] rfl (by (try simp only [List.map_toArray, List.map_cons, List.map_nil]); first | done | rfl | (simp only [List.length_drop, List.length_take]; rfl)) ?_; (with_reducible refine (message_Encode.calls 6 1 0 0 0 0 0 0 2 t209 t212 _ A1.out).mono ?_); rintro e w12 ⟨v210, rfl, ho0, hb⟩; refine ⟨_, rfl, ?_⟩; have n0_ := Aside0.mk (Kd.R_lower ho0 (below_size (by repeat (first | (with_reducible first | exact HB.out | apply below_alloc | apply pw_below_drewN | apply below_drew1) | exact HB.out)))); have n1_ := Aside0.mk (below_step (by repeat (first | (with_reducible first | exact HB.out | apply below_alloc | apply pw_below_drewN | apply below_drew1) | exact HB.out)) hb); clear HB; have HO211 := n0_; have HB := n1_; clear n0_ n1_; (try clear hb); (try clear hb2); (try clear hk); (try clear hi); (try clear ho0); obtain ⟨Ao13, co13, eo13⟩ := Kd.R_slice HO211.out; subst eo13; have p213 : 0 ≤ (0 : Int) := (by omega); have q213 : 0 < (t209.length : Int) := of_decide_eq_true (by first | (with_reducible assumption) | assumption); obtain ⟨ad213, e213, hx213_0⟩ := Kd.at_int (Kd.R_reads' HO211.out).2.2 0 p213 q213; cases e213; have qi213 : (0 < t209.length) = True := eq_true (by omega); (try rw [show ((0 : Int)).toNat = 0 from rfl] at hx213_0); (try rw [Addr.add_zero'] at hx213_0); replace p213 := eq_true p213; replace q213 := eq_true q213; have p214 : 0 ≤ (2 : Int) := (by omega); have q214 : 2 < (t209.length : Int) := of_decide_eq_true (by first | (with_reducible assumption) | assumption); obtain ⟨ad214, e214, hx214_0⟩ := Kd.at_int (Kd.R_reads' HO211.out).2.2 2 p214 q214; obtain rfl : ad213 = ad214 := (by injection e214); (try simp only [show (2 : Int).toNat = 2 from rfl, Nat.reduceMul, Nat.reduceEqDiff, Go.Addr.add, ↓reduceIte] at hx214_0); have qi214 : (2 < t209.length) = True := eq_true (by omega); (try rw [show ((2 : Int)).toNat = 2 from rfl] at hx214_0); replace p214 := eq_true p214; replace q214 := eq_true q214))
              go_ret
              exact ⟨by first | rfl | (simp [errW_none, errW_some] <;> rfl) | (simp [*, errW_none, errW_some] <;> rfl), by repeat (first | (with_reducible first | exact HB.out | apply below_alloc | apply pw_below_drewN | apply below_drew1) | exact HB.out)⟩
          · rw [if_neg c6] at H
            exact absurd H (by simp)
        · rw [if_neg c5] at H
          have c5b0 : ((rd t209 0) == 6) = false := beq_eq_false_iff_ne.mpr c5
          have c5b1 : ((rd t209 0) != 6) = true := bne_iff_ne.mpr c5
          obtain rfl := Option.some.inj H
          go_enter Try.func35, Try.ntmps35
          go_wp2_with (first | ((with_reducible refine gate_callee (f := 29) rfl ?_); refine goesL_ (some 5) rfl rfl Try.func29 (by kernel_rfl) rfl #[.agg #[.int .i64 6, .int .i64 1, .int .i64 0, .int .i64 0, .int .i64 0, .int .i64 0, .int .i64 0, .int .i64 0, .int .i64 2]] rfl (by (try simp only [List.map_toArray, List.map_cons, List.map_nil]); first | done | rfl | (simp only [List.length_drop, List.length_take]; rfl)) ?_; (with_reducible refine (message_Encode.calls 6 1 0 0 0 0 0 0 2 t209 t212 _ A1.out).mono ?_); rintro e w14 ⟨v210, rfl, ho0, hb⟩; refine ⟨_, rfl, ?_⟩; have n0_ := Aside0.mk (Kd.R_lower ho0 (below_size (by repeat (first | (with_reducible first | exact HB.out | apply below_alloc | apply pw_below_drewN | apply below_drew1) | exact HB.out)))); have n1_ := Aside0.mk (below_step (by repeat (first | (with_reducible first | exact HB.out | apply below_alloc | apply pw_below_drewN | apply below_drew1) | exact HB.out)) hb); clear HB; have HO211 := n0_; have HB := n1_; clear n0_ n1_; (try clear hb); (try clear hb2); (try clear hk); (try clear hi); (try clear ho0); obtain ⟨Ao15, co15, eo15⟩ := Kd.R_slice HO211.out; subst eo15; have p213 : 0 ≤ (0 : Int) := (by omega); have q213 : 0 < (t209.length : Int) := of_decide_eq_true (by first | (with_reducible assumption) | assumption); obtain ⟨ad213, e213, hx213_0⟩ := Kd.at_int (Kd.R_reads' HO211.out).2.2 0 p213 q213; cases e213; have qi213 : (0 < t209.length) = True := eq_true (by omega); (try rw [show ((0 : Int)).toNat = 0 from rfl] at hx213_0); (try rw [Addr.add_zero'] at hx213_0); replace p213 := eq_true p213; replace q213 := eq_true q213))
          go_ret
          exact ⟨by first | rfl | (simp [errW_none, errW_some] <;> rfl) | (simp [*, errW_none, errW_some] <;> rfl), by repeat (first | (with_reducible first | exact HB.out | apply below_alloc | apply pw_below_drewN | apply below_drew1) | exact HB.out)⟩
      · rw [if_neg c4] at H
        exact absurd H (by simp)
    · rw [if_neg c3] at H
      have c3b0 : ((t209.length : Int) == 37) = false := beq_eq_false_iff_ne.mpr c3
      have c3b1 : ((t209.length : Int) != 37) = true := bne_iff_ne.mpr c3
      obtain rfl := Option.some.inj H
      go_enter Try.func35, Try.ntmps35
      go_wp2_with (first | ((with_reducible refine gate_callee (f := 29) rfl ?_); refine goesL_ (some 5) rfl rfl Try.func29 (by kernel_rfl) rfl #[.agg #[.int .i64 6, .int .i64 1, .int .i64 0, .int .i64 0, .int .i64 0, .int .i64 0, .int .i64 0, .int .i64 0, .int .i64 2]] rfl (by (try simp only [List.map_toArray, List.map_cons, List.map_nil]); first | done | rfl | (simp only [List.length_drop, List.length_take]; rfl)) ?_; (with_reducible refine (message_Encode.calls 6 1 0 0 0 0 0 0 2 t209 t212 _ A1.out).mono ?_); rintro e w16 ⟨v210, rfl, ho0, hb⟩; refine ⟨_, rfl, ?_⟩; have n0_ := Aside0.mk (Kd.R_lower ho0 (below_size (by repeat (first | (with_reducible first | exact HB.out | apply below_alloc | apply pw_below_drewN | apply below_drew1) | exact HB.out)))); have n1_ := Aside0.mk (below_step (by repeat (first | (with_reducible first | exact HB.out | apply below_alloc | apply pw_below_drewN | apply below_drew1) | exact HB.out)) hb); clear HB; have HO211 := n0_; have HB := n1_; clear n0_ n1_; (try clear hb); (try clear hb2); (try clear hk); (try clear hi); (try clear ho0); obtain ⟨Ao17, co17, eo17⟩ := Kd.R_slice HO211.out; subst eo17))
      go_ret
      exact ⟨by first | rfl | (simp [errW_none, errW_some] <;> rfl) | (simp [*, errW_none, errW_some] <;> rfl), by repeat (first | (with_reducible first | exact HB.out | apply below_alloc | apply pw_below_drewN | apply below_drew1) | exact HB.out)⟩
  · rw [if_neg c2] at H
    have c2b0 : (t212 == 0) = false := beq_eq_false_iff_ne.mpr c2
    have c2b1 : (t212 != 0) = true := bne_iff_ne.mpr c2
    obtain rfl := Option.some.inj H
    go_enter Try.func35, Try.ntmps35
    go_wp2_with (first | ((with_reducible refine gate_callee (f := 29) rfl ?_); refine goesL_ (some 5) rfl rfl Try.func29 (by kernel_rfl) rfl #[.agg #[.int .i64 6, .int .i64 1, .int .i64 0, .int .i64 0, .int .i64 0, .int .i64 0, .int .i64 0, .int .i64 0, .int .i64 2]] rfl (by (try simp only [List.map_toArray, List.map_cons, List.map_nil]); first | done | rfl | (simp only [List.length_drop, List.length_take]; rfl)) ?_; (with_reducible refine (message_Encode.calls 6 1 0 0 0 0 0 0 2 t209 t212 _ A1.out).mono ?_); rintro e w18 ⟨v210, rfl, ho0, hb⟩; refine ⟨_, rfl, ?_⟩; have n0_ := Aside0.mk (Kd.R_lower ho0 (below_size (by repeat (first | (with_reducible first | exact HB.out | apply below_alloc | apply pw_below_drewN | apply below_drew1) | exact HB.out)))); have n1_ := Aside0.mk (below_step (by repeat (first | (with_reducible first | exact HB.out | apply below_alloc | apply pw_below_drewN | apply below_drew1) | exact HB.out)) hb); clear HB; have HO211 := n0_; have HB := n1_; clear n0_ n1_; (try clear hb); (try clear hb2); (try clear hk); (try clear hi); (try clear ho0)))
    go_ret
    exact ⟨by first | rfl | (simp [errW_none, errW_some] <;> rfl) | (simp [*, errW_none, errW_some] <;> rfl), by repeat (first | (with_reducible first | exact HB.out | apply below_alloc | apply pw_below_drewN | apply below_drew1) | exact HB.out)⟩

end Go.Proofs.Ytalpemoodollpaa.P
-- Printed by hookprint.py (the session's own program, over the kit's print.py): checked by Lean like any text.
namespace Go.Proofs.Ytalpemoodollpaa.P
open Go.RowKit Go.Proofs.YtalpemoodollpaaW.PrintWords Go.Proofs.YtalpemoodollpaaW.PrintLast Go.Proofs.YtalpemoodollpaaW.PrintMore
attribute [local go_sem] max2_int min2_int max_two min_two max_three min_three max_four min_four   -- for this text's walks alone
set_option linter.unusedVariables false
set_option linter.unusedSimpArgs false

theorem eqA29 (d : Nat) (w : World) (x0 y0 : Int) (x1 y1 : Int) (x2 y2 : Int) (x3 y3 : Int) (x4 y4 : Int) (x5 y5 : Int) (x6 y6 : Int) (x7 y7 : Int) (x8 y8 : Int) :
    (Op.equalIn (d + 2) 29 (.agg #[.int .i64 x0, .int .i64 x1, .int .i64 x2, .int .i64 x3, .int .i64 x4, .int .i64 x5, .int .i64 x6, .int .i64 x7, .int .i64 x8]) (.agg #[.int .i64 y0, .int .i64 y1, .int .i64 y2, .int .i64 y3, .int .i64 y4, .int .i64 y5, .int .i64 y6, .int .i64 y7, .int .i64 y8])).run Try.prog w = .ok (x0 == y0 && (x1 == y1 && (x2 == y2 && (x3 == y3 && (x4 == y4 && (x5 == y5 && (x6 == y6 && (x7 == y7 && (x8 == y8))))))))) w := by
  refine eqA_of Try.underlying29 (by kernel_rfl) ?_
  refine eqf_cons (by rfl) (by go_simp; rfl) (by go_simp; rfl) (by go_simp) ?_
  refine eqf_cons (by rfl) (by go_simp; rfl) (by go_simp; rfl) (by go_simp) ?_
  refine eqf_cons (by rfl) (by go_simp; rfl) (by go_simp; rfl) (by go_simp) ?_
  refine eqf_cons (by rfl) (by go_simp; rfl) (by go_simp; rfl) (by go_simp) ?_
  refine eqf_cons (by rfl) (by go_simp; rfl) (by go_simp; rfl) (by go_simp) ?_
  refine eqf_cons (by rfl) (by go_simp; rfl) (by go_simp; rfl) (by go_simp) ?_
  refine eqf_cons (by rfl) (by go_simp; rfl) (by go_simp; rfl) (by go_simp) ?_
  refine eqf_cons (by rfl) (by go_simp; rfl) (by go_simp; rfl) (by go_simp) ?_
  exact eqf_last (by rfl) (by go_simp; rfl) (by go_simp; rfl) (by go_simp)
end Go.Proofs.Ytalpemoodollpaa.P
-- Printed by hookprint.py (the session's own program, over the kit's print.py): checked by Lean like any text.
namespace Go.Proofs.Ytalpemoodollpaa.P
open Go.RowKit Go.Proofs.YtalpemoodollpaaW.PrintWords Go.Proofs.YtalpemoodollpaaW.PrintLast Go.Proofs.YtalpemoodollpaaW.PrintMore
attribute [local go_sem] max2_int min2_int max_two min_two max_three min_three max_four min_four   -- for this text's walks alone
set_option linter.unusedVariables false
set_option linter.unusedSimpArgs false

attribute [local go_sem high] eqA29
/-! ### damperlaw06_MessageDecodes: function 18 -/
def damperlaw06_MessageDecodes.f (l0 : List Int) : Option (Bool) := if (l0.length : Int) > 200 then ((damperlaw06_alive.f).bind fun t666 => (some t666)) else ((message_Decode.f l0).bind fun bt667 => ((damperref06_Decode.f l0).bind fun bt678 => (if (bt667.1 == bt678.1 && (bt667.2.1 == bt678.2.1 && (bt667.2.2.1 == bt678.2.2.1 && (bt667.2.2.2.1 == bt678.2.2.2.1 && (bt667.2.2.2.2.1 == bt678.2.2.2.2.1 && (bt667.2.2.2.2.2.1 == bt678.2.2.2.2.2.1 && (bt667.2.2.2.2.2.2.1 == bt678.2.2.2.2.2.2.1 && (bt667.2.2.2.2.2.2.2.1 == bt678.2.2.2.2.2.2.2.1 && (bt667.2.2.2.2.2.2.2.2.1 == bt678.2.2.2.2.2.2.2.2.1))))))))) = true then (if bt667.2.2.2.2.2.2.2.2.2 = bt678.2.2.2.2.2.2.2.2.2 then ((damperlaw06_alive.f).bind fun t689 => (some t689)) else (some false)) else (some false))))
set_option maxHeartbeats 8000000 in
set_option maxRecDepth 100000 in
theorem damperlaw06_MessageDecodes.calls (A0 : Option Addr) (c0 : Nat) (l0 : List Int) (r : Bool) (w : World) (hr0 : Kd.C (Kd.int .u8) w A0 l0.length l0) (hc0 : l0.length ≤ c0) (h : damperlaw06_MessageDecodes.f l0 = some r) :
    Calls Try.prog 18 #[.slice A0 l0.length c0] w fun e w' => e = .returned (.bool r) ∧ Below w.heap.size w w' := by
  have hu29 := Try.underlying29
  have HR0 := Aside0.mk hr0
  have HC0 := Aside0.mk hc0
  clear hr0 hc0
  have HB := Aside0.mk (Below.refl w.heap.size w)
  have H : (if (l0.length : Int) > 200 then ((damperlaw06_alive.f).bind fun t666 => (some t666)) else ((message_Decode.f l0).bind fun bt667 => ((damperref06_Decode.f l0).bind fun bt678 => (if (bt667.1 == bt678.1 && (bt667.2.1 == bt678.2.1 && (bt667.2.2.1 == bt678.2.2.1 && (bt667.2.2.2.1 == bt678.2.2.2.1 && (bt667.2.2.2.2.1 == bt678.2.2.2.2.1 && (bt667.2.2.2.2.2.1 == bt678.2.2.2.2.2.1 && (bt667.2.2.2.2.2.2.1 == bt678.2.2.2.2.2.2.1 && (bt667.2.2.2.2.2.2.2.1 == bt678.2.2.2.2.2.2.2.1 && (bt667.2.2.2.2.2.2.2.2.1 == bt678.2.2.2.2.2.2.2.2.1))))))))) = true then (if bt667.2.2.2.2.2.2.2.2.2 = bt678.2.2.2.2.2.2.2.2.2 then ((damperlaw06_alive.f).bind fun t689 => (some t689)) else (some false)) else (some false))))) = some r := h
  clear h
  by_cases c2 : (l0.length : Int) > 200
  · rw [if_pos c2] at H
    have c2b0 : decide (200 < (l0.length : Int)) = true := decide_eq_true c2
    have c2b1 : decide (200 < l0.length) = true := decide_eq_true (by omega)
    clear c2
    replace H := Option.bind_eq_some_iff.mp H
    obtain ⟨t666, A30, H⟩ := H
    replace H : (some t666) = some r := H
    have A3 := Aside0.mk A30
    clear A30
    obtain rfl := Option.some.inj H
    go_enter Try.func18, Try.ntmps18
    go_wp2_with (first | ((with_reducible refine gate_callee (f := 35) rfl ?_); refine goesL_ (some 10) rfl rfl Try.func35 (by kernel_rfl) rfl #[] rfl (by (try simp only [List.map_toArray, List.map_cons, List.map_nil]); first | done | rfl | (simp only [List.length_drop, List.length_take]; rfl)) ?_; (with_reducible refine (damperlaw06_alive.calls  t666 _ A3.out).mono ?_); rintro e w4 ⟨rfl, hb⟩; refine ⟨_, rfl, ?_⟩; have n0_ := Aside0.mk (below_step (by repeat (first | (with_reducible first | exact HB.out | apply below_alloc | apply pw_below_drewN | apply below_drew1) | exact HB.out)) hb); clear HB; have HB := n0_; clear n0_; (try clear hb); (try clear hb2); (try clear hk); (try clear hi)))
    go_ret
    exact ⟨by first | rfl | (simp [errW_none, errW_some] <;> rfl) | (simp [*, errW_none, errW_some] <;> rfl), by repeat (first | (with_reducible first | exact HB.out | apply below_alloc | apply pw_below_drewN | apply below_drew1) | exact HB.out)⟩
  · rw [if_neg c2] at H
    have c2b0 : decide (200 < (l0.length : Int)) = false := decide_eq_false c2
    have c2b1 : decide (200 < l0.length) = false := decide_eq_false (by omega)
    clear c2
    replace H := Option.bind_eq_some_iff.mp H
    obtain ⟨⟨t667, t668, t669, t670, t671, t672, t673, t674, t675, t676⟩, A50, H⟩ := H
    replace H : ((damperref06_Decode.f l0).bind fun bt678 => (if (t667 == bt678.1 && (t668 == bt678.2.1 && (t669 == bt678.2.2.1 && (t670 == bt678.2.2.2.1 && (t671 == bt678.2.2.2.2.1 && (t672 == bt678.2.2.2.2.2.1 && (t673 == bt678.2.2.2.2.2.2.1 && (t674 == bt678.2.2.2.2.2.2.2.1 && (t675 == bt678.2.2.2.2.2.2.2.2.1))))))))) = true then (if t676 = bt678.2.2.2.2.2.2.2.2.2 then ((damperlaw06_alive.f).bind fun t689 => (some t689)) else (some false)) else (some false))) = some r := H
    have A5 := Aside0.mk A50
    clear A50
    replace H := Option.bind_eq_some_iff.mp H
    obtain ⟨⟨t678, t679, t680, t681, t682, t683, t684, t685, t686, t687⟩, A60, H⟩ := H
    replace H : (if (t667 == t678 && (t668 == t679 && (t669 == t680 && (t670 == t681 && (t671 == t682 && (t672 == t683 && (t673 == t684 && (t674 == t685 && (t675 == t686))))))))) = true then (if t676 = t687 then ((damperlaw06_alive.f).bind fun t689 => (some t689)) else (some false)) else (some false)) = some r := H
    have A6 := Aside0.mk A60
    clear A60
    by_cases c7 : (t667 == t678 && (t668 == t679 && (t669 == t680 && (t670 == t681 && (t671 == t682 && (t672 == t683 && (t673 == t684 && (t674 == t685 && (t675 == t686))))))))) = true
    · rw [if_pos c7] at H
      have c7b0 : (t667 == t678 && (t668 == t679 && (t669 == t680 && (t670 == t681 && (t671 == t682 && (t672 == t683 && (t673 == t684 && (t674 == t685 && (t675 == t686))))))))) = true := c7
      (try (have c7b1 : decide (t667 = t678 && (t668 == t679 && (t669 == t680 && (t670 == t681 && (t671 == t682 && (t672 == t683 && (t673 == t684 && (t674 == t685 && (t675 == t686))))))))) = true := by simpa using c7))
      (try (have c7b2 : (t667 == t678 && (t668 == t679 && (t669 == t680 && (t670 == t681 && (t671 == t682 && (t672 == t683 && (t673 == t684 && (t674 == t685 && (t675 == t686))))))))) = true := by simpa using c7))
      clear c7
      by_cases c8 : t676 = t687
      · rw [if_pos c8] at H
        have c8b0 : (t676 == t687) = true := beq_iff_eq.mpr c8
        have c8b1 : (t676 != t687) = false := bne_eq_false_iff_eq.mpr c8
        clear c8
        replace H := Option.bind_eq_some_iff.mp H
        obtain ⟨t689, A90, H⟩ := H
        replace H : (some t689) = some r := H
        have A9 := Aside0.mk A90
        clear A90
        obtain rfl := Option.some.inj H
        go_enter Try.func18, Try.ntmps18
        go_wp2_with (first | ((with_reducible refine gate_callee (f := 80) rfl ?_); refine goesL_ (some 13) rfl rfl Try.func80 (by kernel_rfl) rfl #[.slice A0 l0.length c0] rfl (by (try simp only [List.map_toArray, List.map_cons, List.map_nil]); first | done | rfl | (simp only [List.length_drop, List.length_take]; rfl)) ?_; (with_reducible refine (message_Decode.calls _ _ l0 t667 t668 t669 t670 t671 t672 t673 t674 t675 t676 _ ?side1 ?side2 A5.out).mono ?_); (case side1 => repeat (first | exact HR0.out | (with_reducible refine Kd.C_alloc ?_ _) | (with_reducible refine Kd.C_drewN ?_ _) | (with_reducible refine Kd.C_drew ?_))); (case side2 => exact HC0.out); rintro e w10 ⟨rfl, hb⟩; refine ⟨_, rfl, ?_⟩; have n0_ := Aside0.mk (below_step (by repeat (first | (with_reducible first | exact HB.out | apply below_alloc | apply pw_below_drewN | apply below_drew1) | exact HB.out)) hb); clear HB; have HB := n0_; clear n0_; (try clear hb); (try clear hb2); (try clear hk); (try clear hi)) | ((with_reducible refine gate_dst (N := 3) rfl ?_); refine box_event ?hg (N := 3) ?hd (cs := #[.int .i64 0, .int .i64 0, .int .i64 0, .int .i64 0, .int .i64 0, .int .i64 0, .int .i64 0, .int .i64 0, .int .i64 0]) (t := 29) ?hr ?_; (case hd => rfl); (case hg => rfl); (case hr => first | (go_simp; done) | (go_simp; rfl)); intro gb677 hg w11 hbox hb; have n0_ := Aside0.mk (below_step (by repeat (first | (with_reducible first | exact HB.out | apply below_alloc | apply pw_below_drewN | apply below_drew1) | exact HB.out)) hb); have n1_ := Aside0.mk (hbox); have n2_ := Aside0.mk ((by rw [hg]; exact (below_size (by repeat (first | (with_reducible first | exact HB.out | apply below_alloc | apply pw_below_drewN | apply below_drew1) | exact HB.out))) : w.heap.size ≤ gb677)); have n3_ := Aside0.mk ((by rw [hg]; exact (below_size (by repeat (first | (with_reducible first | exact HB.out | apply below_alloc | apply pw_below_drewN | apply below_drew1) | exact HB.out))) : w.heap.size ≤ gb677)); clear HB; have HB := n0_; have BK677 := n1_; have GW677 := n2_; have GE677 := n3_; clear n0_ n1_ n2_ n3_; clear hb hbox hg; have hcz12_0 : w11.cell? ⟨gb677, 0, none⟩ = some (.int .i64 0) := (blk_cell BK677.out 0).trans rfl; have hcz12_1 : w11.cell? ⟨gb677, 1, none⟩ = some (.int .i64 0) := (blk_cell BK677.out 1).trans rfl; have hcz12_2 : w11.cell? ⟨gb677, 2, none⟩ = some (.int .i64 0) := (blk_cell BK677.out 2).trans rfl; have hcz12_3 : w11.cell? ⟨gb677, 3, none⟩ = some (.int .i64 0) := (blk_cell BK677.out 3).trans rfl; have hcz12_4 : w11.cell? ⟨gb677, 4, none⟩ = some (.int .i64 0) := (blk_cell BK677.out 4).trans rfl; have hcz12_5 : w11.cell? ⟨gb677, 5, none⟩ = some (.int .i64 0) := (blk_cell BK677.out 5).trans rfl; have hcz12_6 : w11.cell? ⟨gb677, 6, none⟩ = some (.int .i64 0) := (blk_cell BK677.out 6).trans rfl; have hcz12_7 : w11.cell? ⟨gb677, 7, none⟩ = some (.int .i64 0) := (blk_cell BK677.out 7).trans rfl; have hcz12_8 : w11.cell? ⟨gb677, 8, none⟩ = some (.int .i64 0) := (blk_cell BK677.out 8).trans rfl; have hfz12_0 := blk_frozen BK677.out 0; have hfz12_1 := blk_frozen BK677.out 1; have hfz12_2 := blk_frozen BK677.out 2; have hfz12_3 := blk_frozen BK677.out 3; have hfz12_4 := blk_frozen BK677.out 4; have hfz12_5 := blk_frozen BK677.out 5; have hfz12_6 := blk_frozen BK677.out 6; have hfz12_7 := blk_frozen BK677.out 7; have hfz12_8 := blk_frozen BK677.out 8) | ((with_reducible refine gate_callee (f := 81) rfl ?_); refine goesL_ (some 18) rfl rfl Try.func81 (by kernel_rfl) rfl #[.slice A0 l0.length c0] rfl (by (try simp only [List.map_toArray, List.map_cons, List.map_nil]); first | done | rfl | (simp only [List.length_drop, List.length_take]; rfl)) ?_; (with_reducible refine (damperref06_Decode.calls _ _ l0 t678 t679 t680 t681 t682 t683 t684 t685 t686 t687 _ ?side1 ?side2 A6.out).mono ?_); (case side1 => exact Kd.C_below HR0.out (by repeat (first | (with_reducible first | exact HB.out | apply below_alloc | apply pw_below_drewN | apply below_drew1 | refine below_set ?_ GE677.out) | exact HB.out))); (case side2 => exact HC0.out); rintro e w13 ⟨rfl, hb⟩; refine ⟨_, rfl, ?_⟩; have n0_ := Aside0.mk (blk_below (g := gb677) (o := .cells #[.int .i64 t667, .int .i64 t668, .int .i64 t669, .int .i64 t670, .int .i64 t671, .int .i64 t672, .int .i64 t673, .int .i64 t674, .int .i64 t675] 29 (0, 0)) (by (with_reducible repeat (first | refine blk_drewN ?_ _ | refine blk_drew ?_ | refine blk_alloc ?_ _)); refine blk_put (cs := #[.int .i64 t667, .int .i64 t668, .int .i64 t669, .int .i64 t670, .int .i64 t671, .int .i64 t672, .int .i64 t673, .int .i64 t674, .int .i64 0]) ?_ 8 _ rfl; (with_reducible repeat (first | refine blk_drewN ?_ _ | refine blk_drew ?_ | refine blk_alloc ?_ _)); refine blk_put (cs := #[.int .i64 t667, .int .i64 t668, .int .i64 t669, .int .i64 t670, .int .i64 t671, .int .i64 t672, .int .i64 t673, .int .i64 0, .int .i64 0]) ?_ 7 _ rfl; (with_reducible repeat (first | refine blk_drewN ?_ _ | refine blk_drew ?_ | refine blk_alloc ?_ _)); refine blk_put (cs := #[.int .i64 t667, .int .i64 t668, .int .i64 t669, .int .i64 t670, .int .i64 t671, .int .i64 t672, .int .i64 0, .int .i64 0, .int .i64 0]) ?_ 6 _ rfl; (with_reducible repeat (first | refine blk_drewN ?_ _ | refine blk_drew ?_ | refine blk_alloc ?_ _)); refine blk_put (cs := #[.int .i64 t667, .int .i64 t668, .int .i64 t669, .int .i64 t670, .int .i64 t671, .int .i64 0, .int .i64 0, .int .i64 0, .int .i64 0]) ?_ 5 _ rfl; (with_reducible repeat (first | refine blk_drewN ?_ _ | refine blk_drew ?_ | refine blk_alloc ?_ _)); refine blk_put (cs := #[.int .i64 t667, .int .i64 t668, .int .i64 t669, .int .i64 t670, .int .i64 0, .int .i64 0, .int .i64 0, .int .i64 0, .int .i64 0]) ?_ 4 _ rfl; (with_reducible repeat (first | refine blk_drewN ?_ _ | refine blk_drew ?_ | refine blk_alloc ?_ _)); refine blk_put (cs := #[.int .i64 t667, .int .i64 t668, .int .i64 t669, .int .i64 0, .int .i64 0, .int .i64 0, .int .i64 0, .int .i64 0, .int .i64 0]) ?_ 3 _ rfl; (with_reducible repeat (first | refine blk_drewN ?_ _ | refine blk_drew ?_ | refine blk_alloc ?_ _)); refine blk_put (cs := #[.int .i64 t667, .int .i64 t668, .int .i64 0, .int .i64 0, .int .i64 0, .int .i64 0, .int .i64 0, .int .i64 0, .int .i64 0]) ?_ 2 _ rfl; (with_reducible repeat (first | refine blk_drewN ?_ _ | refine blk_drew ?_ | refine blk_alloc ?_ _)); refine blk_put (cs := #[.int .i64 t667, .int .i64 0, .int .i64 0, .int .i64 0, .int .i64 0, .int .i64 0, .int .i64 0, .int .i64 0, .int .i64 0]) ?_ 1 _ rfl; (with_reducible repeat (first | refine blk_drewN ?_ _ | refine blk_drew ?_ | refine blk_alloc ?_ _)); refine blk_put (cs := #[.int .i64 0, .int .i64 0, .int .i64 0, .int .i64 0, .int .i64 0, .int .i64 0, .int .i64 0, .int .i64 0, .int .i64 0]) ?_ 0 _ rfl; (with_reducible repeat (first | refine blk_drewN ?_ _ | refine blk_drew ?_ | refine blk_alloc ?_ _)); exact BK677.out) hb); have n1_ := Aside0.mk (below_step (by repeat (first | (with_reducible first | exact HB.out | apply below_alloc | apply pw_below_drewN | apply below_drew1 | refine below_set ?_ GE677.out) | exact HB.out)) hb); clear BK677; clear HB; have BK677 := n0_; have HB := n1_; clear n0_ n1_; (try clear hb); (try clear hb2); (try clear hk); (try clear hi)) | ((with_reducible refine gate_dst (N := 5) rfl ?_); refine box_event ?hg (N := 5) ?hd (cs := #[.int .i64 0, .int .i64 0, .int .i64 0, .int .i64 0, .int .i64 0, .int .i64 0, .int .i64 0, .int .i64 0, .int .i64 0]) (t := 29) ?hr ?_; (case hd => rfl); (case hg => rfl); (case hr => first | (go_simp; done) | (go_simp; rfl)); intro gb688 hg w14 hbox hb; have n0_ := Aside0.mk (blk_below (g := gb677) (o := .cells #[.int .i64 t667, .int .i64 t668, .int .i64 t669, .int .i64 t670, .int .i64 t671, .int .i64 t672, .int .i64 t673, .int .i64 t674, .int .i64 t675] 29 (0, 0)) (by (with_reducible repeat (first | refine blk_drewN ?_ _ | refine blk_drew ?_ | refine blk_alloc ?_ _)); exact BK677.out) hb); have n1_ := Aside0.mk (below_step (by repeat (first | (with_reducible first | exact HB.out | apply below_alloc | apply pw_below_drewN | apply below_drew1 | refine below_set ?_ GE677.out) | exact HB.out)) hb); have n2_ := Aside0.mk (hbox); have n3_ := Aside0.mk ((by rw [hg]; exact (below_size (by repeat (first | (with_reducible first | exact HB.out | apply below_alloc | apply pw_below_drewN | apply below_drew1 | refine below_set ?_ GE677.out) | exact HB.out))) : w.heap.size ≤ gb688)); have n4_ := Aside0.mk ((by rw [hg]; exact (below_size (by repeat (first | (with_reducible first | exact HB.out | apply below_alloc | apply pw_below_drewN | apply below_drew1 | refine below_set ?_ GE677.out) | exact HB.out))) : w.heap.size ≤ gb688)); have n5_ := Aside0.mk ((by rw [hg]; exact Nat.ne_of_lt (blk_lt (g := gb677) (o := .cells #[.int .i64 t667, .int .i64 t668, .int .i64 t669, .int .i64 t670, .int .i64 t671, .int .i64 t672, .int .i64 t673, .int .i64 t674, .int .i64 t675] 29 (0, 0)) (by (with_reducible repeat (first | refine blk_drewN ?_ _ | refine blk_drew ?_ | refine blk_alloc ?_ _)); exact BK677.out)) : gb677 ≠ gb688)); have n6_ := Aside0.mk ((by rw [hg]; exact Nat.ne_of_gt (blk_lt (g := gb677) (o := .cells #[.int .i64 t667, .int .i64 t668, .int .i64 t669, .int .i64 t670, .int .i64 t671, .int .i64 t672, .int .i64 t673, .int .i64 t674, .int .i64 t675] 29 (0, 0)) (by (with_reducible repeat (first | refine blk_drewN ?_ _ | refine blk_drew ?_ | refine blk_alloc ?_ _)); exact BK677.out)) : gb688 ≠ gb677)); clear BK677; clear HB; have BK677 := n0_; have HB := n1_; have BK688 := n2_; have GW688 := n3_; have GE688 := n4_; have NB677_688 := n5_; have NB688_677 := n6_; clear n0_ n1_ n2_ n3_ n4_ n5_ n6_; clear hb hbox hg; have hnb15 := NB688_677.out; have hnc15 := NB677_688.out; have hcz16_0 : w14.cell? ⟨gb688, 0, none⟩ = some (.int .i64 0) := (blk_cell BK688.out 0).trans rfl; have hcz16_1 : w14.cell? ⟨gb688, 1, none⟩ = some (.int .i64 0) := (blk_cell BK688.out 1).trans rfl; have hcz16_2 : w14.cell? ⟨gb688, 2, none⟩ = some (.int .i64 0) := (blk_cell BK688.out 2).trans rfl; have hcz16_3 : w14.cell? ⟨gb688, 3, none⟩ = some (.int .i64 0) := (blk_cell BK688.out 3).trans rfl; have hcz16_4 : w14.cell? ⟨gb688, 4, none⟩ = some (.int .i64 0) := (blk_cell BK688.out 4).trans rfl; have hcz16_5 : w14.cell? ⟨gb688, 5, none⟩ = some (.int .i64 0) := (blk_cell BK688.out 5).trans rfl; have hcz16_6 : w14.cell? ⟨gb688, 6, none⟩ = some (.int .i64 0) := (blk_cell BK688.out 6).trans rfl; have hcz16_7 : w14.cell? ⟨gb688, 7, none⟩ = some (.int .i64 0) := (blk_cell BK688.out 7).trans rfl; have hcz16_8 : w14.cell? ⟨gb688, 8, none⟩ = some (.int .i64 0) := (blk_cell BK688.out 8).trans rfl; have hfz16_0 := blk_frozen BK688.out 0; have hfz16_1 := blk_frozen BK688.out 1; have hfz16_2 := blk_frozen BK688.out 2; have hfz16_3 := blk_frozen BK688.out 3; have hfz16_4 := blk_frozen BK688.out 4; have hfz16_5 := blk_frozen BK688.out 5; have hfz16_6 := blk_frozen BK688.out 6; have hfz16_7 := blk_frozen BK688.out 7; have hfz16_8 := blk_frozen BK688.out 8; have hcz17_0 : w14.cell? ⟨gb677, 0, none⟩ = some (.int .i64 t667) := (blk_cell BK677.out 0).trans rfl; have hcz17_1 : w14.cell? ⟨gb677, 1, none⟩ = some (.int .i64 t668) := (blk_cell BK677.out 1).trans rfl; have hcz17_2 : w14.cell? ⟨gb677, 2, none⟩ = some (.int .i64 t669) := (blk_cell BK677.out 2).trans rfl; have hcz17_3 : w14.cell? ⟨gb677, 3, none⟩ = some (.int .i64 t670) := (blk_cell BK677.out 3).trans rfl; have hcz17_4 : w14.cell? ⟨gb677, 4, none⟩ = some (.int .i64 t671) := (blk_cell BK677.out 4).trans rfl; have hcz17_5 : w14.cell? ⟨gb677, 5, none⟩ = some (.int .i64 t672) := (blk_cell BK677.out 5).trans rfl; have hcz17_6 : w14.cell? ⟨gb677, 6, none⟩ = some (.int .i64 t673) := (blk_cell BK677.out 6).trans rfl; have hcz17_7 : w14.cell? ⟨gb677, 7, none⟩ = some (.int .i64 t674) := (blk_cell BK677.out 7).trans rfl; have hcz17_8 : w14.cell? ⟨gb677, 8, none⟩ = some (.int .i64 t675) := (blk_cell BK677.out 8).trans rfl; have hfz17_0 := blk_frozen BK677.out 0; have hfz17_1 := blk_frozen BK677.out 1; have hfz17_2 := blk_frozen BK677.out 2; have hfz17_3 := blk_frozen BK677.out 3; have hfz17_4 := blk_frozen BK677.out 4; have hfz17_5 := blk_frozen BK677.out 5; have hfz17_6 := blk_frozen BK677.out 6; have hfz17_7 := blk_frozen BK677.out 7; have hfz17_8 := blk_frozen BK677.out 8) | (go_at_call 35; (with_reducible refine (damperlaw06_alive.calls  t689 _ A9.out).mono ?_); rintro e w18 ⟨rfl, hb⟩; have n0_ := Aside0.mk (blk_below (g := gb677) (o := .cells #[.int .i64 t667, .int .i64 t668, .int .i64 t669, .int .i64 t670, .int .i64 t671, .int .i64 t672, .int .i64 t673, .int .i64 t674, .int .i64 t675] 29 (0, 0)) (by (with_reducible repeat (first | refine blk_drewN ?_ _ | refine blk_drew ?_ | refine blk_alloc ?_ _)); refine blk_far ?_ NB677_688.out _; (with_reducible repeat (first | refine blk_drewN ?_ _ | refine blk_drew ?_ | refine blk_alloc ?_ _)); refine blk_far ?_ NB677_688.out _; (with_reducible repeat (first | refine blk_drewN ?_ _ | refine blk_drew ?_ | refine blk_alloc ?_ _)); refine blk_far ?_ NB677_688.out _; (with_reducible repeat (first | refine blk_drewN ?_ _ | refine blk_drew ?_ | refine blk_alloc ?_ _)); refine blk_far ?_ NB677_688.out _; (with_reducible repeat (first | refine blk_drewN ?_ _ | refine blk_drew ?_ | refine blk_alloc ?_ _)); refine blk_far ?_ NB677_688.out _; (with_reducible repeat (first | refine blk_drewN ?_ _ | refine blk_drew ?_ | refine blk_alloc ?_ _)); refine blk_far ?_ NB677_688.out _; (with_reducible repeat (first | refine blk_drewN ?_ _ | refine blk_drew ?_ | refine blk_alloc ?_ _)); refine blk_far ?_ NB677_688.out _; (with_reducible repeat (first | refine blk_drewN ?_ _ | refine blk_drew ?_ | refine blk_alloc ?_ _)); refine blk_far ?_ NB677_688.out _; (with_reducible repeat (first | refine blk_drewN ?_ _ | refine blk_drew ?_ | refine blk_alloc ?_ _)); refine blk_far ?_ NB677_688.out _; (with_reducible repeat (first | refine blk_drewN ?_ _ | refine blk_drew ?_ | refine blk_alloc ?_ _)); exact BK677.out) hb); have n1_ := Aside0.mk (blk_below (g := gb688) (o := .cells #[.int .i64 t678, .int .i64 t679, .int .i64 t680, .int .i64 t681, .int .i64 t682, .int .i64 t683, .int .i64 t684, .int .i64 t685, .int .i64 t686] 29 (0, 0)) (by (with_reducible repeat (first | refine blk_drewN ?_ _ | refine blk_drew ?_ | refine blk_alloc ?_ _)); refine blk_put (cs := #[.int .i64 t678, .int .i64 t679, .int .i64 t680, .int .i64 t681, .int .i64 t682, .int .i64 t683, .int .i64 t684, .int .i64 t685, .int .i64 0]) ?_ 8 _ rfl; (with_reducible repeat (first | refine blk_drewN ?_ _ | refine blk_drew ?_ | refine blk_alloc ?_ _)); refine blk_put (cs := #[.int .i64 t678, .int .i64 t679, .int .i64 t680, .int .i64 t681, .int .i64 t682, .int .i64 t683, .int .i64 t684, .int .i64 0, .int .i64 0]) ?_ 7 _ rfl; (with_reducible repeat (first | refine blk_drewN ?_ _ | refine blk_drew ?_ | refine blk_alloc ?_ _)); refine blk_put (cs := #[.int .i64 t678, .int .i64 t679, .int .i64 t680, .int .i64 t681, .int .i64 t682, .int .i64 t683, .int .i64 0, .int .i64 0, .int .i64 0]) ?_ 6 _ rfl; (with_reducible repeat (first | refine blk_drewN ?_ _ | refine blk_drew ?_ | refine blk_alloc ?_ _)); refine blk_put (cs := #[.int .i64 t678, .int .i64 t679, .int .i64 t680, .int .i64 t681, .int .i64 t682, .int .i64 0, .int .i64 0, .int .i64 0, .int .i64 0]) ?_ 5 _ rfl; (with_reducible repeat (first | refine blk_drewN ?_ _ | refine blk_drew ?_ | refine blk_alloc ?_ _)); refine blk_put (cs := #[.int .i64 t678, .int .i64 t679, .int .i64 t680, .int .i64 t681, .int .i64 0, .int .i64 0, .int .i64 0, .int .i64 0, .int .i64 0]) ?_ 4 _ rfl; (with_reducible repeat (first | refine blk_drewN ?_ _ | refine blk_drew ?_ | refine blk_alloc ?_ _)); refine blk_put (cs := #[.int .i64 t678, .int .i64 t679, .int .i64 t680, .int .i64 0, .int .i64 0, .int .i64 0, .int .i64 0, .int .i64 0, .int .i64 0]) ?_ 3 _ rfl; (with_reducible repeat (first | refine blk_drewN ?_ _ | refine blk_drew ?_ | refine blk_alloc ?_ _)); refine blk_put (cs := #[.int .i64 t678, .int .i64 t679, .int .i64 0, .int .i64 0, .int .i64 0, .int .i64 0, .int .i64 0, .int .i64 0, .int .i64 0]) ?_ 2 _ rfl; (with_reducible repeat (first | refine blk_drewN ?_ _ | refine blk_drew ?_ | refine blk_alloc ?_ _)); refine blk_put (cs := #[.int .i64 t678, .int .i64 0, .int .i64 0, .int .i64 0, .int .i64 0, .int .i64 0, .int .i64 0, .int .i64 0, .int .i64 0]) ?_ 1 _ rfl; (with_reducible repeat (first | refine blk_drewN ?_ _ | refine blk_drew ?_ | refine blk_alloc ?_ _)); refine blk_put (cs := #[.int .i64 0, .int .i64 0, .int .i64 0, .int .i64 0, .int .i64 0, .int .i64 0, .int .i64 0, .int .i64 0, .int .i64 0]) ?_ 0 _ rfl; (with_reducible repeat (first | refine blk_drewN ?_ _ | refine blk_drew ?_ | refine blk_alloc ?_ _)); exact BK688.out) hb); have n2_ := Aside0.mk (below_step (by repeat (first | (with_reducible first | exact HB.out | apply below_alloc | apply pw_below_drewN | apply below_drew1 | refine below_set ?_ GE677.out | refine below_set ?_ GE688.out) | exact HB.out)) hb); clear BK677; clear BK688; clear HB; have BK677 := n0_; have BK688 := n1_; have HB := n2_; clear n0_ n1_ n2_; (try clear hb); (try clear hb2); (try clear hk); (try clear hi)))
        go_ret
        exact ⟨by first | rfl | (simp [errW_none, errW_some] <;> rfl) | (simp [*, errW_none, errW_some] <;> rfl), by repeat (first | (with_reducible first | exact HB.out | apply below_alloc | apply pw_below_drewN | apply below_drew1 | refine below_set ?_ GE677.out | refine below_set ?_ GE688.out) | exact HB.out)⟩
      · rw [if_neg c8] at H
        have c8b0 : (t676 == t687) = false := beq_eq_false_iff_ne.mpr c8
        have c8b1 : (t676 != t687) = true := bne_iff_ne.mpr c8
        obtain rfl := Option.some.inj H
        go_enter Try.func18, Try.ntmps18
        go_wp2_with (first | ((with_reducible refine gate_callee (f := 80) rfl ?_); refine goesL_ (some 13) rfl rfl Try.func80 (by kernel_rfl) rfl #[.slice A0 l0.length c0] rfl (by (try simp only [List.map_toArray, List.map_cons, List.map_nil]); first | done | rfl | (simp only [List.length_drop, List.length_take]; rfl)) ?_; (with_reducible refine (message_Decode.calls _ _ l0 t667 t668 t669 t670 t671 t672 t673 t674 t675 t676 _ ?side1 ?side2 A5.out).mono ?_); (case side1 => repeat (first | exact HR0.out | (with_reducible refine Kd.C_alloc ?_ _) | (with_reducible refine Kd.C_drewN ?_ _) | (with_reducible refine Kd.C_drew ?_))); (case side2 => exact HC0.out); rintro e w19 ⟨rfl, hb⟩; refine ⟨_, rfl, ?_⟩; have n0_ := Aside0.mk (below_step (by repeat (first | (with_reducible first | exact HB.out | apply below_alloc | apply pw_below_drewN | apply below_drew1) | exact HB.out)) hb); clear HB; have HB := n0_; clear n0_; (try clear hb); (try clear hb2); (try clear hk); (try clear hi)) | ((with_reducible refine gate_dst (N := 3) rfl ?_); refine box_event ?hg (N := 3) ?hd (cs := #[.int .i64 0, .int .i64 0, .int .i64 0, .int .i64 0, .int .i64 0, .int .i64 0, .int .i64 0, .int .i64 0, .int .i64 0]) (t := 29) ?hr ?_; (case hd => rfl); (case hg => rfl); (case hr => first | (go_simp; done) | (go_simp; rfl)); intro gb677 hg w20 hbox hb; have n0_ := Aside0.mk (below_step (by repeat (first | (with_reducible first | exact HB.out | apply below_alloc | apply pw_below_drewN | apply below_drew1) | exact HB.out)) hb); have n1_ := Aside0.mk (hbox); have n2_ := Aside0.mk ((by rw [hg]; exact (below_size (by repeat (first | (with_reducible first | exact HB.out | apply below_alloc | apply pw_below_drewN | apply below_drew1) | exact HB.out))) : w.heap.size ≤ gb677)); have n3_ := Aside0.mk ((by rw [hg]; exact (below_size (by repeat (first | (with_reducible first | exact HB.out | apply below_alloc | apply pw_below_drewN | apply below_drew1) | exact HB.out))) : w.heap.size ≤ gb677)); clear HB; have HB := n0_; have BK677 := n1_; have GW677 := n2_; have GE677 := n3_; clear n0_ n1_ n2_ n3_; clear hb hbox hg; have hcz21_0 : w20.cell? ⟨gb677, 0, none⟩ = some (.int .i64 0) := (blk_cell BK677.out 0).trans rfl; have hcz21_1 : w20.cell? ⟨gb677, 1, none⟩ = some (.int .i64 0) := (blk_cell BK677.out 1).trans rfl; have hcz21_2 : w20.cell? ⟨gb677, 2, none⟩ = some (.int .i64 0) := (blk_cell BK677.out 2).trans rfl; have hcz21_3 : w20.cell? ⟨gb677, 3, none⟩ = some (.int .i64 0) := (blk_cell BK677.out 3).trans rfl; have hcz21_4 : w20.cell? ⟨gb677, 4, none⟩ = some (.int .i64 0) := (blk_cell BK677.out 4).trans rfl; have hcz21_5 : w20.cell? ⟨gb677, 5, none⟩ = some (.int .i64 0) := (blk_cell BK677.out 5).trans rfl; have hcz21_6 : w20.cell? ⟨gb677, 6, none⟩ = some (.int .i64 0) := (blk_cell BK677.out 6).trans rfl; have hcz21_7 : w20.cell? ⟨gb677, 7, none⟩ = some (.int .i64 0) := (blk_cell BK677.out 7).trans rfl; have hcz21_8 : w20.cell? ⟨gb677, 8, none⟩ = some (.int .i64 0) := (blk_cell BK677.out 8).trans rfl; have hfz21_0 := blk_frozen BK677.out 0; have hfz21_1 := blk_frozen BK677.out 1; have hfz21_2 := blk_frozen BK677.out 2; have hfz21_3 := blk_frozen BK677.out 3; have hfz21_4 := blk_frozen BK677.out 4; have hfz21_5 := blk_frozen BK677.out 5; have hfz21_6 := blk_frozen BK677.out 6; have hfz21_7 := blk_frozen BK677.out 7; have hfz21_8 := blk_frozen BK677.out 8) | ((with_reducible refine gate_callee (f := 81) rfl ?_); refine goesL_ (some 18) rfl rfl Try.func81 (by kernel_rfl) rfl #[.slice A0 l0.length c0] rfl (by (try simp only [List.map_toArray, List.map_cons, List.map_nil]); first | done | rfl | (simp only [List.length_drop, List.length_take]; rfl)) ?_; (with_reducible refine (damperref06_Decode.calls _ _ l0 t678 t679 t680 t681 t682 t683 t684 t685 t686 t687 _ ?side1 ?side2 A6.out).mono ?_); (case side1 => exact Kd.C_below HR0.out (by repeat (first | (with_reducible first | exact HB.out | apply below_alloc | apply pw_below_drewN | apply below_drew1 | refine below_set ?_ GE677.out) | exact HB.out))); (case side2 => exact HC0.out); rintro e w22 ⟨rfl, hb⟩; refine ⟨_, rfl, ?_⟩; have n0_ := Aside0.mk (blk_below (g := gb677) (o := .cells #[.int .i64 t667, .int .i64 t668, .int .i64 t669, .int .i64 t670, .int .i64 t671, .int .i64 t672, .int .i64 t673, .int .i64 t674, .int .i64 t675] 29 (0, 0)) (by (with_reducible repeat (first | refine blk_drewN ?_ _ | refine blk_drew ?_ | refine blk_alloc ?_ _)); refine blk_put (cs := #[.int .i64 t667, .int .i64 t668, .int .i64 t669, .int .i64 t670, .int .i64 t671, .int .i64 t672, .int .i64 t673, .int .i64 t674, .int .i64 0]) ?_ 8 _ rfl; (with_reducible repeat (first | refine blk_drewN ?_ _ | refine blk_drew ?_ | refine blk_alloc ?_ _)); refine blk_put (cs := #[.int .i64 t667, .int .i64 t668, .int .i64 t669, .int .i64 t670, .int .i64 t671, .int .i64 t672, .int .i64 t673, .int .i64 0, .int .i64 0]) ?_ 7 _ rfl; (with_reducible repeat (first | refine blk_drewN ?_ _ | refine blk_drew ?_ | refine blk_alloc ?_ _)); refine blk_put (cs := #[.int .i64 t667, .int .i64 t668, .int .i64 t669, .int .i64 t670, .int .i64 t671, .int .i64 t672, .int .i64 0, .int .i64 0, .int .i64 0]) ?_ 6 _ rfl; (with_reducible repeat (first | refine blk_drewN ?_ _ | refine blk_drew ?_ | refine blk_alloc ?_ _)); refine blk_put (cs := #[.int .i64 t667, .int .i64 t668, .int .i64 t669, .int .i64 t670, .int .i64 t671, .int .i64 0, .int .i64 0, .int .i64 0, .int .i64 0]) ?_ 5 _ rfl; (with_reducible repeat (first | refine blk_drewN ?_ _ | refine blk_drew ?_ | refine blk_alloc ?_ _)); refine blk_put (cs := #[.int .i64 t667, .int .i64 t668, .int .i64 t669, .int .i64 t670, .int .i64 0, .int .i64 0, .int .i64 0, .int .i64 0, .int .i64 0]) ?_ 4 _ rfl; (with_reducible repeat (first | refine blk_drewN ?_ _ | refine blk_drew ?_ | refine blk_alloc ?_ _)); refine blk_put (cs := #[.int .i64 t667, .int .i64 t668, .int .i64 t669, .int .i64 0, .int .i64 0, .int .i64 0, .int .i64 0, .int .i64 0, .int .i64 0]) ?_ 3 _ rfl; (with_reducible repeat (first | refine blk_drewN ?_ _ | refine blk_drew ?_ | refine blk_alloc ?_ _)); refine blk_put (cs := #[.int .i64 t667, .int .i64 t668, .int .i64 0, .int .i64 0, .int .i64 0, .int .i64 0, .int .i64 0, .int .i64 0, .int .i64 0]) ?_ 2 _ rfl; (with_reducible repeat (first | refine blk_drewN ?_ _ | refine blk_drew ?_ | refine blk_alloc ?_ _)); refine blk_put (cs := #[.int .i64 t667, .int .i64 0, .int .i64 0, .int .i64 0, .int .i64 0, .int .i64 0, .int .i64 0, .int .i64 0, .int .i64 0]) ?_ 1 _ rfl; (with_reducible repeat (first | refine blk_drewN ?_ _ | refine blk_drew ?_ | refine blk_alloc ?_ _)); refine blk_put (cs := #[.int .i64 0, .int .i64 0, .int .i64 0, .int .i64 0, .int .i64 0, .int .i64 0, .int .i64 0, .int .i64 0, .int .i64 0]) ?_ 0 _ rfl; (with_reducible repeat (first | refine blk_drewN ?_ _ | refine blk_drew ?_ | refine blk_alloc ?_ _)); exact BK677.out) hb); have n1_ := Aside0.mk (below_step (by repeat (first | (with_reducible first | exact HB.out | apply below_alloc | apply pw_below_drewN | apply below_drew1 | refine below_set ?_ GE677.out) | exact HB.out)) hb); clear BK677; clear HB; have BK677 := n0_; have HB := n1_; clear n0_ n1_; (try clear hb); (try clear hb2); (try clear hk); (try clear hi)) | ((with_reducible refine gate_dst (N := 5) rfl ?_); refine box_event ?hg (N := 5) ?hd (cs := #[.int .i64 0, .int .i64 0, .int .i64 0, .int .i64 0, .int .i64 0, .int .i64 0, .int .i64 0, .int .i64 0, .int .i64 0]) (t := 29) ?hr ?_; (case hd => rfl); (case hg => rfl); (case hr => first | (go_simp; done) | (go_simp; rfl)); intro gb688 hg w23 hbox hb; have n0_ := Aside0.mk (blk_below (g := gb677) (o := .cells #[.int .i64 t667, .int .i64 t668, .int .i64 t669, .int .i64 t670, .int .i64 t671, .int .i64 t672, .int .i64 t673, .int .i64 t674, .int .i64 t675] 29 (0, 0)) (by (with_reducible repeat (first | refine blk_drewN ?_ _ | refine blk_drew ?_ | refine blk_alloc ?_ _)); exact BK677.out) hb); have n1_ := Aside0.mk (below_step (by repeat (first | (with_reducible first | exact HB.out | apply below_alloc | apply pw_below_drewN | apply below_drew1 | refine below_set ?_ GE677.out) | exact HB.out)) hb); have n2_ := Aside0.mk (hbox); have n3_ := Aside0.mk ((by rw [hg]; exact (below_size (by repeat (first | (with_reducible first | exact HB.out | apply below_alloc | apply pw_below_drewN | apply below_drew1 | refine below_set ?_ GE677.out) | exact HB.out))) : w.heap.size ≤ gb688)); have n4_ := Aside0.mk ((by rw [hg]; exact (below_size (by repeat (first | (with_reducible first | exact HB.out | apply below_alloc | apply pw_below_drewN | apply below_drew1 | refine below_set ?_ GE677.out) | exact HB.out))) : w.heap.size ≤ gb688)); have n5_ := Aside0.mk ((by rw [hg]; exact Nat.ne_of_lt (blk_lt (g := gb677) (o := .cells #[.int .i64 t667, .int .i64 t668, .int .i64 t669, .int .i64 t670, .int .i64 t671, .int .i64 t672, .int .i64 t673, .int .i64 t674, .int .i64 t675] 29 (0, 0)) (by (with_reducible repeat (first | refine blk_drewN ?_ _ | refine blk_drew ?_ | refine blk_alloc ?_ _)); exact BK677.out)) : gb677 ≠ gb688)); have n6_ := Aside0.mk ((by rw [hg]; exact Nat.ne_of_gt (blk_lt (g := gb677) (o := .cells #[.int .i64 t667, .int .i64 t668, .int .i64 t669, .int .i64 t670, .int .i64 t671, .int .i64 t672, .int .i64 t673, .int .i64 t674, .int .i64 t675] 29 (0, 0)) (by (with_reducible repeat (first | refine blk_drewN ?_ _ | refine blk_drew ?_ | refine blk_alloc ?_ _)); exact BK677.out)) : gb688 ≠ gb677)); clear BK677; clear HB; have BK677 := n0_; have HB := n1_; have BK688 := n2_; have GW688 := n3_; have GE688 := n4_; have NB677_688 := n5_; have NB688_677 := n6_; clear n0_ n1_ n2_ n3_ n4_ n5_ n6_; clear hb hbox hg; have hnb24 := NB688_677.out; have hnc24 := NB677_688.out; have hcz25_0 : w23.cell? ⟨gb688, 0, none⟩ = some (.int .i64 0) := (blk_cell BK688.out 0).trans rfl; have hcz25_1 : w23.cell? ⟨gb688, 1, none⟩ = some (.int .i64 0) := (blk_cell BK688.out 1).trans rfl; have hcz25_2 : w23.cell? ⟨gb688, 2, none⟩ = some (.int .i64 0) := (blk_cell BK688.out 2).trans rfl; have hcz25_3 : w23.cell? ⟨gb688, 3, none⟩ = some (.int .i64 0) := (blk_cell BK688.out 3).trans rfl; have hcz25_4 : w23.cell? ⟨gb688, 4, none⟩ = some (.int .i64 0) := (blk_cell BK688.out 4).trans rfl; have hcz25_5 : w23.cell? ⟨gb688, 5, none⟩ = some (.int .i64 0) := (blk_cell BK688.out 5).trans rfl; have hcz25_6 : w23.cell? ⟨gb688, 6, none⟩ = some (.int .i64 0) := (blk_cell BK688.out 6).trans rfl; have hcz25_7 : w23.cell? ⟨gb688, 7, none⟩ = some (.int .i64 0) := (blk_cell BK688.out 7).trans rfl; have hcz25_8 : w23.cell? ⟨gb688, 8, none⟩ = some (.int .i64 0) := (blk_cell BK688.out 8).trans rfl; have hfz25_0 := blk_frozen BK688.out 0; have hfz25_1 := blk_frozen BK688.out 1; have hfz25_2 := blk_frozen BK688.out 2; have hfz25_3 := blk_frozen BK688.out 3; have hfz25_4 := blk_frozen BK688.out 4; have hfz25_5 := blk_frozen BK688.out 5; have hfz25_6 := blk_frozen BK688.out 6; have hfz25_7 := blk_frozen BK688.out 7; have hfz25_8 := blk_frozen BK688.out 8; have hcz26_0 : w23.cell? ⟨gb677, 0, none⟩ = some (.int .i64 t667) := (blk_cell BK677.out 0).trans rfl; have hcz26_1 : w23.cell? ⟨gb677, 1, none⟩ = some (.int .i64 t668) := (blk_cell BK677.out 1).trans rfl; have hcz26_2 : w23.cell? ⟨gb677, 2, none⟩ = some (.int .i64 t669) := (blk_cell BK677.out 2).trans rfl; have hcz26_3 : w23.cell? ⟨gb677, 3, none⟩ = some (.int .i64 t670) := (blk_cell BK677.out 3).trans rfl; have hcz26_4 : w23.cell? ⟨gb677, 4, none⟩ = some (.int .i64 t671) := (blk_cell BK677.out 4).trans rfl; have hcz26_5 : w23.cell? ⟨gb677, 5, none⟩ = some (.int .i64 t672) := (blk_cell BK677.out 5).trans rfl; have hcz26_6 : w23.cell? ⟨gb677, 6, none⟩ = some (.int .i64 t673) := (blk_cell BK677.out 6).trans rfl; have hcz26_7 : w23.cell? ⟨gb677, 7, none⟩ = some (.int .i64 t674) := (blk_cell BK677.out 7).trans rfl; have hcz26_8 : w23.cell? ⟨gb677, 8, none⟩ = some (.int .i64 t675) := (blk_cell BK677.out 8).trans rfl; have hfz26_0 := blk_frozen BK677.out 0; have hfz26_1 := blk_frozen BK677.out 1; have hfz26_2 := blk_frozen BK677.out 2; have hfz26_3 := blk_frozen BK677.out 3; have hfz26_4 := blk_frozen BK677.out 4; have hfz26_5 := blk_frozen BK677.out 5; have hfz26_6 := blk_frozen BK677.out 6; have hfz26_7 := blk_frozen BK677.out 7; have hfz26_8 := blk_frozen BK677.out 8))
        go_ret
        exact ⟨by first | rfl | (simp [errW_none, errW_some] <;> rfl) | (simp [*, errW_none, errW_some] <;> rfl), by repeat (first | (with_reducible first | exact HB.out | apply below_alloc | apply pw_below_drewN | apply below_drew1 | refine below_set ?_ GE677.out | refine below_set ?_ GE688.out) | exact HB.out)⟩
    · rw [if_neg c7] at H
      have c7b0 : (t667 == t678 && (t668 == t679 && (t669 == t680 && (t670 == t681 && (t671 == t682 && (t672 == t683 && (t673 == t684 && (t674 == t685 && (t675 == t686))))))))) = false := by simpa using c7
      (try (have c7b1 : decide (t667 = t678 && (t668 == t679 && (t669 == t680 && (t670 == t681 && (t671 == t682 && (t672 == t683 && (t673 == t684 && (t674 == t685 && (t675 == t686))))))))) = false := by simpa using c7))
      (try (have c7b2 : (t667 == t678 && (t668 == t679 && (t669 == t680 && (t670 == t681 && (t671 == t682 && (t672 == t683 && (t673 == t684 && (t674 == t685 && (t675 == t686))))))))) = false := by simpa using c7))
      (try (have c7b3 : ¬ (t667 = t678 && (t668 == t679 && (t669 == t680 && (t670 == t681 && (t671 == t682 && (t672 == t683 && (t673 == t684 && (t674 == t685 && (t675 == t686))))))))) := by simpa using c7))
      clear c7
      obtain rfl := Option.some.inj H
      go_enter Try.func18, Try.ntmps18
      go_wp2_with (first | ((with_reducible refine gate_callee (f := 80) rfl ?_); refine goesL_ (some 13) rfl rfl Try.func80 (by kernel_rfl) rfl #[.slice A0 l0.length c0] rfl (by (try simp only [List.map_toArray, List.map_cons, List.map_nil]); first | done | rfl | (simp only [List.length_drop, List.length_take]; rfl)) ?_; (with_reducible refine (message_Decode.calls _ _ l0 t667 t668 t669 t670 t671 t672 t673 t674 t675 t676 _ ?side1 ?side2 A5.out).mono ?_); (case side1 => repeat (first | exact HR0.out | (with_reducible refine Kd.C_alloc ?_ _) | (with_reducible refine Kd.C_drewN ?_ _) | (with_reducible refine Kd.C_drew ?_))); (case side2 => exact HC0.out); rintro e w27 ⟨rfl, hb⟩; refine ⟨_, rfl, ?_⟩; have n0_ := Aside0.mk (below_step (by repeat (first | (with_reducible first | exact HB.out | apply below_alloc | apply pw_below_drewN | apply below_drew1) | exact HB.out)) hb); clear HB; have HB := n0_; clear n0_; (try clear hb); (try clear hb2); (try clear hk); (try clear hi)) | ((with_reducible refine gate_dst (N := 3) rfl ?_); refine box_event ?hg (N := 3) ?hd (cs := #[.int .i64 0, .int .i64 0, .int .i64 0, .int .i64 0, .int .i64 0, .int .i64 0, .int .i64 0, .int .i64 0, .int .i64 0]) (t := 29) ?hr ?_; (case hd => rfl); (case hg => rfl); (case hr => first | (go_simp; done) | (go_simp; rfl)); intro gb677 hg w28 hbox hb; have n0_ := Aside0.mk (below_step (by repeat (first | (with_reducible first | exact HB.out | apply below_alloc | apply pw_below_drewN | apply below_drew1) | exact HB.out)) hb); have n1_ := Aside0.mk (hbox); have n2_ := Aside0.mk ((by rw [hg]; exact (below_size (by repeat (first | (with_reducible first | exact HB.out | apply below_alloc | apply pw_below_drewN | apply below_drew1) | exact HB.out))) : w.heap.size ≤ gb677)); have n3_ := Aside0.mk ((by rw [hg]; exact (below_size (by repeat (first | (with_reducible first | exact HB.out | apply below_alloc | apply pw_below_drewN | apply below_drew1) | exact HB.out))) : w.heap.size ≤ gb677)); clear HB; have HB := n0_; have BK677 := n1_; have GW677 := n2_; have GE677 := n3_; clear n0_ n1_ n2_ n3_; clear hb hbox hg; have hcz29_0 : w28.cell? ⟨gb677, 0, none⟩ = some (.int .i64 0) := (blk_cell BK677.out 0).trans rfl; have hcz29_1 : w28.cell? ⟨gb677, 1, none⟩ = some (.int .i64 0) := (blk_cell BK677.out 1).trans rfl; have hcz29_2 : w28.cell? ⟨gb677, 2, none⟩ = some (.int .i64 0) := (blk_cell BK677.out 2).trans rfl; have hcz29_3 : w28.cell? ⟨gb677, 3, none⟩ = some (.int .i64 0) := (blk_cell BK677.out 3).trans rfl; have hcz29_4 : w28.cell? ⟨gb677, 4, none⟩ = some (.int .i64 0) := (blk_cell BK677.out 4).trans rfl; have hcz29_5 : w28.cell? ⟨gb677, 5, none⟩ = some (.int .i64 0) := (blk_cell BK677.out 5).trans rfl; have hcz29_6 : w28.cell? ⟨gb677, 6, none⟩ = some (.int .i64 0) := (blk_cell BK677.out 6).trans rfl; have hcz29_7 : w28.cell? ⟨gb677, 7, none⟩ = some (.int .i64 0) := (blk_cell BK677.out 7).trans rfl; have hcz29_8 : w28.cell? ⟨gb677, 8, none⟩ = some (.int .i64 0) := (blk_cell BK677.out 8).trans rfl; have hfz29_0 := blk_frozen BK677.out 0; have hfz29_1 := blk_frozen BK677.out 1; have hfz29_2 := blk_frozen BK677.out 2; have hfz29_3 := blk_frozen BK677.out 3; have hfz29_4 := blk_frozen BK677.out 4; have hfz29_5 := blk_frozen BK677.out 5; have hfz29_6 := blk_frozen BK677.out 6; have hfz29_7 := blk_frozen BK677.out 7; have hfz29_8 := blk_frozen BK677.out 8) | ((with_reducible refine gate_callee (f := 81) rfl ?_); refine goesL_ (some 18) rfl rfl Try.func81 (by kernel_rfl) rfl #[.slice A0 l0.length c0] rfl (by (try simp only [List.map_toArray, List.map_cons, List.map_nil]); first | done | rfl | (simp only [List.length_drop, List.length_take]; rfl)) ?_; (with_reducible refine (damperref06_Decode.calls _ _ l0 t678 t679 t680 t681 t682 t683 t684 t685 t686 t687 _ ?side1 ?side2 A6.out).mono ?_); (case side1 => exact Kd.C_below HR0.out (by repeat (first | (with_reducible first | exact HB.out | apply below_alloc | apply pw_below_drewN | apply below_drew1 | refine below_set ?_ GE677.out) | exact HB.out))); (case side2 => exact HC0.out); rintro e w30 ⟨rfl, hb⟩; refine ⟨_, rfl, ?_⟩; have n0_ := Aside0.mk (blk_below (g := gb677) (o := .cells #[.int .i64 t667, .int .i64 t668, .int .i64 t669, .int .i64 t670, .int .i64 t671, .int .i64 t672, .int .i64 t673, .int .i64 t674, .int .i64 t675] 29 (0, 0)) (by (with_reducible repeat (first | refine blk_drewN ?_ _ | refine blk_drew ?_ | refine blk_alloc ?_ _)); refine blk_put (cs := #[.int .i64 t667, .int .i64 t668, .int .i64 t669, .int .i64 t670, .int .i64 t671, .int .i64 t672, .int .i64 t673, .int .i64 t674, .int .i64 0]) ?_ 8 _ rfl; (with_reducible repeat (first | refine blk_drewN ?_ _ | refine blk_drew ?_ | refine blk_alloc ?_ _)); refine blk_put (cs := #[.int .i64 t667, .int .i64 t668, .int .i64 t669, .int .i64 t670, .int .i64 t671, .int .i64 t672, .int .i64 t673, .int .i64 0, .int .i64 0]) ?_ 7 _ rfl; (with_reducible repeat (first | refine blk_drewN ?_ _ | refine blk_drew ?_ | refine blk_alloc ?_ _)); refine blk_put (cs := #[.int .i64 t667, .int .i64 t668, .int .i64 t669, .int .i64 t670, .int .i64 t671, .int .i64 t672, .int .i64 0, .int .i64 0, .int .i64 0]) ?_ 6 _ rfl; (with_reducible repeat (first | refine blk_drewN ?_ _ | refine blk_drew ?_ | refine blk_alloc ?_ _)); refine blk_put (cs := #[.int .i64 t667, .int .i64 t668, .int .i64 t669, .int .i64 t670, .int .i64 t671, .int .i64 0, .int .i64 0, .int .i64 0, .int .i64 0]) ?_ 5 _ rfl; (with_reducible repeat (first | refine blk_drewN ?_ _ | refine blk_drew ?_ | refine blk_alloc ?_ _)); refine blk_put (cs := #[.int .i64 t667, .int .i64 t668, .int .i64 t669, .int .i64 t670, .int .i64 0, .int .i64 0, .int .i64 0, .int .i64 0, .int .i64 0]) ?_ 4 _ rfl; (with_reducible repeat (first | refine blk_drewN ?_ _ | refine blk_drew ?_ | refine blk_alloc ?_ _)); refine blk_put (cs := #[.int .i64 t667, .int .i64 t668, .int .i64 t669, .int .i64 0, .int .i64 0, .int .i64 0, .int .i64 0, .int .i64 0, .int .i64 0]) ?_ 3 _ rfl; (with_reducible repeat (first | refine blk_drewN ?_ _ | refine blk_drew ?_ | refine blk_alloc ?_ _)); refine blk_put (cs := #[.int .i64 t667, .int .i64 t668, .int .i64 0, .int .i64 0, .int .i64 0, .int .i64 0, .int .i64 0, .int .i64 0, .int .i64 0]) ?_ 2 _ rfl; (with_reducible repeat (first | refine blk_drewN ?_ _ | refine blk_drew ?_ | refine blk_alloc ?_ _)); refine blk_put (cs := #[.int .i64 t667, .int .i64 0, .int .i64 0, .int .i64 0, .int .i64 0, .int .i64 0, .int .i64 0, .int .i64 0, .int .i64 0]) ?_ 1 _ rfl; (with_reducible repeat (first | refine blk_drewN ?_ _ | refine blk_drew ?_ | refine blk_alloc ?_ _)); refine blk_put (cs := #[.int .i64 0, .int .i64 0, .int .i64 0, .int .i64 0, .int .i64 0, .int .i64 0, .int .i64 0, .int .i64 0, .int .i64 0]) ?_ 0 _ rfl; (with_reducible repeat (first | refine blk_drewN ?_ _ | refine blk_drew ?_ | refine blk_alloc ?_ _)); exact BK677.out) hb); have n1_ := Aside0.mk (below_step (by repeat (first | (with_reducible first | exact HB.out | apply below_alloc | apply pw_below_drewN | apply below_drew1 | refine below_set ?_ GE677.out) | exact HB.out)) hb); clear BK677; clear HB; have BK677 := n0_; have HB := n1_; clear n0_ n1_; (try clear hb); (try clear hb2); (try clear hk); (try clear hi)) | ((with_reducible refine gate_dst (N := 5) rfl ?_); refine box_event ?hg (N := 5) ?hd (cs := #[.int .i64 0, .int .i64 0, .int .i64 0, .int .i64 0, .int .i64 0, .int .i64 0, .int .i64 0, .int .i64 0, .int .i64 0]) (t := 29) ?hr ?_; (case hd => rfl); (case hg => rfl); (case hr => first | (go_simp; done) | (go_simp; rfl)); intro gb688 hg w31 hbox hb; have n0_ := Aside0.mk (blk_below (g := gb677) (o := .cells #[.int .i64 t667, .int .i64 t668, .int .i64 t669, .int .i64 t670, .int .i64 t671, .int .i64 t672, .int .i64 t673, .int .i64 t674, .int .i64 t675] 29 (0, 0)) (by (with_reducible repeat (first | refine blk_drewN ?_ _ | refine blk_drew ?_ | refine blk_alloc ?_ _)); exact BK677.out) hb); have n1_ := Aside0.mk (below_step (by repeat (first | (with_reducible first | exact HB.out | apply below_alloc | apply pw_below_drewN | apply below_drew1 | refine below_set ?_ GE677.out) | exact HB.out)) hb); have n2_ := Aside0.mk (hbox); have n3_ := Aside0.mk ((by rw [hg]; exact (below_size (by repeat (first | (with_reducible first | exact HB.out | apply below_alloc | apply pw_below_drewN | apply below_drew1 | refine below_set ?_ GE677.out) | exact HB.out))) : w.heap.size ≤ gb688)); have n4_ := Aside0.mk ((by rw [hg]; exact (below_size (by repeat (first | (with_reducible first | exact HB.out | apply below_alloc | apply pw_below_drewN | apply below_drew1 | refine below_set ?_ GE677.out) | exact HB.out))) : w.heap.size ≤ gb688)); have n5_ := Aside0.mk ((by rw [hg]; exact Nat.ne_of_lt (blk_lt (g := gb677) (o := .cells #[.int .i64 t667, .int .i64 t668, .int .i64 t669, .int .i64 t670, .int .i64 t671, .int .i64 t672, .int .i64 t673, .int .i64 t674, .int .i64 t675] 29 (0, 0)) (by (with_reducible repeat (first | refine blk_drewN ?_ _ | refine blk_drew ?_ | refine blk_alloc ?_ _)); exact BK677.out)) : gb677 ≠ gb688)); have n6_ := Aside0.mk ((by rw [hg]; exact Nat.ne_of_gt (blk_lt (g := gb677) (o := .cells #[.int .i64 t667, .int .i64 t668, .int .i64 t669, .int .i64 t670, .int .i64 t671, .int .i64 t672, .int .i64 t673, .int .i64 t674, .int .i64 t675] 29 (0, 0)) (by (with_reducible repeat (first | refine blk_drewN ?_ _ | refine blk_drew ?_ | refine blk_alloc ?_ _)); exact BK677.out)) : gb688 ≠ gb677)); clear BK677; clear HB; have BK677 := n0_; have HB := n1_; have BK688 := n2_; have GW688 := n3_; have GE688 := n4_; have NB677_688 := n5_; have NB688_677 := n6_; clear n0_ n1_ n2_ n3_ n4_ n5_ n6_; clear hb hbox hg; have hnb32 := NB688_677.out; have hnc32 := NB677_688.out; have hcz33_0 : w31.cell? ⟨gb688, 0, none⟩ = some (.int .i64 0) := (blk_cell BK688.out 0).trans rfl; have hcz33_1 : w31.cell? ⟨gb688, 1, none⟩ = some (.int .i64 0) := (blk_cell BK688.out 1).trans rfl; have hcz33_2 : w31.cell? ⟨gb688, 2, none⟩ = some (.int .i64 0) := (blk_cell BK688.out 2).trans rfl; have hcz33_3 : w31.cell? ⟨gb688, 3, none⟩ = some (.int .i64 0) := (blk_cell BK688.out 3).trans rfl; have hcz33_4 : w31.cell? ⟨gb688, 4, none⟩ = some (.int .i64 0) := (blk_cell BK688.out 4).trans rfl; have hcz33_5 : w31.cell? ⟨gb688, 5, none⟩ = some (.int .i64 0) := (blk_cell BK688.out 5).trans rfl; have hcz33_6 : w31.cell? ⟨gb688, 6, none⟩ = some (.int .i64 0) := (blk_cell BK688.out 6).trans rfl; have hcz33_7 : w31.cell? ⟨gb688, 7, none⟩ = some (.int .i64 0) := (blk_cell BK688.out 7).trans rfl; have hcz33_8 : w31.cell? ⟨gb688, 8, none⟩ = some (.int .i64 0) := (blk_cell BK688.out 8).trans rfl; have hfz33_0 := blk_frozen BK688.out 0; have hfz33_1 := blk_frozen BK688.out 1; have hfz33_2 := blk_frozen BK688.out 2; have hfz33_3 := blk_frozen BK688.out 3; have hfz33_4 := blk_frozen BK688.out 4; have hfz33_5 := blk_frozen BK688.out 5; have hfz33_6 := blk_frozen BK688.out 6; have hfz33_7 := blk_frozen BK688.out 7; have hfz33_8 := blk_frozen BK688.out 8; have hcz34_0 : w31.cell? ⟨gb677, 0, none⟩ = some (.int .i64 t667) := (blk_cell BK677.out 0).trans rfl; have hcz34_1 : w31.cell? ⟨gb677, 1, none⟩ = some (.int .i64 t668) := (blk_cell BK677.out 1).trans rfl; have hcz34_2 : w31.cell? ⟨gb677, 2, none⟩ = some (.int .i64 t669) := (blk_cell BK677.out 2).trans rfl; have hcz34_3 : w31.cell? ⟨gb677, 3, none⟩ = some (.int .i64 t670) := (blk_cell BK677.out 3).trans rfl; have hcz34_4 : w31.cell? ⟨gb677, 4, none⟩ = some (.int .i64 t671) := (blk_cell BK677.out 4).trans rfl; have hcz34_5 : w31.cell? ⟨gb677, 5, none⟩ = some (.int .i64 t672) := (blk_cell BK677.out 5).trans rfl; have hcz34_6 : w31.cell? ⟨gb677, 6, none⟩ = some (.int .i64 t673) := (blk_cell BK677.out 6).trans rfl; have hcz34_7 : w31.cell? ⟨gb677, 7, none⟩ = some (.int .i64 t674) := (blk_cell BK677.out 7).trans rfl; have hcz34_8 : w31.cell? ⟨gb677, 8, none⟩ = some (.int .i64 t675) := (blk_cell BK677.out 8).trans rfl; have hfz34_0 := blk_frozen BK677.out 0; have hfz34_1 := blk_frozen BK677.out 1; have hfz34_2 := blk_frozen BK677.out 2; have hfz34_3 := blk_frozen BK677.out 3; have hfz34_4 := blk_frozen BK677.out 4; have hfz34_5 := blk_frozen BK677.out 5; have hfz34_6 := blk_frozen BK677.out 6; have hfz34_7 := blk_frozen BK677.out 7; have hfz34_8 := blk_frozen BK677.out 8))
      go_ret
      exact ⟨by first | rfl | (simp [errW_none, errW_some] <;> rfl) | (simp [*, errW_none, errW_some] <;> rfl), by repeat (first | (with_reducible first | exact HB.out | apply below_alloc | apply pw_below_drewN | apply below_drew1 | refine below_set ?_ GE677.out | refine below_set ?_ GE688.out) | exact HB.out)⟩

/-- THE ONE PURE STATEMENT of damperlaw06_MessageDecodes: yours. -/
def damperlaw06_MessageDecodes.Pure : Prop := ∀ (l0 : List Int), l0.length ≤ maxLen → l0.length * 1 ≤ 140737488351232 → (∀ x ∈ l0, (Lit.int .u8 x).wf = true) → damperlaw06_MessageDecodes.f l0 = some true
theorem damperlaw06_MessageDecodes.walk (P : damperlaw06_MessageDecodes.Pure) (a0 : Option Addr) (len0 cap0 : Nat) (z0 : List Int) (w : World) (w0 : (a0 = none ∧ len0 = 0 ∧ cap0 = 0 ∧ z0 = []) ∨ ∃ x, a0 = some x ∧ len0 ≤ cap0 ∧ cap0 ≤ maxLen ∧ z0.length = cap0 ∧ (∀ i, i < z0.length → w.cell? (x.add i) = some (.int .u8 (z0.getD i 0))) ∧ ∀ n ∈ z0, (Lit.int .u8 n).wf = true) (y0 : len0 * 1 ≤ 140737488351232) :
    Calls Try.prog 18 #[.slice a0 len0 cap0] w fun e w' => e = .returned (.bool true) ∧ Below w.heap.size w w' := by
  obtain ⟨l0, rfl, hr0, hm0, hw0, hc0⟩ := ReadsInt.ofRowC w0
  have h := P l0 hm0 y0 hw0
  refine (damperlaw06_MessageDecodes.calls _ _ l0 true w (Kd.C_of_reads (d := (0 : Int)) (h1 := fun _ => rfl) hr0) hc0 h).mono ?_
  rintro e w' ⟨rfl, hd⟩
  exact ⟨rfl, hd⟩

end Go.Proofs.Ytalpemoodollpaa.P
/- Messages: the document's decoding is the program's. -/
namespace Go.Proofs.Ytalpemoodollpaa.P
open Go.RowKit Go.Proofs.YtalpemoodollpaaW.PrintWords Go.Proofs.YtalpemoodollpaaW.PrintLast Go.Proofs.YtalpemoodollpaaW.PrintMore
set_option linter.unusedVariables false
set_option linter.unusedSimpArgs false
theorem msgEncode_f_ (m : S29) (h6 : i64B m.f6 = true) (h7 : i64B m.f7 = true) :
    message_Encode.f m.f0 m.f1 m.f2 m.f3 m.f4 m.f5 m.f6 m.f7 m.f8 = some (if msgRight m = true then (msgForm m, 0) else ([], 1)) := by
  unfold message_Encode.f
  rw [if_pos ⟨h6, h7⟩]
theorem alive06_ : damperlaw06_alive.f = some true := by
  unfold damperlaw06_alive.f
  rw [msgEncode_f_ ⟨6, 1, 0, 0, 0, 0, 0, 0, 2⟩ (by decide) (by decide), if_pos (by decide)]
  have hl : (msgForm ⟨6, 1, 0, 0, 0, 0, 0, 0, 2⟩).length = 37 := by
    simp [msgForm, numForm_lt, intForm_length]
  simp only [Option.bind_some, hl]
  have h0 : rd (msgForm ⟨6, 1, 0, 0, 0, 0, 0, 0, 2⟩) 0 = 6 := rfl
  have h2 : rd (msgForm ⟨6, 1, 0, 0, 0, 0, 0, 0, 2⟩) 2 = 2 := rfl
  simp [h0, h2, message_Is.f]
theorem messageDecodes_f (l : List Int) (hb : Byt l) : damperlaw06_MessageDecodes.f l = some true := by
  unfold damperlaw06_MessageDecodes.f
  rw [alive06_]
  by_cases h : (l.length : Int) > 200
  · rw [if_pos h]; rfl
  · rw [if_neg h]
    have hp : bytB l = true ∧ l.length ≤ 140737488355328 := ⟨bytB_of hb, by omega⟩
    unfold message_Decode.f damperref06_Decode.f
    rw [if_pos hp]
    simp
theorem messageDecodes_calls (A0 : Option Addr) (c0 : Nat) (l0 : List Int) (w : World) (hr0 : Kd.C (Kd.int .u8) w A0 l0.length l0) (hc0 : l0.length ≤ c0) (hb : Byt l0) :
    Calls Try.prog 18 #[.slice A0 l0.length c0] w fun e w' => e = .returned (.bool true) ∧ Below w.heap.size w w' :=
  damperlaw06_MessageDecodes.calls A0 c0 l0 true w hr0 hc0 (messageDecodes_f l0 hb)
end Go.Proofs.Ytalpemoodollpaa.P
/- Bytes that came in are bytes. -/
namespace Go.Proofs.Ytalpemoodollpaa.P
open Go.RowKit Go.Proofs.YtalpemoodollpaaW.PrintWords Go.Proofs.YtalpemoodollpaaW.PrintLast Go.Proofs.YtalpemoodollpaaW.PrintMore
theorem byt_wf_ {l : List Int} (h : ∀ y ∈ l, (Lit.int .u8 y).wf = true) : Byt l := fun b hb => by
  have := bounds_u8 (h b hb)
  omega
end Go.Proofs.Ytalpemoodollpaa.P
