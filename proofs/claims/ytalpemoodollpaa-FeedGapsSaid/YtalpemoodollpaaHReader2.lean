/- The contracts of octets.Reader's methods: Int, Raw, Num. -/
import Derived.Test.YtalpemoodollpaaHReader
namespace Go.Proofs.Ytalpemoodollpaa.P
open Go.RowKit Go.Proofs.YtalpemoodollpaaW.PrintWords Go.Proofs.YtalpemoodollpaaW.PrintLast Go.Proofs.YtalpemoodollpaaW.PrintMore
set_option linter.unusedVariables false
set_option linter.unusedSimpArgs false

set_option maxRecDepth 100000 in
theorem octets_Reader_Raw.neg (g : Nat) (k : Int) (w : World) (hk : k < 0) :
    Calls Try.prog 105 #[.pointer (some ⟨g, 0, none⟩), .int .i64 k] w fun e w' => e = .returned (.slice none 0 0) ∧ w = w' := by
  go_enter Try.func105, Try.ntmps105
  go_wp2
  go_ret
  exact ⟨rfl, rfl⟩
set_option maxRecDepth 100000 in
theorem octets_Reader_Raw.nil (k : Int) (w : World) :
    Calls Try.prog 105 #[.pointer none, .int .i64 k] w fun e w' => ∃ v, e = .returned v ∧ Kd.R (Kd.int .u8) 5 w' w.heap.size (fun _ => True) v [] ∧ Below w.heap.size w w' := by
  by_cases hk : k < 0
  · go_enter Try.func105, Try.ntmps105
    go_wp2
    go_ret
    exact ⟨_, rfl, Kd.R_nil _ _ _ _ _, Below.refl _ _⟩
  · go_enter Try.func105, Try.ntmps105
    go_wp2_with fail
    refine (octets_Reader_take.nil _ w).mono ?_
    rintro e w' ⟨rfl, rfl⟩
    go_wp2_with fail
    refine (bytes_Clone.calls none 0 [] w (Kd.C_nil _ _) (by decide)).mono ?_
    rintro e w' ⟨v, rfl, hR, hB⟩
    have HR := Aside0.mk hR
    have HB := Aside0.mk hB
    clear hR hB
    go_wp2
    go_ret
    exact ⟨_, rfl, HR.out, HB.out⟩
set_option maxRecDepth 100000 in
theorem octets_Reader_Raw.calls (g : Nat) (row : Option Nat) (s : List Int × Int) (n : Nat) (w : World) (hn : n ≤ 140737488355328) (hs : RS w g row s) :
    Calls Try.prog 105 #[.pointer (some ⟨g, 0, none⟩), .int .i64 (n : Int)] w fun e w' => ∃ v, e = .returned v ∧ Kd.R (Kd.int .u8) 5 w' w.heap.size (fun _ => True) v (rTake s n).1 ∧ RPost w g row (rTake s n).2.2 w' := by
  have HT := Aside0.mk (octets_Reader_take.calls g row s n w (by omega) hs)
  have hl : (rTake s n).1.length ≤ n := by unfold rTake; split; simp; split; simp; simp only [List.length_take]; omega
  have hg : Aside0 (g < w.heap.size) := by obtain ⟨A, c, hb, _⟩ := hs; exact ⟨blk_lt hb⟩
  have hro : Aside0 (row ≠ some g) := by obtain ⟨A, c, hb, _, _, _, h, _⟩ := hs; exact ⟨h⟩
  clear hs
  generalize rTake s n = T at *
  obtain ⟨xs, ok, st⟩ := T
  simp only at hl HT ⊢
  go_enter Try.func105, Try.ntmps105
  go_wp2_with fail
  refine HT.out.mono ?_
  rintro e w' ⟨A, c, rfl, hC, hlc, hY, hP⟩
  have HC := Aside0.mk hC
  have HP := Aside0.mk hP
  clear hC hY hP
  go_wp2_with fail
  refine (bytes_Clone.calls A c xs w' HC.out (by omega)).mono ?_
  rintro e w2 ⟨v, rfl, hR, hB⟩
  have HR := Aside0.mk hR
  have HB := Aside0.mk hB
  clear hR hB
  go_wp2
  go_ret
  have hP := HP.out
  refine ⟨v, rfl, Kd.R_lower HR.out hP.2.size, hP.1.fr (S := fun _ => False) (Fr.of_below HB.out _) (fun h => h) (fun _ _ h => h), hP.2.trans (Fr.of_below HB.out _) (fun _ _ h => h)⟩
theorem rUint_range (s : List Int × Int) (k : Int) (h : Byt s.1) : 0 ≤ (rUint s k).1 ∧ (rUint s k).1 < 18446744073709551616 := by
  unfold rUint
  split
  · exact ⟨by simp, by simp⟩
  · have hb : Byt (rTake s k.toNat).1 := by unfold rTake; split; exact Byt.nil; split; exact Byt.nil; exact h.take _
    have hl : (rTake s k.toNat).1.length ≤ 8 := by unfold rTake; split; simp; split; simp; simp only [List.length_take]; omega
    have h1 := beNum_range _ hb
    have h2 : 256 ^ (rTake s k.toNat).1.length ≤ 256 ^ 8 := Nat.pow_le_pow_right (by decide) hl
    have h3 : 256 ^ 8 = 18446744073709551616 := by decide
    simp only
    omega
set_option maxRecDepth 100000 in
theorem octets_Reader_Int.calls (g : Nat) (row : Option Nat) (s : List Int × Int) (w : World) (hs : RS w g row s) :
    Calls Try.prog 117 #[.pointer (some ⟨g, 0, none⟩)] w fun e w' => e = .returned (.int .i64 (unzig (rUint s 8).1)) ∧ RPost w g row (rUint s 8).2 w' := by
  have HT := Aside0.mk (octets_Reader_Uint.calls g row s 8 w hs)
  have hr := rUint_range s 8 (by obtain ⟨A, c, _, _, _, _, _, h⟩ := hs; exact h)
  clear hs
  generalize rUint s 8 = T at *
  obtain ⟨n, st⟩ := T
  simp only at HT hr ⊢
  have HX := Aside0.mk (unzig_bits n hr.1 hr.2)
  clear hr
  go_enter Try.func117, Try.ntmps117
  go_wp2_with fail
  refine HT.out.mono ?_
  rintro e w' ⟨rfl, hP⟩
  have HP := Aside0.mk hP
  clear hP
  go_wp2
  go_ret
  exact ⟨by show Ending.returned (Value.int IntKind.i64 _) = _; rw [HX.out], HP.out⟩

/-- A Num, from group i on. -/
def numGo : Nat → Nat → Int → List Int → Int × (List Int × Int)
  | 0, _, _, bs => (0, (bs, 4))
  | _ + 1, _, _, [] => (0, ([], 3))
  | k + 1, i, n, b :: bs =>
    if i = 9 ∧ 1 < b % 128 then (0, (bs, 4))
    else if 128 ≤ b then numGo k (i + 1) (n + b % 128 * ((128 ^ i : Nat) : Int)) bs
    else if b % 128 = 0 ∧ 0 < i then (0, (bs, 4)) else (n + b % 128 * ((128 ^ i : Nat) : Int), (bs, 0))
def rNum (s : List Int × Int) : Int × (List Int × Int) := if s.2 ≠ 0 then (0, s) else numGo 10 0 0 s.1

theorem rTake_one (b : Int) (bs : List Int) : rTake (b :: bs, 0) 1 = ([b], true, (bs, 0)) := by
  unfold rTake
  rw [if_neg (by simp), if_neg (by simp)]
  rfl
theorem rTake_nil : rTake ([], 0) 1 = ([], false, ([], 3)) := by simp [rTake]
theorem take_nil1 (g : Nat) (row : Option Nat) (w : World) (hs : RS w g row ([], 0)) :
    Calls Try.prog 132 #[.pointer (some ⟨g, 0, none⟩), .int .i64 1] w fun e w' => ∃ A c, e = .returned (.tuple #[.slice A 0 c, .bool false]) ∧ RPost w g row ([], 3) w' := by
  have h := octets_Reader_take.calls g row ([], 0) 1 w (by decide) hs
  rw [rTake_nil] at h
  exact h.mono fun e w' ⟨A, c, he, _, _, _, hp⟩ => ⟨A, c, he, hp⟩
theorem take_cons1 (g : Nat) (row : Option Nat) (b : Int) (bs : List Int) (w : World) (hs : RS w g row (b :: bs, 0)) :
    Calls Try.prog 132 #[.pointer (some ⟨g, 0, none⟩), .int .i64 1] w fun e w' => ∃ ad c, e = .returned (.tuple #[.slice (some ad) 1 c, .bool true]) ∧ w'.cell? ad = some (.int .u8 b) ∧ RPost w g row (bs, 0) w' := by
  have h := octets_Reader_take.calls g row (b :: bs, 0) 1 w (by decide) hs
  rw [rTake_one] at h
  refine h.mono fun e w' ⟨A, c, he, hC, _, _, hp⟩ => ?_
  obtain ⟨ad, rfl, hcell⟩ := (Kd.reads_of_C (d := (0 : Int)) hC).2.2 (by simp)
  have h0 := hcell 0 (by simp)
  rw [show ad.add 0 = ad from rfl] at h0
  exact ⟨ad, c, he, h0, hp⟩
set_option maxRecDepth 100000 in
set_option maxHeartbeats 1000000 in
theorem octets_Reader_Num.calls (g : Nat) (row : Option Nat) (s : List Int × Int) (w : World) (hs : RS w g row s) :
    Calls Try.prog 100 #[.pointer (some ⟨g, 0, none⟩)] w fun e w' => e = .returned (.int .u64 (rNum s).1) ∧ RPost w g row (rNum s).2 w' := by
  have HS := Aside0.mk hs
  clear hs
  obtain ⟨bs, f⟩ := s
  by_cases hf : f = 0
  · subst hf
    have HN : Aside0 (rNum (bs, 0) = numGo 10 0 0 bs) := ⟨by simp [rNum]⟩
    rw [HN.out]
    clear HN
    generalize hT : numGo 10 0 0 bs = T
    obtain ⟨r, st⟩ := T
    have HT := Aside0.mk hT
    clear hT
    simp only
    go_enter Try.func100, Try.ntmps100
    have hmf : ∀ (fn : Fn) (first cap : Array Value) (w : World), (Instr.makeFunc fn first cap).run Try.prog w = .ok (.func fn first cap) w := fun _ _ _ _ => rfl
    go_wp2
    go_step3
    go_wp2
    go_step3
    go_wp2
    clear hmf
    go_loopw [2, 4] (fun v2 v4 wr => ∃ (i k : Nat) (n : Int) (xs : List Int), v4 = .int .i64 i ∧ v2 = .int .u64 n ∧ i + k = 10 ∧ 0 ≤ n ∧ Aside0 (n < ((128 ^ i : Nat) : Int)) ∧ Aside0 (numGo k i n xs = (r, st)) ∧ Aside0 (RPost w g row (xs, 0) wr)) (fun _ v4 _ => 10 - (intOf v4).toNat)
    case atStart => exact ⟨0, 10, 0, bs, rfl, rfl, by omega, by omega, ⟨by decide⟩, HT, ⟨HS.out, Fr.refl _ _⟩⟩
    case round =>
      obtain ⟨i, k, n, xs, rfl, rfl, hik, hn0, HN, HG, HP⟩ := hrel
      by_cases h10 : i < 10
      · obtain ⟨k, rfl⟩ : ∃ m, k = m + 1 := ⟨k - 1, by omega⟩
        cases xs with
        | nil =>
          have HC := Aside0.mk (take_nil1 g row wr HP.out.1)
          go_wp2_with fail
          refine HC.out.mono ?_
          rintro e w1 ⟨A, c, rfl, hp⟩
          have HP1 := Aside0.mk hp
          clear hp
          go_wp2
          rw [Exit.noGoto_ret]
          go_ret
          obtain ⟨rfl, rfl⟩ := Prod.mk.inj HG.out
          exact ⟨rfl, HP1.out.1, HP.out.2.trans HP1.out.2 (fun _ _ h => h)⟩
        | cons b xs =>
          have HC := Aside0.mk (take_cons1 g row b xs wr HP.out.1)
          have hbr : 0 ≤ b ∧ b ≤ 255 := by obtain ⟨_, _, _, _, _, _, _, h⟩ := HP.out.1; exact h.cons.1
          have hb0 := hbr.1
          have hb1 := hbr.2
          have hand := andNot128 b hb0 hb1
          clear hbr
          by_cases h9 : i = 9 ∧ 1 < b % 128
          · go_wp2_with fail
            refine HC.out.mono ?_
            rintro e w1 ⟨ad, c, rfl, hcell, hp⟩
            have HP1 := Aside0.mk hp
            clear hp
            go_wp2_with fail
            refine (octets_Reader_bad.at_ g row (xs, 0) w1 HP1.out.1).mono ?_
            rintro e w2 ⟨rfl, hp⟩
            have HP2 := Aside0.mk hp
            clear hp
            go_wp2
            rw [Exit.noGoto_ret]
            go_ret
            have h2 := HG.out
            rw [numGo, if_pos h9] at h2
            obtain ⟨rfl, rfl⟩ := Prod.mk.inj h2
            exact ⟨rfl, HP2.out.1, HP.out.2.trans (HP1.out.2.trans HP2.out.2 (fun _ _ h => h)) (fun _ _ h => h)⟩
          · have HH := Aside0.mk (or_high n (b % 128) i (by omega) hn0 HN.out (by omega) (by omega) (by omega))
            have HG2 : Aside0 ((if 128 ≤ b then numGo k (i + 1) (n + b % 128 * ((128 ^ i : Nat) : Int)) xs
    else if b % 128 = 0 ∧ 0 < i then (0, (xs, 4)) else (n + b % 128 * ((128 ^ i : Nat) : Int), (xs, 0))) = (r, st)) := ⟨by have h := HG.out; rw [numGo, if_neg h9] at h; exact h⟩
            clear HG
            have h90 : (decide (i = 9) && decide (1 < b % 128)) = false := by simpa using h9
            have hs0 : 0 ≤ 7 * (i : Int) := by omega
            have hs1 : 7 * (i : Int) ≤ 64 := by omega
            by_cases h128 : 128 ≤ b
            · by_cases hi9 : i = 9
              · have h91 : ¬ 1 < b % 128 := fun h => h9 ⟨hi9, h⟩
                subst hi9
                go_wp2_with fail
                refine HC.out.mono ?_
                rintro e w1 ⟨ad, c, rfl, hcell, hp⟩
                have HP1 := Aside0.mk hp
                clear hp
                go_wp2
                have he : bits BinOp.or IntKind.u64 n (b % 128 * 9223372036854775808) = n + b % 128 * ((128 ^ 9 : Nat) : Int) := by
                  have h := HH.out.1
                  rw [show IntKind.u64.wrap (b % 128 * 2 ^ (7 * 9)) = b % 128 * 9223372036854775808 by rw [wrap_u64]; omega] at h
                  exact h
                go_roundw
                case rel => exact ⟨10, k, _, xs, rfl, rfl, by omega, by rw [he]; exact HH.out.2.2.1, ⟨by rw [he]; exact HH.out.2.2.2⟩, ⟨by have h := HG2.out; rw [if_pos h128] at h; rw [he]; exact h⟩, ⟨HP1.out.1, HP.out.2.trans HP1.out.2 (fun _ _ h => h)⟩⟩
                case measure => simp [intOf]
              · have hi9' : ((i : Int) == 9) = false := by simp; omega
                go_wp2_with fail
                refine HC.out.mono ?_
                rintro e w1 ⟨ad, c, rfl, hcell, hp⟩
                have HP1 := Aside0.mk hp
                clear hp
                go_wp2
                go_roundw
                case rel => exact ⟨i + 1, k, _, xs, rfl, rfl, by omega, by rw [HH.out.1]; exact HH.out.2.2.1, ⟨by rw [HH.out.1]; exact HH.out.2.2.2⟩, ⟨by have h := HG2.out; rw [if_pos h128] at h; rw [HH.out.1]; exact h⟩, ⟨HP1.out.1, HP.out.2.trans HP1.out.2 (fun _ _ h => h)⟩⟩
                case measure => simp [intOf]; omega
            · have hb2 : b % 128 = b := by omega
              have hb3 : b < 128 := by omega
              have HG3 : Aside0 ((if b % 128 = 0 ∧ 0 < i then (0, (xs, 4)) else (n + b % 128 * ((128 ^ i : Nat) : Int), (xs, 0))) = (r, st)) := ⟨by have h := HG2.out; rw [if_neg h128] at h; exact h⟩
              clear HG2 h128
              have HB2 := Aside0.mk hb2
              clear hb2
              by_cases hz : b % 128 = 0 ∧ 0 < i
              · have hz1 : b = 0 := by have := HB2.out; omega
                subst hz1
                have hi : 0 < i := hz.2
                have HZ := Aside0.mk hz
                clear hz hand h90 HH h9
                have hand : bits BinOp.andNot IntKind.u8 0 128 = 0 := by decide +kernel
                have hi0 : ((i : Int) == 0) = false := by simp; omega
                by_cases hi9 : i = 9
                · subst hi9
                  go_wp2_with fail
                  refine HC.out.mono ?_
                  rintro e w1 ⟨ad, c, rfl, hcell, hp⟩
                  have HP1 := Aside0.mk hp
                  clear hp
                  go_wp2_with fail
                  refine (octets_Reader_bad.at_ g row (xs, 0) w1 HP1.out.1).mono ?_
                  rintro e w2 ⟨rfl, hp⟩
                  have HP2 := Aside0.mk hp
                  clear hp
                  go_wp2
                  rw [Exit.noGoto_ret]
                  go_ret
                  have h2 := HG3.out
                  rw [if_pos HZ.out] at h2
                  obtain ⟨rfl, rfl⟩ := Prod.mk.inj h2
                  exact ⟨rfl, HP2.out.1, HP.out.2.trans (HP1.out.2.trans HP2.out.2 (fun _ _ h => h)) (fun _ _ h => h)⟩
                · have hi9' : ((i : Int) == 9) = false := by simp; omega
                  go_wp2_with fail
                  refine HC.out.mono ?_
                  rintro e w1 ⟨ad, c, rfl, hcell, hp⟩
                  have HP1 := Aside0.mk hp
                  clear hp
                  go_wp2_with fail
                  refine (octets_Reader_bad.at_ g row (xs, 0) w1 HP1.out.1).mono ?_
                  rintro e w2 ⟨rfl, hp⟩
                  have HP2 := Aside0.mk hp
                  clear hp
                  go_wp2
                  rw [Exit.noGoto_ret]
                  go_ret
                  have h2 := HG3.out
                  rw [if_pos HZ.out] at h2
                  obtain ⟨rfl, rfl⟩ := Prod.mk.inj h2
                  exact ⟨rfl, HP2.out.1, HP.out.2.trans (HP1.out.2.trans HP2.out.2 (fun _ _ h => h)) (fun _ _ h => h)⟩
              · have HV : Aside0 ((n + b % 128 * ((128 ^ i : Nat) : Int), (xs, (0 : Int))) = (r, st)) := ⟨by have h := HG3.out; rw [if_neg hz] at h; exact h⟩
                clear HG3
                rcases Nat.eq_zero_or_pos i with hi | hi
                · subst hi
                  have hn1 : n = 0 := by have := HN.out; simp at this; omega
                  subst hn1
                  have HV2 : Aside0 ((b, (xs, (0 : Int))) = (r, st)) := ⟨by have h := HV.out; rw [HB2.out] at h; simpa using h⟩
                  have HO := Aside0.mk (or_zero b hb0 hb1)
                  clear hz h90 h9 HH HV
                  by_cases hb00 : b = 0
                  · subst hb00
                    clear hand
                    have hand : bits BinOp.andNot IntKind.u8 0 128 = 0 := by decide +kernel
                    go_wp2_with fail
                    refine HC.out.mono ?_
                    rintro e w1 ⟨ad, c, rfl, hcell, hp⟩
                    have HP1 := Aside0.mk hp
                    clear hp
                    go_wp2
                    rw [Exit.noGoto_ret]
                    go_ret
                    obtain ⟨rfl, rfl⟩ := Prod.mk.inj HV2.out
                    exact ⟨by show Ending.returned (Value.int IntKind.u64 _) = _; rw [HO.out], HP1.out.1, HP.out.2.trans HP1.out.2 (fun _ _ h => h)⟩
                  · have hb4 : (b == 0) = false := by simpa using hb00
                    have hand2 : bits BinOp.andNot IntKind.u8 b 128 = b := hand.trans HB2.out
                    clear hand
                    go_wp2_with fail
                    refine HC.out.mono ?_
                    rintro e w1 ⟨ad, c, rfl, hcell, hp⟩
                    have HP1 := Aside0.mk hp
                    clear hp
                    go_wp2
                    rw [Exit.noGoto_ret]
                    go_ret
                    obtain ⟨rfl, rfl⟩ := Prod.mk.inj HV2.out
                    exact ⟨by show Ending.returned (Value.int IntKind.u64 _) = _; rw [HO.out], HP1.out.1, HP.out.2.trans HP1.out.2 (fun _ _ h => h)⟩
                · have hb5 : 0 < b := by
                    rcases Int.lt_or_le 0 b with h | h
                    · exact h
                    · exact absurd ⟨by have := HB2.out; omega, hi⟩ hz
                  have hb4 : (b == 0) = false := by simp; omega
                  have hand2 : bits BinOp.andNot IntKind.u8 b 128 = b := hand.trans HB2.out
                  have HV2 : Aside0 ((n + b * ((128 ^ i : Nat) : Int), (xs, (0 : Int))) = (r, st)) := ⟨by have h := HV.out; rw [HB2.out] at h; exact h⟩
                  have HH2 : Aside0 (bits BinOp.or IntKind.u64 n (IntKind.u64.wrap (b * 2 ^ (7 * i))) = n + b * ((128 ^ i : Nat) : Int)) := ⟨by have h := HH.out.1; rw [HB2.out] at h; exact h⟩
                  have h91 : i = 9 → b ≤ 1 := fun h => by
                    rcases Int.lt_or_le 1 b with h2 | h2
                    · exact absurd ⟨h, by rw [HB2.out]; exact h2⟩ h9
                    · exact h2
                  clear hand hz h90 h9 HH HV
                  have hi0 : ((i : Int) == 0) = false := by simp; omega
                  by_cases hi9 : i = 9
                  · subst hi9
                    have hb1' : b = 1 := by have := h91 rfl; omega
                    subst hb1'
                    have he : bits BinOp.or IntKind.u64 n 9223372036854775808 = n + 1 * ((128 ^ 9 : Nat) : Int) := by
                      have h := HH2.out
                      rw [show IntKind.u64.wrap (1 * 2 ^ (7 * 9)) = 9223372036854775808 by rw [wrap_u64]; decide] at h
                      exact h
                    have HE := Aside0.mk he
                    clear he h91
                    go_wp2_with fail
                    refine HC.out.mono ?_
                    rintro e w1 ⟨ad, c, rfl, hcell, hp⟩
                    have HP1 := Aside0.mk hp
                    clear hp
                    go_wp2
                    rw [Exit.noGoto_ret]
                    go_ret
                    obtain ⟨rfl, rfl⟩ := Prod.mk.inj HV2.out
                    exact ⟨by show Ending.returned (Value.int IntKind.u64 _) = _; rw [HE.out], HP1.out.1, HP.out.2.trans HP1.out.2 (fun _ _ h => h)⟩
                  · have hi9' : ((i : Int) == 9) = false := by simp; omega
                    clear h91
                    go_wp2_with fail
                    refine HC.out.mono ?_
                    rintro e w1 ⟨ad, c, rfl, hcell, hp⟩
                    have HP1 := Aside0.mk hp
                    clear hp
                    go_wp2
                    rw [Exit.noGoto_ret]
                    go_ret
                    obtain ⟨rfl, rfl⟩ := Prod.mk.inj HV2.out
                    exact ⟨by show Ending.returned (Value.int IntKind.u64 _) = _; rw [HH2.out], HP1.out.1, HP.out.2.trans HP1.out.2 (fun _ _ h => h)⟩
      · have hi : i = 10 := by omega
        subst hi
        obtain rfl : k = 0 := by omega
        have h2 := HG.out
        rw [numGo] at h2
        have H2 := Aside0.mk h2
        clear h2
        go_wp2_with fail
        refine (octets_Reader_bad.at_ g row (xs, 0) wr HP.out.1).mono ?_
        rintro e w2 ⟨rfl, hp⟩
        have HP2 := Aside0.mk hp
        clear hp
        go_wp2
        rw [Exit.noGoto_ret]
        go_ret
        obtain ⟨rfl, rfl⟩ := Prod.mk.inj H2.out
        exact ⟨rfl, HP2.out.1, HP.out.2.trans HP2.out.2 (fun _ _ h => h)⟩
  · have HT : Aside0 (Calls Try.prog 132 #[.pointer (some ⟨g, 0, none⟩), .int .i64 1] w fun e w' => ∃ A c, e = .returned (.tuple #[.slice A 0 c, .bool false]) ∧ RPost w g row (bs, f) w') := by
      have h := octets_Reader_take.calls g row (bs, f) 1 w (by decide) HS.out
      rw [show rTake (bs, f) 1 = ([], false, (bs, f)) by simp [rTake, hf]] at h
      exact ⟨h.mono fun e w' ⟨A, c, he, _, _, _, hp⟩ => ⟨A, c, he, hp⟩⟩
    have HN : Aside0 (rNum (bs, f) = (0, (bs, f))) := ⟨by simp [rNum, hf]⟩
    rw [HN.out]
    clear HN hf
    have hmf : ∀ (fn : Fn) (first cap : Array Value) (w : World), (Instr.makeFunc fn first cap).run Try.prog w = .ok (.func fn first cap) w := fun _ _ _ _ => rfl
    go_enter Try.func100, Try.ntmps100
    go_wp2
    go_step3
    go_wp2
    go_step3
    go_wp2
    clear hmf
    refine wp_loop_rounds 1 ?_
    rw [rounds_succ]
    go_wp2_with fail
    refine HT.out.mono ?_
    rintro e w1 ⟨A, c, rfl, hp⟩
    have HP1 := Aside0.mk hp
    clear hp
    go_wp2
    rw [Exit.noGoto_ret]
    go_ret
    exact ⟨rfl, HP1.out⟩
theorem octets_Reader_Uint.nil (k : Int) (w : World) : Calls Try.prog 104 #[.pointer none, .int .i64 k] w fun e w' => e = .returned (.int .u64 0) ∧ w = w' := by
  by_cases h1 : k < 1
  · go_enter Try.func104, Try.ntmps104
    go_wp2
    go_ret
    exact ⟨rfl, rfl⟩
  by_cases h2 : 8 < k
  · go_enter Try.func104, Try.ntmps104
    go_wp2
    go_ret
    exact ⟨rfl, rfl⟩
  go_enter Try.func104, Try.ntmps104
  go_wp2_with fail
  refine (octets_Reader_take.nil k w).mono ?_
  rintro e w' ⟨rfl, rfl⟩
  go_wp2
  refine wp_loop_rounds 1 ?_
  rw [rounds_succ]
  go_wp2
  go_ret
  exact ⟨rfl, rfl⟩
theorem octets_Reader_Int.nil (w : World) : Calls Try.prog 117 #[.pointer none] w fun e w' => e = .returned (.int .i64 0) ∧ w = w' := by
  go_enter Try.func117, Try.ntmps117
  go_wp2_with fail
  refine (octets_Reader_Uint.nil 8 w).mono ?_
  rintro e w' ⟨rfl, rfl⟩
  have HX : Aside0 (bits BinOp.xor IntKind.i64 0 (wrap64 (-wrap64 (bits BinOp.and IntKind.u64 0 1))) = 0) := ⟨by decide +kernel⟩
  go_wp2
  go_ret
  exact ⟨by show Ending.returned (Value.int IntKind.i64 _) = _; rw [HX.out], rfl⟩
theorem octets_Reader_Num.nil (w : World) : Calls Try.prog 100 #[.pointer none] w fun e w' => e = .returned (.int .u64 0) ∧ w = w' := by
  have hmf : ∀ (fn : Fn) (first cap : Array Value) (w : World), (Instr.makeFunc fn first cap).run Try.prog w = .ok (.func fn first cap) w := fun _ _ _ _ => rfl
  go_enter Try.func100, Try.ntmps100
  go_wp2
  go_step3
  go_wp2
  go_step3
  go_wp2
  clear hmf
  refine wp_loop_rounds 1 ?_
  rw [rounds_succ]
  go_wp2_with fail
  refine (octets_Reader_take.nil 1 w).mono ?_
  rintro e w1 ⟨rfl, rfl⟩
  go_wp2
  rw [Exit.noGoto_ret]
  go_ret
  exact ⟨rfl, rfl⟩
end Go.Proofs.Ytalpemoodollpaa.P
