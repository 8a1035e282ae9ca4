/- What the document says is read: in the program's words. -/
import Derived.Test.YtalpemoodollpaaHRefNum
import Derived.Test.YtalpemoodollpaaHReader2
import Derived.Test.YtalpemoodollpaaP106
import Derived.Test.YtalpemoodollpaaP115
namespace Go.Proofs.Ytalpemoodollpaa.P
open Go.RowKit Go.Proofs.YtalpemoodollpaaW.PrintWords Go.Proofs.YtalpemoodollpaaW.PrintLast Go.Proofs.YtalpemoodollpaaW.PrintMore
set_option linter.unusedVariables false
set_option linter.unusedSimpArgs false

theorem rd_eq (l : List Int) (i : Nat) (h : i < l.length) : rd l (i : Int) = l[i] := by
  simp [rd, List.getD_eq_getElem?_getD, h]
theorem beNum_take_succ (l : List Int) (i : Nat) (h : i < l.length) : beNum (l.take (i + 1)) = beNum (l.take i) * 256 + l[i] := by
  rw [List.take_succ_eq_append_getElem h, beNum_snoc]
theorem refReadUint_go (l : List Int) (s : Nat) (hs : s ≤ 8) (hl : s ≤ l.length) (hb : Byt l) : ∀ (j i : Nat), i + j = s →
    damperref03_ReadUint.l0 (j + 1) l (s : Int) (beNum (l.take i)) (i : Int) = some (beNum (l.take s), 0, [], (s : Int), 0) := by
  intro j
  induction j with
  | zero =>
    intro i hi
    obtain rfl : i = s := by omega
    unfold damperref03_ReadUint.l0
    rw [if_neg (by omega)]
  | succ j ih =>
    intro i hi
    have ih1 := ih (i + 1) (by omega)
    have hil : i < l.length := by omega
    have hr := beNum_range (l.take i) (hb.take i)
    have hle : (l.take i).length = i := by rw [List.length_take]; omega
    rw [hle] at hr
    have hp : 256 ^ i ≤ 256 ^ 7 := Nat.pow_le_pow_right (by decide) (by omega)
    have hbi := hb l[i] (List.getElem_mem hil)
    rw [beNum_take_succ l i hil] at ih1
    have hr2 : beNum (l.take i) < 72057594037927936 := by
      have : ((256 ^ i : Nat) : Int) ≤ ((256 ^ 7 : Nat) : Int) := by omega
      have h7 : ((256 ^ 7 : Nat) : Int) = 72057594037927936 := by decide
      omega
    have hr0 := hr.1
    clear hr hp
    unfold damperref03_ReadUint.l0
    rw [if_pos (by omega), if_pos (by omega), if_pos (by omega), rd_eq l i hil]
    generalize beNum (l.take i) = n at *
    generalize l[i] = b at *
    have e1 : IntKind.u64.wrap (IntKind.u64.wrap (n * 256) + IntKind.u64.wrap b) = n * 256 + b := by
      rw [wrap_u64, wrap_u64, wrap_u64]
      omega
    have e2 : wrap64 ((i : Int) + 1) = ((i + 1 : Nat) : Int) := by rw [wrap64_eq]; omega
    rw [e1, e2]
    exact ih1
/-- What ReadUint tells. -/
def rdUint (l : List Int) (s : Int) : Int × Int × List Int × Int × Int :=
  if s < 1 ∨ 8 < s then (0, 0, [], 0, 0) else if (l.length : Int) < s then (0, 0, [], 0, 3) else (beNum (l.take s.toNat), 0, [], s, 0)
theorem refReadUint (l : List Int) (s : Int) (hb : Byt l) (m : Nat) (hm : 12 ≤ m) : damperref03_ReadUint.f m l s = some (rdUint l s) := by
  unfold rdUint
  by_cases h1 : s < 1 ∨ 8 < s
  · rw [if_pos h1]
    refine up_ (f := fun k => damperref03_ReadUint.f k l s) (k := 1) (fun k => damperref03_ReadUint.mono l s k) ?_ m (by omega)
    show damperref03_ReadUint.f 1 l s = _
    unfold damperref03_ReadUint.f
    split
    · simp [damperref03_ReadUint.j0]
    · simp [damperref03_ReadUint.j0, show s > 8 by omega]
  · rw [if_neg h1]
    refine up_ (f := fun k => damperref03_ReadUint.f k l s) (k := s.toNat + 2) (fun k => damperref03_ReadUint.mono l s k) ?_ m (by omega)
    show damperref03_ReadUint.f (s.toNat + 2) l s = _
    unfold damperref03_ReadUint.f
    rw [if_neg (by omega), show s.toNat + 2 = (s.toNat + 1) + 1 from rfl, damperref03_ReadUint.j0, if_neg (by simp; omega)]
    by_cases h2 : (l.length : Int) < s
    · rw [if_pos h2, if_pos h2]
    · rw [if_neg h2, if_neg h2]
      have := refReadUint_go l s.toNat (by omega) (by omega) hb s.toNat 0 (by omega)
      simpa [beNum, Int.toNat_of_nonneg (show 0 ≤ s by omega)] using this

/-- What ReadNum tells, by what a reader reads. -/
def fin3 (l : List Int) (r : Int × (List Int × Int)) : Int × Int × List Int × Int × Int :=
  if r.2.2 = 0 then (r.1, 0, [], (l.length : Int) - (r.2.1.length : Int), 0) else (0, 0, [], 0, r.2.2)
set_option maxHeartbeats 1000000 in
theorem refReadNum_go (l : List Int) (hb : Byt l) (hlen : l.length ≤ 140737488355328) : ∀ (j i : Nat), i + j = 10 → i ≤ l.length → ∀ n : Int, 0 ≤ n → n < ((128 ^ i : Nat) : Int) →
    damperref03_ReadNum.l0 (2 * j + 1) l n (IntKind.u64.wrap ((128 ^ i : Nat) : Int)) (i : Int) = some (fin3 l (numGo j i n (l.drop i))) := by
  intro j
  induction j with
  | zero =>
    intro i hi hil n h0 h1
    obtain rfl : i = 10 := by omega
    unfold damperref03_ReadNum.l0 numGo
    rw [if_neg (by omega)]
    rfl
  | succ j ih =>
    intro i hi hil n h0 h1
    rw [show 2 * (j + 1) + 1 = (2 * j + 1) + 1 + 1 from by omega]
    unfold damperref03_ReadNum.l0
    rw [if_pos (by omega)]
    by_cases hll : i = l.length
    · rw [if_pos (by omega), List.drop_eq_nil_of_le (by omega)]
      rfl
    · have hi2 : i < l.length := by omega
      have hd : l.drop i = l[i] :: l.drop (i + 1) := List.drop_eq_getElem_cons hi2
      have hbi := hb l[i] (List.getElem_mem hi2)
      have ih1 := ih (i + 1) (by omega) (by omega)
      rw [if_neg (by omega), if_pos (by omega), if_pos (by omega), rd_eq l i hi2, hd]
      have hln : (l.drop (i + 1)).length = l.length - (i + 1) := by rw [List.length_drop]
      have hrd := rd_eq l i hi2
      clear ih hd hb
      generalize hrest : l.drop (i + 1) = rest at *
      generalize l[i] = b at *
      have e1 : IntKind.u64.wrap (Int.tmod b 128) = b % 128 := by
        rw [wrap_u64, Int.tmod_eq_emod_of_nonneg (by omega)]
        omega
      rw [e1]
      have hif : (if (i : Int) = 9 then damperref03_ReadNum.j1 (2 * j + 1 + 1) l n (IntKind.u64.wrap ((128 ^ i : Nat) : Int)) (i : Int) (b % 128) (decide (b % 128 > 1)) else damperref03_ReadNum.j1 (2 * j + 1 + 1) l n (IntKind.u64.wrap ((128 ^ i : Nat) : Int)) (i : Int) (b % 128) false)
          = damperref03_ReadNum.j1 (2 * j + 1 + 1) l n (IntKind.u64.wrap ((128 ^ i : Nat) : Int)) (i : Int) (b % 128) (decide (i = 9 ∧ 1 < b % 128)) := by
        by_cases h9 : i = 9
        · rw [if_pos (by omega)]
          congr 1
          simp [h9]
        · rw [if_neg (by omega)]
          congr 1
          simp [h9]
      rw [hif]
      clear hif
      rw [damperref03_ReadNum.j1, numGo]
      by_cases hc1 : i = 9 ∧ 1 < b % 128
      · rw [if_pos (by simp [hc1]), if_pos hc1]
        rfl
      · rw [if_neg (by simpa using hc1), if_neg hc1, if_pos (by omega), if_pos (by omega), hrd]
        have hp9 : 128 ^ i ≤ 9223372036854775808 := Nat.le_trans (Nat.pow_le_pow_right (by decide) (by omega : i ≤ 9)) (by decide)
        have hp8 : i ≤ 8 → 128 ^ i ≤ 72057594037927936 := fun h => Nat.le_trans (Nat.pow_le_pow_right (by decide) h) (by decide)
        have hps : ((128 ^ (i + 1) : Nat) : Int) = ((128 ^ i : Nat) : Int) * 128 := by rw [Nat.pow_succ]; simp
        rw [hps] at ih1
        have hpp : 1 ≤ 128 ^ i := Nat.pow_pos (by decide)
        generalize 128 ^ i = q at *
        have hd0 : 0 ≤ b % 128 * (q : Int) := Int.mul_nonneg (by omega) (by omega)
        have hd1 : b % 128 * (q : Int) ≤ 127 * (q : Int) := Int.mul_le_mul_of_nonneg_right (by omega) (by omega)
        have hd9 : i = 9 → b % 128 * (q : Int) ≤ 1 * (q : Int) := fun h => Int.mul_le_mul_of_nonneg_right (by omega) (by omega)
        have ew : IntKind.u64.wrap (q : Int) = (q : Int) := by rw [wrap_u64]; omega
        have ew2 : IntKind.u64.wrap ((q : Int) * 128) = IntKind.u64.wrap (IntKind.u64.wrap (q : Int) * 128) := by rw [ew]
        rw [← ew2, ew]
        generalize b % 128 * (q : Int) = t at *
        have en : IntKind.u64.wrap (n + IntKind.u64.wrap t) = n + t := by
          rw [wrap_u64, wrap_u64]
          by_cases h9 : i = 9
          · have := hd9 h9; omega
          · have := hp8 (by omega); omega
        have ei : wrap64 ((i : Int) + 1) = ((i + 1 : Nat) : Int) := by rw [wrap64_eq]; omega
        rw [en, ei]
        have hnt0 : 0 ≤ n + t := by omega
        have hnt1 : n + t < (q : Int) * 128 := by omega
        clear en ei ew ew2 hd0 hd1 hd9 hp8 hp9 hpp hps h0 h1 hrd e1 hc1
        by_cases h128 : 128 ≤ b
        · have hb2 : ¬ b < 128 := by omega
          rw [if_neg hb2, if_pos h128]
          exact ih1 (n + t) hnt0 hnt1
        · have hb2 : b < 128 := by omega
          have hfin : (l.length : Int) - (rest.length : Int) = ((i + 1 : Nat) : Int) := by omega
          rw [if_pos hb2, if_neg h128]
          clear ih1 hnt0 hnt1 hlen hln hi2 hll hil hi hbi
          by_cases hz : b % 128 = 0
          · by_cases hz2 : 0 < i
            · have hi0 : (i : Int) > 0 := by omega
              rw [if_pos hz, if_pos hi0, if_pos ⟨hz, hz2⟩]
              rfl
            · have hi0 : ¬ (i : Int) > 0 := by omega
              rw [if_pos hz, if_neg hi0, if_neg (fun h => hz2 h.2)]
              show _ = some (n + t, 0, [], (l.length : Int) - (rest.length : Int), 0)
              rw [hfin]
          · rw [if_neg hz, if_neg (fun h => hz h.1)]
            show _ = some (n + t, 0, [], (l.length : Int) - (rest.length : Int), 0)
            rw [hfin]
theorem refReadNum (l : List Int) (hb : Byt l) (hlen : l.length ≤ 140737488355328) (m : Nat) (hm : 21 ≤ m) : damperref03_ReadNum.f m l = some (fin3 l (numGo 10 0 0 l)) := by
  refine up_ (f := fun k => damperref03_ReadNum.f k l) (k := 21) (fun k => damperref03_ReadNum.mono l k) ?_ m hm
  have := refReadNum_go l hb hlen 10 0 (by omega) (by omega) 0 (by omega) (by simp)
  exact this
end Go.Proofs.Ytalpemoodollpaa.P
