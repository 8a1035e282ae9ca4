/- The document's forms of numbers are the program's. -/
import Derived.Test.YtalpemoodollpaaHForms
import Derived.Test.YtalpemoodollpaaP102
import Derived.Test.YtalpemoodollpaaP103
namespace Go.Proofs.Ytalpemoodollpaa.P
open Go.RowKit Go.Proofs.YtalpemoodollpaaW.PrintWords Go.Proofs.YtalpemoodollpaaW.PrintLast Go.Proofs.YtalpemoodollpaaW.PrintMore
set_option linter.unusedVariables false
set_option linter.unusedSimpArgs false

theorem up_ {α : Type} {f : Nat → Option α} (hm : ∀ k, LeO (f k) (f (k + 1))) {k : Nat} {r : α} (h : f k = some r) : ∀ m, k ≤ m → f m = some r := by
  intro m hm'
  induction m with
  | zero => obtain rfl : k = 0 := by omega
            exact h
  | succ m ih =>
    rcases Nat.lt_or_ge m k with h1 | h1
    · obtain rfl : k = m + 1 := by omega
      exact h
    · exact hm m r (ih h1)

theorem tmod128 (n : Int) (h : 0 ≤ n) : Int.tmod n 128 = n % 128 := Int.tmod_eq_emod_of_nonneg h
theorem tdiv128 (n : Int) (h : 0 ≤ n) : Int.tdiv n 128 = n / 128 := Int.tdiv_eq_ediv_of_nonneg h

theorem refNum_go (k : Nat) : ∀ (n : Int) (acc : List Int), 0 ≤ n → n < ((128 ^ (k + 1) : Nat) : Int) → n < 18446744073709551616 → acc.length + k < 140737488355328 →
    damperref03_Num.l0 (k + 1) n acc = some (acc ++ numForm n.toNat) := by
  induction k with
  | zero =>
    intro n acc h0 h1 h2 h3
    have h1' : n < 128 := by simpa using h1
    unfold damperref03_Num.l0
    rw [if_neg (by omega), if_pos (by omega), numForm_small h0 h1']
    congr 3
    omega
  | succ k ih =>
    intro n acc h0 h1 h2 h3
    unfold damperref03_Num.l0
    by_cases hn : n > 127
    · rw [if_pos hn, if_pos (by omega), tmod128 n h0, tdiv128 n h0, wrap_u64, wrap_u64]
      have e1 : n / 128 % 18446744073709551616 = n / 128 := by omega
      have e2 : (n % 128 + 128) % 18446744073709551616 % 256 = n % 128 + 128 := by omega
      rw [e1, e2, ih (n / 128) _ (by omega) ?_ (by omega) (by simp; omega), numForm_big (n := n) (by omega)]
      · simp
      · have : ((128 ^ (k + 1 + 1) : Nat) : Int) = ((128 ^ (k + 1) : Nat) : Int) * 128 := by rw [Nat.pow_succ]; simp
        rw [this] at h1
        omega
    · rw [if_neg hn, if_pos (by omega), numForm_small h0 (by omega)]
      congr 3
      omega
theorem refNum (n : Int) (h0 : 0 ≤ n) (h1 : n < 18446744073709551616) (m : Nat) (hm : 12 ≤ m) : damperref03_Num.f m n = some (numForm n.toNat) := by
  refine up_ (f := fun k => damperref03_Num.f k n) (k := 12) (fun k => damperref03_Num.mono n k) ?_ m hm
  have := refNum_go 11 n [] h0 (by simp; omega) h1 (by simp)
  unfold damperref03_Num.f
  simpa using this
theorem refUint_go (s : Nat) (hs : s ≤ 8) (n0 : Nat) (hn0 : n0 < 18446744073709551616) : ∀ (j : Nat) (i : Nat), i + j = s →
    damperref03_Uint.l0 (j + 1) ((n0 / 256 ^ i : Nat) : Int) (s : Int) (uintForm n0 i) (i : Int) = some (uintForm n0 s) := by
  intro j
  induction j with
  | zero =>
    intro i hi
    obtain rfl : i = s := by omega
    unfold damperref03_Uint.l0
    rw [if_neg (by omega)]
  | succ j ih =>
    intro i hi
    unfold damperref03_Uint.l0
    have hw : wrap64 ((i : Int) + 1) = ((i + 1 : Nat) : Int) := by rw [wrap64_eq]; omega
    have hle : n0 / 256 ^ i ≤ n0 := Nat.div_le_self _ _
    have hq : n0 / 256 ^ (i + 1) = n0 / 256 ^ i / 256 := by rw [Nat.pow_succ, Nat.div_div_eq_div_mul]
    have hu : uintForm n0 (i + 1) = ((n0 / 256 ^ i % 256 : Nat) : Int) :: uintForm n0 i := rfl
    have ih1 := ih (i + 1) (by omega)
    rw [hu, hq] at ih1
    clear ih hq hu
    revert ih1
    generalize n0 / 256 ^ i = q at hle
    intro ih1
    have ht : Int.tdiv (q : Int) 256 = ((q / 256 : Nat) : Int) := by
      rw [Int.tdiv_eq_ediv_of_nonneg (by omega)]
      omega
    have hm : Int.tmod (q : Int) 256 % 256 = ((q % 256 : Nat) : Int) := by
      rw [Int.tmod_eq_emod_of_nonneg (by omega)]
      omega
    have hwr : IntKind.u64.wrap ((q / 256 : Nat) : Int) = ((q / 256 : Nat) : Int) := by
      rw [wrap_u64]
      omega
    rw [if_pos (by omega), ht, hm, hwr, hw]
    simp only [Option.bind_some, List.length_cons, List.length_nil, uintForm_length]
    rw [if_pos (by omega)]
    exact ih1
theorem refUint (n s : Int) (h0 : 0 ≤ n) (h1 : n < 18446744073709551616) (hs : 1 ≤ s) (hs2 : s ≤ 8) (m : Nat) (hm : 12 ≤ m) : damperref03_Uint.f m n s = some (uintForm n.toNat s.toNat) := by
  refine up_ (f := fun k => damperref03_Uint.f k n s) (k := s.toNat + 2) (fun k => damperref03_Uint.mono n s k) ?_ m (by omega)
  show damperref03_Uint.f (s.toNat + 2) n s = _
  unfold damperref03_Uint.f
  rw [if_neg (by omega)]
  rw [show s.toNat + 2 = (s.toNat + 1) + 1 from rfl, damperref03_Uint.j0, if_neg (by simp; omega)]
  have := refUint_go s.toNat (by omega) n.toNat (by omega) s.toNat 0 (by omega)
  simpa [uintForm, Int.toNat_of_nonneg h0, Int.toNat_of_nonneg (show 0 ≤ s by omega)] using this
theorem refUint_none (n s : Int) (hs : s < 1 ∨ 8 < s) (m : Nat) (hm : 12 ≤ m) : damperref03_Uint.f m n s = some [] := by
  refine up_ (f := fun k => damperref03_Uint.f k n s) (k := 1) (fun k => damperref03_Uint.mono n s k) ?_ m (by omega)
  show damperref03_Uint.f 1 n s = _
  unfold damperref03_Uint.f
  split
  · simp [damperref03_Uint.j0]
  · simp [damperref03_Uint.j0, show s > 8 by omega]
theorem refTurned (n : Int) (h0 : -9223372036854775808 ≤ n) (h1 : n ≤ 9223372036854775807) : damperref03_turned.f n = some (zig n) := by
  unfold damperref03_turned.f zig
  split
  · rw [wrap_u64, wrap_u64]
    congr 1
    omega
  · rw [wrap_u64, wrap_u64, wrap_u64, wrap64_eq, wrap64_eq]
    congr 1
    omega
theorem refInt (n : Int) (h0 : -9223372036854775808 ≤ n) (h1 : n ≤ 9223372036854775807) (m : Nat) (hm : 12 ≤ m) : damperref03_Int.f m n = some (intForm n) := by
  unfold damperref03_Int.f
  rw [refTurned n h0 h1]
  have := zig_range n h0 h1
  simp only [Option.bind_some]
  rw [refUint (zig n) 8 this.1 this.2 (by omega) (by omega) m hm]
  rfl
theorem same_of_eq (l : List Int) : damperref03_Same.f l l = some true := by simp [damperref03_Same.f]
end Go.Proofs.Ytalpemoodollpaa.P
