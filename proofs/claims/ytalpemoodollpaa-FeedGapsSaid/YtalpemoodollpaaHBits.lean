/- Bit operations as arithmetic. -/
import Derived.Test.YtalpemoodollpaaHBase
import Derived.Laws.BitsAllLaws
import Derived.Laws.DeepNot64
namespace Go.Proofs.Ytalpemoodollpaa.P
open Go.RowKit Go.Proofs.YtalpemoodollpaaW.PrintWords Go.Proofs.YtalpemoodollpaaW.PrintLast Go.Proofs.YtalpemoodollpaaW.PrintMore
set_option linter.unusedVariables false
set_option linter.unusedSimpArgs false

theorem wrap_u64 (n : Int) : IntKind.u64.wrap n = n % 18446744073709551616 := by simp [IntKind.wrap, IntKind.bits, IntKind.signed]
theorem wrap64_eq (n : Int) : wrap64 n = (n + 9223372036854775808) % 18446744073709551616 - 9223372036854775808 := by unfold wrap64; omega
theorem wrap_u64_range (n : Int) : 0 ≤ IntKind.u64.wrap n ∧ IntKind.u64.wrap n < 18446744073709551616 := by rw [wrap_u64]; omega

theorem xor_ones (x : Nat) (h : x < 18446744073709551616) : x ^^^ 18446744073709551615 = 18446744073709551615 - x := by
  have h1 : BitVec.ofNat 64 x ^^^ BitVec.allOnes 64 = ~~~ BitVec.ofNat 64 x := BitVec.xor_allOnes
  have h2 := congrArg BitVec.toNat h1
  simp only [BitVec.toNat_xor, BitVec.toNat_not, BitVec.toNat_ofNat, BitVec.toNat_allOnes] at h2
  rw [Nat.mod_eq_of_lt (show x < 2 ^ 64 by omega)] at h2
  exact h2

/-- A number with a sign, turned. -/
def zig (n : Int) : Int := if 0 ≤ n then 2 * n else -2 * n - 1
theorem zig_range (n : Int) (h0 : -9223372036854775808 ≤ n) (h1 : n ≤ 9223372036854775807) : 0 ≤ zig n ∧ zig n < 18446744073709551616 := by
  unfold zig; split <;> omega
theorem zig_inj {a b : Int} (h : zig a = zig b) : a = b := by
  unfold zig at h
  by_cases ha : 0 ≤ a <;> by_cases hb : 0 ≤ b
  · rw [if_pos ha, if_pos hb] at h; omega
  · rw [if_pos ha, if_neg hb] at h; omega
  · rw [if_neg ha, if_pos hb] at h; omega
  · rw [if_neg ha, if_neg hb] at h; omega
theorem zig_bits (n : Int) (h0 : -9223372036854775808 ≤ n) (h1 : n ≤ 9223372036854775807) :
    bits BinOp.xor IntKind.u64 (IntKind.u64.wrap (wrap64 (n * 2))) (IntKind.u64.wrap (n / 9223372036854775808)) = zig n := by
  have ha := wrap_u64_range (wrap64 (n * 2))
  have hb := wrap_u64_range (n / 9223372036854775808)
  rw [u64_xor _ _ ha.1 ha.2 hb.1 hb.2]
  rw [wrap_u64, wrap_u64, wrap64_eq]
  unfold zig
  by_cases hn : 0 ≤ n
  · rw [if_pos hn]
    have e1 : n / 9223372036854775808 = 0 := by omega
    rw [e1]
    simp only [Int.zero_emod, Int.toNat_zero, Nat.xor_zero]
    omega
  · rw [if_neg hn]
    have e1 : n / 9223372036854775808 = -1 := by omega
    rw [e1]
    have e2 : ((-1 : Int) % 18446744073709551616).toNat = 18446744073709551615 := by decide
    rw [e2, xor_ones _ (by omega)]
    omega
/-- The number with a sign, back. -/
def unzig (n : Int) : Int := if n % 2 = 0 then n / 2 else -(n / 2) - 1
theorem unzig_zig (n : Int) : unzig (zig n) = n := by
  unfold unzig zig
  by_cases hn : 0 ≤ n
  · rw [if_pos hn]; split <;> omega
  · rw [if_neg hn]; split <;> omega
theorem zig_unzig (n : Int) (h : 0 ≤ n) : zig (unzig n) = n := by
  unfold unzig zig
  by_cases hn : n % 2 = 0
  · rw [if_pos hn]; split <;> omega
  · rw [if_neg hn]; split <;> omega
theorem and_one (n : Int) (h0 : 0 ≤ n) (h1 : n < 18446744073709551616) : bits BinOp.and IntKind.u64 n 1 = n % 2 := by
  rw [u64_and _ _ h0 h1 (by decide) (by decide)]
  have e : (1 : Int).toNat = 1 := rfl
  rw [e, Nat.and_one_is_mod]
  omega
theorem unzig_bits (n : Int) (h0 : 0 ≤ n) (h1 : n < 18446744073709551616) :
    bits BinOp.xor IntKind.i64 (wrap64 (n / 2)) (wrap64 (-wrap64 (bits BinOp.and IntKind.u64 n 1))) = unzig n := by
  rw [and_one n h0 h1]
  have e1 : wrap64 (n / 2) = n / 2 := by rw [wrap64_eq]; omega
  have e2 : wrap64 (n % 2) = n % 2 := by rw [wrap64_eq]; omega
  rw [e1, e2]
  obtain ⟨a, ha⟩ := Int.eq_ofNat_of_zero_le (show 0 ≤ n / 2 by omega)
  have ha2 : a < 9223372036854775808 := by omega
  unfold unzig
  rw [ha]
  by_cases hn : n % 2 = 0
  · rw [if_pos hn, hn]
    have e3 : wrap64 (-0) = 0 := by rw [wrap64_eq]; omega
    rw [e3]
    show IntKind.i64.wrap ((BitVec.ofInt 64 (a : Int) ^^^ BitVec.ofInt 64 0).toNat : Int) = _
    have h1 : BitVec.ofInt 64 0 = 0#64 := by decide
    rw [h1, BitVec.xor_zero, ofInt_u64 a (by omega)]
    simp [IntKind.wrap, IntKind.bits, IntKind.signed]
    omega
  · rw [if_neg hn, show n % 2 = 1 by omega]
    have e3 : wrap64 (-1) = -1 := by rw [wrap64_eq]; omega
    rw [e3]
    show IntKind.i64.wrap ((BitVec.ofInt 64 (a : Int) ^^^ BitVec.ofInt 64 (-1)).toNat : Int) = _
    have h1 : BitVec.ofInt 64 (-1) = BitVec.allOnes 64 := by decide
    rw [h1, BitVec.xor_allOnes, BitVec.toNat_not, ofInt_u64 a (by omega)]
    simp [IntKind.wrap, IntKind.bits, IntKind.signed]
    omega
theorem andNot128 (b : Int) (h0 : 0 ≤ b) (h1 : b ≤ 255) : bits BinOp.andNot IntKind.u8 b 128 = b % 128 := by
  have key : ∀ x : Fin 256, bits BinOp.andNot IntKind.u8 (x.val : Int) 128 = (x.val : Int) % 128 := by decide +kernel
  have := key ⟨b.toNat, by omega⟩
  simp only [Int.toNat_of_nonneg h0] at this
  exact this
/-- n | c << (7 * i), n below 2^(7 i). -/
theorem or_high (n c : Int) (i : Nat) (hi : i ≤ 9) (h0 : 0 ≤ n) (h1 : n < ((128 ^ i : Nat) : Int)) (h2 : 0 ≤ c) (h3 : c ≤ 127) (h4 : i = 9 → c ≤ 1) :
    bits BinOp.or IntKind.u64 n (IntKind.u64.wrap (c * 2 ^ (7 * i))) = n + c * ((128 ^ i : Nat) : Int) ∧ n + c * ((128 ^ i : Nat) : Int) < 18446744073709551616 ∧ 0 ≤ n + c * ((128 ^ i : Nat) : Int) ∧ n + c * ((128 ^ i : Nat) : Int) < ((128 ^ (i + 1) : Nat) : Int) := by
  have e0 : (2 : Int) ^ (7 * i) = ((128 ^ i : Nat) : Int) := by rw [Int.pow_mul]; rfl
  have hp : 0 < 128 ^ i := Nat.pow_pos (by decide)
  have hb : c * ((128 ^ i : Nat) : Int) + ((128 ^ i : Nat) : Int) ≤ 18446744073709551616 := by
    by_cases h9 : i = 9
    · subst h9
      have : 128 ^ 9 = 9223372036854775808 := by decide
      have := h4 rfl
      omega
    · have h5 : 128 ^ i ≤ 128 ^ 8 := Nat.pow_le_pow_right (by decide) (by omega)
      have h6 : 128 ^ 8 = 72057594037927936 := by decide
      have h7 : c * ((128 ^ i : Nat) : Int) ≤ 127 * ((128 ^ i : Nat) : Int) := Int.mul_le_mul_of_nonneg_right h3 (by omega)
      omega
  have hc : 0 ≤ c * ((128 ^ i : Nat) : Int) := Int.mul_nonneg h2 (by omega)
  have e1 : IntKind.u64.wrap (c * 2 ^ (7 * i)) = c * ((128 ^ i : Nat) : Int) := by rw [e0, wrap_u64]; omega
  have hn : n + c * ((128 ^ i : Nat) : Int) < ((128 ^ (i + 1) : Nat) : Int) := by
    have h7 : c * ((128 ^ i : Nat) : Int) ≤ 127 * ((128 ^ i : Nat) : Int) := Int.mul_le_mul_of_nonneg_right h3 (by omega)
    rw [Nat.pow_succ, Int.natCast_mul]
    have e : ((128 : Nat) : Int) = 128 := rfl
    rw [e]
    omega
  refine ⟨?_, by omega, by omega, hn⟩
  rw [e1, u64_or _ _ h0 (by omega) hc (by omega)]
  have h6 : (c * ((128 ^ i : Nat) : Int)).toNat = c.toNat <<< (7 * i) := by
    rw [Nat.shiftLeft_eq, Nat.pow_mul, show (2 : Nat) ^ 7 = 128 from rfl]
    obtain ⟨m, rfl⟩ := Int.eq_ofNat_of_zero_le h2
    rw [← Int.natCast_mul, Int.toNat_natCast, Int.toNat_natCast]
  rw [Nat.or_comm, h6, ← Nat.shiftLeft_add_eq_or_of_lt (b := n.toNat) (i := 7 * i) (by rw [Nat.pow_mul, show (2 : Nat) ^ 7 = 128 from rfl]; omega), ← h6]
  omega
theorem or_zero (c : Int) (h2 : 0 ≤ c) (h3 : c ≤ 255) : bits BinOp.or IntKind.u64 0 c = c := by
  rw [u64_or _ _ (by decide) (by decide) h2 (by omega)]
  have e : (0 : Int).toNat = 0 := rfl
  rw [e, Nat.zero_or]
  omega
end Go.Proofs.Ytalpemoodollpaa.P
