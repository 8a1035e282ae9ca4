/- Contracts and plain laws: HCmdEnc. -/
import Derived.Test.YtalpemoodollpaaX7
import Derived.Test.YtalpemoodollpaaX8
import Derived.Test.YtalpemoodollpaaX9
/- Commands: the document's bytes are the program's; flags. -/
namespace Go.Proofs.Ytalpemoodollpaa.P
open Go.RowKit Go.Proofs.YtalpemoodollpaaW.PrintWords Go.Proofs.YtalpemoodollpaaW.PrintLast Go.Proofs.YtalpemoodollpaaW.PrintMore
set_option linter.unusedVariables false
set_option linter.unusedSimpArgs false
theorem band (x : Int) (m : Nat) (hm : m < 8) : bits BinOp.and IntKind.i64 x (m : Int) = ((((x % 8).toNat &&& m) : Nat) : Int) := by
  have h1 : (BitVec.ofInt 64 x).toNat = (x % 18446744073709551616).toNat := by simp [BitVec.toNat_ofInt]
  have h2 : (BitVec.ofInt 64 (m : Int)).toNat = m := by
    simp [BitVec.toNat_ofInt]
    omega
  show IntKind.i64.wrap (((BitVec.ofInt 64 x &&& BitVec.ofInt 64 (m : Int)).toNat : Nat) : Int) = _
  rw [BitVec.toNat_and, h1, h2]
  have h3 : (x % 18446744073709551616).toNat &&& m ≤ m := Nat.and_le_right
  have h4 : ((x % 18446744073709551616).toNat &&& m) % 2 ^ 3 = ((x % 18446744073709551616).toNat % 2 ^ 3) &&& (m % 2 ^ 3) := Nat.and_mod_two_pow
  rw [Nat.mod_eq_of_lt (show (x % 18446744073709551616).toNat &&& m < 2 ^ 3 by omega), Nat.mod_eq_of_lt (show m < 2 ^ 3 by omega)] at h4
  have h5 : (x % 18446744073709551616).toNat % 2 ^ 3 = (x % 8).toNat := by omega
  rw [h5] at h4
  rw [h4]
  have h6 : (x % 8).toNat &&& m ≤ m := Nat.and_le_right
  generalize (x % 8).toNat &&& m = y at *
  simp [IntKind.wrap, IntKind.bits, IntKind.signed]
  omega
theorem bit_at (x : Int) (i : Nat) (hi : i ≤ 63) : bits BinOp.and IntKind.i64 (shr IntKind.i64 x (i : Int)) 1 = x / 2 ^ i % 2 := by
  have e : shr IntKind.i64 x (i : Int) = x / 2 ^ i := by
    unfold shr
    rw [Int.toNat_natCast, Nat.min_eq_left (by show i ≤ 64; omega)]
  rw [e]
  have := band (x / 2 ^ i) 1 (by omega)
  rw [show ((1 : Nat) : Int) = 1 from rfl] at this
  rw [this, Nat.and_one_is_mod]
  generalize x / 2 ^ i = y
  omega
/-- What the law's loop says of flags. -/
def hasL (a f : Int) : Nat → Nat → Bool → Bool
  | 0, _, b => b
  | j + 1, i, b => hasL a f j (i + 1) (if a / 2 ^ i % 2 = 1 then (if f / 2 ^ i % 2 = 0 then false else b) else b)
theorem hasL_ok (a f : Int) (h0 : 0 ≤ a) (h1 : a < 8) : hasL a f 8 0 true = (bits BinOp.and IntKind.i64 f a == a) := by
  obtain ⟨m, rfl⟩ := Int.eq_ofNat_of_zero_le h0
  have hm : m < 8 := by omega
  rw [band f m hm]
  have f0 : f / 2 ^ 0 % 2 = f % 8 % 2 := by simp
  have f1 : f / 2 ^ 1 % 2 = f % 8 / 2 % 2 := by omega
  have f2 : f / 2 ^ 2 % 2 = f % 8 / 4 % 2 := by omega
  have r0 : 0 ≤ f % 8 := by omega
  have r1 : f % 8 < 8 := by omega
  have a3 : (m : Int) / 2 ^ 3 % 2 = 0 := by omega
  have a4 : (m : Int) / 2 ^ 4 % 2 = 0 := by omega
  have a5 : (m : Int) / 2 ^ 5 % 2 = 0 := by omega
  have a6 : (m : Int) / 2 ^ 6 % 2 = 0 := by omega
  have a7 : (m : Int) / 2 ^ 7 % 2 = 0 := by omega
  simp only [hasL, Nat.zero_add, f0, f1, f2, a3, a4, a5, a6, a7, Nat.reduceAdd]
  generalize f % 8 = r at *
  obtain ⟨r, rfl⟩ := Int.eq_ofNat_of_zero_le r0
  have hr : r < 8 := by omega
  clear f0 f1 f2 a3 a4 a5 a6 a7 r0 r1 h0 h1
  have key : ∀ (x y : Fin 8), (if (0 : Int) = 1 then if f / 2 ^ 7 % 2 = 0 then false else true else true) = true := fun _ _ => rfl
  rw [if_neg (by decide), if_neg (by decide), if_neg (by decide), if_neg (by decide), if_neg (by decide)]
  clear key
  revert hm hr
  revert m r
  have key : ∀ (m r : Fin 8), (if ((m.val : Nat) : Int) / 2 ^ 2 % 2 = 1 then if ((r.val : Nat) : Int) / 4 % 2 = 0 then false else if ((m.val : Nat) : Int) / 2 ^ 1 % 2 = 1 then if ((r.val : Nat) : Int) / 2 % 2 = 0 then false else if ((m.val : Nat) : Int) / 2 ^ 0 % 2 = 1 then if ((r.val : Nat) : Int) % 2 = 0 then false else true else true else if ((m.val : Nat) : Int) / 2 ^ 0 % 2 = 1 then if ((r.val : Nat) : Int) % 2 = 0 then false else true else true else if ((m.val : Nat) : Int) / 2 ^ 1 % 2 = 1 then if ((r.val : Nat) : Int) / 2 % 2 = 0 then false else if ((m.val : Nat) : Int) / 2 ^ 0 % 2 = 1 then if ((r.val : Nat) : Int) % 2 = 0 then false else true else true else if ((m.val : Nat) : Int) / 2 ^ 0 % 2 = 1 then if ((r.val : Nat) : Int) % 2 = 0 then false else true else true) = ((((((r.val : Nat) : Int).toNat &&& m.val) : Nat) : Int) == ((m.val : Nat) : Int)) := by decide
  intro m r hm hr
  exact key ⟨m, hm⟩ ⟨r, hr⟩
theorem refCmdForm (c : Cmd) (h : cmdRight c = true) (h6 : i64B c.f6 = true) (h7 : i64B c.f7 = true) (k : Nat) (hk : 14 ≤ k) :
    damperref05_form.f k c.f0 c.f1 c.f2 c.f3 c.f4 c.f5 c.f6 c.f7 c.f8 = some (cmdForm c) := by
  obtain ⟨k, rfl⟩ : ∃ m, k = m + 1 := ⟨k - 1, by omega⟩
  have hr := h
  simp only [cmdRight, Bool.and_eq_true, within_iff] at hr
  simp only [i64B, within_iff] at h6 h7
  obtain ⟨⟨h1, h2⟩, h3⟩ := hr
  have l2 := numForm_ten c.f2 (by omega)
  have e1 : c.f1 % 256 = c.f1 := by omega
  have w2 : IntKind.u64.wrap c.f2 = c.f2 := by rw [wrap_u64]; omega
  unfold damperref05_form.f cmdForm
  rw [w2, refNum c.f2 (by omega) (by omega) (k + 1) (by omega)]
  simp only [Option.bind_some, List.length_append, List.length_cons, List.length_nil, e1]
  rw [if_pos (by omega)]
  have i6 := refInt c.f6 h6.1 h6.2 k (by omega)
  have i7 := refInt c.f7 h7.1 h7.2 k (by omega)
  by_cases k1 : c.f0 = 1
  · rw [if_pos k1] at h3
    simp only [Bool.and_eq_true, within_iff] at h3
    have l3 := numForm_ten c.f3 (by omega)
    have w3 : IntKind.u64.wrap c.f3 = c.f3 := by rw [wrap_u64]; omega
    have e0 : c.f0 % 256 = c.f0 := by omega
    have e4 : c.f4 % 256 = c.f4 := by omega
    have e5 : c.f5 % 256 = c.f5 := by omega
    have e8 : c.f8 % 256 = c.f8 := by omega
    rw [if_pos k1, w3, refNum c.f3 (by omega) (by omega) (k + 1) (by omega)]
    simp only [Option.bind_some, List.length_append, List.length_cons, List.length_nil, e0, e4, e5, e8]
    rw [if_pos (by omega), if_pos (by omega)]
    rw [damperref05_form.j0.eq_2, if_neg (by omega), i6, i7]
    simp only [Option.bind_some, List.length_append, List.length_cons, List.length_nil, intForm_length]
    rw [if_pos (by omega), if_pos (by omega), if_pos k1, if_neg (by omega)]
    simp [List.append_assoc]
  · rw [if_neg k1] at h3
    rw [if_neg k1, if_neg k1]
    rw [damperref05_form.j0.eq_2]
    by_cases k2 : c.f0 = 2
    · have e0 : c.f0 % 256 = c.f0 := by omega
      rw [if_pos k2, if_pos k2, e0]
      simp
    · rw [if_neg k2, if_neg k2, i6, i7]
      simp only [Option.bind_some, List.length_append, List.length_cons, List.length_nil, intForm_length]
      have k3 : c.f0 = 3 := by
        apply Classical.byContradiction
        intro hc
        rw [if_neg hc, if_neg k2] at h3
        cases h3
      have e0 : c.f0 % 256 = c.f0 := by omega
      rw [if_pos (by omega), if_pos (by omega), e0]
      simp [List.append_assoc]
theorem refRight_k (c : Cmd) (k : Nat) (hk : 1 ≤ k) : damperref05_Right.f k c.f0 c.f1 c.f2 c.f3 c.f4 c.f5 c.f6 c.f7 c.f8 = some (cmdRight c) :=
  up_ (damperref05_Right.mono c.f0 c.f1 c.f2 c.f3 c.f4 c.f5 c.f6 c.f7 c.f8) (refRight c) k hk
theorem refCmdEncode (c : Cmd) (h6 : i64B c.f6 = true) (h7 : i64B c.f7 = true) (k : Nat) (hk : 14 ≤ k) :
    damperref05_Encode.f k c.f0 c.f1 c.f2 c.f3 c.f4 c.f5 c.f6 c.f7 c.f8 = some (if cmdRight c = true then (cmdForm c, 0) else ([], 1)) := by
  unfold damperref05_Encode.f
  rw [refRight_k c k (by omega)]
  simp only [Option.bind_some]
  by_cases h : cmdRight c = true
  · rw [if_pos h, if_pos h, refCmdForm c h h6 h7 k hk]; rfl
  · rw [if_neg h, if_neg h]
theorem commandEncodes_j (b : List Int) (f : Int) (c : Cmd) (k : Nat) (hk : 3 ≤ k) : damperlaw05_CommandEncodes.j1 k b f b f false c.f0 c.f1 c.f2 c.f3 c.f4 c.f5 c.f6 c.f7 c.f8 = some true := by
  obtain ⟨k, rfl⟩ : ∃ m, k = m + 1 := ⟨k - 1, by omega⟩
  rw [damperlaw05_CommandEncodes.j1.eq_2, if_neg (by decide), same_of_eq, refRight_k c k (by omega), alive05]
  simp [command_Right.f]
theorem commandEncodes_go (a : Int) (b : List Int) (f : Int) (c : Cmd) : ∀ (j i : Nat) (x : Bool), i + j = 8 → ∀ k, damperlaw05_CommandEncodes.l0 (j + 1 + k) a b f b f x (i : Int) c.f0 c.f1 c.f2 c.f3 c.f4 c.f5 c.f6 c.f7 c.f8 =
    damperlaw05_CommandEncodes.l0 (1 + k) a b f b f (hasL a c.f8 j i x) 8 c.f0 c.f1 c.f2 c.f3 c.f4 c.f5 c.f6 c.f7 c.f8 := by
  intro j
  induction j with
  | zero =>
    intro i x hi k
    obtain rfl : i = 8 := by omega
    rw [Nat.zero_add]
    rfl
  | succ j ih =>
    intro i x hi k
    have e1 : wrap64 ((i : Int) + 1) = ((i + 1 : Nat) : Int) := by unfold wrap64; omega
    have e2 : IntKind.u64.wrap (i : Int) = (i : Int) := by rw [wrap_u64]; omega
    rw [show j + 1 + 1 + k = (j + 1 + k) + 1 by omega, damperlaw05_CommandEncodes.l0.eq_2, if_pos (by omega), e2, if_pos (by omega), bit_at a i (by omega), bit_at c.f8 i (by omega), e1, hasL]
    by_cases h1 : a / 2 ^ i % 2 = 1
    · rw [if_pos h1, if_pos h1]
      by_cases h2 : c.f8 / 2 ^ i % 2 = 0
      · rw [if_pos h2, if_pos h2]; exact ih (i + 1) _ (by omega) k
      · rw [if_neg h2, if_neg h2]; exact ih (i + 1) _ (by omega) k
    · rw [if_neg h1, if_neg h1]; exact ih (i + 1) _ (by omega) k
theorem commandEncodes_f (c : Cmd) (a : Int) (h6 : i64B c.f6 = true) (h7 : i64B c.f7 = true) : damperlaw05_CommandEncodes.f 20 c.f0 c.f1 c.f2 c.f3 c.f4 c.f5 c.f6 c.f7 c.f8 a = some true := by
  unfold damperlaw05_CommandEncodes.f command_Encode.f
  rw [if_pos ⟨h6, h7⟩, refCmdEncode c h6 h7 20 (by omega)]
  simp only [Option.bind_some]
  generalize (if cmdRight c = true then (cmdForm c, (0 : Int)) else ([], 1)) = P
  obtain ⟨b, f⟩ := P
  have := commandEncodes_go a b f c 8 0 true (by omega) 11
  simp only [Int.ofNat_zero, Nat.reduceAdd] at this
  dsimp only
  rw [this, show (12 : Nat) = 11 + 1 from rfl, damperlaw05_CommandEncodes.l0.eq_2, if_neg (by decide)]
  by_cases h0 : a ≥ 0
  · rw [if_pos h0]
    by_cases h8 : a < 8
    · rw [if_pos h8, hasL_ok a c.f8 h0 h8]
      simp only [command_Has.f, Option.bind_some]
      rw [show ((bits BinOp.and IntKind.i64 c.f8 a == a) != (bits BinOp.and IntKind.i64 c.f8 a == a)) = false by simp]
      exact commandEncodes_j b f c 11 (by omega)
    · rw [if_neg h8]; exact commandEncodes_j b f c 11 (by omega)
  · rw [if_neg h0]; exact commandEncodes_j b f c 11 (by omega)
theorem commandEncodes_calls (a0 a1 a2 a3 a4 a5 a6 a7 a8 a : Int) (w : World) (h6 : (Lit.int .i64 a6).wf = true) (h7 : (Lit.int .i64 a7).wf = true) :
    Calls Try.prog 21 #[.agg #[.int .i64 a0, .int .i64 a1, .int .i64 a2, .int .i64 a3, .int .i64 a4, .int .i64 a5, .int .i64 a6, .int .i64 a7, .int .i64 a8], .int .i64 a] w fun e w' => e = .returned (.bool true) ∧ Below w.heap.size w w' :=
  damperlaw05_CommandEncodes.calls 20 a0 a1 a2 a3 a4 a5 a6 a7 a8 a true w (commandEncodes_f ⟨a0, a1, a2, a3, a4, a5, a6, a7, a8⟩ a (by have := row.wf_i64 h6; simp [i64B, within_]; omega) (by have := row.wf_i64 h7; simp [i64B, within_]; omega))
end Go.Proofs.Ytalpemoodollpaa.P
