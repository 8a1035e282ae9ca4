/- Messages: which are right, their bytes. -/
import Derived.Test.YtalpemoodollpaaHForms
import Derived.Test.YtalpemoodollpaaP32
namespace Go.Proofs.Ytalpemoodollpaa.P
open Go.RowKit Go.Proofs.YtalpemoodollpaaW.PrintWords Go.Proofs.YtalpemoodollpaaW.PrintLast Go.Proofs.YtalpemoodollpaaW.PrintMore
set_option linter.unusedVariables false
set_option linter.unusedSimpArgs false

def within_ (lo hi a : Int) : Bool := decide (lo ≤ a) && decide (a ≤ hi)
def msgRight (m : S29) : Bool :=
  within_ 1 9 m.f0 && within_ 0 255 m.f1 && within_ 0 255 m.f8 && within_ 0 4611686018427387904 m.f2 && within_ 0 4611686018427387904 m.f3 && within_ (-1) 4611686018427387904 m.f4 && within_ (-1) 4611686018427387904 m.f5
def i64B (a : Int) : Bool := within_ (-9223372036854775808) 9223372036854775807 a
def msgForm (m : S29) : List Int := [m.f0, m.f1, m.f8] ++ numForm m.f2.toNat ++ numForm m.f3.toNat ++ intForm m.f4 ++ intForm m.f5 ++ intForm m.f6 ++ intForm m.f7
theorem within_iff {lo hi a : Int} : within_ lo hi a = true ↔ lo ≤ a ∧ a ≤ hi := by simp [within_]
theorem wrap1 : wrap64 (0 + 1) = 1 := by rw [wrap64_eq]; omega
theorem wrap2 : wrap64 (1 + 1) = 2 := by rw [wrap64_eq]; omega
theorem within1 (lo hi a : Int) : message_within.f 4 lo hi [a] = some (within_ lo hi a) := by
  unfold message_within.f
  simp only [message_within.l0, wrap1, wrap2, rd, within_, List.length_cons, List.length_nil]
  by_cases h1 : a < lo
  · have h2 : ¬ lo ≤ a := by omega
    simp [h1, h2]
  · by_cases h3 : a > hi
    · have h2 : lo ≤ a := by omega
      have h4 : ¬ a ≤ hi := by omega
      simp [h1, h2, h3, h4]
    · have h2 : lo ≤ a := by omega
      have h4 : a ≤ hi := by omega
      simp [h1, h2, h3, h4]
theorem within2 (lo hi a b : Int) : message_within.f 4 lo hi [a, b] = some (within_ lo hi a && within_ lo hi b) := by
  unfold message_within.f
  simp only [message_within.l0, wrap1, wrap2, rd, within_, List.length_cons, List.length_nil]
  by_cases h1 : a < lo
  · have h2 : ¬ lo ≤ a := by omega
    simp [h1, h2]
  · by_cases h3 : a > hi
    · have h2 : lo ≤ a := by omega
      have h4 : ¬ a ≤ hi := by omega
      simp [h1, h2, h3, h4]
    · have h2 : lo ≤ a := by omega
      have h4 : a ≤ hi := by omega
      by_cases h5 : b < lo
      · have h6 : ¬ lo ≤ b := by omega
        simp [h1, h2, h3, h4, h5, h6]
      · by_cases h7 : b > hi
        · have h6 : lo ≤ b := by omega
          have h8 : ¬ b ≤ hi := by omega
          simp [h1, h2, h3, h4, h5, h6, h7, h8]
        · have h6 : lo ≤ b := by omega
          have h8 : b ≤ hi := by omega
          simp [h1, h2, h3, h4, h5, h6, h7, h8]
theorem msgRight_f (m : S29) : message_Right.f 4 m.f0 m.f1 m.f2 m.f3 m.f4 m.f5 m.f6 m.f7 m.f8 = some (msgRight m) := by
  unfold message_Right.f msgRight
  rw [within1, within2, within2, within2]
  simp only [Option.bind_some]
  cases within_ 1 9 m.f0 <;> cases within_ 0 255 m.f1 <;> cases within_ 0 255 m.f8 <;> cases within_ 0 4611686018427387904 m.f2 <;> cases within_ 0 4611686018427387904 m.f3 <;> simp
def msgVal (m : S29) : Value := .agg #[.int .i64 m.f0, .int .i64 m.f1, .int .i64 m.f2, .int .i64 m.f3, .int .i64 m.f4, .int .i64 m.f5, .int .i64 m.f6, .int .i64 m.f7, .int .i64 m.f8]
theorem msgRight_calls (m : S29) (w : World) : Calls Try.prog 32 #[.agg #[.int .i64 m.f0, .int .i64 m.f1, .int .i64 m.f2, .int .i64 m.f3, .int .i64 m.f4, .int .i64 m.f5, .int .i64 m.f6, .int .i64 m.f7, .int .i64 m.f8]] w fun e w' => e = .returned (.bool (msgRight m)) ∧ Below w.heap.size w w' :=
  message_Right.calls 4 _ _ _ _ _ _ _ _ _ _ w (msgRight_f m)
theorem msgForm_length (m : S29) (h : msgRight m = true) : (msgForm m).length ≤ 55 ∧ 37 ≤ (msgForm m).length := by
  simp only [msgRight, Bool.and_eq_true, within_iff] at h
  have h2 := numForm_ten m.f2 (by omega)
  have h3 := numForm_ten m.f3 (by omega)
  have p2 := numForm_pos m.f2.toNat
  have p3 := numForm_pos m.f3.toNat
  simp only [msgForm, List.length_append, List.length_cons, List.length_nil, intForm_length]
  omega
theorem msgForm_byt (m : S29) (h : msgRight m = true) : Byt (msgForm m) := by
  simp only [msgRight, Bool.and_eq_true, within_iff] at h
  unfold msgForm
  refine ((((((Byt.append ?_ (numForm_byt _)).append (numForm_byt _)).append (intForm_byt _)).append (intForm_byt _)).append (intForm_byt _)).append (intForm_byt _))
  exact Byt.mk (by omega) (Byt.mk (by omega) (Byt.mk (by omega) Byt.nil))
end Go.Proofs.Ytalpemoodollpaa.P
