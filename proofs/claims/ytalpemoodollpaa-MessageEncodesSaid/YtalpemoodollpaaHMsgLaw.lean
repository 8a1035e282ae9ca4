/- Messages: the document's answer is the program's. -/
import Derived.Test.YtalpemoodollpaaHRefNum
import Derived.Test.YtalpemoodollpaaHOpen
import Derived.Test.YtalpemoodollpaaHmessage
import Derived.Test.YtalpemoodollpaaP4
namespace Go.Proofs.Ytalpemoodollpaa.P
open Go.RowKit Go.Proofs.YtalpemoodollpaaW.PrintWords Go.Proofs.YtalpemoodollpaaW.PrintLast Go.Proofs.YtalpemoodollpaaW.PrintMore
set_option linter.unusedVariables false
set_option linter.unusedSimpArgs false

theorem refIn06 (a lo hi : Int) : damperref06_in.f a lo hi = some (within_ lo hi a) := by
  unfold damperref06_in.f within_
  by_cases h : lo ≤ a
  · rw [if_pos (by omega)]; simp [h]
  · rw [if_neg (by omega)]; simp [h]
theorem refMsgRight (m : S29) : damperref06_Right.f m.f0 m.f1 m.f2 m.f3 m.f4 m.f5 m.f6 m.f7 m.f8 = some (msgRight m) := by
  unfold damperref06_Right.f msgRight
  simp only [refIn06, Option.bind_some]
  cases within_ 1 9 m.f0 <;> cases within_ 0 255 m.f1 <;> cases within_ 0 255 m.f8 <;> cases within_ 0 4611686018427387904 m.f2 <;> cases within_ 0 4611686018427387904 m.f3 <;> cases within_ (-1) 4611686018427387904 m.f4 <;> simp
theorem refMsgForm (m : S29) (h : msgRight m = true) (h6 : i64B m.f6 = true) (h7 : i64B m.f7 = true) (k : Nat) (hk : 12 ≤ k) :
    damperref06_form.f k m.f0 m.f1 m.f2 m.f3 m.f4 m.f5 m.f6 m.f7 m.f8 = some (msgForm m) := by
  have hr := h
  simp only [msgRight, Bool.and_eq_true, within_iff] at hr
  simp only [i64B, within_iff] at h6 h7
  have l2 := numForm_ten m.f2 (by omega)
  have l3 := numForm_ten m.f3 (by omega)
  unfold damperref06_form.f
  rw [show IntKind.u64.wrap m.f2 = m.f2 by rw [wrap_u64]; omega, show IntKind.u64.wrap m.f3 = m.f3 by rw [wrap_u64]; omega,
    refNum m.f2 (by omega) (by omega) k hk, refNum m.f3 (by omega) (by omega) k hk, refInt m.f4 (by omega) (by omega) k hk, refInt m.f5 (by omega) (by omega) k hk, refInt m.f6 h6.1 h6.2 k hk, refInt m.f7 h7.1 h7.2 k hk]
  have e0 : m.f0 % 256 = m.f0 := by omega
  have e1 : m.f1 % 256 = m.f1 := by omega
  have e8 : m.f8 % 256 = m.f8 := by omega
  simp only [Option.bind_some, List.length_append, List.length_cons, List.length_nil, intForm_length, e0, e1, e8]
  rw [if_pos (by omega), if_pos (by omega), if_pos (by omega), if_pos (by omega), if_pos (by omega), if_pos (by omega)]
  rfl
theorem refMsgEncode (m : S29) (h6 : i64B m.f6 = true) (h7 : i64B m.f7 = true) (k : Nat) (hk : 12 ≤ k) :
    damperref06_Encode.f k m.f0 m.f1 m.f2 m.f3 m.f4 m.f5 m.f6 m.f7 m.f8 = some (if msgRight m = true then (msgForm m, 0) else ([], 1)) := by
  unfold damperref06_Encode.f
  rw [refMsgRight]
  simp only [Option.bind_some]
  by_cases h : msgRight m = true
  · rw [if_pos h, if_pos h, refMsgForm m h h6 h7 k hk]
    rfl
  · rw [if_neg h, if_neg h]
theorem msgEncode_f (m : S29) (h6 : i64B m.f6 = true) (h7 : i64B m.f7 = true) :
    message_Encode.f m.f0 m.f1 m.f2 m.f3 m.f4 m.f5 m.f6 m.f7 m.f8 = some (if msgRight m = true then (msgForm m, 0) else ([], 1)) := by
  unfold message_Encode.f
  rw [if_pos ⟨h6, h7⟩]
theorem alive06 : damperlaw06_alive.f = some true := by
  unfold damperlaw06_alive.f
  rw [msgEncode_f ⟨6, 1, 0, 0, 0, 0, 0, 0, 2⟩ (by decide) (by decide), if_pos (by decide)]
  have hl : (msgForm ⟨6, 1, 0, 0, 0, 0, 0, 0, 2⟩).length = 37 := by
    simp [msgForm, numForm_lt, intForm_length]
  simp only [Option.bind_some, hl]
  have h0 : rd (msgForm ⟨6, 1, 0, 0, 0, 0, 0, 0, 2⟩) 0 = 6 := rfl
  have h2 : rd (msgForm ⟨6, 1, 0, 0, 0, 0, 0, 0, 2⟩) 2 = 2 := rfl
  simp [h0, h2, message_Is.f]
theorem msgRight_up (m : S29) (k : Nat) (hk : 4 ≤ k) : message_Right.f k m.f0 m.f1 m.f2 m.f3 m.f4 m.f5 m.f6 m.f7 m.f8 = some (msgRight m) :=
  up_ (f := fun k => message_Right.f k m.f0 m.f1 m.f2 m.f3 m.f4 m.f5 m.f6 m.f7 m.f8) (fun k => message_Right.mono _ _ _ _ _ _ _ _ _ k) (msgRight_f m) k hk
theorem messageEncodes_true (m : S29) (a b : Int) (h6 : i64B m.f6 = true) (h7 : i64B m.f7 = true) :
    damperlaw06_MessageEncodes.f 12 m.f0 m.f1 m.f2 m.f3 m.f4 m.f5 m.f6 m.f7 m.f8 a b = some true := by
  unfold damperlaw06_MessageEncodes.f
  rw [msgEncode_f m h6 h7, refMsgEncode m h6 h7 12 (by omega), msgRight_up m 12 (by omega), refMsgRight, alive06]
  simp only [Option.bind_some, same_of_eq, message_Is.f]
  by_cases h : m.f0 = a <;> simp [h]
theorem messageEncodes_calls (a0 a1 a2 a3 a4 a5 a6 a7 a8 b c : Int) (w : World) (h6 : (Lit.int .i64 a6).wf = true) (h7 : (Lit.int .i64 a7).wf = true) :
    Calls Try.prog 4 #[.agg #[.int .i64 a0, .int .i64 a1, .int .i64 a2, .int .i64 a3, .int .i64 a4, .int .i64 a5, .int .i64 a6, .int .i64 a7, .int .i64 a8], .int .i64 b, .int .i64 c] w fun e w' => e = .returned (.bool true) ∧ Below w.heap.size w w' :=
  damperlaw06_MessageEncodes.calls 12 _ _ _ _ _ _ _ _ _ _ _ true w (messageEncodes_true ⟨a0, a1, a2, a3, a4, a5, a6, a7, a8⟩ b c (by have := row.wf_i64 h6; exact within_iff.2 this) (by have := row.wf_i64 h7; exact within_iff.2 this))
end Go.Proofs.Ytalpemoodollpaa.P
