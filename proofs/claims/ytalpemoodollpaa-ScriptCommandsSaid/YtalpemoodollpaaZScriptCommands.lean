/- ScriptCommands returns true for every input: the step of any command. No condition. -/
import Derived.Test.YtalpemoodollpaaRows
import Derived.Test.YtalpemoodollpaaX18
import Derived.Test.YtalpemoodollpaaX16
namespace Go.Proofs.Ytalpemoodollpaa.scriptCommands
open Go.ChangeShapes Go.WideShapes Go.ChangeAt Go.RowKit row
set_option linter.unusedVariables false
set_option linter.unusedSimpArgs false
open Go.ChangeMaps (open_string shut_string)
set_option maxRecDepth 1000000 in
set_option maxHeartbeats 4000000 in
theorem closed : joinedFacts Try.prog 17 Try.f17 Rows.scriptCommandsSpec Rows.scriptCommandsRow = true := by
  unfold joinedFacts
  repeat' (with_reducible refine and_ ?_ ?_)
  all_goals first | (with_reducible first | exact may | exact laidOut | exact rowed | exact heard) | ((with_reducible rw [final]); as_aux_lemma => kernel_rfl) | ((with_reducible rw [make]); as_aux_lemma => kernel_rfl) | (as_aux_lemma => kernel_rfl)
set_option maxRecDepth 100000 in
theorem lifted (os : Os) (started : os.Started) (H : Type) (enc : TypeId × Value → H) :
    ReturnsInHanded {} Try.checked os 17 .any (Rows.scriptCommandsSpec.pre6 enc Try.prog Try.f17 Rows.scriptCommandsRow.domain false) (Rows.scriptCommandsSpec.post enc Try.prog Try.f17 false true false false) := by
  refine returnsInHanded_of_change_sized (C := Try.checked) own started (by kernel_rfl) Try.func17
    (ChangeSpec.witness6 (enc := enc) (C := Try.checked) false ⟨#[], #[.agg #[.int .i64 0, .int .i64 0, .int .i64 0, .int .i64 0, .int .i64 0, .int .i64 0, .int .i64 0, .int .i64 0, .int .i64 0]], []⟩ 8 (by kernel_rfl) (by kernel_rfl) (by kernel_rfl) (by kernel_rfl)) ?_
  intro W base args ds gs before hval0 hW hcnd hsz0 _
  have hval : ∀ (j : Nat) t v, Try.f17.params[j]? = some t → args[j]? = some v → Value.okWide Try.prog W .any base t v := hval0
  have hW' := hW
  obtain ⟨p, q, hA0, hV, rfl, hfz, hnd⟩ := hW
  have hA : DataW.TrodAll enc Try.prog W 0 (fun _ => true) true Try.f17.params.toList args.toList ds p := hA0
  rw [Try.params17] at hA hval
  obtain ⟨v0, vs0, d0, ds0, p0, q0, hargs, rfl, rfl, h0, r0⟩ := trodAll_cons hA
  obtain ⟨rfl, rfl, rfl⟩ := trodAll_nil r0
  obtain rfl : args = #[v0] := by cases args; simp_all
  obtain ⟨rfl, rfl⟩ := trodVars_none hV
  have k0 := h0
  have lt0 : ∀ x ∈ p0, x.block < W.heap.size := by obtain ⟨m, hm⟩ := k0; exact DataW.trod_lt m _ _ _ hm
  obtain ⟨a0_0, a0_1, a0_2, a0_3, a0_4, a0_5, a0_6, a0_7, a0_8, rfl, w0_0, w0_1, w0_2, w0_3, w0_4, w0_5, w0_6, w0_7, w0_8⟩ := P.open_arg95 (hval 0 95 v0 rfl rfl) h0
  clear hA0 hval0 hsz0
  refine (P.scriptCommands_calls a0_0 a0_1 a0_2 a0_3 a0_4 a0_5 a0_6 a0_7 a0_8 W w0_6 w0_7).mono fun e W' ⟨he, bel⟩ => ?_
  subst he
  exact ⟨_, rfl, _, _, _, [], _, [], hW', trodAll_mk1 (shut_bool Try.underlying4 _), (trodAll_cons_mk (Below.trod laidOut (by kernel_rfl) (of_decide_eq_true (by kernel_rfl)) k0 bel lt0) trodAll_mk0), rfl, bel.frame _, fun h => by cases h⟩
theorem over : Rows.scriptCommandsRow.holds Try.pinned (OpenSpec.ofChange Rows.scriptCommandsSpec) :=
  OpenClaim.holds_of_wide 17 Try.f17 rfl rfl rfl rfl rfl rfl rfl ⟨rfl, rfl, rfl, rfl, rfl⟩ rfl rfl rfl rfl rfl (by kernel_rfl) Try.func17 closed
    (of_decide_eq_true (by kernel_rfl)) (by unfold Func.isWrapper; first | (rw [if_pos (by decide +kernel)]; kernel_rfl) | (rw [if_neg (by decide +kernel)]; exact ⟨rfl, rfl⟩))
    (fun os started H enc _ => lifted os started H enc)
theorem proved : Rows.ScriptCommandsSaid := over
end Go.Proofs.Ytalpemoodollpaa.scriptCommands
namespace Go.Proofs.Ytalpemoodollpaa
/-- The row, under a short name, for the claim. -/
theorem scriptCommands_holds : Rows.ScriptCommandsSaid := scriptCommands.proved
#print axioms scriptCommands_holds
end Go.Proofs.Ytalpemoodollpaa
