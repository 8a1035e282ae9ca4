/- FeedWhole returns true for every input: a feed's bytes are decoded to its messages, in order, without a gap. No condition. -/
import Derived.Test.YtalpemoodollpaaRows
import Derived.Test.YtalpemoodollpaaX41
import Derived.Test.YtalpemoodollpaaX1
import Derived.Test.YtalpemoodollpaaX35
namespace Go.Proofs.Ytalpemoodollpaa.feedWhole
open Go.ChangeShapes Go.WideShapes Go.ChangeAt Go.RowKit row
set_option linter.unusedVariables false
set_option linter.unusedSimpArgs false
open Go.ChangeMaps (open_string shut_string)
set_option maxRecDepth 1000000 in
set_option maxHeartbeats 4000000 in
theorem closed : joinedFacts Try.prog 10 Try.f10 Rows.feedWholeSpec Rows.feedWholeRow = true := by
  unfold joinedFacts
  repeat' (with_reducible refine and_ ?_ ?_)
  all_goals first | (with_reducible first | exact may | exact laidOut | exact rowed | exact heard) | ((with_reducible rw [final]); as_aux_lemma => kernel_rfl) | ((with_reducible rw [make]); as_aux_lemma => kernel_rfl) | (as_aux_lemma => kernel_rfl)
set_option maxRecDepth 100000 in
theorem lifted (os : Os) (started : os.Started) (H : Type) (enc : TypeId × Value → H) :
    ReturnsInHanded {} Try.checked os 10 .any (Rows.feedWholeSpec.pre6 enc Try.prog Try.f10 Rows.feedWholeRow.domain false) (Rows.feedWholeSpec.post enc Try.prog Try.f10 false true false false) := by
  refine returnsInHanded_of_change_sized (C := Try.checked) own started (by kernel_rfl) Try.func10
    (ChangeSpec.witness6 (enc := enc) (C := Try.checked) false ⟨#[], #[.slice none 0 0, .int .i64 0], []⟩ 8 (by kernel_rfl) (by kernel_rfl) (by kernel_rfl) (by kernel_rfl)) ?_
  intro W base args ds gs before hval0 hW hcnd hsz0 _
  have hval : ∀ (j : Nat) t v, Try.f10.params[j]? = some t → args[j]? = some v → Value.okWide Try.prog W .any base t v := hval0
  have hW' := hW
  obtain ⟨p, q, hA0, hV, rfl, hfz, hnd⟩ := hW
  have hA : DataW.TrodAll enc Try.prog W 0 (fun _ => true) true Try.f10.params.toList args.toList ds p := hA0
  rw [Try.params10] at hA hval
  obtain ⟨v0, vs0, d0, ds0, p0, q0, hargs, rfl, rfl, h0, r0⟩ := trodAll_cons hA
  obtain ⟨v1, vs1, d1, ds1, p1, q1, rfl, rfl, rfl, h1, r1⟩ := trodAll_cons r0
  obtain ⟨rfl, rfl, rfl⟩ := trodAll_nil r1
  obtain rfl : args = #[v0, v1] := by cases args; simp_all
  obtain ⟨rfl, rfl⟩ := trodVars_none hV
  have k0 := h0
  obtain ⟨A0, c0, x0, rfl, l0, g0, w0, lt0⟩ := P.open_arg_slice Try.underlying22 P.opens_msgs (hval 0 22 v0 rfl rfl) h0
  obtain ⟨a1, rfl, rfl, rfl, w1⟩ := open_int Try.underlying2 (hval 1 2 v1 rfl rfl) h1
  clear hA0 hval0 hsz0
  refine (P.feedWhole_calls A0 c0 x0 a1 W g0 l0 (fun m hm => ⟨P.within_iff.2 (wf_i64 (w0 m hm).2.2.2.2.2.2.1), P.within_iff.2 (wf_i64 (w0 m hm).2.2.2.2.2.2.2.1)⟩)).mono fun e W' ⟨he, bel⟩ => ?_
  subst he
  exact ⟨_, rfl, _, _, _, [], _, [], hW', trodAll_mk1 (shut_bool Try.underlying4 _), (trodAll_cons_mk (Below.trod laidOut (by kernel_rfl) (of_decide_eq_true (by kernel_rfl)) k0 bel lt0) (trodAll_cons_mk (shut_int Try.underlying2 w1) trodAll_mk0)), rfl, bel.frame _, fun h => by cases h⟩
theorem over : Rows.feedWholeRow.holds Try.pinned (OpenSpec.ofChange Rows.feedWholeSpec) :=
  OpenClaim.holds_of_wide 10 Try.f10 rfl rfl rfl rfl rfl rfl rfl ⟨rfl, rfl, rfl, rfl, rfl⟩ rfl rfl rfl rfl rfl (by kernel_rfl) Try.func10 closed
    (of_decide_eq_true (by kernel_rfl)) (by unfold Func.isWrapper; first | (rw [if_pos (by decide +kernel)]; kernel_rfl) | (rw [if_neg (by decide +kernel)]; exact ⟨rfl, rfl⟩))
    (fun os started H enc _ => lifted os started H enc)
theorem proved : Rows.FeedWholeSaid := over
end Go.Proofs.Ytalpemoodollpaa.feedWhole
namespace Go.Proofs.Ytalpemoodollpaa
/-- The row, under a short name, for the claim. -/
theorem feedWhole_holds : Rows.FeedWholeSaid := feedWhole.proved
#print axioms feedWhole_holds
end Go.Proofs.Ytalpemoodollpaa
