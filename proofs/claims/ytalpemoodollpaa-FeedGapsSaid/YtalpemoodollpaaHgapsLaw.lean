/- FeedGaps: the document's answer is the program's. -/
import Derived.Test.YtalpemoodollpaaHRefNum
import Derived.Test.YtalpemoodollpaaHOpen
import Derived.Test.YtalpemoodollpaaHfeed
import Derived.Test.YtalpemoodollpaaP3
namespace Go.Proofs.Ytalpemoodollpaa.P
open Go.RowKit Go.Proofs.YtalpemoodollpaaW.PrintWords Go.Proofs.YtalpemoodollpaaW.PrintLast Go.Proofs.YtalpemoodollpaaW.PrintMore
set_option linter.unusedVariables false
set_option linter.unusedSimpArgs false
theorem gaps_inner (l : List S29) (hl : l.length ≤ 60) (i : Nat) (hi : i < l.length) (hb : seqAt l i ≤ 9223372036854775807) : ∀ (m : Nat) (n : Int) (out : List Int), 100 - out.length = m → out.length ≤ 100 → -9223372036854775808 ≤ n →
    ∀ (K : Nat) (r : List Int), damperref26_Gaps.l0 K l (gapAdd m (n + 1) (seqAt l i) out) ((i + 1 : Nat) : Int) = some r → ∃ K', damperref26_Gaps.l1 K' l out (i : Int) n = some r := by
  intro m
  have hw : wrap64 ((i : Int) + 1) = ((i + 1 : Nat) : Int) := by rw [wrap64_eq]; omega
  induction m with
  | zero =>
    intro n out hm hout hn K r h
    refine ⟨K + 1, ?_⟩
    rw [damperref26_Gaps.l1, if_neg (by omega), hw]
    exact h
  | succ m ih =>
    intro n out hm hout hn K r h
    by_cases h1 : n < seqAt l i
    · have hw2 : wrap64 (n + 1) = n + 1 := by rw [wrap64_eq]; omega
      by_cases h2 : n + 1 < seqAt l i
      · rw [gapAdd, if_pos h2] at h
        obtain ⟨K', hK'⟩ := ih (n + 1) (out ++ [n + 1]) (by rw [List.length_append, List.length_singleton]; omega) (by rw [List.length_append, List.length_singleton]; omega) (by omega) K r h
        refine ⟨K' + 1, ?_⟩
        rw [damperref26_Gaps.l1, if_pos (by omega), if_pos (by omega), if_pos (by omega), rdT29_seq, if_pos h1, hw2, if_pos h2, if_pos (by omega)]
        exact hK'
      · rw [gapAdd, if_neg h2] at h
        refine ⟨K + 1, ?_⟩
        rw [damperref26_Gaps.l1, if_pos (by omega), if_pos (by omega), if_pos (by omega), rdT29_seq, if_pos h1, hw2, if_neg h2, hw]
        exact h
    · rw [gapAdd, if_neg (by omega)] at h
      refine ⟨K + 1, ?_⟩
      rw [damperref26_Gaps.l1, if_pos (by omega), if_pos (by omega), if_pos (by omega), rdT29_seq, if_neg h1, hw]
      exact h
theorem gaps_outer (l : List S29) (hl : l.length ≤ 60) (hs : seqsB l = true) : ∀ (j i : Nat), i + j = l.length → 1 ≤ i → ∃ K, damperref26_Gaps.l0 K l (gapsUpto l i) (i : Int) = some (gapsUpto l l.length) := by
  intro j
  induction j with
  | zero =>
    intro i hi h1
    refine ⟨1, ?_⟩
    rw [damperref26_Gaps.l0, if_neg (by omega)]
    rw [show i = l.length by omega]
  | succ j ih =>
    intro i hi h1
    obtain ⟨K, hK⟩ := ih (i + 1) (by omega) (by omega)
    obtain ⟨p, rfl⟩ : ∃ p, i = p + 1 := ⟨i - 1, by omega⟩
    have ha := seqsB_at hs p (by omega)
    have hb := seqsB_at hs (p + 1) (by omega)
    have hg : gapsUpto l (p + 1 + 1) = gapAdd (100 - (gapsUpto l (p + 1)).length) (seqAt l p + 1) (seqAt l (p + 1)) (gapsUpto l (p + 1)) := by rw [gapsUpto, if_neg (by omega)]; rfl
    rw [hg] at hK
    obtain ⟨K', hK'⟩ := gaps_inner l hl (p + 1) (by omega) hb.2 _ (seqAt l p) (gapsUpto l (p + 1)) rfl (gapsUpto_length l _) ha.1 K _ hK
    refine ⟨K' + 1, ?_⟩
    have hw : wrap64 (((p + 1 : Nat) : Int) - 1) = (p : Int) := by rw [wrap64_eq]; omega
    rw [damperref26_Gaps.l0, if_pos (by omega), hw, if_pos (by omega), if_pos (by omega), rdT29_seq]
    exact hK'
theorem refGaps (l : List S29) (hl : l.length ≤ 60) (hs : seqsB l = true) : ∃ K, damperref26_Gaps.f K l = some (gapsUpto l l.length) := by
  by_cases h0 : l.length = 0
  · refine ⟨1, ?_⟩
    unfold damperref26_Gaps.f
    rw [damperref26_Gaps.l0, if_neg (by omega), h0]
    rfl
  · obtain ⟨K, hK⟩ := gaps_outer l hl hs (l.length - 1) 1 (by omega) (by omega)
    exact ⟨K, hK⟩
theorem same16_go (l : List Int) (hl : l.length ≤ 140737488355328) : ∀ (j i : Nat), i + j = l.length → damperref16_Same.l0 (j + 1) l l (i : Int) = some true := by
  intro j
  induction j with
  | zero => intro i hi; rw [damperref16_Same.l0, if_neg (by omega)]
  | succ j ih =>
    intro i hi
    rw [damperref16_Same.l0, if_pos (by omega), if_pos (by omega), if_pos (by omega), if_pos rfl, show wrap64 ((i : Int) + 1) = ((i + 1 : Nat) : Int) by rw [wrap64_eq]; omega]
    exact ih (i + 1) (by omega)
theorem same16 (l : List Int) (hl : l.length ≤ 140737488355328) : ∃ K, damperref16_Same.f K l l = some true := by
  refine ⟨l.length + 1, ?_⟩
  unfold damperref16_Same.f
  rw [if_pos rfl]
  exact same16_go l hl l.length 0 (by omega)
theorem feedGaps_true (l : List S29) (hs : seqsB l = true) : ∃ k, damperlaw26_FeedGaps.f k l = some true := by
  by_cases hl : (l.length : Int) > 60
  · refine ⟨0, ?_⟩
    unfold damperlaw26_FeedGaps.f
    rw [if_pos hl]
    rfl
  · obtain ⟨K1, h1⟩ := refGaps l (by omega) hs
    obtain ⟨K2, h2⟩ := same16 (gapsUpto l l.length) (by have := gapsUpto_length l l.length; omega)
    refine ⟨max K1 K2, ?_⟩
    have h1' := up_ (f := fun k => damperref26_Gaps.f k l) (fun k => damperref26_Gaps.mono l k) h1 (max K1 K2) (Nat.le_max_left _ _)
    have h2' := up_ (f := fun k => damperref16_Same.f k (gapsUpto l l.length) (gapsUpto l l.length)) (fun k => damperref16_Same.mono _ _ k) h2 (max K1 K2) (Nat.le_max_right _ _)
    unfold damperlaw26_FeedGaps.f
    rw [if_neg hl]
    have h3 : feed_Gaps.f l = some (gapsUpto l l.length) := by unfold feed_Gaps.f; rw [if_pos hs]
    rw [h3]
    simp only [Option.bind_some]
    rw [h1']
    simp only [Option.bind_some]
    rw [h2']
    rfl
theorem seqsB_wf (l : List S29) (h : ∀ x ∈ l, WF29 x) : seqsB l = true := List.all_eq_true.2 fun x hx => within_iff.2 (row.wf_i64 (h x hx).2.2.1)
theorem feedGaps_calls (A0 : Option Addr) (c0 : Nat) (l : List S29) (w : World) (hr : Kd.C k29 w A0 l.length l) (hc : l.length ≤ c0) (hwf : ∀ x ∈ l, WF29 x) :
    Calls Try.prog 3 #[.slice A0 l.length c0] w fun e w' => e = .returned (.bool true) ∧ Below w.heap.size w w' := by
  obtain ⟨k, hk⟩ := feedGaps_true l (seqsB_wf l hwf)
  exact damperlaw26_FeedGaps.calls k A0 c0 l true w hr hc hk
end Go.Proofs.Ytalpemoodollpaa.P
