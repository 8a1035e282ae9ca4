/- The contracts of frame.Put and frame.Take. -/
import Derived.Test.YtalpemoodollpaaHReader2
namespace Go.Proofs.Ytalpemoodollpaa.P
open Go.RowKit Go.Proofs.YtalpemoodollpaaW.PrintWords Go.Proofs.YtalpemoodollpaaW.PrintLast Go.Proofs.YtalpemoodollpaaW.PrintMore
set_option linter.unusedVariables false
set_option linter.unusedSimpArgs false

/-- Are bytes bytes? -/
def bytB (bs : List Int) : Bool := bs.all fun b => decide (0 ≤ b) && decide (b ≤ 255)
theorem byt_of {bs : List Int} (h : bytB bs = true) : Byt bs := fun b hb => by
  have := List.all_eq_true.1 h b hb
  simpa using this
theorem bytB_of {bs : List Int} (h : Byt bs) : bytB bs = true := List.all_eq_true.2 fun b hb => by simpa using h b hb

/-- A new writer. -/
theorem WS.new (w : World) : WS (w.alloc (.cells #[.slice none 0 0] 39)) w.heap.size none [] :=
  ⟨.slice none 0 0, blk_new w _, rfl, own_nil _ _ _ _⟩
theorem WPost.ws {w w' : World} {g : Nat} {row : Option Nat} {xs : List Int} (h : WPost w g row xs w') : ∃ row', WS w' g row' xs ∧ (row' = row ∨ ∃ b, row' = some b ∧ w.heap.size ≤ b) ∧ Fr w w' (fun k => k = g ∨ row = some k) := h
/-- A chain of calls on a writer of one's own: what it leaves below. -/
theorem WPost.below {w0 w w' : World} {g : Nat} {row : Option Nat} {xs : List Int} (hB : Below w0.heap.size w0 w) (hg : w0.heap.size ≤ g) (hr : ∀ k, row = some k → w0.heap.size ≤ k) (h : WPost w g row xs w') :
    ∃ row', WS w' g row' xs ∧ Below w0.heap.size w0 w' ∧ ∀ k, row' = some k → w0.heap.size ≤ k := by
  obtain ⟨row', hs, hro, hf⟩ := h
  refine ⟨row', hs, hB.trans (hf.below hB.size ?_), ?_⟩
  · rintro k (rfl | hk)
    · exact hg
    · exact hr k hk
  · intro k hk
    rcases hro with rfl | ⟨b, hb, hl⟩
    · exact hr k hk
    · rw [hb] at hk
      injection hk with hk
      subst hk
      exact Nat.le_trans hB.size hl

def frame_Put.f (l0 : List Int) : Option (List Int × Int) := some (if l0.length ≤ 64 then (uintForm l0.length 2 ++ l0, 0) else ([], 9))
set_option maxRecDepth 100000 in
theorem frame_Put.calls (A0 : Option Addr) (c0 : Nat) (l0 : List Int) (r1 : List Int) (r2 : Int) (w : World) (hr0 : Kd.C (Kd.int .u8) w A0 l0.length l0) (hc0 : l0.length ≤ c0) (h : frame_Put.f l0 = some (r1, r2)) :
    Calls Try.prog 44 #[.slice A0 l0.length c0] w fun e w' => ∃ v0_ : Value, e = .returned (.tuple #[v0_, .int .i64 r2]) ∧ Kd.R (Kd.int .u8) 5 w' w.heap.size (fun _ => True) v0_ r1 ∧ Below w.heap.size w w' := by
  have HR := Aside0.mk hr0
  have hbd := C_bound hr0
  clear hr0
  have H := Option.some.inj h
  clear h
  by_cases hl : l0.length ≤ 64
  · rw [if_pos hl] at H
    obtain ⟨rfl, rfl⟩ := Prod.mk.inj H
    clear H
    have HS := Aside0.mk (WS.new w)
    have HB0 := Aside0.mk (below_alloc (Below.refl w.heap.size w) (.cells #[.slice none 0 0] 39))
    go_enter Try.func44, Try.ntmps44
    go_wp2_with fail
    refine (octets_Writer_Uint.calls w.heap.size none [] l0.length 2 _ (by omega) HS.out (by decide) (by decide) (by decide)).mono ?_
    rintro e w1 ⟨rfl, hp⟩
    obtain ⟨row1, hs1, hb1, hr1⟩ := hp.below HB0.out (Nat.le_refl _) (fun k hk => by cases hk)
    have HS1 := Aside0.mk hs1
    have HB1 := Aside0.mk hb1
    have HR1 := Aside0.mk hr1
    clear hp hs1 hb1 hr1
    go_wp2_with fail
    refine (octets_Writer_Raw.calls w.heap.size row1 _ l0 A0 c0 w1 HS1.out (Kd.C_below HR.out HB1.out) (by simp only [List.nil_append, uintForm_length]; simp; omega)).mono ?_
    rintro e w2 ⟨rfl, hp⟩
    obtain ⟨row2, hs2, hb2, hr2⟩ := hp.below HB1.out (Nat.le_refl _) HR1.out
    have HS2 := Aside0.mk hs2
    have HB2 := Aside0.mk hb2
    clear hp hs2 hb2 hr2
    go_wp2_with fail
    refine (octets_Writer_Bytes.calls w.heap.size row2 _ w2 HS2.out (by simp only [List.nil_append, List.length_append, uintForm_length]; simp; omega)).mono ?_
    rintro e w3 ⟨v, rfl, hR, hB⟩
    have HR3 := Aside0.mk (Kd.R_lower hR HB2.out.size)
    have HB3 := Aside0.mk (below_then HB2.out HB2.out.size hB)
    clear hR hB
    go_wp2
    go_ret2
    exact ⟨_, rfl, by simpa using HR3.out, HB3.out⟩
  · rw [if_neg hl] at H
    obtain ⟨rfl, rfl⟩ := Prod.mk.inj H
    clear H
    have hl2 : 64 < l0.length := by omega
    go_enter Try.func44, Try.ntmps44
    go_wp2
    go_ret2
    exact ⟨_, rfl, Kd.R_nil _ _ _ _ _, Below.refl _ _⟩

/-- The first frame of bytes: its payload, the bytes of both, or the fault. -/
def takeF (bs : List Int) : List Int × Int × Int :=
  if bs.length < 2 then ([], 0, 3) else if 64 < beNum (bs.take 2) then ([], 0, 4) else if (bs.length : Int) < 2 + beNum (bs.take 2) then ([], 0, 3)
  else ((bs.drop 2).take (beNum (bs.take 2)).toNat, 2 + beNum (bs.take 2), 0)
def frame_Take.f (l0 : List Int) : Option (List Int × Int × Int) := if bytB l0 = true ∧ l0.length ≤ 140737488355328 then some (takeF l0) else none
theorem rTake_ok (bs : List Int) (n : Nat) (h : n ≤ bs.length) : rTake (bs, 0) n = (bs.take n, true, (bs.drop n, 0)) := by simp [rTake, h]
theorem rTake_few (bs : List Int) (n : Nat) (h : bs.length < n) : rTake (bs, 0) n = ([], false, (bs, 3)) := by simp [rTake, h]
set_option maxRecDepth 100000 in
theorem frame_Take.calls (A0 : Option Addr) (c0 : Nat) (l0 : List Int) (r1 : List Int) (r2 r3 : Int) (w : World) (hr0 : Kd.C (Kd.int .u8) w A0 l0.length l0) (hc0 : l0.length ≤ c0) (h : frame_Take.f l0 = some (r1, r2, r3)) :
    Calls Try.prog 46 #[.slice A0 l0.length c0] w fun e w' => ∃ v0_ : Value, e = .returned (.tuple #[v0_, .int .i64 r2, .int .i64 r3]) ∧ Kd.R (Kd.int .u8) 5 w' w.heap.size (fun _ => True) v0_ r1 ∧ Below w.heap.size w w' := by
  have HR := Aside0.mk hr0
  have hbd := C_bound hr0
  clear hr0
  unfold frame_Take.f at h
  by_cases hp : bytB l0 = true ∧ l0.length ≤ 140737488355328
  · rw [if_pos hp] at h
    have HY := Aside0.mk (byt_of hp.1)
    have hl := hp.2
    clear hp
    have H := Aside0.mk (Option.some.inj h)
    clear h
    go_enter Try.func46, Try.ntmps46
    go_wp2_with fail
    refine (octets_NewReader.calls A0 c0 l0 w HR.out hl HY.out).mono ?_
    rintro e w1 ⟨g, row, rfl, hs, hb, hg, _, hr⟩
    have HS := Aside0.mk hs
    have HB := Aside0.mk hb
    have HG := Aside0.mk hg
    have HRW := Aside0.mk hr
    clear hs hb hg hr
    go_wp2_with fail
    have hU := octets_Reader_Uint.calls g row (l0, 0) 2 w1 HS.out
    by_cases h2 : l0.length < 2
    · have e1 : rUint (l0, 0) 2 = (0, (l0, 3)) := by rw [rUint, if_neg (by decide), show (2 : Int).toNat = 2 from rfl, rTake_few _ _ h2]; rfl
      rw [e1] at hU
      refine hU.mono ?_
      rintro e w2 ⟨rfl, hp⟩
      have HP := Aside0.mk hp
      clear hp hU e1
      go_wp2_with fail
      refine (octets_Reader_Fault.calls g row (l0, 3) w2 HP.out.1).mono ?_
      rintro e w3 ⟨rfl, rfl⟩
      go_wp2
      go_ret3
      obtain ⟨rfl, rfl, rfl⟩ : r1 = [] ∧ r2 = 0 ∧ r3 = 3 := by have h := H.out; rw [takeF, if_pos h2] at h; simp only [Prod.mk.injEq] at h; exact ⟨h.1.symm, h.2.1.symm, h.2.2.symm⟩
      exact ⟨_, rfl, Kd.R_nil _ _ _ _ _, HB.out.trans (HP.out.2.below HB.out.size (fun k hk => by rw [hk]; exact HG.out))⟩
    · have e1 : rUint (l0, 0) 2 = (beNum (l0.take 2), (l0.drop 2, 0)) := by rw [rUint, if_neg (by decide), show (2 : Int).toNat = 2 from rfl, rTake_ok _ _ (by omega)]
      have hrg := beNum_range (l0.take 2) (HY.out.take 2)
      have hrl : (l0.take 2).length = 2 := by rw [List.length_take]; omega
      rw [hrl] at hrg
      have hn0 := hrg.1
      have hn1 : beNum (l0.take 2) < 65536 := hrg.2
      have hld : ((l0.drop 2).length : Int) = (l0.length : Int) - 2 := by rw [List.length_drop]; omega
      rw [e1] at hU
      have H2 : Aside0 ((if 64 < beNum (l0.take 2) then (([] : List Int), (0 : Int), (4 : Int)) else if (l0.length : Int) < 2 + beNum (l0.take 2) then ([], 0, 3) else ((l0.drop 2).take (beNum (l0.take 2)).toNat, 2 + beNum (l0.take 2), 0)) = (r1, r2, r3)) := ⟨by have h := H.out; rw [takeF, if_neg h2] at h; exact h⟩
      clear hrg hrl e1 H
      generalize beNum (l0.take 2) = n at *
      have HLD := Aside0.mk hld
      clear hld
      refine hU.mono ?_
      rintro e w2 ⟨rfl, hp⟩
      have HP := Aside0.mk hp
      clear hp hU
      go_wp2_with fail
      refine (octets_Reader_Fault.calls g row (l0.drop 2, 0) w2 HP.out.1).mono ?_
      rintro e w3 ⟨rfl, rfl⟩
      by_cases h64 : 64 < n
      · go_wp2
        go_ret3
        have h := H2.out
        rw [if_pos h64] at h
        simp only [Prod.mk.injEq] at h
        obtain ⟨rfl, rfl, rfl⟩ := h
        exact ⟨_, rfl, Kd.R_nil _ _ _ _ _, HB.out.trans (HP.out.2.below HB.out.size (fun k hk => by rw [hk]; exact HG.out))⟩
      · have H64 := Aside0.mk h64
        go_wp2_with fail
        refine (octets_Reader_Left.calls g row (l0.drop 2, 0) w2 HP.out.1).mono ?_
        rintro e w3 ⟨rfl, rfl⟩
        dsimp only
        rw [HLD.out]
        by_cases hls : (l0.length : Int) < 2 + n
        · go_wp2
          go_ret3
          have h := H2.out
          rw [if_neg (by have := H64.out; omega), if_pos hls] at h
          simp only [Prod.mk.injEq] at h
          obtain ⟨rfl, rfl, rfl⟩ := h
          exact ⟨_, rfl, Kd.R_nil _ _ _ _ _, HB.out.trans (HP.out.2.below HB.out.size (fun k hk => by rw [hk]; exact HG.out))⟩
        · have HLS := Aside0.mk hls
          obtain ⟨m, rfl⟩ := Int.eq_ofNat_of_zero_le hn0
          have HW := Aside0.mk (octets_Reader_Raw.calls g row (l0.drop 2, 0) m w2 (by omega) HP.out.1)
          rw [rTake_ok (l0.drop 2) m (by rw [List.length_drop]; omega)] at HW
          have hm : m ≤ 64 := by omega
          clear hn1 hl hbd hn0 h64
          go_wp2_with fail
          refine HW.out.mono ?_
          rintro e w3 ⟨v, rfl, hR, hp⟩
          have HR3 := Aside0.mk hR
          have HP3 := Aside0.mk hp
          clear hR hp
          go_wp2
          go_ret3
          have h := H2.out
          rw [if_neg (by have := H64.out; omega), if_neg (by have := HLS.out; omega)] at h
          simp only [Prod.mk.injEq, Int.toNat_natCast] at h
          obtain ⟨rfl, rfl, rfl⟩ := h
          have hb2 := HB.out.trans (HP.out.2.below HB.out.size (fun k hk => by rw [hk]; exact HG.out))
          exact ⟨_, rfl, Kd.R_lower HR3.out hb2.size, hb2.trans (HP3.out.2.below hb2.size (fun k hk => by rw [hk]; exact HG.out))⟩
  · rw [if_neg hp] at h
    cases h
end Go.Proofs.Ytalpemoodollpaa.P
