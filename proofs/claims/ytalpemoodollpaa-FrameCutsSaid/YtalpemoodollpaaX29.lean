/- Contracts and plain laws: HRefTakeIn, HframesP, HAll53, HJoin, P75, HJoinS, HRefTake, HOpen, P43, P45, HFrameLaw, HFrCuts, HByt. -/
import Derived.Deep.LoopGhost
import Derived.Deep.DeepCutAuto
import Derived.WalkMore
import Derived.Deep.Slices
import Derived.Deep.Fields
import Derived.Test.YtalpemoodollpaaX1
/- damperref04.Take: its payload lies in the bytes that it was given. -/
namespace Go.Proofs.Ytalpemoodollpaa.P
open Go.RowKit Go.Proofs.YtalpemoodollpaaW.PrintWords Go.Proofs.YtalpemoodollpaaW.PrintLast Go.Proofs.YtalpemoodollpaaW.PrintMore
set_option linter.unusedVariables false
set_option linter.unusedSimpArgs false
set_option maxRecDepth 100000 in
set_option maxHeartbeats 2000000 in
theorem refTakeIn_calls (A0 : Option Addr) (c0 : Nat) (l0 : List Int) (w : World) (hr0 : Kd.C (Kd.int .u8) w A0 l0.length l0) (hc0 : l0.length ≤ c0) (hb : Byt l0) (hl : l0.length ≤ 140737488355328) :
    Calls Try.prog 47 #[.slice A0 l0.length c0] w fun e w' => ∃ A c, e = .returned (.tuple #[.slice A (takeF l0).1.length c, .int .i64 (takeF l0).2.1, .int .i64 (takeF l0).2.2]) ∧
      (∀ w0, Kd.C (Kd.int .u8) w0 A0 l0.length l0 → Kd.C (Kd.int .u8) w0 A (takeF l0).1.length (takeF l0).1) ∧ (takeF l0).1.length ≤ c ∧ Below w.heap.size w w' := by
  have HR := Aside0.mk hr0
  have HL := Aside0.mk hl
  have HC0 := Aside0.mk hc0
  have HU := Aside0.mk (refReadUint l0 2 hb 12 (by omega))
  clear hr0 hl hc0
  generalize hF : takeF l0 = F
  have HF := Aside0.mk hF
  clear hF
  go_enter Try.func47, Try.ntmps47
  go_wp2_with fail
  have hT : rdUint l0 2 = if l0.length < 2 then (0, 0, [], 0, 3) else (beNum (l0.take 2), 0, [], 2, 0) := by
    unfold rdUint
    rw [if_neg (by decide)]
    by_cases h : l0.length < 2
    · rw [if_pos (by omega), if_pos h]
    · rw [if_neg (by omega), if_neg h]; rfl
  rw [hT] at HU
  by_cases h2 : l0.length < 2
  · rw [if_pos h2] at HU
    refine (damperref03_ReadUint.calls 12 A0 c0 l0 2 _ _ _ _ _ w HR.out HC0.out HU.out).mono ?_
    rintro e w1 ⟨v2, rfl, hR, hbl⟩
    obtain ⟨A2, c2, rfl⟩ := Kd.R_slice hR
    have HB := Aside0.mk hbl
    clear hR hbl HU hT
    have H2 := Aside0.mk h2
    clear h2
    go_wp2
    go_ret3
    have hb0 := below_alloc HB.out (.cells #[.int .u64 0, .int .i64 0, .slice A2 0 c2, .int .i64 0, .int .i64 3] 81)
    have e : takeF l0 = ([], 0, 3) := by unfold takeF; rw [if_pos H2.out]
    obtain rfl : F = ([], 0, 3) := HF.out.symm.trans e
    exact ⟨none, 0, rfl, fun _ _ => Kd.C_nil _ _, Nat.le_refl _, hb0⟩
  · rw [if_neg h2] at HU
    refine (damperref03_ReadUint.calls 12 A0 c0 l0 2 _ _ _ _ _ w HR.out HC0.out HU.out).mono ?_
    rintro e w1 ⟨v2, rfl, hR, hbl⟩
    obtain ⟨A2, c2, rfl⟩ := Kd.R_slice hR
    have hrg := beNum_range (l0.take 2) (hb.take 2)
    have hrl : (l0.take 2).length = 2 := by rw [List.length_take]; omega
    rw [hrl] at hrg
    have hn0 := hrg.1
    have hn1 : beNum (l0.take 2) < 65536 := hrg.2
    have e : takeF l0 = if 64 < beNum (l0.take 2) then ([], 0, 4) else if (l0.length : Int) < 2 + beNum (l0.take 2) then ([], 0, 3) else ((l0.drop 2).take (beNum (l0.take 2)).toNat, 2 + beNum (l0.take 2), 0) := by
      rw [takeF, if_neg h2]
    have HE : Aside0 ((if 64 < beNum (l0.take 2) then (([] : List Int), (0 : Int), (4 : Int)) else if (l0.length : Int) < 2 + beNum (l0.take 2) then ([], 0, 3) else ((l0.drop 2).take (beNum (l0.take 2)).toNat, 2 + beNum (l0.take 2), 0)) = F) := ⟨e.symm.trans HF.out⟩
    have HRN := Aside0.mk (HR.out)
    have HB := Aside0.mk (Kd.C_below HR.out hbl)
    have HBL := Aside0.mk hbl
    clear hR hbl HU hT e hrg hrl hb HR HF
    obtain ⟨m, hm⟩ := Int.eq_ofNat_of_zero_le hn0
    rw [hm] at hn1 HE ⊢
    clear hn0 hm
    have H2 := Aside0.mk h2
    have HM := Aside0.mk hn1
    clear h2
    by_cases h64 : 64 < m
    · clear hn1
      go_wp2
      go_ret3
      obtain rfl : F = ([], 0, 4) := by have h := HE.out; rw [if_pos (by omega)] at h; exact h.symm
      exact ⟨none, 0, rfl, fun _ _ => Kd.C_nil _ _, Nat.le_refl _, below_alloc HBL.out _⟩
    · have hm64 : m ≤ 64 := by omega
      have H64 := Aside0.mk h64
      clear hn1 h64
      by_cases hls : (l0.length : Int) < 2 + (m : Int)
      · go_wp2
        go_ret3
        obtain rfl : F = ([], 0, 3) := by have h := HE.out; rw [if_neg (by have := H64.out; omega), if_pos hls] at h; exact h.symm
        exact ⟨none, 0, rfl, fun _ _ => Kd.C_nil _ _, Nat.le_refl _, below_alloc HBL.out _⟩
      · have hc0 := HC0.out
        have hfe : F = ((l0.drop 2).take m, 2 + (m : Int), 0) := by have h := HE.out; rw [if_neg (by have := H64.out; omega), if_neg hls] at h; exact h.symm
        have hlen : ((l0.drop 2).take m).length = m := by rw [List.length_take, List.length_drop]; omega
        have HLEN := Aside0.mk hlen
        have hC : ∀ w0, Kd.C (Kd.int .u8) w0 A0 l0.length l0 → Kd.C (Kd.int .u8) w0 (if c0 = 2 then A0 else A0.map (·.add (2 * 1))) ((l0.drop 2).take m).length ((l0.drop 2).take m) := fun w0 h0 => by
          have hC := Kd.C_mid (lo := 2) (hi := 2 + m) (c := c0) h0 (by omega) (by omega) (by omega)
          rw [show (l0.take (2 + m)).drop 2 = (l0.drop 2).take m by rw [List.drop_take]; congr 1; omega] at hC
          exact hC
        have hbb := below_alloc HBL.out (.cells #[.int .u64 (m : Int), .int .i64 0, .slice A2 0 c2, .int .i64 2, .int .i64 0] 81)
        have HFE := Aside0.mk hfe
        clear HE HBL HB HRN hfe
        have HCC := Aside0.mk hC
        have HBB := Aside0.mk hbb
        clear hC hbb hlen
        by_cases hc2 : c0 = 2
        · have HC2 := Aside0.mk hc2
          obtain rfl : m = 0 := by omega
          subst hc2
          go_wp2
          go_ret3
          have h := HCC.out
          simp only [reduceIte, if_true] at h
          obtain rfl := HFE.out
          exact ⟨A0, 0, rfl, h, by simp, HBB.out⟩
        · go_wp2
          go_ret3
          have h := HCC.out
          simp only [if_neg hc2] at h
          obtain rfl := HFE.out
          refine ⟨_, c0 - 2, ?_, h, by rw [HLEN.out]; omega, HBB.out⟩
          rw [HLEN.out, show 2 + m - 2 = m by omega]
          rfl
end Go.Proofs.Ytalpemoodollpaa.P
/- Frames of bytes, plain. -/
namespace Go.Proofs.Ytalpemoodollpaa.P
open Go.RowKit Go.Proofs.YtalpemoodollpaaW.PrintWords Go.Proofs.YtalpemoodollpaaW.PrintLast Go.Proofs.YtalpemoodollpaaW.PrintMore
set_option linter.unusedVariables false
set_option linter.unusedSimpArgs false
theorem beNum_nat (l : List Int) (hb : Byt l) : ∃ m : Nat, beNum l = (m : Int) := by
  obtain ⟨m, hm⟩ := Int.eq_ofNat_of_zero_le (beNum_range l hb).1
  exact ⟨m, hm⟩
/-- A frame that is there: how many bytes it has. -/
theorem takeF_ok {l : List Int} (hb : Byt l) (h : (takeF l).2.2 = 0) : ∃ m : Nat, m ≤ 64 ∧ 2 + m ≤ l.length ∧ (takeF l).1 = (l.drop 2).take m ∧ (takeF l).2.1 = ((2 + m : Nat) : Int) ∧ beNum (l.take 2) = (m : Int) := by
  obtain ⟨m, hm⟩ := beNum_nat (l.take 2) (hb.take 2)
  unfold takeF at h ⊢
  rw [hm] at h ⊢
  by_cases h1 : l.length < 2
  · rw [if_pos h1] at h; exact absurd (show (3 : Int) = 0 from h) (by decide)
  · rw [if_neg h1] at h ⊢
    by_cases h2 : (64 : Int) < (m : Int)
    · rw [if_pos h2] at h; exact absurd (show (4 : Int) = 0 from h) (by decide)
    · rw [if_neg h2] at h ⊢
      by_cases h3 : (l.length : Int) < 2 + (m : Int)
      · rw [if_pos h3] at h; exact absurd (show (3 : Int) = 0 from h) (by decide)
      · rw [if_neg h3]
        refine ⟨m, by omega, by omega, by rw [Int.toNat_natCast], ?_, rfl⟩
        show 2 + (m : Int) = _
        omega
theorem takeF_fault (l : List Int) : (takeF l).2.2 = 0 ∨ (takeF l).2.2 = 3 ∨ (takeF l).2.2 = 4 := by
  unfold takeF
  split
  · exact .inr (.inl rfl)
  · split
    · exact .inr (.inr rfl)
    · split
      · exact .inr (.inl rfl)
      · exact .inl rfl
theorem takeF_nil {l : List Int} (h : (takeF l).2.2 ≠ 0) : (takeF l).1 = [] ∧ (takeF l).2.1 = 0 := by
  unfold takeF at h ⊢
  split
  · exact ⟨rfl, rfl⟩
  · rename_i h1
    rw [if_neg h1] at h
    split
    · exact ⟨rfl, rfl⟩
    · rename_i h2
      rw [if_neg h2] at h
      split
      · exact ⟨rfl, rfl⟩
      · rename_i h3
        rw [if_neg h3] at h
        exact absurd rfl h
theorem takeF_app {l : List Int} (hb : Byt l) (x : List Int) (h : (takeF l).2.2 = 0) : takeF (l ++ x) = takeF l := by
  obtain ⟨m, h64, hlen, e1, e2, e3⟩ := takeF_ok hb h
  have ht : (l ++ x).take 2 = l.take 2 := List.take_append_of_le_length (by omega)
  have hL : (l ++ x).length = l.length + x.length := List.length_append
  have hp : takeF l = ((l.drop 2).take m, ((2 + m : Nat) : Int), 0) := Prod.ext e1 (Prod.ext e2 h)
  rw [hp]
  unfold takeF
  rw [ht, e3, if_neg (by omega), if_neg (by omega), if_neg (by omega), Int.toNat_natCast, List.drop_append_of_le_length (by omega), List.take_append_of_le_length (by rw [List.length_drop]; omega)]
  have : (2 : Int) + (m : Int) = ((2 + m : Nat) : Int) := by omega
  rw [this]
theorem takeF_app4 {l : List Int} (hb : Byt l) (x : List Int) (h : (takeF l).2.2 = 4) : takeF (l ++ x) = takeF l := by
  unfold takeF at h ⊢
  have hL : (l ++ x).length = l.length + x.length := List.length_append
  by_cases h1 : l.length < 2
  · rw [if_pos h1] at h; exact absurd (show (3 : Int) = 4 from h) (by decide)
  · have ht : (l ++ x).take 2 = l.take 2 := List.take_append_of_le_length (by omega)
    rw [if_neg h1] at h ⊢
    rw [if_neg (show ¬ (l ++ x).length < 2 by omega), ht]
    by_cases h2 : 64 < beNum (l.take 2)
    · rw [if_pos h2, if_pos h2]
    · rw [if_neg h2] at h
      split at h
      · exact absurd (show (3 : Int) = 4 from h) (by decide)
      · exact absurd (show (0 : Int) = 4 from h) (by decide)
/-- All frames with which bytes begin: their payloads, where they end, the fault there. -/
def frames (l : List Int) : List (List Int) × Nat × Int :=
  if h : (takeF l).2.2 = 0 ∧ (l.drop (takeF l).2.1.toNat).length < l.length then
    ((takeF l).1 :: (frames (l.drop (takeF l).2.1.toNat)).1, (takeF l).2.1.toNat + (frames (l.drop (takeF l).2.1.toNat)).2.1, (frames (l.drop (takeF l).2.1.toNat)).2.2)
  else ([], 0, if l = [] then 0 else (takeF l).2.2)
termination_by l.length
decreasing_by all_goals exact h.2
/-- The first frame of bytes, taken. -/
structure FT (l : List Int) (p : List Int) (n : Nat) : Prop where
  tk : takeF l = (p, (n : Int), 0)
  two : 2 ≤ n
  len : n ≤ l.length
  pl : p.length ≤ 64
  pn : n = 2 + p.length
  pe : p = (l.drop 2).take p.length
theorem FT.mk' {l : List Int} (hb : Byt l) (h : (takeF l).2.2 = 0) : ∃ p n, FT l p n := by
  obtain ⟨m, h64, hlen, e1, e2, e3⟩ := takeF_ok hb h
  have hl : ((l.drop 2).take m).length = m := by rw [List.length_take, List.length_drop]; omega
  exact ⟨(l.drop 2).take m, 2 + m, Prod.ext e1 (Prod.ext e2 h), by omega, hlen, by omega, by omega, by rw [hl]⟩
theorem FT.frames {l p : List Int} {n : Nat} (h : FT l p n) : frames l = (p :: (frames (l.drop n)).1, n + (frames (l.drop n)).2.1, (frames (l.drop n)).2.2) := by
  rw [P.frames, h.tk]
  dsimp only
  rw [Int.toNat_natCast, dif_pos ⟨rfl, by have := h.len; have := h.two; rw [List.length_drop]; omega⟩]
theorem frames_no {l : List Int} (h : (takeF l).2.2 ≠ 0) : frames l = ([], 0, if l = [] then 0 else (takeF l).2.2) := by
  rw [frames, dif_neg (fun x => h x.1)]
theorem frames_nil : frames [] = ([], 0, 0) := by rw [frames_no (by decide), if_pos rfl]
theorem frames_fault (k : Nat) : ∀ l : List Int, l.length ≤ k → Byt l → ((frames l).2.2 = 0 ∨ (frames l).2.2 = 3 ∨ (frames l).2.2 = 4) ∧ (frames l).2.1 ≤ l.length := by
  induction k with
  | zero =>
    intro l hl hb
    have : l = [] := List.length_eq_zero_iff.1 (by omega)
    subst this
    rw [frames_nil]
    exact ⟨.inl rfl, Nat.le_refl _⟩
  | succ k ih =>
    intro l hl hb
    by_cases h : (takeF l).2.2 = 0
    · obtain ⟨p, n, hf⟩ := FT.mk' hb h
      have h1 := hf.len
      have h2 := hf.two
      have := ih (l.drop n) (by rw [List.length_drop]; omega) (hb.drop n)
      rw [hf.frames]
      rw [List.length_drop] at this
      exact ⟨this.1, by show n + _ ≤ _; omega⟩
    · rw [frames_no h]
      dsimp only
      refine ⟨?_, Nat.zero_le _⟩
      split
      · exact .inl rfl
      · rcases takeF_fault l with h2 | h2 | h2
        · exact absurd h2 h
        · exact .inr (.inl h2)
        · exact .inr (.inr h2)
theorem frames_end (l : List Int) (hb : Byt l) : (frames l).2.1 ≤ l.length := (frames_fault l.length l (Nat.le_refl _) hb).2
theorem frames_count (k : Nat) : ∀ l : List Int, l.length ≤ k → Byt l → 2 * (frames l).1.length ≤ (frames l).2.1 := by
  induction k with
  | zero =>
    intro l hl hb
    have : l = [] := List.length_eq_zero_iff.1 (by omega)
    subst this
    rw [frames_nil]
    exact Nat.le_refl _
  | succ k ih =>
    intro l hl hb
    by_cases h : (takeF l).2.2 = 0
    · obtain ⟨p, n, hf⟩ := FT.mk' hb h
      have h1 := hf.len
      have h2 := hf.two
      have := ih (l.drop n) (by rw [List.length_drop]; omega) (hb.drop n)
      rw [hf.frames]
      simp only [List.length_cons]
      omega
    · rw [frames_no h]
      exact Nat.le_refl _
/-- More bytes behind: what was told stays. -/
theorem frames_app (x : List Int) (k : Nat) : ∀ a : List Int, a.length ≤ k → Byt a → (frames a).2.2 ≠ 4 →
    frames (a ++ x) = ((frames a).1 ++ (frames (a.drop (frames a).2.1 ++ x)).1, (frames a).2.1 + (frames (a.drop (frames a).2.1 ++ x)).2.1, (frames (a.drop (frames a).2.1 ++ x)).2.2) := by
  induction k with
  | zero =>
    intro a ha hb h4
    have : a = [] := List.length_eq_zero_iff.1 (by omega)
    subst this
    rw [frames_nil]
    simp
  | succ k ih =>
    intro a ha hb h4
    by_cases h : (takeF a).2.2 = 0
    · obtain ⟨p, n, hf⟩ := FT.mk' hb h
      have h1 := hf.len
      have h2 := hf.two
      have hfx : FT (a ++ x) p n := ⟨by rw [takeF_app hb x h]; exact hf.tk, h2, by rw [List.length_append]; omega, hf.pl, hf.pn, by
        have := hf.pn
        rw [List.drop_append_of_le_length (by omega), List.take_append_of_le_length (by rw [List.length_drop]; omega)]
        exact hf.pe⟩
      have e := ih (a.drop n) (by rw [List.length_drop]; omega) (hb.drop n) (by rw [hf.frames] at h4; exact h4)
      rw [hfx.frames, hf.frames, List.drop_append_of_le_length h1, e]
      dsimp only
      rw [List.drop_drop]
      simp [Nat.add_assoc]
    · rw [frames_no h]
      simp
theorem frames_app4 (x : List Int) (k : Nat) : ∀ a : List Int, a.length ≤ k → Byt a → (frames a).2.2 = 4 → frames (a ++ x) = frames a := by
  induction k with
  | zero =>
    intro a ha hb h4
    have : a = [] := List.length_eq_zero_iff.1 (by omega)
    subst this
    rw [frames_nil] at h4
    exact absurd (show (0 : Int) = 4 from h4) (by decide)
  | succ k ih =>
    intro a ha hb h4
    by_cases h : (takeF a).2.2 = 0
    · obtain ⟨p, n, hf⟩ := FT.mk' hb h
      have h1 := hf.len
      have h2 := hf.two
      have hfx : FT (a ++ x) p n := ⟨by rw [takeF_app hb x h]; exact hf.tk, h2, by rw [List.length_append]; omega, hf.pl, hf.pn, by
        have := hf.pn
        rw [List.drop_append_of_le_length (by omega), List.take_append_of_le_length (by rw [List.length_drop]; omega)]
        exact hf.pe⟩
      have e := ih (a.drop n) (by rw [List.length_drop]; omega) (hb.drop n) (by rw [hf.frames] at h4; exact h4)
      rw [hfx.frames, hf.frames, List.drop_append_of_le_length h1, e]
    · have h4' := h4
      rw [frames_no h] at h4'
      dsimp only at h4'
      by_cases ha0 : a = []
      · rw [if_pos ha0] at h4'; exact absurd h4' (by decide)
      · rw [if_neg ha0] at h4'
        have e := takeF_app4 hb x h4'
        have hx : a ++ x ≠ [] := fun hx => ha0 (List.append_eq_nil_iff.1 hx).1
        rw [frames_no h, frames_no (by rw [e]; exact h), if_neg ha0, if_neg hx, e]
/-- Frames that are put come out again. -/
def putF (p : List Int) : List Int := uintForm p.length 2 ++ p
def putAll (l : List (List Int)) : List Int := l.flatMap putF
theorem putF_byt {p : List Int} (h : Byt p) : Byt (putF p) := (uintForm_byt _ _).append h
theorem putF_length (p : List Int) : (putF p).length = 2 + p.length := by simp [putF, uintForm_length]
theorem putF_take (p rest : List Int) (h : p.length ≤ 64) : FT (putF p ++ rest) p (2 + p.length) := by
  have e1 : (putF p ++ rest).take 2 = uintForm p.length 2 := by
    rw [putF, List.append_assoc]
    exact List.take_left' (uintForm_length _ _)
  have e2 : (putF p ++ rest).drop 2 = p ++ rest := by
    rw [putF, List.append_assoc]
    exact List.drop_left' (uintForm_length _ _)
  have e3 : beNum (uintForm p.length 2) = (p.length : Int) := by
    rw [beNum_uintForm]
    have : p.length % 256 ^ 2 = p.length := Nat.mod_eq_of_lt (by omega)
    rw [this]
  have hl : (putF p ++ rest).length = 2 + p.length + rest.length := by rw [List.length_append, putF_length]
  refine ⟨?_, by omega, by omega, h, rfl, by rw [e2]; simp⟩
  unfold takeF
  rw [e1, e2, e3, if_neg (by omega), if_neg (by omega), if_neg (by omega), Int.toNat_natCast]
  have : (2 : Int) + (p.length : Int) = ((2 + p.length : Nat) : Int) := by omega
  rw [this]
  simp
theorem frames_put (l : List (List Int)) (h : ∀ p ∈ l, p.length ≤ 64) : frames (putAll l) = (l, (putAll l).length, 0) := by
  induction l with
  | nil => exact frames_nil
  | cons p l ih =>
    have hp := putF_take p (putAll l) (h p List.mem_cons_self)
    have e : putAll (p :: l) = putF p ++ putAll l := rfl
    have hd : (putF p ++ putAll l).drop (2 + p.length) = putAll l := List.drop_left' (putF_length p)
    rw [e, hp.frames, hd, ih (fun q hq => h q (List.mem_cons_of_mem _ hq))]
    simp [putF_length]
end Go.Proofs.Ytalpemoodollpaa.P
/- damperref04.All: all frames of bytes. -/
namespace Go.Proofs.Ytalpemoodollpaa.P
open Go.RowKit Go.Proofs.YtalpemoodollpaaW.PrintWords Go.Proofs.YtalpemoodollpaaW.PrintLast Go.Proofs.YtalpemoodollpaaW.PrintMore
set_option linter.unusedVariables false
set_option linter.unusedSimpArgs false
/-- Where frames of these payloads begin, the first at k. -/
def placesOf : Int → List (List Int) → List Int
  | _, [] => []
  | k, p :: ps => k :: placesOf (k + 2 + p.length) ps
def total : List (List Int) → Nat
  | [] => 0
  | p :: ps => 2 + p.length + total ps
theorem placesOf_length (ps : List (List Int)) : ∀ k, (placesOf k ps).length = ps.length := by
  induction ps with
  | nil => intro k; rfl
  | cons p ps ih => intro k; simp [placesOf, ih]
theorem placesOf_snoc (ps : List (List Int)) (p : List Int) : ∀ k, placesOf k (ps ++ [p]) = placesOf k ps ++ [k + (total ps : Int)] := by
  induction ps with
  | nil => intro k; simp [placesOf, total]
  | cons q ps ih =>
    intro k
    have e : k + 2 + (q.length : Int) + (total ps : Int) = k + ((2 + q.length + total ps : Nat) : Int) := by omega
    simp only [placesOf, List.cons_append, ih, total, e]
theorem total_snoc (ps : List (List Int)) (p : List Int) : total (ps ++ [p]) = total ps + (2 + p.length) := by
  induction ps with
  | nil => simp [total]
  | cons q ps ih => simp only [total, List.cons_append, ih]; omega
theorem total_ge (ps : List (List Int)) : 2 * ps.length ≤ total ps := by
  induction ps with
  | nil => simp [total]
  | cons q ps ih => simp only [total, List.length_cons]; omega
/-- Another row, of another type, has been written. -/
theorem R_grown_t {α : Type} {d : Kd α} {e base : Nat} {ok : Nat → Prop} {w w1 : World} {v : Value} {xs : List α} (h : d.R e w base ok v xs) {b' e' s' n' : Nat} {v' : Value} {ys : List Value} (ho : w.ownsRow b' e' s' v' n' ys) (ht : ∀ q, q ∈ e :: d.E → q ≠ e') (hg : w.grownBy w1 v'.ownBlock) : d.R e w1 base ok v xs := by
  refine Kd.R_mono (Kd.R_grown (Kd.R_bound h) hg ?_) (fun _ hk => hk.1)
  rintro k ⟨_, _, _, q, hq, cells, hc⟩ e2
  obtain ⟨cells', hc'⟩ := own_typed ho k e2.symm
  rw [hc] at hc'
  injection hc' with hc'
  injection hc' with _ hc'
  exact ht q hq hc'
/-- Bytes that are being read. -/
structure RB (w0 : World) (A : Option Addr) (l : List Int) (c : Nat) : Prop where
  hC : Kd.C (Kd.int .u8) w0 A l.length l
  hc : l.length ≤ c
  hb : Byt l
  hl : l.length ≤ 140737488355328
theorem RB.cut {w0 : World} {A : Option Addr} {l : List Int} {c : Nat} (h : RB w0 A l c) (m : Nat) (hm : m ≤ l.length) :
    ∃ A', (∀ W : World, (Instr.slice 30 (.slice A l.length c) (some (.int .i64 (m : Int))) none none).run Try.prog W = .ok (.slice A' (l.drop m).length (c - m)) W) ∧ RB w0 A' (l.drop m) (c - m) ∧
      ∀ w1, Kd.C (Kd.int .u8) w1 A l.length l → Kd.C (Kd.int .u8) w1 A' (l.drop m).length (l.drop m) := by
  obtain ⟨A', hcut, _, hR⟩ := cut_ A l.length c m hm
  have key : ∀ w1, Kd.C (Kd.int .u8) w1 A l.length l → Kd.C (Kd.int .u8) w1 A' (l.drop m).length (l.drop m) := fun w1 h1 => by
    have := hR w1 l h.hc h1
    rw [List.length_drop]
    exact this
  exact ⟨A', fun W => by rw [List.length_drop]; exact hcut W, ⟨key w0 h.hC, by have := h.hc; rw [List.length_drop]; omega, h.hb.drop m, by have := h.hl; rw [List.length_drop]; omega⟩, key⟩
/-- A slice of the bytes that lie at A0: read, wherever these are. -/
def kIn (A0 : Option Addr) (l : List Int) : Kd (List Int) where
  sz := 1
  E := []
  K := fun _ x cs => ∃ X m, cs = [.slice X x.length m] ∧ x.length ≤ m ∧ ∀ w0, Kd.C (Kd.int .u8) w0 A0 l.length l → Kd.C (Kd.int .u8) w0 X x.length x
  M := fun _ _ _ x cs => ∃ X m, cs = [.slice X x.length m] ∧ x.length ≤ m ∧ ∀ w0, Kd.C (Kd.int .u8) w0 A0 l.length l → Kd.C (Kd.int .u8) w0 X x.length x
  K_len := by
    rintro w x cs ⟨X, m, rfl, _⟩
    rfl
  K_one := by
    rintro w x cs ⟨X, m, rfl, _⟩ u hu
    rw [List.mem_singleton.1 hu]
    rfl
  K_below := fun _ h => h
  K_of_M := fun h => h
  M_mono := fun _ h => h
  M_bound := fun h => h
  M_move := fun _ h => h
  M_lower := fun _ h => h
/-- A row of such slices, read. -/
theorem kIn_C {A0 : Option Addr} {l : List Int} {w : World} {A : Option Addr} {n : Nat} {xs : List (List Int)} (h : (kIn A0 l).C w A n xs) (hl : Kd.C (Kd.int .u8) w A0 l.length l) : Kd.C (Kd.slice 5 (Kd.int .u8)) w A n xs :=
  ReadsRow.imp_ h (Below.refl _ _) (fun x cs ⟨X, m, e, hq, hC⟩ => ⟨X, m, e, hq, hC w hl⟩)
theorem kIn_ne (A : Option Addr) (l : List Int) : ∀ q, q ∈ 30 :: (kIn A l).E → q ≠ 3 := by
  intro q hq
  have : q = 30 := by simpa [kIn] using hq
  omega
theorem kint_ne : ∀ q, q ∈ 3 :: (Kd.int .i64).E → q ≠ 30 := by
  intro q hq
  have : q = 3 := by simpa [Kd.int, Kd.scalar] using hq
  omega
def AllPost (w : World) (A0 : Option Addr) (l : List Int) (F : List (List Int) × Nat × Int) (e : Ending) (w' : World) : Prop :=
  ∃ v1 v2 : Value, e = .returned (.tuple #[v1, v2, .int .i64 (F.2.1 : Int), .int .i64 F.2.2]) ∧
    Kd.R (Kd.int .i64) 3 w' w.heap.size (fun _ => True) v1 (placesOf 0 F.1) ∧ Kd.R (kIn A0 l) 30 w' w.heap.size (fun _ => True) v2 F.1 ∧ Below w.heap.size w w'
theorem info3_ : (Try.prog.info? 3).map (fun i => (i.zero, i.size, i.bytes)) = some (some (.int .i64 0), 1, 8) := by kernel_rfl
theorem info30_ : (Try.prog.info? 30).map (fun i => (i.zero, i.size, i.bytes)) = some (some (.slice none 0 0), 1, 24) := by kernel_rfl
set_option maxRecDepth 100000 in
set_option maxHeartbeats 2000000 in
theorem refAll_calls (A0 : Option Addr) (c0 : Nat) (l : List Int) (w : World) (hr0 : Kd.C (Kd.int .u8) w A0 l.length l) (hc0 : l.length ≤ c0) (hl : l.length ≤ 1000000) (hb : Byt l) :
    Calls Try.prog 53 #[.slice A0 l.length c0] w (AllPost w A0 l (frames l)) := by
  have HRB := Aside0.mk (RB.mk hr0 hc0 hb (by omega))
  obtain ⟨N, hN⟩ : ∃ N, l.length = N := ⟨_, rfl⟩
  rw [hN] at hc0 hl ⊢
  have HN := Aside0.mk hN
  generalize hG : frames l = G
  have HG := Aside0.mk hG
  have hl2 : (N : Int) ≤ 1000000 := by omega
  clear hr0 hb hG hN
  go_enter Try.func53, Try.ntmps53
  go_wp2
  go_loopw [6, 7, 8] (fun u6 u7 u8 wr => ∃ (i : Nat) (acc : List (List Int)), u8 = .int .i64 (i : Int) ∧ i ≤ N ∧ acc.length ≤ i ∧ Aside0 (i = total acc) ∧ Aside0 (G = (acc ++ (frames (l.drop i)).1, i + (frames (l.drop i)).2.1, (frames (l.drop i)).2.2)) ∧ Aside0 (Kd.R (Kd.int .i64) 3 wr w.heap.size (fun _ => True) u6 (placesOf 0 acc)) ∧ Aside0 (Kd.R (kIn A0 l) 30 wr w.heap.size (fun _ => True) u7 acc) ∧ Aside0 (Below w.heap.size w wr)) (fun _ _ u8 _ => (N - (intOf u8).toNat))
  case atStart => exact ⟨0, [], rfl, by omega, by simp, ⟨rfl⟩, ⟨by rw [← HG.out]; simp⟩, ⟨Kd.R_nil _ _ _ _ _⟩, ⟨Kd.R_nil _ _ _ _ _⟩, ⟨Below.refl _ _⟩⟩
  case round =>
    obtain ⟨i, acc, rfl, hi, hac, HI, HS, H6, H7, HB⟩ := hrel
    by_cases hlt : i < N
    · obtain ⟨A', hcut, hrb, hall⟩ := HRB.out.cut i (by rw [HN.out]; omega)
      have HRC : Aside0 (∀ w0, Kd.C (Kd.int .u8) w0 A0 l.length l → Kd.C (Kd.int .u8) w0 A' (l.drop i).length (l.drop i)) := ⟨hall⟩
      rw [HN.out] at hcut
      have TK := Aside0.mk (refTakeIn_calls A' (c0 - i) (l.drop i) wr (Kd.C_below hrb.hC HB.out) hrb.hc hrb.hb hrb.hl)
      have FTK := Aside0.mk (fun h => FT.mk' (l := l.drop i) hrb.hb h)
      have FNO := Aside0.mk (fun h => frames_no (l := l.drop i) h)
      have TNO := Aside0.mk (fun h => takeF_nil (l := l.drop i) h)
      have HDL := Aside0.mk (show (l.drop i).length = N - i by rw [List.length_drop, HN.out])
      clear hrb hall
      generalize hT : takeF (l.drop i) = T at *
      have HT := Aside0.mk hT
      clear hT
      obtain ⟨p, n, f⟩ := T
      dsimp only at *
      generalize hdl : (l.drop i).length = DL at *
      clear hdl
      go_wp2_with fail
      refine TK.out.mono ?_
      rintro e w4 ⟨X, m, rfl, hX, hq, hb4⟩
      have B4 := Aside0.mk (below_then HB.out HB.out.size hb4)
      have H64 := Aside0.mk (Kd.R_below H6.out hb4)
      have H74 := Aside0.mk (Kd.R_below H7.out hb4)
      have HX := Aside0.mk hX
      have HQ := Aside0.mk hq
      clear hX hq hb4 TK H6 H7 HB
      by_cases hf : f = 0
      · subst hf
        obtain ⟨p', n', hft⟩ := FTK.out rfl
        have htk := hft.tk
        rw [HT.out] at htk
        injection htk with ep en
        injection en with en _
        subst ep en
        have hn2 := hft.two
        have hnl := hft.len
        have hpn := hft.pn
        have hnN : i + n' ≤ N := by have := HDL.out; rw [List.length_drop, HN.out] at hnl; omega
        have HS2 : Aside0 (G = ((acc ++ [p]) ++ (frames (l.drop (i + n'))).1, (i + n') + (frames (l.drop (i + n'))).2.1, (frames (l.drop (i + n'))).2.2)) := ⟨by
          rw [HS.out, hft.frames, List.drop_drop]
          simp [Nat.add_assoc]⟩
        have HI2 : Aside0 (i + n' = total (acc ++ [p])) := ⟨by rw [total_snoc, ← HI.out]; omega⟩
        have HX2 : Aside0 (∀ w0, Kd.C (Kd.int .u8) w0 A0 l.length l → Kd.C (Kd.int .u8) w0 X p.length p) := ⟨fun w0 h0 => HX.out w0 (HRC.out w0 h0)⟩
        obtain ⟨in6, ho6⟩ := Kd.R_own H64.out
        have HO6 := Aside0.mk ho6
        have HPL : Aside0 (placesOf 0 acc ++ [(i : Int)] = placesOf 0 (acc ++ [p])) := ⟨by rw [placesOf_snoc, ← HI.out]; simp⟩
        clear ho6 hft HS HI FTK FNO TNO HT HRC hpn hnl
        have hnN2 : (i : Int) + (n' : Int) ≤ (N : Int) := by omega
        have hpll : Aside0 ((placesOf 0 acc).length ≤ 1000000) := ⟨by rw [placesOf_length]; omega⟩
        go_upto_region 9 with (at_builtin; go_must (refine Kd.R_append (Kd.int .i64) (w0 := w) w.heap.size rfl (.tmp 30) (.tmp 32) 61 3 _ 8 rfl Try.underlying61 info3_ (by rfl) (show 0 < 1 from by decide) (by decide) u6 (placesOf 0 acc) (i : Int) [.int .i64 (i : Int)] (fun _ => True) (fun _ => False) rfl rfl rfl (fun _ h => False.elim h) (fun _ _ => trivial) H64.out B4.out B4.out.size (by have := hpll.out; omega) ?_); intro v1 w5 hR1 hB1 hg1 hat1; rw [HPL.out] at hR1; have H65 := Aside0.mk hR1; have B5 := Aside0.mk hB1; have H75 := Aside0.mk (R_grown_t H74.out HO6.out (kIn_ne A0 l) hg1); clear hR1 hB1 hg1 hat1)
        go_wp2_with (at_builtin; go_must (refine Kd.R_append (kIn A0 l) (w0 := w) w.heap.size rfl (.tmp 34) (.tmp 36) 62 30 _ 24 rfl Try.underlying62 info30_ (by rfl) (show 0 < 1 from by decide) (by decide) u7 acc p [.slice X p.length m] (fun _ => True) (fun _ => False) rfl rfl ⟨X, m, rfl, HQ.out, HX2.out⟩ (fun _ h => False.elim h) (fun _ _ => trivial) H75.out B5.out B5.out.size (by omega) ?_); intro v2 w6 hR1 hB1 hg1 hat1; have H76 := Aside0.mk hR1; have B6 := Aside0.mk hB1; obtain ⟨in7, ho7⟩ := Kd.R_own H75.out; have H66 := Aside0.mk (R_grown_t H65.out ho7 kint_ne hg1); clear hR1 hB1 hg1 hat1 ho7)
        go_roundw
        case rel => exact ⟨i + n', acc ++ [p], by go_num, by omega, by simp; omega, HI2, HS2, H66, H76, B6⟩
        case measure => simp [intOf]; omega
      · have hff : (f != 0) = true := by simpa using hf
        have HG2 : Aside0 (G = (acc, i, f)) := ⟨by
          have h1 := HS.out
          have h2 := FNO.out hf
          rw [h2] at h1
          rw [h1, if_neg (by intro e; have := congrArg List.length e; rw [List.length_drop, HN.out] at this; simp at this; omega)]
          simp⟩
        obtain rfl := HG2.out
        clear hf HG2 HS FTK FNO TNO HT HRC HX
        go_wp2
        refine bodyPost_ret (v := .tuple #[u6, u7, .int .i64 (i : Int), .int .i64 f]) (by simp [results, Try.results53, go_sem]) rfl ?_
        exact ⟨_, _, rfl, H64.out, H74.out, B4.out⟩
    · obtain rfl : i = N := by omega
      have HG2 : Aside0 (G = (acc, i, 0)) := ⟨by
        have h1 := HS.out
        rw [List.drop_eq_nil_of_le (by rw [HN.out]; exact Nat.le_refl _), frames_nil] at h1
        simpa using h1⟩
      obtain rfl := HG2.out
      clear HG2 HS HG HI
      go_wp2
      refine bodyPost_ret (v := .tuple #[u6, u7, .int .i64 (i : Int), .int .i64 0]) (by simp [results, Try.results53, go_sem]) rfl ?_
      exact ⟨_, _, rfl, H6.out, H7.out, HB.out⟩
end Go.Proofs.Ytalpemoodollpaa.P
/- frame.Joiner. -/
namespace Go.Proofs.Ytalpemoodollpaa.P
open Go.RowKit Go.Proofs.YtalpemoodollpaaW.PrintWords Go.Proofs.YtalpemoodollpaaW.PrintLast Go.Proofs.YtalpemoodollpaaW.PrintMore
set_option linter.unusedVariables false
set_option linter.unusedSimpArgs false
/-- A frame.Joiner at block g: what it has not told yet, its fault. -/
def JS (W : World) (g : Nat) (row : Option Nat) (bs : List Int) (f : Int) : Prop :=
  ∃ v, W.heap[g]? = some (.cells #[v, .int .i64 f] 100 (0, 0)) ∧ v.ownBlock = row ∧ W.ownsRow 0 5 1 v bs.length (nums .u8 bs)
theorem JS.lt {w : World} {g : Nat} {row : Option Nat} {xs : List Int} {f : Int} (h : JS w g row xs f) : g < w.heap.size := by
  obtain ⟨v, hb, _⟩ := h
  exact blk_lt hb
theorem JS.fr {w w1 : World} {S : Nat → Prop} {g : Nat} {row : Option Nat} {xs : List Int} {f : Int} (h : JS w g row xs f) (hf : Fr w w1 S) (hg : ¬ S g) (hr : ∀ k, row = some k → ¬ S k) : JS w1 g row xs f := by
  obtain ⟨v, hb, he, ho⟩ := h
  exact ⟨v, hf.blk hb hg, he, hf.own ho (fun k hk => hr k (by rw [← he]; exact hk))⟩
theorem JS.below {w w1 : World} {g : Nat} {row : Option Nat} {xs : List Int} {f : Int} (h : JS w g row xs f) (hb : Below w.heap.size w w1) : JS w1 g row xs f :=
  h.fr (Fr.of_below hb (fun _ => False)) (fun h => h) (fun _ _ h => h)
/-- What Add leaves. -/
def JP (w : World) (g : Nat) (row row' : Option Nat) (s : List Int × Int) (w' : World) : Prop :=
  JS w' g row' s.1 s.2 ∧ (∀ k, row' = some k → row = some k ∨ w.heap.size ≤ k) ∧ Fr w w' (fun k => k = g ∨ row = some k)
def JPost (w : World) (g : Nat) (row : Option Nat) (s : List Int × Int) (w' : World) : Prop := ∃ row', JP w g row row' s w'
/-- What a joiner keeps of bytes. -/
def joinS (t : List Int) : List Int × Int := if (frames t).2.2 = 4 then ([], 4) else (t.drop (frames t).2.1, 0)
theorem own_map (A : Option Addr) (n c : Nat) (k : Nat) (h : (Value.slice A n c).ownBlock = some k) : A.map (·.block) = some k := by
  cases A with
  | none => simp [Value.ownBlock] at h
  | some ad => simpa [Value.ownBlock] using h
theorem map_own (A : Option Addr) (n c : Nat) : (Value.slice A n c).ownBlock = A.map (·.block) := by
  cases A with
  | none => rfl
  | some ad => rfl
theorem joinNil_calls (v : Value) (w : World) : Calls Try.prog 74 #[.pointer none, v] w fun e w' => e = .returned (.slice none 0 0) ∧ w = w' := by
  go_enter Try.func74, Try.ntmps74
  go_wp2_with fail
  go_step3
  go_wp2
  rw [Exit.noGoto_ret]
  go_ret
  exact ⟨rfl, rfl⟩
theorem joinBad_calls (g : Nat) (row : Option Nat) (p : List Int) (f : Int) (v : Value) (w : World) (hs : JS w g row p f) (hf : f ≠ 0) : Calls Try.prog 74 #[.pointer (some ⟨g, 0, none⟩), v] w fun e w' => e = .returned (.slice none 0 0) ∧ w = w' := by
  obtain ⟨v0, hb, _⟩ := hs
  have hff : (f != 0) = true := by simpa using hf
  have c1 : w.cell? ⟨g, 1, none⟩ = some (.int .i64 f) := (blk_cell hb 1).trans rfl
  clear hb hf
  go_enter Try.func74, Try.ntmps74
  go_wp2_with fail
  go_step3
  go_wp2
  rw [Exit.noGoto_ret]
  go_ret
  exact ⟨rfl, rfl⟩
theorem joinFault_calls (g : Nat) (row : Option Nat) (p : List Int) (f : Int) (w : World) (hs : JS w g row p f) : Calls Try.prog 76 #[.pointer (some ⟨g, 0, none⟩)] w fun e w' => e = .returned (.int .i64 f) ∧ w = w' := by
  obtain ⟨v0, hb, _⟩ := hs
  have c1 : w.cell? ⟨g, 1, none⟩ = some (.int .i64 f) := (blk_cell hb 1).trans rfl
  clear hb
  go_enter Try.func76, Try.ntmps76
  go_wp2
  go_ret
  exact ⟨rfl, rfl⟩
theorem joinFaultNil_calls (w : World) : Calls Try.prog 76 #[.pointer none] w fun e w' => e = .returned (.int .i64 3) ∧ w = w' := by
  go_enter Try.func76, Try.ntmps76
  go_wp2
  go_ret
  exact ⟨rfl, rfl⟩
theorem joinWaits_calls (g : Nat) (row : Option Nat) (p : List Int) (f : Int) (w : World) (hs : JS w g row p f) : Calls Try.prog 77 #[.pointer (some ⟨g, 0, none⟩)] w fun e w' => e = .returned (.int .i64 p.length) ∧ w = w' := by
  obtain ⟨v0, hb, _, ho⟩ := hs
  obtain ⟨A, c, rfl⟩ := own_slice ho
  generalize p.length = N at *
  have c1 : w.cell? ⟨g, 0, none⟩ = some (.slice A N c) := (blk_cell hb 0).trans rfl
  clear hb ho
  go_enter Try.func77, Try.ntmps77
  go_wp2
  go_ret
  exact ⟨rfl, rfl⟩
theorem joinWaitsNil_calls (w : World) : Calls Try.prog 77 #[.pointer none] w fun e w' => e = .returned (.int .i64 0) ∧ w = w' := by
  go_enter Try.func77, Try.ntmps77
  go_wp2
  go_ret
  exact ⟨rfl, rfl⟩
/-- What Add hands back and leaves. -/
def AddPost (w : World) (g : Nat) (row : Option Nat) (t : List Int) (e : Ending) (w' : World) : Prop :=
  ∃ v row', e = .returned v ∧ Kd.R (Kd.slice 5 (Kd.int .u8)) 30 w' w.heap.size (fun k => row' ≠ some k) v (frames t).1 ∧ JP w g row row' (joinS t) w'
theorem lists_ne : ∀ q, q ∈ 30 :: (Kd.slice 5 (Kd.int .u8)).E → q ≠ 100 := by
  intro q hq
  have : q = 30 ∨ q = 5 := by simpa [Kd.slice, Kd.int, Kd.scalar] using hq
  omega
theorem RB.cut2 {w0 : World} {A : Option Addr} {l : List Int} {c : Nat} (h : RB w0 A l c) (m : Nat) (hm : m ≤ l.length) :
    ∃ A', (∀ W : World, (Instr.slice 30 (.slice A l.length c) (some (.int .i64 (m : Int))) none none).run Try.prog W = .ok (.slice A' (l.length - m) (c - m)) W) ∧ RB w0 A' (l.drop m) (c - m) ∧ A'.map (·.block) = A.map (·.block) := by
  obtain ⟨A', hcut, ha, hR⟩ := cut_ A l.length c m hm
  refine ⟨A', fun W => hcut W, ⟨?_, by have := h.hc; rw [List.length_drop]; omega, h.hb.drop m, by have := h.hl; rw [List.length_drop]; omega⟩, ha⟩
  have := hR w0 l h.hc h.hC
  rw [List.length_drop]
  exact this
structure JL (w W2 wr : World) (g : Nat) (row rowA : Option Nat) (t rest : List Int) (A : Option Addr) (c : Nat) (acc : List (List Int)) (u4 : Value) : Prop where
  xg : wr.heap[g]? = some (.cells #[.slice A rest.length c, .int .i64 0] 100 (0, 0))
  rb : RB W2 A rest c
  ra : A.map (·.block) = rowA
  rne : rowA ≠ some g
  hR : Kd.R (Kd.slice 5 (Kd.int .u8)) 30 wr W2.heap.size (fun _ => True) u4 acc
  fr : Fr W2 wr (fun k => k = g)
  f0 : Fr w W2 (fun k => k = g ∨ row = some k)
  g2 : g < w.heap.size
  tt : ∃ off, rest = t.drop off ∧ frames t = (acc ++ (frames rest).1, off + (frames rest).2.1, (frames rest).2.2)
namespace JL
variable {w W2 wr w4 : World} {g : Nat} {row rowA : Option Nat} {t rest : List Int} {A : Option Addr} {c : Nat} {acc : List (List Int)} {u4 : Value}
theorem hC (h : JL w W2 wr g row rowA t rest A c acc u4) : Kd.C (Kd.int .u8) wr A rest.length rest :=
  h.fr.C h.rb.hC (fun k hk e => h.rne (by rw [← h.ra, hk, e]))
theorem below (h : JL w W2 wr g row rowA t rest A c acc u4) (hb : Below wr.heap.size wr w4) : JL w W2 w4 g row rowA t rest A c acc u4 :=
  ⟨(hb.block _ (blk_lt h.xg)).trans h.xg, h.rb, h.ra, h.rne, Kd.R_below h.hR hb, h.fr.trans (Fr.of_below hb (fun k => k = g)) (fun _ _ h => h), h.f0, h.g2, h.tt⟩
theorem own (h : JL w W2 wr g row rowA t rest A c acc u4) (k : Nat) (hk : u4.ownBlock = some k) : W2.heap.size ≤ k ∧ k < wr.heap.size := by
  obtain ⟨inner, ho⟩ := Kd.R_own h.hR
  exact ⟨own_base ho k hk, own_lt ho k hk⟩
theorem frw (h : JL w W2 wr g row rowA t rest A c acc u4) : Fr w wr (fun k => k = g ∨ row = some k) := h.f0.trans h.fr (fun _ _ hk => .inl hk)
/-- A frame more. -/
theorem next (h : JL w W2 wr g row rowA t rest A c acc u4) {p : List Int} {n : Nat} (hft : FT rest p n) {A' : Option Addr} (hrb : RB W2 A' (rest.drop n) (c - n)) (ha : A'.map (·.block) = A.map (·.block)) {v1 : Value} {w5 : World}
    (hR : Kd.R (Kd.slice 5 (Kd.int .u8)) 30 w5 W2.heap.size (fun _ => True) v1 (acc ++ [p])) (hg : wr.grownBy w5 u4.ownBlock) :
    JL w W2 (w5.setCell ⟨g, 0, none⟩ (.slice A' (rest.drop n).length (c - n))) g row rowA t (rest.drop n) A' (c - n) (acc ++ [p]) v1 := by
  have hlt := h.g2
  have hsz := h.f0.size
  have hxg := blk_grown h.xg hg (fun e => by have := (h.own g e.symm).1; omega)
  have hfr : Fr W2 w5 (fun k => k = g) := h.fr.grown hg (fun k hk he => by have := (h.own k he).1; omega)
  obtain ⟨off, e1, e2⟩ := h.tt
  refine ⟨(blk_set hxg 0 _).trans (by simp), hrb, ha.trans h.ra, h.rne, Kd.R_set hR hxg lists_ne 0 _, hfr.setCell _ _ (fun _ => rfl), h.f0, h.g2, off + n, by rw [e1, List.drop_drop], ?_⟩
  rw [e2, hft.frames]
  simp [Nat.add_assoc]
theorem xg5 (h : JL w W2 wr g row rowA t rest A c acc u4) {w5 : World} (hg : wr.grownBy w5 u4.ownBlock) : w5.heap[g]? = some (.cells #[.slice A rest.length c, .int .i64 0] 100 (0, 0)) :=
  blk_grown h.xg hg (fun e => by have := (h.own g e.symm).1; have := h.g2; have := h.f0.size; omega)
/-- Too few bytes: a copy is kept. -/
theorem few (h : JL w W2 wr g row rowA t rest A c acc u4) (hf : (takeF rest).2.2 = 3) {v1 : Value} (hR : Kd.R (Kd.int .u8) 5 w4 wr.heap.size (fun _ => True) v1 rest) (hb : Below wr.heap.size wr w4) : AddPost w g row t (.returned u4) (w4.setCell ⟨g, 0, none⟩ v1) := by
  have h4 := h.below hb
  obtain ⟨off, e1, e2⟩ := h.tt
  have hsz := h.f0.size
  have hsz2 := h.fr.size
  have hg2 := h.g2
  rw [frames_no (l := rest) (by rw [hf]; decide), List.append_nil] at e2
  have ej : joinS t = (rest, 0) := by
    unfold joinS
    rw [e2]
    dsimp only
    rw [if_neg (by rw [hf]; split <;> decide), Nat.add_zero, ← e1]
  have ho := Kd.own_of_R hR
  have hne : some g ≠ v1.ownBlock := own_ne ho h4.xg (by decide)
  refine ⟨u4, v1.ownBlock, rfl, ?_, ?_, ?_, ?_⟩
  · rw [e2]
    refine Kd.R_mono (Kd.R_lower (Kd.R_set (Kd.R_below (Kd.R_bound h.hR) hb) h4.xg lists_ne 0 v1) hsz) ?_
    rintro k ⟨_, _, hk, _⟩ e
    have := own_base ho k e
    omega
  · rw [ej]
    exact ⟨v1, (blk_set h4.xg 0 v1).trans (by simp), rfl, own_setCell (own_less ho (Nat.zero_le _)) hne v1⟩
  · intro k hk
    right
    have := own_base ho k hk
    omega
  · exact h4.frw.setCell _ _ (fun _ => .inl rfl)
/-- A bad length. -/
theorem bad (h : JL w W2 wr g row rowA t rest A c acc u4) (hf : (takeF rest).2.2 = 4) : AddPost w g row t (.returned u4) ((wr.setCell ⟨g, 0, none⟩ (.slice none 0 0)).setCell ⟨g, 1, none⟩ (.int .i64 4)) := by
  obtain ⟨off, e1, e2⟩ := h.tt
  have hsz := h.f0.size
  have hne0 : rest ≠ [] := fun e => by rw [e] at hf; exact absurd hf (by decide)
  rw [frames_no (l := rest) (by rw [hf]; decide), List.append_nil, if_neg hne0, hf] at e2
  have ej : joinS t = ([], 4) := by
    unfold joinS
    rw [e2, if_pos rfl]
  have x1 := (blk_set h.xg 0 (.slice none 0 0)).trans (show some (Obj.cells _ 100 (0, 0)) = some (.cells #[.slice none 0 0, .int .i64 0] 100 (0, 0)) by simp)
  refine ⟨u4, none, rfl, ?_, ?_, ?_, ?_⟩
  · rw [e2]
    exact Kd.R_mono (Kd.R_lower (Kd.R_set (Kd.R_set h.hR h.xg lists_ne 0 _) x1 lists_ne 1 _) hsz) (fun k _ e => by cases e)
  · rw [ej]
    exact ⟨.slice none 0 0, (blk_set x1 1 (.int .i64 4)).trans (by simp), rfl, own_nil _ _ _ _⟩
  · intro k hk
    cases hk
  · exact (h.frw.setCell _ _ (fun _ => .inl rfl)).setCell _ _ (fun _ => .inl rfl)
end JL
theorem JL.start {w w1 : World} {g : Nat} {row : Option Nat} {t : List Int} {A1 : Option Addr} {c1 : Nat} {v0 u : Value} (hx : w1.heap[g]? = some (.cells #[u, .int .i64 0] 100 (0, 0))) (ho : w1.ownsRow 0 5 1 (.slice A1 t.length c1) t.length (nums .u8 t)) (hg : w.grownBy w1 v0.ownBlock) (hrow : v0.ownBlock = row) (hlt : g < w.heap.size) (hb : Byt t) (hl : t.length ≤ 1000000) :
    JL w (w1.setCell ⟨g, 0, none⟩ (.slice A1 t.length c1)) (w1.setCell ⟨g, 0, none⟩ (.slice A1 t.length c1)) g row (A1.map (·.block)) t t A1 c1 [] (.slice none 0 0) := by
  have hne := own_ne ho hx (by decide)
  have ho2 := own_setCell ho hne (p := ⟨g, 0, none⟩) (.slice A1 t.length c1)
  refine ⟨(blk_set hx 0 _).trans (by simp), ⟨Kd.C_of_reads (d := (0 : Int)) (h1 := fun _ => rfl) (own_reads' ho2), own_cap ho, hb, by omega⟩, rfl, ?_, Kd.R_nil _ _ _ _ _, Fr.refl _ _, ?_, hlt, 0, by simp, by simp⟩
  · rw [map_own] at hne
    exact fun e => hne e.symm
  · exact ((Fr.refl w _).grown hg (fun k _ he => .inr (by rw [← hrow]; exact he))).setCell _ _ (fun _ => .inl rfl)
set_option maxRecDepth 100000 in
set_option maxHeartbeats 2000000 in
theorem joinAdd_calls (g : Nat) (row : Option Nat) (p0 : List Int) (A0 : Option Addr) (c0 : Nat) (x : List Int) (w : World) (hs : JS w g row p0 0) (hr0 : Kd.C (Kd.int .u8) w A0 x.length x) (hl : p0.length + x.length ≤ 1000000) (hb : Byt (p0 ++ x)) :
    Calls Try.prog 74 #[.pointer (some ⟨g, 0, none⟩), .slice A0 x.length c0] w (AddPost w g row (p0 ++ x)) := by
  obtain ⟨v0, hbx, hrow, ho⟩ := hs
  obtain ⟨V, vc, rfl⟩ := own_slice ho
  have c0_ : w.cell? ⟨g, 0, none⟩ = some (.slice V p0.length vc) := (blk_cell hbx 0).trans rfl
  have c1_ : w.cell? ⟨g, 1, none⟩ = some (.int .i64 0) := (blk_cell hbx 1).trans rfl
  have z0_ : w.frozen? ⟨g, 0, none⟩ = false := blk_frozen hbx 0
  have HBX := Aside0.mk hbx
  have HO := Aside0.mk ho
  have HROW := Aside0.mk hrow
  have HNE := Aside0.mk (own_ne ho hbx (by decide))
  have HRX := Aside0.mk (Kd.reads_of_C (d := (0 : Int)) hr0)
  have HY := Aside0.mk hb
  have HT := Aside0.mk (show (p0 ++ x).length = p0.length + x.length from List.length_append)
  clear hbx hrow ho hr0 hb
  generalize hpl : p0.length = PL at *
  generalize hxl : x.length = XL at *
  have HPL := Aside0.mk hpl
  have HXL := Aside0.mk hxl
  clear hpl hxl
  go_enter Try.func74, Try.ntmps74
  go_wp2_with fail
  go_step3
  go_upto_region 4 with (at_builtin; refine print_append_row (w0 := w) 0 rfl (.tmp 21) (.tmp 22) 30 5 .u8 1 rfl Try.underlying30 info5 (by decide) (.slice V PL vc) p0 x A0 XL c0 rfl rfl (by have := HO.out; exact HPL.out ▸ this) HRX.out (Below.refl 0 w) (Nat.zero_le _) (by have := HPL.out; omega) ?_; intro v1 w1 hown _ hgrow hat; obtain ⟨A1, c1, rfl⟩ := own_slice hown; have HOWN := Aside0.mk hown; have HGR := Aside0.mk hgrow; have HAT := Aside0.mk hat; have X1 := Aside0.mk (blk_grown HBX.out hgrow HNE.out); have d0_ := (blk_cell X1.out 0).trans rfl; have y0_ := blk_frozen X1.out 0; clear hown hgrow hat)
  have HJ : Aside0 (JL w (w1.setCell ⟨g, 0, none⟩ (.slice A1 (p0.length + x.length) c1)) (w1.setCell ⟨g, 0, none⟩ (.slice A1 (p0.length + x.length) c1)) g row (A1.map (·.block)) (p0 ++ x) (p0 ++ x) A1 c1 [] (.slice none 0 0)) := ⟨by
    have h := HOWN.out
    rw [← List.length_append]
    exact JL.start X1.out h HGR.out HROW.out (blk_lt HBX.out) HY.out (by have := HT.out; omega)⟩
  have hlt : (p0 ++ x).length ≤ 1000000 := by have := HT.out; omega
  rw [← List.length_append] at HJ ⊢
  clear c0_ c1_ z0_ d0_ y0_ HBX HO HROW HNE HRX HOWN HGR HAT X1 HT HPL HXL hl
  generalize p0 ++ x = t at *
  generalize hL : t.length = L at *
  have HL := Aside0.mk hL
  generalize (w1.setCell ⟨g, 0, none⟩ (.slice A1 L c1)) = W2 at *
  clear hL
  go_wp2
  go_step3
  go_wp2
  go_loopg [4] (L + 1) (fun k u4 wr => ∃ (A : Option Addr) (c : Nat) (rest : List Int) (acc : List (List Int)), rest.length < k ∧ 2 * acc.length + rest.length ≤ L ∧ Aside0 (JL w W2 wr g row (A1.map (·.block)) t rest A c acc u4))
  case atStart => exact ⟨A1, c1, t, [], by rw [HL.out]; omega, by rw [HL.out]; simp, HJ⟩
  case round =>
    obtain ⟨A, c, rest, acc, hrk, hal, HJ⟩ := hrel
    have hTK : frame_Take.f rest = some (takeF rest) := by unfold frame_Take.f; rw [if_pos ⟨bytB_of HJ.out.rb.hb, HJ.out.rb.hl⟩]
    have TK := Aside0.mk (frame_Take.calls A c rest (takeF rest).1 (takeF rest).2.1 (takeF rest).2.2 wr HJ.out.hC HJ.out.rb.hc hTK)
    have FTK := Aside0.mk (fun h => FT.mk' (l := rest) HJ.out.rb.hb h)
    have FLT := takeF_fault rest
    have e0_ := (blk_cell HJ.out.xg 0).trans rfl
    have CL := Aside0.mk (fun (w4 : World) (hb4 : Below wr.heap.size wr w4) => bytes_Clone.calls A c rest w4 (Kd.C_below HJ.out.hC hb4) HJ.out.rb.hl)
    have CUT := Aside0.mk HJ.out.rb.cut2
    generalize hT : takeF rest = T at *
    have HT := Aside0.mk hT
    clear hT hTK
    obtain ⟨p, n, f⟩ := T
    dsimp only at *
    generalize hRL : rest.length = RL at *
    have HRL := Aside0.mk hRL
    clear hRL
    go_wp2_with fail
    refine TK.out.mono ?_
    rintro e w4 ⟨v, rfl, hR, hb4⟩
    obtain ⟨X, m, rfl⟩ := Kd.R_slice hR
    have HB4 := Aside0.mk hb4
    have HRP := Aside0.mk hR
    have HJ4 := Aside0.mk (HJ.out.below hb4)
    clear hR hb4 TK e0_
    have e0_ := (blk_cell HJ4.out.xg 0).trans rfl
    have z0_ := blk_frozen HJ4.out.xg 0
    have z1_ := blk_frozen HJ4.out.xg 1
    have e1_ := (blk_cell HJ4.out.xg 1).trans rfl
    rw [HRL.out] at e0_
    rcases FLT with hf | hf | hf
    · subst hf
      obtain ⟨p', n', hft⟩ := FTK.out rfl
      have htk := hft.tk
      rw [HT.out] at htk
      injection htk with ep en
      injection en with en _
      subst ep en
      have hn2 := hft.two
      have hnl := hft.len
      rw [HRL.out] at hnl
      obtain ⟨A', hcut, hrb⟩ := CUT.out n' (by omega)
      have hab : A'.map (·.block) = A.map (·.block) := hrb.2
      have HAB := Aside0.mk hab
      have HRB' := Aside0.mk hrb.1
      have HFT := Aside0.mk hft
      have HNE := Aside0.mk (fun e => (HJ4.out.own g e).1)
      have HOKP : Aside0 (∀ k, wr.heap.size ≤ k → some k ≠ u4.ownBlock) := ⟨fun k hk e => by have := (HJ.out.own k e.symm).2; omega⟩
      have HMK := Aside0.mk (Kd.R_mono (Kd.R_bound (Kd.R_lower HRP.out (Nat.le_refl _))) (fun k hk => hk.2.1) : Kd.R (Kd.int .u8) 5 w4 wr.heap.size (fun k => wr.heap.size ≤ k) (.slice X p.length m) p)
      have HW2 := Aside0.mk (HJ.out.fr.size)
      have HDL := Aside0.mk (show (rest.drop n').length = RL - n' by rw [List.length_drop, HRL.out])
      have hnR : (n' : Int) ≤ (RL : Int) := by omega
      clear hft hab hrb FTK CL CUT HT
      go_upto_region 9 with (at_builtin; go_must (refine Kd.R_append (Kd.slice 5 (Kd.int .u8)) (w0 := w4) W2.heap.size rfl (.tmp 46) (.tmp 48) 62 30 _ 24 rfl Try.underlying62 info30_ (by rfl) (show 0 < 1 from by decide) (by decide) u4 acc p [.slice X p.length m] (fun _ => True) (fun k => wr.heap.size ≤ k) rfl rfl ⟨_, rfl, Kd.R_lower HMK.out HW2.out⟩ (fun k hk => ⟨trivial, HOKP.out k hk⟩) (fun _ _ => trivial) HJ4.out.hR (Below.refl _ _) HJ4.out.fr.size (by have := HL.out; omega) ?_); intro v1 w5 hR1 _ hg1 hat1; have H5 := Aside0.mk hR1; have HG5 := Aside0.mk hg1; have X5 := Aside0.mk (HJ4.out.xg5 hg1); have y0_ := blk_frozen X5.out 0; clear hR1 hg1 hat1)
      rw [HRL.out] at X5
      have f0_ := (blk_cell X5.out 0).trans rfl
      go_wp2
      go_roundg (gk - 1)
      case measure => omega
      case rel =>
        refine ⟨A', c - n', rest.drop n', acc ++ [p], by rw [HDL.out]; omega, by rw [HDL.out]; simp; omega, ⟨?_⟩⟩
        have h := HJ4.out.next HFT.out HRB'.out HAB.out H5.out HG5.out
        rw [HDL.out] at h
        exact h
    · subst hf
      clear FTK CUT
      go_wp2_with fail
      refine (CL.out w4 HB4.out).mono ?_
      rintro e w5 ⟨v1, rfl, hR1, hb5⟩
      obtain ⟨X1, m1, rfl⟩ := Kd.R_slice hR1
      have HR1 := Aside0.mk hR1
      have HB5 := Aside0.mk hb5
      have HJ5 := Aside0.mk (HJ4.out.below hb5)
      clear hR1 hb5 e0_ e1_ z0_ z1_
      have e0_ := (blk_cell HJ5.out.xg 0).trans rfl
      have z0_ := blk_frozen HJ5.out.xg 0
      rw [HRL.out] at e0_ HR1
      go_wp2
      rw [Exit.noGoto_ret]
      go_ret
      have h1 := HR1.out
      rw [← HRL.out] at h1 ⊢
      exact HJ4.out.few (by rw [HT.out]) h1 HB5.out
    · subst hf
      clear FTK CL
      go_wp2
      rw [Exit.noGoto_ret]
      go_ret
      exact HJ4.out.bad (by rw [HT.out])
end Go.Proofs.Ytalpemoodollpaa.P
-- Printed by hookprint.py (the session's own program, over the kit's print.py): checked by Lean like any text.
namespace Go.Proofs.Ytalpemoodollpaa.P
open Go.RowKit Go.Proofs.YtalpemoodollpaaW.PrintWords Go.Proofs.YtalpemoodollpaaW.PrintLast Go.Proofs.YtalpemoodollpaaW.PrintMore
attribute [local go_sem] max2_int min2_int max_two min_two max_three min_three max_four min_four   -- for this text's walks alone
set_option linter.unusedVariables false
set_option linter.unusedSimpArgs false

/-! ### damperref04_Lists: function 75 -/
def damperref04_Lists.l0 : Nat → List (List Int) → List (List Int) → Int → Option (Bool)
  | 0, _, _, _ => none
  | k + 1, x0, x1, x5 => if x5 < (x0.length : Int) then (if 0 ≤ x5 then (if x5 < (x1.length : Int) then ((damperref03_Same.f (rd_L4 x0 x5) (rd_L4 x1 x5)).bind fun t576 => (if t576 = true then (damperref04_Lists.l0 k x0 x1 (wrap64 (x5 + 1))) else (some false))) else (none)) else (none)) else (some true)
def damperref04_Lists.f (k : Nat) (l0 : List (List Int)) (l1 : List (List Int)) : Option (Bool) := if (l0.length : Int) = (l1.length : Int) then (damperref04_Lists.l0 k l0 l1 0) else (some false)
theorem damperref04_Lists.mono_l : ∀ k, (∀ y0 y1 y2, LeO (damperref04_Lists.l0 k y0 y1 y2) (damperref04_Lists.l0 (k + 1) y0 y1 y2))
  | 0 => fun _ _ _ r h => by simp [damperref04_Lists.l0] at h
  | k + 1 => by
    have ih0 := damperref04_Lists.mono_l k
    · intro y0 y1 y2
      unfold damperref04_Lists.l0
      repeat' first
      | (with_reducible exact ih0 _ _ _)
      | (with_reducible exact LeO.refl _)
      | (with_reducible exact LeO.none _)
      | (with_reducible refine LeO.ite ?_ ?_)
      | (with_reducible refine LeO.bind ?_ (fun _ => ?_))
      | exact ih0 _ _ _
      | exact LeO.none _
      | refine LeO.ite ?_ ?_
      | refine LeO.bind ?_ (fun _ => ?_)
theorem damperref04_Lists.mono : ∀ a0 a1 k, LeO (damperref04_Lists.f k a0 a1) (damperref04_Lists.f (k + 1) a0 a1) := by
  intro a0 a1 k
  have ih0 := damperref04_Lists.mono_l k
  unfold damperref04_Lists.f
  repeat' first
      | (with_reducible exact ih0 _ _ _)
      | (with_reducible exact LeO.refl _)
      | (with_reducible exact LeO.none _)
      | (with_reducible refine LeO.ite ?_ ?_)
      | (with_reducible refine LeO.bind ?_ (fun _ => ?_))
      | exact ih0 _ _ _
      | exact LeO.none _
      | refine LeO.ite ?_ ?_
      | refine LeO.bind ?_ (fun _ => ?_)
set_option maxHeartbeats 8000000 in
set_option maxRecDepth 100000 in
theorem damperref04_Lists.calls (k : Nat) (A0 : Option Addr) (c0 : Nat) (l0 : List (List Int)) (A1 : Option Addr) (c1 : Nat) (l1 : List (List Int)) (r : Bool) (w : World) (hr0 : Kd.C (Kd.slice 5 (Kd.int .u8)) w A0 l0.length l0) (hc0 : l0.length ≤ c0) (hr1 : Kd.C (Kd.slice 5 (Kd.int .u8)) w A1 l1.length l1) (hc1 : l1.length ≤ c1) (h : damperref04_Lists.f k l0 l1 = some r) :
    Calls Try.prog 75 #[.slice A0 l0.length c0, .slice A1 l1.length c1] w fun e w' => e = .returned (.bool r) ∧ Drawn0 w w' := by
  have HR0 := Aside0.mk hr0
  have HC0 := Aside0.mk hc0
  clear hr0 hc0
  have HR1 := Aside0.mk hr1
  have HC1 := Aside0.mk hc1
  clear hr1 hc1
  have H : (if (l0.length : Int) = (l1.length : Int) then (damperref04_Lists.l0 k l0 l1 0) else (some false)) = some r := h
  clear h
  by_cases c3 : (l0.length : Int) = (l1.length : Int)
  · rw [if_pos c3] at H
    have c3b0 : ((l0.length : Int) == (l1.length : Int)) = true := beq_iff_eq.mpr c3
    have c3b1 : ((l0.length : Int) != (l1.length : Int)) = false := bne_eq_false_iff_eq.mpr c3
    have c3b2 : (l0.length == l1.length) = true := by first | simpa using c3 | (simp at c3 ⊢; omega)
    clear c3
    have H' := Aside0.mk H
    clear H
    go_enter Try.func75, Try.ntmps75
    go_wp2
    repeat (go_quiet (fail); try go_wp2)
    go_loopg [5] k (fun kq v5 w' => ∃ (x5_1 : Int), v5 = .int .i64 x5_1 ∧ Aside0 (damperref04_Lists.l0 kq l0 l1 x5_1 = some r) ∧ Aside0 (kq ≤ k) ∧ Drawn0 w w')
    case atStart => exact ⟨(0), (by first | rfl | (simp; done) | (simp [*]; done)), H', ⟨Nat.le_refl _⟩, by repeat (first | exact Drawn0.refl _ | apply Drawn0.step)⟩
    case round =>
      clear H'
      try clear c1
      try clear p2
      try clear c3
      try clear c3b0
      try clear c3b1
      try clear c3b2
      obtain ⟨x5_1, rfl, HA, HK1, ⟨m1, rfl⟩⟩ := hrel
      cases gk with
      | zero => exact absurd HA.out (by simp [damperref04_Lists.l0])
      | succ k1 =>
        have H := HA.out
        clear HA
        simp only [damperref04_Lists.l0] at H
        by_cases c4 : x5_1 < (l0.length : Int)
        · rw [if_pos c4] at H
          have c4b0 : decide (x5_1 < (l0.length : Int)) = true := decide_eq_true c4
          clear c4
          by_cases c5 : 0 ≤ x5_1
          · rw [if_pos c5] at H
            have c5b0 : decide (0 ≤ x5_1) = true := decide_eq_true c5
            clear c5
            by_cases c6 : x5_1 < (l1.length : Int)
            · rw [if_pos c6] at H
              have c6b0 : decide (x5_1 < (l1.length : Int)) = true := decide_eq_true c6
              clear c6
              replace H := Option.bind_eq_some_iff.mp H
              obtain ⟨t576, A70, H⟩ := H
              replace H : (if t576 = true then (damperref04_Lists.l0 k1 l0 l1 (wrap64 (x5_1 + 1))) else (some false)) = some r := H
              have A7 := Aside0.mk A70
              clear A70
              by_cases c8 : t576 = true
              · subst c8
                have H1 : (damperref04_Lists.l0 k1 l0 l1 (wrap64 (x5_1 + 1))) = some r := by rw [if_pos rfl] at H; exact H
                clear H
                have H := H1
                clear H1
                have H' := Aside0.mk H
                clear H
                have p574 : 0 ≤ (x5_1 : Int) := of_decide_eq_true (by first | (with_reducible assumption) | assumption)
                have q574 : x5_1 < (l0.length : Int) := of_decide_eq_true (by first | (with_reducible assumption) | assumption)
                obtain ⟨ad574, A574_0, c574_0, e574, hx574_0, hl574_0, hi574_0⟩ := at_L4 HR0.out x5_1 p574 q574
                cases e574
                have HR574_0 := Aside0.mk hi574_0
                have HC574_0 := Aside0.mk hl574_0
                clear hi574_0 hl574_0
                replace p574 := eq_true p574
                replace q574 := eq_true q574
                have p575 : 0 ≤ (x5_1 : Int) := of_decide_eq_true (by first | (with_reducible assumption) | assumption)
                have q575 : x5_1 < (l1.length : Int) := of_decide_eq_true (by first | (with_reducible assumption) | assumption)
                obtain ⟨ad575, A575_0, c575_0, e575, hx575_0, hl575_0, hi575_0⟩ := at_L4 HR1.out x5_1 p575 q575
                cases e575
                have HR575_0 := Aside0.mk hi575_0
                have HC575_0 := Aside0.mk hl575_0
                clear hi575_0 hl575_0
                replace p575 := eq_true p575
                replace q575 := eq_true q575
                go_wp2_with (first | (go_at_call 31; (with_reducible refine (damperref03_Same.calls _ _ (rd_L4 l0 x5_1) _ _ (rd_L4 l1 x5_1) true _ ?side1 ?side2 ?side3 ?side4 A7.out).mono ?_); (case side1 => repeat (first | exact HR574_0.out | (with_reducible refine Kd.C_alloc ?_ _) | (with_reducible refine Kd.C_drewN ?_ _) | (with_reducible refine Kd.C_drew ?_))); (case side2 => exact HC574_0.out); (case side3 => repeat (first | exact HR575_0.out | (with_reducible refine Kd.C_alloc ?_ _) | (with_reducible refine Kd.C_drewN ?_ _) | (with_reducible refine Kd.C_drew ?_))); (case side4 => exact HC575_0.out); rintro e w' ⟨rfl, ⟨nd, rfl⟩⟩; (try first | exact ⟨rfl, _, World.drewN_drewN _ _ _⟩ | exact ⟨rfl, _, Eq.trans (World.drewN_drewN _ _ _) (congrArg (World.drewN _) (Nat.add_assoc _ _ _))⟩)))
                repeat (go_quiet (first | (go_at_call 31; (with_reducible refine (damperref03_Same.calls _ _ (rd_L4 l0 x5_1) _ _ (rd_L4 l1 x5_1) true _ ?side1 ?side2 ?side3 ?side4 A7.out).mono ?_); (case side1 => repeat (first | exact HR574_0.out | (with_reducible refine Kd.C_alloc ?_ _) | (with_reducible refine Kd.C_drewN ?_ _) | (with_reducible refine Kd.C_drew ?_))); (case side2 => exact HC574_0.out); (case side3 => repeat (first | exact HR575_0.out | (with_reducible refine Kd.C_alloc ?_ _) | (with_reducible refine Kd.C_drewN ?_ _) | (with_reducible refine Kd.C_drew ?_))); (case side4 => exact HC575_0.out); rintro e w' ⟨rfl, ⟨nd, rfl⟩⟩; (try first | exact ⟨rfl, _, World.drewN_drewN _ _ _⟩ | exact ⟨rfl, _, Eq.trans (World.drewN_drewN _ _ _) (congrArg (World.drewN _) (Nat.add_assoc _ _ _))⟩))); try go_wp2_with (first | (go_at_call 31; (with_reducible refine (damperref03_Same.calls _ _ (rd_L4 l0 x5_1) _ _ (rd_L4 l1 x5_1) true _ ?side1 ?side2 ?side3 ?side4 A7.out).mono ?_); (case side1 => repeat (first | exact HR574_0.out | (with_reducible refine Kd.C_alloc ?_ _) | (with_reducible refine Kd.C_drewN ?_ _) | (with_reducible refine Kd.C_drew ?_))); (case side2 => exact HC574_0.out); (case side3 => repeat (first | exact HR575_0.out | (with_reducible refine Kd.C_alloc ?_ _) | (with_reducible refine Kd.C_drewN ?_ _) | (with_reducible refine Kd.C_drew ?_))); (case side4 => exact HC575_0.out); rintro e w' ⟨rfl, ⟨nd, rfl⟩⟩; (try first | exact ⟨rfl, _, World.drewN_drewN _ _ _⟩ | exact ⟨rfl, _, Eq.trans (World.drewN_drewN _ _ _) (congrArg (World.drewN _) (Nat.add_assoc _ _ _))⟩))))
                go_roundg k1
                case measure => have := HK1.out; omega
                case rel => exact ⟨(wrap64 (x5_1 + 1)), (by first | rfl | (simp; done) | (simp [*]; done)), H', ⟨by have := HK1.out; omega⟩, by repeat (first | exact Drawn0.refl _ | apply Drawn0.step)⟩
              · replace c8 := Bool.eq_false_iff.mpr c8
                subst c8
                have H1 : (some false) = some r := by rw [if_neg (show ¬ (false = true) by decide)] at H; exact H
                clear H
                have H := H1
                clear H1
                obtain rfl := Option.some.inj H
                have p574 : 0 ≤ (x5_1 : Int) := of_decide_eq_true (by first | (with_reducible assumption) | assumption)
                have q574 : x5_1 < (l0.length : Int) := of_decide_eq_true (by first | (with_reducible assumption) | assumption)
                obtain ⟨ad574, A574_0, c574_0, e574, hx574_0, hl574_0, hi574_0⟩ := at_L4 HR0.out x5_1 p574 q574
                cases e574
                have HR574_0 := Aside0.mk hi574_0
                have HC574_0 := Aside0.mk hl574_0
                clear hi574_0 hl574_0
                replace p574 := eq_true p574
                replace q574 := eq_true q574
                have p575 : 0 ≤ (x5_1 : Int) := of_decide_eq_true (by first | (with_reducible assumption) | assumption)
                have q575 : x5_1 < (l1.length : Int) := of_decide_eq_true (by first | (with_reducible assumption) | assumption)
                obtain ⟨ad575, A575_0, c575_0, e575, hx575_0, hl575_0, hi575_0⟩ := at_L4 HR1.out x5_1 p575 q575
                cases e575
                have HR575_0 := Aside0.mk hi575_0
                have HC575_0 := Aside0.mk hl575_0
                clear hi575_0 hl575_0
                replace p575 := eq_true p575
                replace q575 := eq_true q575
                go_wp2_with (first | (go_at_call 31; (with_reducible refine (damperref03_Same.calls _ _ (rd_L4 l0 x5_1) _ _ (rd_L4 l1 x5_1) false _ ?side1 ?side2 ?side3 ?side4 A7.out).mono ?_); (case side1 => repeat (first | exact HR574_0.out | (with_reducible refine Kd.C_alloc ?_ _) | (with_reducible refine Kd.C_drewN ?_ _) | (with_reducible refine Kd.C_drew ?_))); (case side2 => exact HC574_0.out); (case side3 => repeat (first | exact HR575_0.out | (with_reducible refine Kd.C_alloc ?_ _) | (with_reducible refine Kd.C_drewN ?_ _) | (with_reducible refine Kd.C_drew ?_))); (case side4 => exact HC575_0.out); rintro e w' ⟨rfl, ⟨nd, rfl⟩⟩; (try first | exact ⟨rfl, _, World.drewN_drewN _ _ _⟩ | exact ⟨rfl, _, Eq.trans (World.drewN_drewN _ _ _) (congrArg (World.drewN _) (Nat.add_assoc _ _ _))⟩)))
                repeat (go_quiet (first | (go_at_call 31; (with_reducible refine (damperref03_Same.calls _ _ (rd_L4 l0 x5_1) _ _ (rd_L4 l1 x5_1) false _ ?side1 ?side2 ?side3 ?side4 A7.out).mono ?_); (case side1 => repeat (first | exact HR574_0.out | (with_reducible refine Kd.C_alloc ?_ _) | (with_reducible refine Kd.C_drewN ?_ _) | (with_reducible refine Kd.C_drew ?_))); (case side2 => exact HC574_0.out); (case side3 => repeat (first | exact HR575_0.out | (with_reducible refine Kd.C_alloc ?_ _) | (with_reducible refine Kd.C_drewN ?_ _) | (with_reducible refine Kd.C_drew ?_))); (case side4 => exact HC575_0.out); rintro e w' ⟨rfl, ⟨nd, rfl⟩⟩; (try first | exact ⟨rfl, _, World.drewN_drewN _ _ _⟩ | exact ⟨rfl, _, Eq.trans (World.drewN_drewN _ _ _) (congrArg (World.drewN _) (Nat.add_assoc _ _ _))⟩))); try go_wp2_with (first | (go_at_call 31; (with_reducible refine (damperref03_Same.calls _ _ (rd_L4 l0 x5_1) _ _ (rd_L4 l1 x5_1) false _ ?side1 ?side2 ?side3 ?side4 A7.out).mono ?_); (case side1 => repeat (first | exact HR574_0.out | (with_reducible refine Kd.C_alloc ?_ _) | (with_reducible refine Kd.C_drewN ?_ _) | (with_reducible refine Kd.C_drew ?_))); (case side2 => exact HC574_0.out); (case side3 => repeat (first | exact HR575_0.out | (with_reducible refine Kd.C_alloc ?_ _) | (with_reducible refine Kd.C_drewN ?_ _) | (with_reducible refine Kd.C_drew ?_))); (case side4 => exact HC575_0.out); rintro e w' ⟨rfl, ⟨nd, rfl⟩⟩; (try first | exact ⟨rfl, _, World.drewN_drewN _ _ _⟩ | exact ⟨rfl, _, Eq.trans (World.drewN_drewN _ _ _) (congrArg (World.drewN _) (Nat.add_assoc _ _ _))⟩))))
                go_ret
                exact ⟨by first | rfl | (simp; done) | (simp [*]; done), by repeat (first | exact Drawn0.refl _ | apply Drawn0.step)⟩
            · rw [if_neg c6] at H
              exact absurd H (by simp)
          · rw [if_neg c5] at H
            exact absurd H (by simp)
        · rw [if_neg c4] at H
          have c4b0 : decide (x5_1 < (l0.length : Int)) = false := decide_eq_false c4
          clear c4
          obtain rfl := Option.some.inj H
          go_wp2
          repeat (go_quiet (fail); try go_wp2)
          go_ret
          exact ⟨by first | rfl | (simp; done) | (simp [*]; done), by repeat (first | exact Drawn0.refl _ | apply Drawn0.step)⟩
  · rw [if_neg c3] at H
    have c3b0 : ((l0.length : Int) == (l1.length : Int)) = false := beq_eq_false_iff_ne.mpr c3
    have c3b1 : ((l0.length : Int) != (l1.length : Int)) = true := bne_iff_ne.mpr c3
    have c3b2 : (l0.length == l1.length) = false := by first | simpa using c3 | (simp at c3 ⊢; omega)
    obtain rfl := Option.some.inj H
    go_enter Try.func75, Try.ntmps75
    go_wp2
    repeat (go_quiet (fail); try go_wp2)
    go_ret
    exact ⟨by first | rfl | (simp; done) | (simp [*]; done), by repeat (first | exact Drawn0.refl _ | apply Drawn0.step)⟩

end Go.Proofs.Ytalpemoodollpaa.P
/- A joiner, piece by piece. -/
namespace Go.Proofs.Ytalpemoodollpaa.P
open Go.RowKit Go.Proofs.YtalpemoodollpaaW.PrintWords Go.Proofs.YtalpemoodollpaaW.PrintLast Go.Proofs.YtalpemoodollpaaW.PrintMore
set_option linter.unusedVariables false
set_option linter.unusedSimpArgs false
theorem join_bad (all x : List Int) (hb : Byt all) (h : (frames all).2.2 = 4) : joinS all = ([], 4) ∧ frames (all ++ x) = frames all ∧ joinS (all ++ x) = ([], 4) := by
  have e := frames_app4 x all.length all (Nat.le_refl _) hb h
  refine ⟨by unfold joinS; rw [if_pos h], e, by unfold joinS; rw [if_pos (by rw [e]; exact h)]⟩
theorem join_good (all x : List Int) (hb : Byt all) (h : (frames all).2.2 ≠ 4) : joinS all = (all.drop (frames all).2.1, 0) ∧
    (frames (all ++ x)).1 = (frames all).1 ++ (frames (all.drop (frames all).2.1 ++ x)).1 ∧ joinS (all.drop (frames all).2.1 ++ x) = joinS (all ++ x) := by
  have e := frames_app x all.length all (Nat.le_refl _) hb h
  have hle := frames_end all hb
  refine ⟨by unfold joinS; rw [if_neg h], by rw [e], ?_⟩
  unfold joinS
  rw [e]
  dsimp only
  rw [← List.drop_drop, List.drop_append_of_le_length hle]
/-- The frames told are none of what the joiner keeps. -/
def StepPost2 (w : World) (g : Nat) (row : Option Nat) (all x : List Int) (e : Ending) (w' : World) : Prop :=
  ∃ (v : Value) (out : List (List Int)) (row' : Option Nat), e = .returned v ∧ Kd.R (Kd.slice 5 (Kd.int .u8)) 30 w' w.heap.size (fun k => row' ≠ some k) v out ∧ (frames all).1 ++ out = (frames (all ++ x)).1 ∧ JP w g row row' (joinS (all ++ x)) w'
def StepPost (w : World) (g : Nat) (row : Option Nat) (all x : List Int) (e : Ending) (w' : World) : Prop :=
  ∃ (v : Value) (out : List (List Int)), e = .returned v ∧ Kd.R (Kd.slice 5 (Kd.int .u8)) 30 w' w.heap.size (fun _ => True) v out ∧ (frames all).1 ++ out = (frames (all ++ x)).1 ∧ JPost w g row (joinS (all ++ x)) w'
/-- One piece more. -/
theorem joinStep2_calls (g : Nat) (row : Option Nat) (all : List Int) (A0 : Option Addr) (c0 : Nat) (x : List Int) (w : World) (hs : JS w g row (joinS all).1 (joinS all).2) (hr0 : Kd.C (Kd.int .u8) w A0 x.length x) (hl : all.length + x.length ≤ 1000000) (hb : Byt (all ++ x)) :
    Calls Try.prog 74 #[.pointer (some ⟨g, 0, none⟩), .slice A0 x.length c0] w (StepPost2 w g row all x) := by
  have hba : Byt all := fun b h => hb b (List.mem_append_left _ h)
  by_cases h4 : (frames all).2.2 = 4
  · obtain ⟨e1, e2, e3⟩ := join_bad all x hba h4
    rw [e1] at hs
    refine (joinBad_calls g row [] 4 (.slice A0 x.length c0) w hs (by decide)).mono ?_
    rintro e w' ⟨rfl, rfl⟩
    refine ⟨_, [], row, rfl, Kd.R_nil _ _ _ _ _, by rw [e2]; simp, by rw [e3]; exact hs, fun k hk => .inl hk, Fr.refl _ _⟩
  · obtain ⟨e1, e2, e3⟩ := join_good all x hba h4
    rw [e1] at hs
    have hle := frames_end all hba
    refine (joinAdd_calls g row (all.drop (frames all).2.1) A0 c0 x w hs hr0 (by rw [List.length_drop]; omega) ?_).mono ?_
    · intro b hm
      rcases List.mem_append.1 hm with hm | hm
      · exact hba b (List.mem_of_mem_drop hm)
      · exact hb b (List.mem_append_right _ hm)
    · rintro e w' ⟨v, row', rfl, hR, hp⟩
      rw [e3] at hp
      exact ⟨v, _, row', rfl, hR, e2.symm, hp⟩
theorem joinStep_calls (g : Nat) (row : Option Nat) (all : List Int) (A0 : Option Addr) (c0 : Nat) (x : List Int) (w : World) (hs : JS w g row (joinS all).1 (joinS all).2) (hr0 : Kd.C (Kd.int .u8) w A0 x.length x) (hl : all.length + x.length ≤ 1000000) (hb : Byt (all ++ x)) :
    Calls Try.prog 74 #[.pointer (some ⟨g, 0, none⟩), .slice A0 x.length c0] w (StepPost w g row all x) :=
  (joinStep2_calls g row all A0 c0 x w hs hr0 hl hb).mono fun e w' ⟨v, out, row', he, hR, ho, hp⟩ => ⟨v, out, he, Kd.R_mono hR (fun _ _ => trivial), ho, row', hp⟩
theorem lists_go (xs : List (List Int)) (hl : xs.length ≤ 1000000) (d : Nat) : ∀ (k i : Nat), i + d = xs.length → d < k → damperref04_Lists.l0 k xs xs (i : Int) = some true := by
  induction d with
  | zero =>
    intro k i hi hk
    obtain ⟨k, rfl⟩ : ∃ m, k = m + 1 := ⟨k - 1, by omega⟩
    rw [damperref04_Lists.l0.eq_2, if_neg (by omega)]
  | succ d ih =>
    intro k i hi hk
    obtain ⟨k, rfl⟩ : ∃ m, k = m + 1 := ⟨k - 1, by omega⟩
    rw [damperref04_Lists.l0.eq_2, if_pos (by omega), if_pos (by omega), if_pos (by omega), same_of_eq]
    simp only [Option.bind_some]
    rw [if_pos trivial, show wrap64 ((i : Int) + 1) = ((i + 1 : Nat) : Int) by unfold wrap64; omega]
    exact ih k (i + 1) (by omega) (by omega)
theorem lists_all (xs : List (List Int)) (hl : xs.length ≤ 1000000) : damperref04_Lists.f (xs.length + 1) xs xs = some true := by
  unfold damperref04_Lists.f
  rw [if_pos rfl]
  exact lists_go xs hl xs.length (xs.length + 1) 0 (by omega) (by omega)
/-- Equal lists of bytes are the same. -/
theorem refLists_calls (A0 A1 : Option Addr) (c0 c1 : Nat) (xs : List (List Int)) (w : World) (hl : xs.length ≤ 1000000) (hr0 : Kd.C (Kd.slice 5 (Kd.int .u8)) w A0 xs.length xs) (hc0 : xs.length ≤ c0) (hr1 : Kd.C (Kd.slice 5 (Kd.int .u8)) w A1 xs.length xs) (hc1 : xs.length ≤ c1) :
    Calls Try.prog 75 #[.slice A0 xs.length c0, .slice A1 xs.length c1] w fun e w' => e = .returned (.bool true) ∧ Below w.heap.size w w' :=
  (damperref04_Lists.calls (xs.length + 1) A0 c0 xs A1 c1 xs true w hr0 hc0 hr1 hc1 (lists_all xs hl)).mono fun e w' ⟨he, hd⟩ => ⟨he, hd.below⟩
/-- 'xs[m:]' of a list of slices. -/
theorem cut62_ (A : Option Addr) (n c m : Nat) (hm : m ≤ n) :
    ∃ A' : Option Addr, (∀ W : World, (Instr.slice 62 (.slice A n c) (some (.int .i64 (m : Int))) none none).run Try.prog W = .ok (.slice A' (n - m) (c - m)) W) ∧
      ∀ (d : Kd (List Int)) (w : World) (xs : List (List Int)), d.sz = 1 → xs.length = n → n ≤ c → d.C w A n xs → d.C w A' (n - m) (xs.drop m) := by
  obtain ⟨i, hi, hzz⟩ := Option.map_eq_some_iff.1 info30_
  simp only [Prod.mk.injEq] at hzz
  refine ⟨if c = m then A else A.map (·.add m), fun W => ?_, fun d w xs hd hx hc h => ?_⟩
  · have hel : Try.prog.elem 62 = 30 := by simp [Program.elem, Try.underlying62]
    have hu : Try.prog.underlying 62 = some (.slice (Try.prog.elem 62)) := by rw [hel]; exact Try.underlying62
    rw [run_slice_l W 62 A n c hu .i64 (m : Int) (Int.natCast_nonneg _) (by omega), hel]
    simp [sizeOf, typeInfo, hi, hzz.2.1, sliced, Result.andThen]
  · subst hx
    have h2 := Kd.C_drop (c := c) h hm hc
    rw [hd, Nat.mul_one, List.length_drop] at h2
    exact h2
end Go.Proofs.Ytalpemoodollpaa.P
/- damperref04.Take: what it tells is what frame.Take tells. -/
namespace Go.Proofs.Ytalpemoodollpaa.P
open Go.RowKit Go.Proofs.YtalpemoodollpaaW.PrintWords Go.Proofs.YtalpemoodollpaaW.PrintLast Go.Proofs.YtalpemoodollpaaW.PrintMore
set_option linter.unusedVariables false
set_option linter.unusedSimpArgs false
set_option maxRecDepth 100000 in
set_option maxHeartbeats 2000000 in
theorem refTake_calls (A0 : Option Addr) (c0 : Nat) (l0 : List Int) (w : World) (hr0 : Kd.C (Kd.int .u8) w A0 l0.length l0) (hc0 : l0.length ≤ c0) (hb : Byt l0) (hl : l0.length ≤ 140737488355328) :
    Calls Try.prog 47 #[.slice A0 l0.length c0] w fun e w' => ∃ A c, e = .returned (.tuple #[.slice A (takeF l0).1.length c, .int .i64 (takeF l0).2.1, .int .i64 (takeF l0).2.2]) ∧
      Kd.C (Kd.int .u8) w' A (takeF l0).1.length (takeF l0).1 ∧ (takeF l0).1.length ≤ c ∧ Below w.heap.size w w' := by
  have HR := Aside0.mk hr0
  have HL := Aside0.mk hl
  have HC0 := Aside0.mk hc0
  have HU := Aside0.mk (refReadUint l0 2 hb 12 (by omega))
  clear hr0 hl hc0
  generalize hF : takeF l0 = F
  have HF := Aside0.mk hF
  clear hF
  go_enter Try.func47, Try.ntmps47
  go_wp2_with fail
  have hT : rdUint l0 2 = if l0.length < 2 then (0, 0, [], 0, 3) else (beNum (l0.take 2), 0, [], 2, 0) := by
    unfold rdUint
    rw [if_neg (by decide)]
    by_cases h : l0.length < 2
    · rw [if_pos (by omega), if_pos h]
    · rw [if_neg (by omega), if_neg h]; rfl
  rw [hT] at HU
  by_cases h2 : l0.length < 2
  · rw [if_pos h2] at HU
    refine (damperref03_ReadUint.calls 12 A0 c0 l0 2 _ _ _ _ _ w HR.out HC0.out HU.out).mono ?_
    rintro e w1 ⟨v2, rfl, hR, hbl⟩
    obtain ⟨A2, c2, rfl⟩ := Kd.R_slice hR
    have HB := Aside0.mk hbl
    clear hR hbl HU hT
    have H2 := Aside0.mk h2
    clear h2
    go_wp2
    go_ret3
    have hb0 := below_alloc HB.out (.cells #[.int .u64 0, .int .i64 0, .slice A2 0 c2, .int .i64 0, .int .i64 3] 81)
    have e : takeF l0 = ([], 0, 3) := by unfold takeF; rw [if_pos H2.out]
    obtain rfl : F = ([], 0, 3) := HF.out.symm.trans e
    exact ⟨none, 0, rfl, Kd.C_nil _ _, Nat.le_refl _, hb0⟩
  · rw [if_neg h2] at HU
    refine (damperref03_ReadUint.calls 12 A0 c0 l0 2 _ _ _ _ _ w HR.out HC0.out HU.out).mono ?_
    rintro e w1 ⟨v2, rfl, hR, hbl⟩
    obtain ⟨A2, c2, rfl⟩ := Kd.R_slice hR
    have hrg := beNum_range (l0.take 2) (hb.take 2)
    have hrl : (l0.take 2).length = 2 := by rw [List.length_take]; omega
    rw [hrl] at hrg
    have hn0 := hrg.1
    have hn1 : beNum (l0.take 2) < 65536 := hrg.2
    have e : takeF l0 = if 64 < beNum (l0.take 2) then ([], 0, 4) else if (l0.length : Int) < 2 + beNum (l0.take 2) then ([], 0, 3) else ((l0.drop 2).take (beNum (l0.take 2)).toNat, 2 + beNum (l0.take 2), 0) := by
      rw [takeF, if_neg h2]
    have HE : Aside0 ((if 64 < beNum (l0.take 2) then (([] : List Int), (0 : Int), (4 : Int)) else if (l0.length : Int) < 2 + beNum (l0.take 2) then ([], 0, 3) else ((l0.drop 2).take (beNum (l0.take 2)).toNat, 2 + beNum (l0.take 2), 0)) = F) := ⟨e.symm.trans HF.out⟩
    have HRN := Aside0.mk (HR.out)
    have HB := Aside0.mk (Kd.C_below HR.out hbl)
    have HBL := Aside0.mk hbl
    clear hR hbl HU hT e hrg hrl hb HR HF
    obtain ⟨m, hm⟩ := Int.eq_ofNat_of_zero_le hn0
    rw [hm] at hn1 HE ⊢
    clear hn0 hm
    have H2 := Aside0.mk h2
    have HM := Aside0.mk hn1
    clear h2
    by_cases h64 : 64 < m
    · clear hn1
      go_wp2
      go_ret3
      obtain rfl : F = ([], 0, 4) := by have h := HE.out; rw [if_pos (by omega)] at h; exact h.symm
      exact ⟨none, 0, rfl, Kd.C_nil _ _, Nat.le_refl _, below_alloc HBL.out _⟩
    · have hm64 : m ≤ 64 := by omega
      have H64 := Aside0.mk h64
      clear hn1 h64
      by_cases hls : (l0.length : Int) < 2 + (m : Int)
      · go_wp2
        go_ret3
        obtain rfl : F = ([], 0, 3) := by have h := HE.out; rw [if_neg (by have := H64.out; omega), if_pos hls] at h; exact h.symm
        exact ⟨none, 0, rfl, Kd.C_nil _ _, Nat.le_refl _, below_alloc HBL.out _⟩
      · have hc0 := HC0.out
        have hfe : F = ((l0.drop 2).take m, 2 + (m : Int), 0) := by have h := HE.out; rw [if_neg (by have := H64.out; omega), if_neg hls] at h; exact h.symm
        have hlen : ((l0.drop 2).take m).length = m := by rw [List.length_take, List.length_drop]; omega
        have HLEN := Aside0.mk hlen
        have hC := Kd.C_mid (lo := 2) (hi := 2 + m) (c := c0) (Kd.C_alloc HB.out (.cells #[.int .u64 (m : Int), .int .i64 0, .slice A2 0 c2, .int .i64 2, .int .i64 0] 81)) (by omega) (by omega) (by omega)
        rw [show (l0.take (2 + m)).drop 2 = (l0.drop 2).take m by rw [List.drop_take]; congr 1; omega] at hC
        have hbb := below_alloc HBL.out (.cells #[.int .u64 (m : Int), .int .i64 0, .slice A2 0 c2, .int .i64 2, .int .i64 0] 81)
        have HFE := Aside0.mk hfe
        clear HE HBL HB HRN hfe
        have HCC := Aside0.mk hC
        have HBB := Aside0.mk hbb
        clear hC hbb hlen
        by_cases hc2 : c0 = 2
        · have HC2 := Aside0.mk hc2
          obtain rfl : m = 0 := by omega
          subst hc2
          go_wp2
          go_ret3
          have h := HCC.out
          first | rw [if_pos rfl] at h | rw [if_pos trivial] at h
          obtain rfl := HFE.out
          exact ⟨A0, 0, rfl, h, by simp, HBB.out⟩
        · go_wp2
          go_ret3
          have h := HCC.out
          rw [if_neg hc2] at h
          obtain rfl := HFE.out
          refine ⟨_, c0 - 2, ?_, h, by rw [HLEN.out]; omega, HBB.out⟩
          rw [HLEN.out, show 2 + m - 2 = m by omega]
          rfl
end Go.Proofs.Ytalpemoodollpaa.P
/- What an input reads as: from a row's data down to the print's readings. -/
namespace Go.Proofs.Ytalpemoodollpaa.P
open Go.RowKit Go.ChangeShapes Go.WideShapes Go.Deep Go.Proofs.YtalpemoodollpaaW.PrintWords Go.Proofs.YtalpemoodollpaaW.PrintLast Go.Proofs.YtalpemoodollpaaW.PrintMore
set_option linter.unusedVariables false
set_option linter.unusedSimpArgs false

/-- What reads as data of type t reads as the kind K, and has R. -/
def Opens {α : Type} (t : TypeId) (K : Kd α) (R : α → Prop) : Prop :=
  ∀ {H : Type} {enc : TypeId × Value → H} {w : World} {fuel : Nat} {cs : List Value} {x : DataW H × List MemPlace}, DataW.trod enc Try.prog w 0 (fun _ => true) true fuel t cs = some x → ∃ a, K.K w a cs ∧ R a

theorem opens_int {t : TypeId} {k : IntKind} (ht : Try.prog.underlying t = some (.int k)) : Opens t (Kd.int k) (fun n => (Lit.int k n).wf = true) := by
  intro H enc w fuel cs x h
  obtain ⟨n, rfl, _, hw⟩ := DataW.trod_int ht h
  exact ⟨n, rfl, hw⟩

theorem addr_add_add (a : Addr) (i j : Nat) : (a.add i).add j = a.add (i + j) := by
  unfold Addr.add
  by_cases hi : i = 0
  · subst hi; simp
  · by_cases hj : j = 0
    · subst hj; simp [hi]
    · simp [hi, hj, Nat.add_assoc]
theorem opens_slice {α : Type} [Inhabited α] {t e e' : TypeId} {K : Kd α} {R : α → Prop} (ht : Try.prog.underlying t = some (.slice e)) (hc : Try.prog.cellsOf e = K.sz) (he : Opens e K R) :
    Opens t (Kd.slice e' K) (fun xs => ∀ x ∈ xs, R x) := by
  intro H enc w fuel cs x h
  rcases open_slice ht h with ⟨rfl, _⟩ | ⟨a, len, cap, m, n, D, Pl, rfl, hb, hl, hm, hmm, rfl, hx⟩
  · exact ⟨[], ⟨none, 0, rfl, Nat.le_refl _, rfl, by simp, fun h => absurd h (by simp)⟩, by simp⟩
  · have hmm : m = cap := by simpa using hmm
    subst hmm
    have hall : ∀ i, i < len → ∃ v : α, R v ∧ ∃ c : List Value, c.length = K.sz ∧ K.K w v c ∧ ∀ j u, c[j]? = some u → w.cell? (a.add (i * K.sz + j)) = some u := by
      intro i hi
      obtain ⟨cs', h1, h2⟩ := hx i (by omega)
      obtain ⟨v, hv, hr⟩ := he h2
      rw [hc] at h1
      obtain ⟨_, hlen, hcell⟩ := World.cells?_some h1
      refine ⟨v, hr, cs', hlen, hv, fun j u hu => ?_⟩
      have hj : j < K.sz := by
        obtain ⟨hl, _⟩ := List.getElem?_eq_some_iff.1 hu
        omega
      have := hcell j hj
      rw [hu] at this
      rw [← this, addr_add_add]
    have : ∃ f : Nat → α, ∀ i, i < len → R (f i) ∧ ∃ c : List Value, c.length = K.sz ∧ K.K w (f i) c ∧ ∀ j u, c[j]? = some u → w.cell? (a.add (i * K.sz + j)) = some u := by
      exact choose_lt hall
    obtain ⟨f, hf⟩ := this
    refine ⟨(List.range len).map f, ⟨some a, m, by simp, by simpa using hl, rfl, by simp; unfold maxLen at hm; omega, fun _ => ⟨a, rfl, fun j p hj => ?_⟩⟩, ?_⟩
    · obtain ⟨hj1, hj2⟩ := List.getElem?_eq_some_iff.1 hj
      simp at hj1 hj2
      subst hj2
      exact (hf j hj1).2
    · intro y hy
      simp at hy
      obtain ⟨i, hi, rfl⟩ := hy
      exact (hf i hi).1

instance : Inhabited S29 := ⟨z29⟩
instance : Inhabited S49 := ⟨z49⟩
instance : Inhabited S91 := ⟨z91⟩
theorem opens_bytes : Opens 30 (Kd.slice 5 (Kd.int .u8)) (fun xs => ∀ y ∈ xs, (Lit.int .u8 y).wf = true) := opens_slice Try.underlying30 (by kernel_rfl) (opens_int Try.underlying5)
def WF29 (x : S29) : Prop := (Lit.int .i64 x.f0).wf = true ∧ (Lit.int .i64 x.f1).wf = true ∧ (Lit.int .i64 x.f2).wf = true ∧ (Lit.int .i64 x.f3).wf = true ∧ (Lit.int .i64 x.f4).wf = true ∧ (Lit.int .i64 x.f5).wf = true ∧ (Lit.int .i64 x.f6).wf = true ∧ (Lit.int .i64 x.f7).wf = true ∧ (Lit.int .i64 x.f8).wf = true
set_option maxRecDepth 100000 in
theorem opens_29 : Opens 29 k29 WF29 := by
  intro H enc w fuel cs x h
  obtain ⟨xs, n, _, _, hl, hlen, hf⟩ := DataW.trod_struct Try.underlying29 h
  have hc : Try.prog.cellsOf 29 = 9 := by kernel_rfl
  rw [hc] at hl
  have hs : xs.length = 9 := hlen
  clear hlen h
  match cs, hl with
  | [c0, c1, c2, c3, c4, c5, c6, c7, c8], _ =>
    match xs, hs with
    | [x0, x1, x2, x3, x4, x5, x6, x7, x8], _ =>
      have t0 : DataW.trod enc Try.prog w 0 (fun _ => true) true n 3 (([c0, c1, c2, c3, c4, c5, c6, c7, c8].drop 0).take (Try.prog.cellsOf 3)) = [x0, x1, x2, x3, x4, x5, x6, x7, x8][0]? := hf 0 _ rfl
      rw [show Try.prog.cellsOf 3 = 1 by kernel_rfl] at t0
      replace t0 : DataW.trod enc Try.prog w 0 (fun _ => true) true n 3 [c0] = some x0 := t0
      have t1 : DataW.trod enc Try.prog w 0 (fun _ => true) true n 3 (([c0, c1, c2, c3, c4, c5, c6, c7, c8].drop 1).take (Try.prog.cellsOf 3)) = [x0, x1, x2, x3, x4, x5, x6, x7, x8][1]? := hf 1 _ rfl
      rw [show Try.prog.cellsOf 3 = 1 by kernel_rfl] at t1
      replace t1 : DataW.trod enc Try.prog w 0 (fun _ => true) true n 3 [c1] = some x1 := t1
      have t2 : DataW.trod enc Try.prog w 0 (fun _ => true) true n 2 (([c0, c1, c2, c3, c4, c5, c6, c7, c8].drop 2).take (Try.prog.cellsOf 2)) = [x0, x1, x2, x3, x4, x5, x6, x7, x8][2]? := hf 2 _ rfl
      rw [show Try.prog.cellsOf 2 = 1 by kernel_rfl] at t2
      replace t2 : DataW.trod enc Try.prog w 0 (fun _ => true) true n 2 [c2] = some x2 := t2
      have t3 : DataW.trod enc Try.prog w 0 (fun _ => true) true n 2 (([c0, c1, c2, c3, c4, c5, c6, c7, c8].drop 3).take (Try.prog.cellsOf 2)) = [x0, x1, x2, x3, x4, x5, x6, x7, x8][3]? := hf 3 _ rfl
      rw [show Try.prog.cellsOf 2 = 1 by kernel_rfl] at t3
      replace t3 : DataW.trod enc Try.prog w 0 (fun _ => true) true n 2 [c3] = some x3 := t3
      have t4 : DataW.trod enc Try.prog w 0 (fun _ => true) true n 2 (([c0, c1, c2, c3, c4, c5, c6, c7, c8].drop 4).take (Try.prog.cellsOf 2)) = [x0, x1, x2, x3, x4, x5, x6, x7, x8][4]? := hf 4 _ rfl
      rw [show Try.prog.cellsOf 2 = 1 by kernel_rfl] at t4
      replace t4 : DataW.trod enc Try.prog w 0 (fun _ => true) true n 2 [c4] = some x4 := t4
      have t5 : DataW.trod enc Try.prog w 0 (fun _ => true) true n 2 (([c0, c1, c2, c3, c4, c5, c6, c7, c8].drop 5).take (Try.prog.cellsOf 2)) = [x0, x1, x2, x3, x4, x5, x6, x7, x8][5]? := hf 5 _ rfl
      rw [show Try.prog.cellsOf 2 = 1 by kernel_rfl] at t5
      replace t5 : DataW.trod enc Try.prog w 0 (fun _ => true) true n 2 [c5] = some x5 := t5
      have t6 : DataW.trod enc Try.prog w 0 (fun _ => true) true n 2 (([c0, c1, c2, c3, c4, c5, c6, c7, c8].drop 6).take (Try.prog.cellsOf 2)) = [x0, x1, x2, x3, x4, x5, x6, x7, x8][6]? := hf 6 _ rfl
      rw [show Try.prog.cellsOf 2 = 1 by kernel_rfl] at t6
      replace t6 : DataW.trod enc Try.prog w 0 (fun _ => true) true n 2 [c6] = some x6 := t6
      have t7 : DataW.trod enc Try.prog w 0 (fun _ => true) true n 2 (([c0, c1, c2, c3, c4, c5, c6, c7, c8].drop 7).take (Try.prog.cellsOf 2)) = [x0, x1, x2, x3, x4, x5, x6, x7, x8][7]? := hf 7 _ rfl
      rw [show Try.prog.cellsOf 2 = 1 by kernel_rfl] at t7
      replace t7 : DataW.trod enc Try.prog w 0 (fun _ => true) true n 2 [c7] = some x7 := t7
      have t8 : DataW.trod enc Try.prog w 0 (fun _ => true) true n 3 (([c0, c1, c2, c3, c4, c5, c6, c7, c8].drop 8).take (Try.prog.cellsOf 3)) = [x0, x1, x2, x3, x4, x5, x6, x7, x8][8]? := hf 8 _ rfl
      rw [show Try.prog.cellsOf 3 = 1 by kernel_rfl] at t8
      replace t8 : DataW.trod enc Try.prog w 0 (fun _ => true) true n 3 [c8] = some x8 := t8
      clear hf
      obtain ⟨a0, e0, r0⟩ := opens_int (k := .i64) Try.underlying3 t0
      injection e0 with e0 _
      subst e0
      obtain ⟨a1, e1, r1⟩ := opens_int (k := .i64) Try.underlying3 t1
      injection e1 with e1 _
      subst e1
      obtain ⟨a2, e2, r2⟩ := opens_int (k := .i64) Try.underlying2 t2
      injection e2 with e2 _
      subst e2
      obtain ⟨a3, e3, r3⟩ := opens_int (k := .i64) Try.underlying2 t3
      injection e3 with e3 _
      subst e3
      obtain ⟨a4, e4, r4⟩ := opens_int (k := .i64) Try.underlying2 t4
      injection e4 with e4 _
      subst e4
      obtain ⟨a5, e5, r5⟩ := opens_int (k := .i64) Try.underlying2 t5
      injection e5 with e5 _
      subst e5
      obtain ⟨a6, e6, r6⟩ := opens_int (k := .i64) Try.underlying2 t6
      injection e6 with e6 _
      subst e6
      obtain ⟨a7, e7, r7⟩ := opens_int (k := .i64) Try.underlying2 t7
      injection e7 with e7 _
      subst e7
      obtain ⟨a8, e8, r8⟩ := opens_int (k := .i64) Try.underlying3 t8
      injection e8 with e8 _
      subst e8
      exact ⟨⟨a0, a1, a2, a3, a4, a5, a6, a7, a8⟩, k29_mk w _, r0 , r1 , r2 , r3 , r4 , r5 , r6 , r7 , r8⟩
def WF49 (x : S49) : Prop := (Lit.int .i64 x.f0).wf = true ∧ (Lit.int .i64 x.f1).wf = true ∧ (Lit.int .u64 x.f2).wf = true ∧ (Lit.int .i64 x.f3).wf = true ∧ (∀ y ∈ x.f4, (Lit.int .u8 y).wf = true)
set_option maxRecDepth 100000 in
theorem opens_49 : Opens 49 k49 WF49 := by
  intro H enc w fuel cs x h
  obtain ⟨xs, n, _, _, hl, hlen, hf⟩ := DataW.trod_struct Try.underlying49 h
  have hc : Try.prog.cellsOf 49 = 5 := by kernel_rfl
  rw [hc] at hl
  have hs : xs.length = 5 := hlen
  clear hlen h
  match cs, hl with
  | [c0, c1, c2, c3, c4], _ =>
    match xs, hs with
    | [x0, x1, x2, x3, x4], _ =>
      have t0 : DataW.trod enc Try.prog w 0 (fun _ => true) true n 3 (([c0, c1, c2, c3, c4].drop 0).take (Try.prog.cellsOf 3)) = [x0, x1, x2, x3, x4][0]? := hf 0 _ rfl
      rw [show Try.prog.cellsOf 3 = 1 by kernel_rfl] at t0
      replace t0 : DataW.trod enc Try.prog w 0 (fun _ => true) true n 3 [c0] = some x0 := t0
      have t1 : DataW.trod enc Try.prog w 0 (fun _ => true) true n 3 (([c0, c1, c2, c3, c4].drop 1).take (Try.prog.cellsOf 3)) = [x0, x1, x2, x3, x4][1]? := hf 1 _ rfl
      rw [show Try.prog.cellsOf 3 = 1 by kernel_rfl] at t1
      replace t1 : DataW.trod enc Try.prog w 0 (fun _ => true) true n 3 [c1] = some x1 := t1
      have t2 : DataW.trod enc Try.prog w 0 (fun _ => true) true n 37 (([c0, c1, c2, c3, c4].drop 2).take (Try.prog.cellsOf 37)) = [x0, x1, x2, x3, x4][2]? := hf 2 _ rfl
      rw [show Try.prog.cellsOf 37 = 1 by kernel_rfl] at t2
      replace t2 : DataW.trod enc Try.prog w 0 (fun _ => true) true n 37 [c2] = some x2 := t2
      have t3 : DataW.trod enc Try.prog w 0 (fun _ => true) true n 2 (([c0, c1, c2, c3, c4].drop 3).take (Try.prog.cellsOf 2)) = [x0, x1, x2, x3, x4][3]? := hf 3 _ rfl
      rw [show Try.prog.cellsOf 2 = 1 by kernel_rfl] at t3
      replace t3 : DataW.trod enc Try.prog w 0 (fun _ => true) true n 2 [c3] = some x3 := t3
      have t4 : DataW.trod enc Try.prog w 0 (fun _ => true) true n 30 (([c0, c1, c2, c3, c4].drop 4).take (Try.prog.cellsOf 30)) = [x0, x1, x2, x3, x4][4]? := hf 4 _ rfl
      rw [show Try.prog.cellsOf 30 = 1 by kernel_rfl] at t4
      replace t4 : DataW.trod enc Try.prog w 0 (fun _ => true) true n 30 [c4] = some x4 := t4
      clear hf
      obtain ⟨a0, e0, r0⟩ := opens_int (k := .i64) Try.underlying3 t0
      injection e0 with e0 _
      subst e0
      obtain ⟨a1, e1, r1⟩ := opens_int (k := .i64) Try.underlying3 t1
      injection e1 with e1 _
      subst e1
      obtain ⟨a2, e2, r2⟩ := opens_int (k := .u64) Try.underlying37 t2
      injection e2 with e2 _
      subst e2
      obtain ⟨a3, e3, r3⟩ := opens_int (k := .i64) Try.underlying2 t3
      injection e3 with e3 _
      subst e3
      obtain ⟨a4, ⟨A4, cc4, e4, l4, g4⟩, r4⟩ := opens_bytes t4
      injection e4 with e4 _
      subst e4
      exact ⟨⟨a0, a1, a2, a3, a4⟩, k49_mk w _ l4 g4, r0 , r1 , r2 , r3 , r4⟩
def WF91 (x : S91) : Prop := (Lit.int .i64 x.f0).wf = true ∧ (Lit.int .i64 x.f1).wf = true ∧ (Lit.int .i64 x.f2).wf = true ∧ (∀ y ∈ x.f3, (Lit.int .u8 y).wf = true)
set_option maxRecDepth 100000 in
theorem opens_91 : Opens 91 k91 WF91 := by
  intro H enc w fuel cs x h
  obtain ⟨xs, n, _, _, hl, hlen, hf⟩ := DataW.trod_struct Try.underlying91 h
  have hc : Try.prog.cellsOf 91 = 4 := by kernel_rfl
  rw [hc] at hl
  have hs : xs.length = 4 := hlen
  clear hlen h
  match cs, hl with
  | [c0, c1, c2, c3], _ =>
    match xs, hs with
    | [x0, x1, x2, x3], _ =>
      have t0 : DataW.trod enc Try.prog w 0 (fun _ => true) true n 3 (([c0, c1, c2, c3].drop 0).take (Try.prog.cellsOf 3)) = [x0, x1, x2, x3][0]? := hf 0 _ rfl
      rw [show Try.prog.cellsOf 3 = 1 by kernel_rfl] at t0
      replace t0 : DataW.trod enc Try.prog w 0 (fun _ => true) true n 3 [c0] = some x0 := t0
      have t1 : DataW.trod enc Try.prog w 0 (fun _ => true) true n 3 (([c0, c1, c2, c3].drop 1).take (Try.prog.cellsOf 3)) = [x0, x1, x2, x3][1]? := hf 1 _ rfl
      rw [show Try.prog.cellsOf 3 = 1 by kernel_rfl] at t1
      replace t1 : DataW.trod enc Try.prog w 0 (fun _ => true) true n 3 [c1] = some x1 := t1
      have t2 : DataW.trod enc Try.prog w 0 (fun _ => true) true n 2 (([c0, c1, c2, c3].drop 2).take (Try.prog.cellsOf 2)) = [x0, x1, x2, x3][2]? := hf 2 _ rfl
      rw [show Try.prog.cellsOf 2 = 1 by kernel_rfl] at t2
      replace t2 : DataW.trod enc Try.prog w 0 (fun _ => true) true n 2 [c2] = some x2 := t2
      have t3 : DataW.trod enc Try.prog w 0 (fun _ => true) true n 30 (([c0, c1, c2, c3].drop 3).take (Try.prog.cellsOf 30)) = [x0, x1, x2, x3][3]? := hf 3 _ rfl
      rw [show Try.prog.cellsOf 30 = 1 by kernel_rfl] at t3
      replace t3 : DataW.trod enc Try.prog w 0 (fun _ => true) true n 30 [c3] = some x3 := t3
      clear hf
      obtain ⟨a0, e0, r0⟩ := opens_int (k := .i64) Try.underlying3 t0
      injection e0 with e0 _
      subst e0
      obtain ⟨a1, e1, r1⟩ := opens_int (k := .i64) Try.underlying3 t1
      injection e1 with e1 _
      subst e1
      obtain ⟨a2, e2, r2⟩ := opens_int (k := .i64) Try.underlying2 t2
      injection e2 with e2 _
      subst e2
      obtain ⟨a3, ⟨A3, cc3, e3, l3, g3⟩, r3⟩ := opens_bytes t3
      injection e3 with e3 _
      subst e3
      exact ⟨⟨a0, a1, a2, a3⟩, k91_mk w _ l3 g3, r0 , r1 , r2 , r3⟩
set_option maxRecDepth 100000 in
theorem opened_29 {H : Type} {enc : TypeId × Value → H} {w : World} {fuel : Nat} {cs : List Value} {x : DataW H × List MemPlace} (h : DataW.trod enc Try.prog w 0 (fun _ => true) true fuel 29 cs = some x) : ∃ a0 a1 a2 a3 a4 a5 a6 a7 a8 : Int, cs = [.int .i64 a0, .int .i64 a1, .int .i64 a2, .int .i64 a3, .int .i64 a4, .int .i64 a5, .int .i64 a6, .int .i64 a7, .int .i64 a8] ∧ (Lit.int .i64 a0).wf = true ∧ (Lit.int .i64 a1).wf = true ∧ (Lit.int .i64 a2).wf = true ∧ (Lit.int .i64 a3).wf = true ∧ (Lit.int .i64 a4).wf = true ∧ (Lit.int .i64 a5).wf = true ∧ (Lit.int .i64 a6).wf = true ∧ (Lit.int .i64 a7).wf = true ∧ (Lit.int .i64 a8).wf = true := by
  obtain ⟨xs, n, _, _, hl, hlen, hf⟩ := DataW.trod_struct Try.underlying29 h
  have hc : Try.prog.cellsOf 29 = 9 := by kernel_rfl
  rw [hc] at hl
  have hs : xs.length = 9 := hlen
  clear hlen h
  match cs, hl with
  | [c0, c1, c2, c3, c4, c5, c6, c7, c8], _ =>
    match xs, hs with
    | [x0, x1, x2, x3, x4, x5, x6, x7, x8], _ =>
      have t0 : DataW.trod enc Try.prog w 0 (fun _ => true) true n 3 (([c0, c1, c2, c3, c4, c5, c6, c7, c8].drop 0).take (Try.prog.cellsOf 3)) = [x0, x1, x2, x3, x4, x5, x6, x7, x8][0]? := hf 0 _ rfl
      rw [show Try.prog.cellsOf 3 = 1 by kernel_rfl] at t0
      replace t0 : DataW.trod enc Try.prog w 0 (fun _ => true) true n 3 [c0] = some x0 := t0
      have t1 : DataW.trod enc Try.prog w 0 (fun _ => true) true n 3 (([c0, c1, c2, c3, c4, c5, c6, c7, c8].drop 1).take (Try.prog.cellsOf 3)) = [x0, x1, x2, x3, x4, x5, x6, x7, x8][1]? := hf 1 _ rfl
      rw [show Try.prog.cellsOf 3 = 1 by kernel_rfl] at t1
      replace t1 : DataW.trod enc Try.prog w 0 (fun _ => true) true n 3 [c1] = some x1 := t1
      have t2 : DataW.trod enc Try.prog w 0 (fun _ => true) true n 2 (([c0, c1, c2, c3, c4, c5, c6, c7, c8].drop 2).take (Try.prog.cellsOf 2)) = [x0, x1, x2, x3, x4, x5, x6, x7, x8][2]? := hf 2 _ rfl
      rw [show Try.prog.cellsOf 2 = 1 by kernel_rfl] at t2
      replace t2 : DataW.trod enc Try.prog w 0 (fun _ => true) true n 2 [c2] = some x2 := t2
      have t3 : DataW.trod enc Try.prog w 0 (fun _ => true) true n 2 (([c0, c1, c2, c3, c4, c5, c6, c7, c8].drop 3).take (Try.prog.cellsOf 2)) = [x0, x1, x2, x3, x4, x5, x6, x7, x8][3]? := hf 3 _ rfl
      rw [show Try.prog.cellsOf 2 = 1 by kernel_rfl] at t3
      replace t3 : DataW.trod enc Try.prog w 0 (fun _ => true) true n 2 [c3] = some x3 := t3
      have t4 : DataW.trod enc Try.prog w 0 (fun _ => true) true n 2 (([c0, c1, c2, c3, c4, c5, c6, c7, c8].drop 4).take (Try.prog.cellsOf 2)) = [x0, x1, x2, x3, x4, x5, x6, x7, x8][4]? := hf 4 _ rfl
      rw [show Try.prog.cellsOf 2 = 1 by kernel_rfl] at t4
      replace t4 : DataW.trod enc Try.prog w 0 (fun _ => true) true n 2 [c4] = some x4 := t4
      have t5 : DataW.trod enc Try.prog w 0 (fun _ => true) true n 2 (([c0, c1, c2, c3, c4, c5, c6, c7, c8].drop 5).take (Try.prog.cellsOf 2)) = [x0, x1, x2, x3, x4, x5, x6, x7, x8][5]? := hf 5 _ rfl
      rw [show Try.prog.cellsOf 2 = 1 by kernel_rfl] at t5
      replace t5 : DataW.trod enc Try.prog w 0 (fun _ => true) true n 2 [c5] = some x5 := t5
      have t6 : DataW.trod enc Try.prog w 0 (fun _ => true) true n 2 (([c0, c1, c2, c3, c4, c5, c6, c7, c8].drop 6).take (Try.prog.cellsOf 2)) = [x0, x1, x2, x3, x4, x5, x6, x7, x8][6]? := hf 6 _ rfl
      rw [show Try.prog.cellsOf 2 = 1 by kernel_rfl] at t6
      replace t6 : DataW.trod enc Try.prog w 0 (fun _ => true) true n 2 [c6] = some x6 := t6
      have t7 : DataW.trod enc Try.prog w 0 (fun _ => true) true n 2 (([c0, c1, c2, c3, c4, c5, c6, c7, c8].drop 7).take (Try.prog.cellsOf 2)) = [x0, x1, x2, x3, x4, x5, x6, x7, x8][7]? := hf 7 _ rfl
      rw [show Try.prog.cellsOf 2 = 1 by kernel_rfl] at t7
      replace t7 : DataW.trod enc Try.prog w 0 (fun _ => true) true n 2 [c7] = some x7 := t7
      have t8 : DataW.trod enc Try.prog w 0 (fun _ => true) true n 3 (([c0, c1, c2, c3, c4, c5, c6, c7, c8].drop 8).take (Try.prog.cellsOf 3)) = [x0, x1, x2, x3, x4, x5, x6, x7, x8][8]? := hf 8 _ rfl
      rw [show Try.prog.cellsOf 3 = 1 by kernel_rfl] at t8
      replace t8 : DataW.trod enc Try.prog w 0 (fun _ => true) true n 3 [c8] = some x8 := t8
      clear hf
      obtain ⟨a0, e0, r0⟩ := opens_int (k := .i64) Try.underlying3 t0
      injection e0 with e0 _
      subst e0
      obtain ⟨a1, e1, r1⟩ := opens_int (k := .i64) Try.underlying3 t1
      injection e1 with e1 _
      subst e1
      obtain ⟨a2, e2, r2⟩ := opens_int (k := .i64) Try.underlying2 t2
      injection e2 with e2 _
      subst e2
      obtain ⟨a3, e3, r3⟩ := opens_int (k := .i64) Try.underlying2 t3
      injection e3 with e3 _
      subst e3
      obtain ⟨a4, e4, r4⟩ := opens_int (k := .i64) Try.underlying2 t4
      injection e4 with e4 _
      subst e4
      obtain ⟨a5, e5, r5⟩ := opens_int (k := .i64) Try.underlying2 t5
      injection e5 with e5 _
      subst e5
      obtain ⟨a6, e6, r6⟩ := opens_int (k := .i64) Try.underlying2 t6
      injection e6 with e6 _
      subst e6
      obtain ⟨a7, e7, r7⟩ := opens_int (k := .i64) Try.underlying2 t7
      injection e7 with e7 _
      subst e7
      obtain ⟨a8, e8, r8⟩ := opens_int (k := .i64) Try.underlying3 t8
      injection e8 with e8 _
      subst e8
      exact ⟨a0, a1, a2, a3, a4, a5, a6, a7, a8, rfl, r0, r1, r2, r3, r4, r5, r6, r7, r8⟩
set_option maxRecDepth 100000 in
theorem opened_95 {H : Type} {enc : TypeId × Value → H} {w : World} {fuel : Nat} {cs : List Value} {x : DataW H × List MemPlace} (h : DataW.trod enc Try.prog w 0 (fun _ => true) true fuel 95 cs = some x) : ∃ a0 a1 a2 a3 a4 a5 a6 a7 a8 : Int, cs = [.int .i64 a0, .int .i64 a1, .int .i64 a2, .int .i64 a3, .int .i64 a4, .int .i64 a5, .int .i64 a6, .int .i64 a7, .int .i64 a8] ∧ (Lit.int .i64 a0).wf = true ∧ (Lit.int .i64 a1).wf = true ∧ (Lit.int .i64 a2).wf = true ∧ (Lit.int .i64 a3).wf = true ∧ (Lit.int .i64 a4).wf = true ∧ (Lit.int .i64 a5).wf = true ∧ (Lit.int .i64 a6).wf = true ∧ (Lit.int .i64 a7).wf = true ∧ (Lit.int .i64 a8).wf = true := by
  obtain ⟨xs, n, _, _, hl, hlen, hf⟩ := DataW.trod_struct Try.underlying95 h
  have hc : Try.prog.cellsOf 95 = 9 := by kernel_rfl
  rw [hc] at hl
  have hs : xs.length = 9 := hlen
  clear hlen h
  match cs, hl with
  | [c0, c1, c2, c3, c4, c5, c6, c7, c8], _ =>
    match xs, hs with
    | [x0, x1, x2, x3, x4, x5, x6, x7, x8], _ =>
      have t0 : DataW.trod enc Try.prog w 0 (fun _ => true) true n 3 (([c0, c1, c2, c3, c4, c5, c6, c7, c8].drop 0).take (Try.prog.cellsOf 3)) = [x0, x1, x2, x3, x4, x5, x6, x7, x8][0]? := hf 0 _ rfl
      rw [show Try.prog.cellsOf 3 = 1 by kernel_rfl] at t0
      replace t0 : DataW.trod enc Try.prog w 0 (fun _ => true) true n 3 [c0] = some x0 := t0
      have t1 : DataW.trod enc Try.prog w 0 (fun _ => true) true n 3 (([c0, c1, c2, c3, c4, c5, c6, c7, c8].drop 1).take (Try.prog.cellsOf 3)) = [x0, x1, x2, x3, x4, x5, x6, x7, x8][1]? := hf 1 _ rfl
      rw [show Try.prog.cellsOf 3 = 1 by kernel_rfl] at t1
      replace t1 : DataW.trod enc Try.prog w 0 (fun _ => true) true n 3 [c1] = some x1 := t1
      have t2 : DataW.trod enc Try.prog w 0 (fun _ => true) true n 2 (([c0, c1, c2, c3, c4, c5, c6, c7, c8].drop 2).take (Try.prog.cellsOf 2)) = [x0, x1, x2, x3, x4, x5, x6, x7, x8][2]? := hf 2 _ rfl
      rw [show Try.prog.cellsOf 2 = 1 by kernel_rfl] at t2
      replace t2 : DataW.trod enc Try.prog w 0 (fun _ => true) true n 2 [c2] = some x2 := t2
      have t3 : DataW.trod enc Try.prog w 0 (fun _ => true) true n 3 (([c0, c1, c2, c3, c4, c5, c6, c7, c8].drop 3).take (Try.prog.cellsOf 3)) = [x0, x1, x2, x3, x4, x5, x6, x7, x8][3]? := hf 3 _ rfl
      rw [show Try.prog.cellsOf 3 = 1 by kernel_rfl] at t3
      replace t3 : DataW.trod enc Try.prog w 0 (fun _ => true) true n 3 [c3] = some x3 := t3
      have t4 : DataW.trod enc Try.prog w 0 (fun _ => true) true n 3 (([c0, c1, c2, c3, c4, c5, c6, c7, c8].drop 4).take (Try.prog.cellsOf 3)) = [x0, x1, x2, x3, x4, x5, x6, x7, x8][4]? := hf 4 _ rfl
      rw [show Try.prog.cellsOf 3 = 1 by kernel_rfl] at t4
      replace t4 : DataW.trod enc Try.prog w 0 (fun _ => true) true n 3 [c4] = some x4 := t4
      have t5 : DataW.trod enc Try.prog w 0 (fun _ => true) true n 3 (([c0, c1, c2, c3, c4, c5, c6, c7, c8].drop 5).take (Try.prog.cellsOf 3)) = [x0, x1, x2, x3, x4, x5, x6, x7, x8][5]? := hf 5 _ rfl
      rw [show Try.prog.cellsOf 3 = 1 by kernel_rfl] at t5
      replace t5 : DataW.trod enc Try.prog w 0 (fun _ => true) true n 3 [c5] = some x5 := t5
      have t6 : DataW.trod enc Try.prog w 0 (fun _ => true) true n 2 (([c0, c1, c2, c3, c4, c5, c6, c7, c8].drop 6).take (Try.prog.cellsOf 2)) = [x0, x1, x2, x3, x4, x5, x6, x7, x8][6]? := hf 6 _ rfl
      rw [show Try.prog.cellsOf 2 = 1 by kernel_rfl] at t6
      replace t6 : DataW.trod enc Try.prog w 0 (fun _ => true) true n 2 [c6] = some x6 := t6
      have t7 : DataW.trod enc Try.prog w 0 (fun _ => true) true n 2 (([c0, c1, c2, c3, c4, c5, c6, c7, c8].drop 7).take (Try.prog.cellsOf 2)) = [x0, x1, x2, x3, x4, x5, x6, x7, x8][7]? := hf 7 _ rfl
      rw [show Try.prog.cellsOf 2 = 1 by kernel_rfl] at t7
      replace t7 : DataW.trod enc Try.prog w 0 (fun _ => true) true n 2 [c7] = some x7 := t7
      have t8 : DataW.trod enc Try.prog w 0 (fun _ => true) true n 3 (([c0, c1, c2, c3, c4, c5, c6, c7, c8].drop 8).take (Try.prog.cellsOf 3)) = [x0, x1, x2, x3, x4, x5, x6, x7, x8][8]? := hf 8 _ rfl
      rw [show Try.prog.cellsOf 3 = 1 by kernel_rfl] at t8
      replace t8 : DataW.trod enc Try.prog w 0 (fun _ => true) true n 3 [c8] = some x8 := t8
      clear hf
      obtain ⟨a0, e0, r0⟩ := opens_int (k := .i64) Try.underlying3 t0
      injection e0 with e0 _
      subst e0
      obtain ⟨a1, e1, r1⟩ := opens_int (k := .i64) Try.underlying3 t1
      injection e1 with e1 _
      subst e1
      obtain ⟨a2, e2, r2⟩ := opens_int (k := .i64) Try.underlying2 t2
      injection e2 with e2 _
      subst e2
      obtain ⟨a3, e3, r3⟩ := opens_int (k := .i64) Try.underlying3 t3
      injection e3 with e3 _
      subst e3
      obtain ⟨a4, e4, r4⟩ := opens_int (k := .i64) Try.underlying3 t4
      injection e4 with e4 _
      subst e4
      obtain ⟨a5, e5, r5⟩ := opens_int (k := .i64) Try.underlying3 t5
      injection e5 with e5 _
      subst e5
      obtain ⟨a6, e6, r6⟩ := opens_int (k := .i64) Try.underlying2 t6
      injection e6 with e6 _
      subst e6
      obtain ⟨a7, e7, r7⟩ := opens_int (k := .i64) Try.underlying2 t7
      injection e7 with e7 _
      subst e7
      obtain ⟨a8, e8, r8⟩ := opens_int (k := .i64) Try.underlying3 t8
      injection e8 with e8 _
      subst e8
      exact ⟨a0, a1, a2, a3, a4, a5, a6, a7, a8, rfl, r0, r1, r2, r3, r4, r5, r6, r7, r8⟩
set_option maxRecDepth 100000 in
theorem open_arg29 {H : Type} {enc : TypeId × Value → H} {w : World} {r : Reach} {b0 : Nat} {v : Value} {d : DataW H} {ps : List MemPlace} (hval : Value.okWide Try.prog w r b0 29 v) (hd : DataW.Trod enc Try.prog w 0 (fun _ => true) true 29 v d ps) :
    ∃ a0 a1 a2 a3 a4 a5 a6 a7 a8 : Int, v = .agg #[.int .i64 a0, .int .i64 a1, .int .i64 a2, .int .i64 a3, .int .i64 a4, .int .i64 a5, .int .i64 a6, .int .i64 a7, .int .i64 a8] ∧ (Lit.int .i64 a0).wf = true ∧ (Lit.int .i64 a1).wf = true ∧ (Lit.int .i64 a2).wf = true ∧ (Lit.int .i64 a3).wf = true ∧ (Lit.int .i64 a4).wf = true ∧ (Lit.int .i64 a5).wf = true ∧ (Lit.int .i64 a6).wf = true ∧ (Lit.int .i64 a7).wf = true ∧ (Lit.int .i64 a8).wf = true := by
  have hv := hval
  unfold Value.okWide at hv
  rw [Try.underlying29] at hv
  obtain ⟨cs, rfl, _, _⟩ := hv
  obtain ⟨fuel, hf⟩ := hd
  obtain ⟨a0, a1, a2, a3, a4, a5, a6, a7, a8, hc, hw⟩ := opened_29 hf
  refine ⟨a0, a1, a2, a3, a4, a5, a6, a7, a8, ?_, hw⟩
  have : cs = #[.int .i64 a0, .int .i64 a1, .int .i64 a2, .int .i64 a3, .int .i64 a4, .int .i64 a5, .int .i64 a6, .int .i64 a7, .int .i64 a8] := by
    apply Array.toList_inj.1
    exact hc
  rw [this]
set_option maxRecDepth 100000 in
theorem open_arg95 {H : Type} {enc : TypeId × Value → H} {w : World} {r : Reach} {b0 : Nat} {v : Value} {d : DataW H} {ps : List MemPlace} (hval : Value.okWide Try.prog w r b0 95 v) (hd : DataW.Trod enc Try.prog w 0 (fun _ => true) true 95 v d ps) :
    ∃ a0 a1 a2 a3 a4 a5 a6 a7 a8 : Int, v = .agg #[.int .i64 a0, .int .i64 a1, .int .i64 a2, .int .i64 a3, .int .i64 a4, .int .i64 a5, .int .i64 a6, .int .i64 a7, .int .i64 a8] ∧ (Lit.int .i64 a0).wf = true ∧ (Lit.int .i64 a1).wf = true ∧ (Lit.int .i64 a2).wf = true ∧ (Lit.int .i64 a3).wf = true ∧ (Lit.int .i64 a4).wf = true ∧ (Lit.int .i64 a5).wf = true ∧ (Lit.int .i64 a6).wf = true ∧ (Lit.int .i64 a7).wf = true ∧ (Lit.int .i64 a8).wf = true := by
  have hv := hval
  unfold Value.okWide at hv
  rw [Try.underlying95] at hv
  obtain ⟨cs, rfl, _, _⟩ := hv
  obtain ⟨fuel, hf⟩ := hd
  obtain ⟨a0, a1, a2, a3, a4, a5, a6, a7, a8, hc, hw⟩ := opened_95 hf
  refine ⟨a0, a1, a2, a3, a4, a5, a6, a7, a8, ?_, hw⟩
  have : cs = #[.int .i64 a0, .int .i64 a1, .int .i64 a2, .int .i64 a3, .int .i64 a4, .int .i64 a5, .int .i64 a6, .int .i64 a7, .int .i64 a8] := by
    apply Array.toList_inj.1
    exact hc
  rw [this]
theorem opens_msgs : Opens 22 (Kd.slice 29 k29) (fun xs => ∀ x ∈ xs, WF29 x) := opens_slice Try.underlying22 (by kernel_rfl) opens_29
theorem opens_parts : Opens 45 (Kd.slice 49 k49) (fun xs => ∀ x ∈ xs, WF49 x) := opens_slice Try.underlying45 (by kernel_rfl) opens_49
theorem opens_steps : Opens 54 (Kd.slice 91 k91) (fun xs => ∀ x ∈ xs, WF91 x) := opens_slice Try.underlying54 (by kernel_rfl) opens_91
theorem opens_rows : Opens 62 (Kd.slice 30 (Kd.slice 5 (Kd.int .u8))) (fun xs => ∀ x ∈ xs, ∀ y ∈ x, (Lit.int .u8 y).wf = true) := opens_slice Try.underlying62 (by kernel_rfl) opens_bytes
theorem opens_ints : Opens 61 (Kd.slice 3 (Kd.int .i64)) (fun xs => ∀ x ∈ xs, (Lit.int .i64 x).wf = true) := opens_slice Try.underlying61 (by kernel_rfl) (opens_int Try.underlying3)
-- A slice that is handed in.
set_option maxRecDepth 100000 in
theorem open_arg_slice {α : Type} {t e e' : TypeId} {K : Kd α} {R : α → Prop} (ht : Try.prog.underlying t = some (.slice e)) (ho : Opens t (Kd.slice e' K) (fun xs => ∀ x ∈ xs, R x))
    {H : Type} {enc : TypeId × Value → H} {w : World} {r : Reach} {b0 : Nat} {v : Value} {d : DataW H} {ps : List MemPlace} (hval : Value.okWide Try.prog w r b0 t v) (hd : DataW.Trod enc Try.prog w 0 (fun _ => true) true t v d ps) :
    ∃ (A : Option Addr) (c : Nat) (xs : List α), v = .slice A xs.length c ∧ xs.length ≤ c ∧ K.C w A xs.length xs ∧ (∀ x ∈ xs, R x) ∧ ∀ y ∈ ps, y.block < w.heap.size := by
  obtain ⟨A, l, c, rfl⟩ := okWide_slice ht hval
  have hlt : ∀ y ∈ ps, y.block < w.heap.size := by obtain ⟨m, hm⟩ := hd; exact DataW.trod_lt m _ _ _ hm
  obtain ⟨fuel, hf⟩ := hd
  obtain ⟨xs, ⟨A', c', hc, hl, hC⟩, hr⟩ := ho hf
  simp [Value.cells] at hc
  obtain ⟨rfl, rfl, rfl⟩ := hc
  exact ⟨_, _, xs, rfl, hl, hC, hr, hlt⟩
end Go.Proofs.Ytalpemoodollpaa.P
-- Printed by hookprint.py (the session's own program, over the kit's print.py): checked by Lean like any text.
namespace Go.Proofs.Ytalpemoodollpaa.P
open Go.RowKit Go.Proofs.YtalpemoodollpaaW.PrintWords Go.Proofs.YtalpemoodollpaaW.PrintLast Go.Proofs.YtalpemoodollpaaW.PrintMore
attribute [local go_sem] max2_int min2_int max_two min_two max_three min_three max_four min_four   -- for this text's walks alone
set_option linter.unusedVariables false
set_option linter.unusedSimpArgs false

/-! ### damperlaw04_alive: function 43 -/
def damperlaw04_alive.f  : Option (Bool) := (frame_Put.f (([7] : List Int))).bind fun bt252 => ((frame_Take.f bt252.1).bind fun bt256 => (if bt252.2 = 0 then (if bt256.2.2 = 0 then (if (bt252.1.length : Int) = 3 then (if 1 < (bt252.1.length : Int) then (if (rd bt252.1 1) = 1 then (if bt256.2.1 = 3 then (if (bt256.1.length : Int) = 1 then (if 0 < (bt256.1.length : Int) then (some ((rd bt256.1 0) == 7)) else (none)) else (some false)) else (some false)) else (some false)) else (none)) else (some false)) else (some false)) else (some false)))
set_option maxHeartbeats 8000000 in
set_option maxRecDepth 100000 in
theorem damperlaw04_alive.calls  (r : Bool) (w : World) (h : damperlaw04_alive.f  = some r) :
    Calls Try.prog 43 #[] w fun e w' => e = .returned (.bool r) ∧ Below w.heap.size w w' := by
  have HB := Aside0.mk (Below.refl w.heap.size w)
  have H : ((frame_Put.f (([7] : List Int))).bind fun bt252 => ((frame_Take.f bt252.1).bind fun bt256 => (if bt252.2 = 0 then (if bt256.2.2 = 0 then (if (bt252.1.length : Int) = 3 then (if 1 < (bt252.1.length : Int) then (if (rd bt252.1 1) = 1 then (if bt256.2.1 = 3 then (if (bt256.1.length : Int) = 1 then (if 0 < (bt256.1.length : Int) then (some ((rd bt256.1 0) == 7)) else (none)) else (some false)) else (some false)) else (some false)) else (none)) else (some false)) else (some false)) else (some false)))) = some r := h
  clear h
  obtain ⟨y249, hy249⟩ : ∃ y_ : List Int, y_ = (([7] : List Int)) := ⟨_, rfl⟩
  replace H : ((frame_Put.f y249).bind fun bt252 => ((frame_Take.f bt252.1).bind fun bt256 => (if bt252.2 = 0 then (if bt256.2.2 = 0 then (if (bt252.1.length : Int) = 3 then (if 1 < (bt252.1.length : Int) then (if (rd bt252.1 1) = 1 then (if bt256.2.1 = 3 then (if (bt256.1.length : Int) = 1 then (if 0 < (bt256.1.length : Int) then (some ((rd bt256.1 0) == 7)) else (none)) else (some false)) else (some false)) else (some false)) else (none)) else (some false)) else (some false)) else (some false)))) = some r := by first | (rw [hy249]; with_reducible exact H) | (have H2_ := (Option.bind_some _ _).symm.trans H; rw [hy249]; with_reducible exact H2_) | (have H2_ := (Option.bind_some _ _).symm.trans H; with_reducible exact H2_) | with_reducible exact H | (rw [hy249]; exact H) | exact H
  have Ny249 := Aside0.mk hy249
  clear hy249
  replace H := Option.bind_eq_some_iff.mp H
  obtain ⟨⟨t252, t253⟩, A10, H⟩ := H
  replace H : ((frame_Take.f t252).bind fun bt256 => (if t253 = 0 then (if bt256.2.2 = 0 then (if (t252.length : Int) = 3 then (if 1 < (t252.length : Int) then (if (rd t252 1) = 1 then (if bt256.2.1 = 3 then (if (bt256.1.length : Int) = 1 then (if 0 < (bt256.1.length : Int) then (some ((rd bt256.1 0) == 7)) else (none)) else (some false)) else (some false)) else (some false)) else (none)) else (some false)) else (some false)) else (some false))) = some r := H
  have A1 := Aside0.mk A10
  clear A10
  replace H := Option.bind_eq_some_iff.mp H
  obtain ⟨⟨t256, t257, t258⟩, A20, H⟩ := H
  replace H : (if t253 = 0 then (if t258 = 0 then (if (t252.length : Int) = 3 then (if 1 < (t252.length : Int) then (if (rd t252 1) = 1 then (if t257 = 3 then (if (t256.length : Int) = 1 then (if 0 < (t256.length : Int) then (some ((rd t256 0) == 7)) else (none)) else (some false)) else (some false)) else (some false)) else (none)) else (some false)) else (some false)) else (some false)) = some r := H
  have A2 := Aside0.mk A20
  clear A20
  by_cases c3 : t253 = 0
  · rw [if_pos c3] at H
    have c3b0 : (t253 == 0) = true := beq_iff_eq.mpr c3
    have c3b1 : (t253 != 0) = false := bne_eq_false_iff_eq.mpr c3
    clear c3
    by_cases c4 : t258 = 0
    · rw [if_pos c4] at H
      have c4b0 : (t258 == 0) = true := beq_iff_eq.mpr c4
      have c4b1 : (t258 != 0) = false := bne_eq_false_iff_eq.mpr c4
      clear c4
      by_cases c5 : (t252.length : Int) = 3
      · rw [if_pos c5] at H
        have c5b0 : ((t252.length : Int) == 3) = true := beq_iff_eq.mpr c5
        have c5b1 : ((t252.length : Int) != 3) = false := bne_eq_false_iff_eq.mpr c5
        clear c5
        by_cases c6 : 1 < (t252.length : Int)
        · rw [if_pos c6] at H
          have c6b0 : decide (1 < (t252.length : Int)) = true := decide_eq_true c6
          have c6b1 : decide (1 < t252.length) = true := decide_eq_true (by omega)
          clear c6
          by_cases c7 : (rd t252 1) = 1
          · rw [if_pos c7] at H
            have c7b0 : ((rd t252 1) == 1) = true := beq_iff_eq.mpr c7
            have c7b1 : ((rd t252 1) != 1) = false := bne_eq_false_iff_eq.mpr c7
            clear c7
            by_cases c8 : t257 = 3
            · rw [if_pos c8] at H
              have c8b0 : (t257 == 3) = true := beq_iff_eq.mpr c8
              have c8b1 : (t257 != 3) = false := bne_eq_false_iff_eq.mpr c8
              clear c8
              by_cases c9 : (t256.length : Int) = 1
              · rw [if_pos c9] at H
                have c9b0 : ((t256.length : Int) == 1) = true := beq_iff_eq.mpr c9
                have c9b1 : ((t256.length : Int) != 1) = false := bne_eq_false_iff_eq.mpr c9
                clear c9
                by_cases c10 : 0 < (t256.length : Int)
                · rw [if_pos c10] at H
                  have c10b0 : decide (0 < (t256.length : Int)) = true := decide_eq_true c10
                  have c10b1 : decide (0 < t256.length) = true := decide_eq_true (by omega)
                  clear c10
                  obtain rfl := Option.some.inj H
                  go_enter Try.func43, Try.ntmps43
                  go_wp2_with (first | ((with_reducible refine gate_dst (N := 7) rfl ?_); (try (refine gate_guard (by rfl) ?_; dsimp only)); refine Kd.R_lit (Kd.int .u8) _ 5 ?hg (N := 7) ?hd (xs := ([7] : List Int)) (inner := [.int .u8 7]) (ok := fun _ => True) (okp := fun _ => True) ?hr ?hp (fun _ hk => hk) trivial (Below.refl _ _) (Nat.le_refl _) (by simp) ?_; (case hd => rfl); (case hg => rfl); (case hr => first | (go_simp; done) | (go_simp; rfl)); (case hp => exact (Reps.one (show Kd.M (Kd.int .u8) _ _ _ 7 [.int .u8 7] from rfl) (Reps.none _ _))); intro v250 w11 ho12 hb hg_ hnew_; clear hg_ hnew_; (first | rw [← Ny249.out] at ho12 | (simp only [Int.reduceToNat] at ho12; rw [← Ny249.out] at ho12)); have n0_ := Aside0.mk (Kd.R_lower ho12 (below_size (by repeat (first | (with_reducible first | exact HB.out | apply below_alloc | apply pw_below_drewN | apply below_drew1) | exact HB.out)))); have n1_ := Aside0.mk (below_step (by repeat (first | (with_reducible first | exact HB.out | apply below_alloc | apply pw_below_drewN | apply below_drew1) | exact HB.out)) hb); clear HB; have HO251 := n0_; have HB := n1_; clear n0_ n1_; clear hb ho12; obtain ⟨Ao13, co13, eo13⟩ := Kd.R_slice HO251.out; subst eo13) | ((with_reducible refine gate_callee (f := 44) rfl ?_); refine goesL_ (some 8) rfl rfl Try.func44 (by kernel_rfl) rfl #[.slice Ao13 y249.length co13] rfl (by (try simp only [List.map_toArray, List.map_cons, List.map_nil]); first | done | rfl | (simp only [List.length_drop, List.length_take]; rfl)) ?_; (with_reducible refine (frame_Put.calls _ _ y249 t252 t253 _ ?side1 ?side2 A1.out).mono ?_); (case side1 => repeat (first | exact (Kd.R_reads' HO251.out).2.2 | (with_reducible refine Kd.C_alloc ?_ _) | (with_reducible refine Kd.C_drewN ?_ _) | (with_reducible refine Kd.C_drew ?_))); (case side2 => exact (Kd.R_reads' HO251.out).2.1); rintro e w14 ⟨v254, rfl, ho0, hb⟩; refine ⟨_, rfl, ?_⟩; have n0_ := Aside0.mk (Kd.R_elder' (by (with_reducible repeat (first | apply Kd.R_alloc | apply Kd.R_drewN | apply Kd.R_drew)); exact HO251.out) (Kd.R_base ho0) hb); have n1_ := Aside0.mk (Kd.R_lower (Kd.R_new' ho0 (Kd.R_lt (by (with_reducible repeat (first | apply Kd.R_alloc | apply Kd.R_drewN | apply Kd.R_drew)); exact HO251.out))) (below_size (by repeat (first | (with_reducible first | exact HB.out | apply below_alloc | apply pw_below_drewN | apply below_drew1) | exact HB.out)))); have n2_ := Aside0.mk (below_step (by repeat (first | (with_reducible first | exact HB.out | apply below_alloc | apply pw_below_drewN | apply below_drew1) | exact HB.out)) hb); clear HO251; clear HB; have HO251 := n0_; have HO255 := n1_; have HB := n2_; clear n0_ n1_ n2_; (try clear hb); (try clear hb2); (try clear hk); (try clear hi); (try clear ho0); obtain ⟨Ao15, co15, eo15⟩ := Kd.R_slice HO255.out; subst eo15) | ((with_reducible refine gate_callee (f := 46) rfl ?_); refine goesL_ (some 13) rfl rfl Try.func46 (by kernel_rfl) rfl #[.slice Ao15 t252.length co15] rfl (by (try simp only [List.map_toArray, List.map_cons, List.map_nil]); first | done | rfl | (simp only [List.length_drop, List.length_take]; rfl)) ?_; (with_reducible refine (frame_Take.calls _ _ t252 t256 t257 t258 _ ?side1 ?side2 A2.out).mono ?_); (case side1 => repeat (first | exact (Kd.R_reads' HO255.out).2.2 | (with_reducible refine Kd.C_alloc ?_ _) | (with_reducible refine Kd.C_drewN ?_ _) | (with_reducible refine Kd.C_drew ?_))); (case side2 => exact (Kd.R_reads' HO255.out).2.1); rintro e w16 ⟨v259, rfl, ho0, hb⟩; refine ⟨_, rfl, ?_⟩; have n0_ := Aside0.mk (Kd.R_elder' (by (with_reducible repeat (first | apply Kd.R_alloc | apply Kd.R_drewN | apply Kd.R_drew)); exact HO251.out) (Kd.R_base ho0) hb); have n1_ := Aside0.mk (Kd.R_elder' (by (with_reducible repeat (first | apply Kd.R_alloc | apply Kd.R_drewN | apply Kd.R_drew)); exact HO255.out) (Kd.R_base ho0) hb); have n2_ := Aside0.mk (Kd.R_lower (Kd.R_new' (Kd.R_new' ho0 (Kd.R_lt (by (with_reducible repeat (first | apply Kd.R_alloc | apply Kd.R_drewN | apply Kd.R_drew)); exact HO251.out))) (Kd.R_lt (by (with_reducible repeat (first | apply Kd.R_alloc | apply Kd.R_drewN | apply Kd.R_drew)); exact HO255.out))) (below_size (by repeat (first | (with_reducible first | exact HB.out | apply below_alloc | apply pw_below_drewN | apply below_drew1) | exact HB.out)))); have n3_ := Aside0.mk (below_step (by repeat (first | (with_reducible first | exact HB.out | apply below_alloc | apply pw_below_drewN | apply below_drew1) | exact HB.out)) hb); clear HO251; clear HO255; clear HB; have HO251 := n0_; have HO255 := n1_; have HO260 := n2_; have HB := n3_; clear n0_ n1_ n2_ n3_; (try clear hb); (try clear hb2); (try clear hk); (try clear hi); (try clear ho0); have p261 : 0 ≤ (1 : Int) := (by omega); have q261 : 1 < (t252.length : Int) := of_decide_eq_true (by first | (with_reducible assumption) | assumption); obtain ⟨ad261, e261, hx261_0⟩ := Kd.at_int (Kd.R_reads' HO255.out).2.2 1 p261 q261; cases e261; (try simp only [show (1 : Int).toNat = 1 from rfl, Nat.reduceMul, Nat.reduceEqDiff, Go.Addr.add, ↓reduceIte] at hx261_0); have qi261 : (1 < t252.length) = True := eq_true (by omega); (try rw [show ((1 : Int)).toNat = 1 from rfl] at hx261_0); replace p261 := eq_true p261; replace q261 := eq_true q261; obtain ⟨Ao17, co17, eo17⟩ := Kd.R_slice HO260.out; subst eo17; have p262 : 0 ≤ (0 : Int) := (by omega); have q262 : 0 < (t256.length : Int) := of_decide_eq_true (by first | (with_reducible assumption) | assumption); obtain ⟨ad262, e262, hx262_0⟩ := Kd.at_int (Kd.R_reads' HO260.out).2.2 0 p262 q262; cases e262; have qi262 : (0 < t256.length) = True := eq_true (by omega); (try rw [show ((0 : Int)).toNat = 0 from rfl] at hx262_0); (try rw [Addr.add_zero'] at hx262_0); replace p262 := eq_true p262; replace q262 := eq_true q262))
                  go_ret
                  exact ⟨by first | rfl | (simp [errW_none, errW_some] <;> rfl) | (simp [*, errW_none, errW_some] <;> rfl), by repeat (first | (with_reducible first | exact HB.out | apply below_alloc | apply pw_below_drewN | apply below_drew1) | exact HB.out)⟩
                · rw [if_neg c10] at H
                  exact absurd H (by simp)
              · rw [if_neg c9] at H
                have c9b0 : ((t256.length : Int) == 1) = false := beq_eq_false_iff_ne.mpr c9
                have c9b1 : ((t256.length : Int) != 1) = true := bne_iff_ne.mpr c9
                obtain rfl := Option.some.inj H
                go_enter Try.func43, Try.ntmps43
                go_wp2_with (first | ((with_reducible refine gate_dst (N := 7) rfl ?_); (try (refine gate_guard (by rfl) ?_; dsimp only)); refine Kd.R_lit (Kd.int .u8) _ 5 ?hg (N := 7) ?hd (xs := ([7] : List Int)) (inner := [.int .u8 7]) (ok := fun _ => True) (okp := fun _ => True) ?hr ?hp (fun _ hk => hk) trivial (Below.refl _ _) (Nat.le_refl _) (by simp) ?_; (case hd => rfl); (case hg => rfl); (case hr => first | (go_simp; done) | (go_simp; rfl)); (case hp => exact (Reps.one (show Kd.M (Kd.int .u8) _ _ _ 7 [.int .u8 7] from rfl) (Reps.none _ _))); intro v250 w18 ho19 hb hg_ hnew_; clear hg_ hnew_; (first | rw [← Ny249.out] at ho19 | (simp only [Int.reduceToNat] at ho19; rw [← Ny249.out] at ho19)); have n0_ := Aside0.mk (Kd.R_lower ho19 (below_size (by repeat (first | (with_reducible first | exact HB.out | apply below_alloc | apply pw_below_drewN | apply below_drew1) | exact HB.out)))); have n1_ := Aside0.mk (below_step (by repeat (first | (with_reducible first | exact HB.out | apply below_alloc | apply pw_below_drewN | apply below_drew1) | exact HB.out)) hb); clear HB; have HO251 := n0_; have HB := n1_; clear n0_ n1_; clear hb ho19; obtain ⟨Ao20, co20, eo20⟩ := Kd.R_slice HO251.out; subst eo20) | ((with_reducible refine gate_callee (f := 44) rfl ?_); refine goesL_ (some 8) rfl rfl Try.func44 (by kernel_rfl) rfl #[.slice Ao20 y249.length co20] rfl (by (try simp only [List.map_toArray, List.map_cons, List.map_nil]); first | done | rfl | (simp only [List.length_drop, List.length_take]; rfl)) ?_; (with_reducible refine (frame_Put.calls _ _ y249 t252 t253 _ ?side1 ?side2 A1.out).mono ?_); (case side1 => repeat (first | exact (Kd.R_reads' HO251.out).2.2 | (with_reducible refine Kd.C_alloc ?_ _) | (with_reducible refine Kd.C_drewN ?_ _) | (with_reducible refine Kd.C_drew ?_))); (case side2 => exact (Kd.R_reads' HO251.out).2.1); rintro e w21 ⟨v254, rfl, ho0, hb⟩; refine ⟨_, rfl, ?_⟩; have n0_ := Aside0.mk (Kd.R_elder' (by (with_reducible repeat (first | apply Kd.R_alloc | apply Kd.R_drewN | apply Kd.R_drew)); exact HO251.out) (Kd.R_base ho0) hb); have n1_ := Aside0.mk (Kd.R_lower (Kd.R_new' ho0 (Kd.R_lt (by (with_reducible repeat (first | apply Kd.R_alloc | apply Kd.R_drewN | apply Kd.R_drew)); exact HO251.out))) (below_size (by repeat (first | (with_reducible first | exact HB.out | apply below_alloc | apply pw_below_drewN | apply below_drew1) | exact HB.out)))); have n2_ := Aside0.mk (below_step (by repeat (first | (with_reducible first | exact HB.out | apply below_alloc | apply pw_below_drewN | apply below_drew1) | exact HB.out)) hb); clear HO251; clear HB; have HO251 := n0_; have HO255 := n1_; have HB := n2_; clear n0_ n1_ n2_; (try clear hb); (try clear hb2); (try clear hk); (try clear hi); (try clear ho0); obtain ⟨Ao22, co22, eo22⟩ := Kd.R_slice HO255.out; subst eo22) | ((with_reducible refine gate_callee (f := 46) rfl ?_); refine goesL_ (some 13) rfl rfl Try.func46 (by kernel_rfl) rfl #[.slice Ao22 t252.length co22] rfl (by (try simp only [List.map_toArray, List.map_cons, List.map_nil]); first | done | rfl | (simp only [List.length_drop, List.length_take]; rfl)) ?_; (with_reducible refine (frame_Take.calls _ _ t252 t256 t257 t258 _ ?side1 ?side2 A2.out).mono ?_); (case side1 => repeat (first | exact (Kd.R_reads' HO255.out).2.2 | (with_reducible refine Kd.C_alloc ?_ _) | (with_reducible refine Kd.C_drewN ?_ _) | (with_reducible refine Kd.C_drew ?_))); (case side2 => exact (Kd.R_reads' HO255.out).2.1); rintro e w23 ⟨v259, rfl, ho0, hb⟩; refine ⟨_, rfl, ?_⟩; have n0_ := Aside0.mk (Kd.R_elder' (by (with_reducible repeat (first | apply Kd.R_alloc | apply Kd.R_drewN | apply Kd.R_drew)); exact HO251.out) (Kd.R_base ho0) hb); have n1_ := Aside0.mk (Kd.R_elder' (by (with_reducible repeat (first | apply Kd.R_alloc | apply Kd.R_drewN | apply Kd.R_drew)); exact HO255.out) (Kd.R_base ho0) hb); have n2_ := Aside0.mk (Kd.R_lower (Kd.R_new' (Kd.R_new' ho0 (Kd.R_lt (by (with_reducible repeat (first | apply Kd.R_alloc | apply Kd.R_drewN | apply Kd.R_drew)); exact HO251.out))) (Kd.R_lt (by (with_reducible repeat (first | apply Kd.R_alloc | apply Kd.R_drewN | apply Kd.R_drew)); exact HO255.out))) (below_size (by repeat (first | (with_reducible first | exact HB.out | apply below_alloc | apply pw_below_drewN | apply below_drew1) | exact HB.out)))); have n3_ := Aside0.mk (below_step (by repeat (first | (with_reducible first | exact HB.out | apply below_alloc | apply pw_below_drewN | apply below_drew1) | exact HB.out)) hb); clear HO251; clear HO255; clear HB; have HO251 := n0_; have HO255 := n1_; have HO260 := n2_; have HB := n3_; clear n0_ n1_ n2_ n3_; (try clear hb); (try clear hb2); (try clear hk); (try clear hi); (try clear ho0); have p261 : 0 ≤ (1 : Int) := (by omega); have q261 : 1 < (t252.length : Int) := of_decide_eq_true (by first | (with_reducible assumption) | assumption); obtain ⟨ad261, e261, hx261_0⟩ := Kd.at_int (Kd.R_reads' HO255.out).2.2 1 p261 q261; cases e261; (try simp only [show (1 : Int).toNat = 1 from rfl, Nat.reduceMul, Nat.reduceEqDiff, Go.Addr.add, ↓reduceIte] at hx261_0); have qi261 : (1 < t252.length) = True := eq_true (by omega); (try rw [show ((1 : Int)).toNat = 1 from rfl] at hx261_0); replace p261 := eq_true p261; replace q261 := eq_true q261; obtain ⟨Ao24, co24, eo24⟩ := Kd.R_slice HO260.out; subst eo24))
                go_ret
                exact ⟨by first | rfl | (simp [errW_none, errW_some] <;> rfl) | (simp [*, errW_none, errW_some] <;> rfl), by repeat (first | (with_reducible first | exact HB.out | apply below_alloc | apply pw_below_drewN | apply below_drew1) | exact HB.out)⟩
            · rw [if_neg c8] at H
              have c8b0 : (t257 == 3) = false := beq_eq_false_iff_ne.mpr c8
              have c8b1 : (t257 != 3) = true := bne_iff_ne.mpr c8
              obtain rfl := Option.some.inj H
              go_enter Try.func43, Try.ntmps43
              go_wp2_with (first | ((with_reducible refine gate_dst (N := 7) rfl ?_); (try (refine gate_guard (by rfl) ?_; dsimp only)); refine Kd.R_lit (Kd.int .u8) _ 5 ?hg (N := 7) ?hd (xs := ([7] : List Int)) (inner := [.int .u8 7]) (ok := fun _ => True) (okp := fun _ => True) ?hr ?hp (fun _ hk => hk) trivial (Below.refl _ _) (Nat.le_refl _) (by simp) ?_; (case hd => rfl); (case hg => rfl); (case hr => first | (go_simp; done) | (go_simp; rfl)); (case hp => exact (Reps.one (show Kd.M (Kd.int .u8) _ _ _ 7 [.int .u8 7] from rfl) (Reps.none _ _))); intro v250 w25 ho26 hb hg_ hnew_; clear hg_ hnew_; (first | rw [← Ny249.out] at ho26 | (simp only [Int.reduceToNat] at ho26; rw [← Ny249.out] at ho26)); have n0_ := Aside0.mk (Kd.R_lower ho26 (below_size (by repeat (first | (with_reducible first | exact HB.out | apply below_alloc | apply pw_below_drewN | apply below_drew1) | exact HB.out)))); have n1_ := Aside0.mk (below_step (by repeat (first | (with_reducible first | exact HB.out | apply below_alloc | apply pw_below_drewN | apply below_drew1) | exact HB.out)) hb); clear HB; have HO251 := n0_; have HB := n1_; clear n0_ n1_; clear hb ho26; obtain ⟨Ao27, co27, eo27⟩ := Kd.R_slice HO251.out; subst eo27) | ((with_reducible refine gate_callee (f := 44) rfl ?_); refine goesL_ (some 8) rfl rfl Try.func44 (by kernel_rfl) rfl #[.slice Ao27 y249.length co27] rfl (by (try simp only [List.map_toArray, List.map_cons, List.map_nil]); first | done | rfl | (simp only [List.length_drop, List.length_take]; rfl)) ?_; (with_reducible refine (frame_Put.calls _ _ y249 t252 t253 _ ?side1 ?side2 A1.out).mono ?_); (case side1 => repeat (first | exact (Kd.R_reads' HO251.out).2.2 | (with_reducible refine Kd.C_alloc ?_ _) | (with_reducible refine Kd.C_drewN ?_ _) | (with_reducible refine Kd.C_drew ?_))); (case side2 => exact (Kd.R_reads' HO251.out).2.1); rintro e w28 ⟨v254, rfl, ho0, hb⟩; refine ⟨_, rfl, ?_⟩; have n0_ := Aside0.mk (Kd.R_elder' (by (with_reducible repeat (first | apply Kd.R_alloc | apply Kd.R_drewN | apply Kd.R_drew)); exact HO251.out) (Kd.R_base ho0) hb); have n1_ := Aside0.mk (Kd.R_lower (Kd.R_new' ho0 (Kd.R_lt (by (with_reducible repeat (first | apply Kd.R_alloc | apply Kd.R_drewN | apply Kd.R_drew)); exact HO251.out))) (below_size (by repeat (first | (with_reducible first | exact HB.out | apply below_alloc | apply pw_below_drewN | apply below_drew1) | exact HB.out)))); have n2_ := Aside0.mk (below_step (by repeat (first | (with_reducible first | exact HB.out | apply below_alloc | apply pw_below_drewN | apply below_drew1) | exact HB.out)) hb); clear HO251; clear HB; have HO251 := n0_; have HO255 := n1_; have HB := n2_; clear n0_ n1_ n2_; (try clear hb); (try clear hb2); (try clear hk); (try clear hi); (try clear ho0); obtain ⟨Ao29, co29, eo29⟩ := Kd.R_slice HO255.out; subst eo29) | ((with_reducible refine gate_callee (f := 46) rfl ?_); refine goesL_ (some 13) rfl rfl Try.func46 (by kernel_rfl) rfl #[.slice Ao29 t252.length co29] rfl (by (try simp only [List.map_toArray, List.map_cons, List.map_nil]); first | done | rfl | (simp only [List.length_drop, List.length_take]; rfl)) ?_; (with_reducible refine (frame_Take.calls _ _ t252 t256 t257 t258 _ ?side1 ?side2 A2.out).mono ?_); (case side1 => repeat (first | exact (Kd.R_reads' HO255.out).2.2 | (with_reducible refine Kd.C_alloc ?_ _) | (with_reducible refine Kd.C_drewN ?_ _) | (with_reducible refine Kd.C_drew ?_))); (case side2 => exact (Kd.R_reads' HO255.out).2.1); rintro e w30 ⟨v259, rfl, ho0, hb⟩; refine ⟨_, rfl, ?_⟩; have n0_ := Aside0.mk (Kd.R_elder' (by (with_reducible repeat (first | apply Kd.R_alloc | apply Kd.R_drewN | apply Kd.R_drew)); exact HO251.out) (Kd.R_base ho0) hb); have n1_ := Aside0.mk (Kd.R_elder' (by (with_reducible repeat (first | apply Kd.R_alloc | apply Kd.R_drewN | apply Kd.R_drew)); exact HO255.out) (Kd.R_base ho0) hb); have n2_ := Aside0.mk (Kd.R_lower (Kd.R_new' (Kd.R_new' ho0 (Kd.R_lt (by (with_reducible repeat (first | apply Kd.R_alloc | apply Kd.R_drewN | apply Kd.R_drew)); exact HO251.out))) (Kd.R_lt (by (with_reducible repeat (first | apply Kd.R_alloc | apply Kd.R_drewN | apply Kd.R_drew)); exact HO255.out))) (below_size (by repeat (first | (with_reducible first | exact HB.out | apply below_alloc | apply pw_below_drewN | apply below_drew1) | exact HB.out)))); have n3_ := Aside0.mk (below_step (by repeat (first | (with_reducible first | exact HB.out | apply below_alloc | apply pw_below_drewN | apply below_drew1) | exact HB.out)) hb); clear HO251; clear HO255; clear HB; have HO251 := n0_; have HO255 := n1_; have HO260 := n2_; have HB := n3_; clear n0_ n1_ n2_ n3_; (try clear hb); (try clear hb2); (try clear hk); (try clear hi); (try clear ho0); have p261 : 0 ≤ (1 : Int) := (by omega); have q261 : 1 < (t252.length : Int) := of_decide_eq_true (by first | (with_reducible assumption) | assumption); obtain ⟨ad261, e261, hx261_0⟩ := Kd.at_int (Kd.R_reads' HO255.out).2.2 1 p261 q261; cases e261; (try simp only [show (1 : Int).toNat = 1 from rfl, Nat.reduceMul, Nat.reduceEqDiff, Go.Addr.add, ↓reduceIte] at hx261_0); have qi261 : (1 < t252.length) = True := eq_true (by omega); (try rw [show ((1 : Int)).toNat = 1 from rfl] at hx261_0); replace p261 := eq_true p261; replace q261 := eq_true q261))
              go_ret
              exact ⟨by first | rfl | (simp [errW_none, errW_some] <;> rfl) | (simp [*, errW_none, errW_some] <;> rfl), by repeat (first | (with_reducible first | exact HB.out | apply below_alloc | apply pw_below_drewN | apply below_drew1) | exact HB.out)⟩
          · rw [if_neg c7] at H
            have c7b0 : ((rd t252 1) == 1) = false := beq_eq_false_iff_ne.mpr c7
            have c7b1 : ((rd t252 1) != 1) = true := bne_iff_ne.mpr c7
            obtain rfl := Option.some.inj H
            go_enter Try.func43, Try.ntmps43
            go_wp2_with (first | ((with_reducible refine gate_dst (N := 7) rfl ?_); (try (refine gate_guard (by rfl) ?_; dsimp only)); refine Kd.R_lit (Kd.int .u8) _ 5 ?hg (N := 7) ?hd (xs := ([7] : List Int)) (inner := [.int .u8 7]) (ok := fun _ => True) (okp := fun _ => True) ?hr ?hp (fun _ hk => hk) trivial (Below.refl _ _) (Nat.le_refl _) (by simp) ?_; (case hd => rfl); (case hg => rfl); (case hr => first | (go_simp; done) | (go_simp; rfl)); (case hp => exact (Reps.one (show Kd.M (Kd.int .u8) _ _ _ 7 [.int .u8 7] from rfl) (Reps.none _ _))); intro v250 w31 ho32 hb hg_ hnew_; clear hg_ hnew_; (first | rw [← Ny249.out] at ho32 | (simp only [Int.reduceToNat] at ho32; rw [← Ny249.out] at ho32)); have n0_ := Aside0.mk (Kd.R_lower ho32 (below_size (by repeat (first | (with_reducible first | exact HB.out | apply below_alloc | apply pw_below_drewN | apply below_drew1) | exact HB.out)))); have n1_ := Aside0.mk (below_step (by repeat (first | (with_reducible first | exact HB.out | apply below_alloc | apply pw_below_drewN | apply below_drew1) | exact HB.out)) hb); clear HB; have HO251 := n0_; have HB := n1_; clear n0_ n1_; clear hb ho32; obtain ⟨Ao33, co33, eo33⟩ := Kd.R_slice HO251.out; subst eo33) | ((with_reducible refine gate_callee (f := 44) rfl ?_); refine goesL_ (some 8) rfl rfl Try.func44 (by kernel_rfl) rfl #[.slice Ao33 y249.length co33] rfl (by (try simp only [List.map_toArray, List.map_cons, List.map_nil]); first | done | rfl | (simp only [List.length_drop, List.length_take]; rfl)) ?_; (with_reducible refine (frame_Put.calls _ _ y249 t252 t253 _ ?side1 ?side2 A1.out).mono ?_); (case side1 => repeat (first | exact (Kd.R_reads' HO251.out).2.2 | (with_reducible refine Kd.C_alloc ?_ _) | (with_reducible refine Kd.C_drewN ?_ _) | (with_reducible refine Kd.C_drew ?_))); (case side2 => exact (Kd.R_reads' HO251.out).2.1); rintro e w34 ⟨v254, rfl, ho0, hb⟩; refine ⟨_, rfl, ?_⟩; have n0_ := Aside0.mk (Kd.R_elder' (by (with_reducible repeat (first | apply Kd.R_alloc | apply Kd.R_drewN | apply Kd.R_drew)); exact HO251.out) (Kd.R_base ho0) hb); have n1_ := Aside0.mk (Kd.R_lower (Kd.R_new' ho0 (Kd.R_lt (by (with_reducible repeat (first | apply Kd.R_alloc | apply Kd.R_drewN | apply Kd.R_drew)); exact HO251.out))) (below_size (by repeat (first | (with_reducible first | exact HB.out | apply below_alloc | apply pw_below_drewN | apply below_drew1) | exact HB.out)))); have n2_ := Aside0.mk (below_step (by repeat (first | (with_reducible first | exact HB.out | apply below_alloc | apply pw_below_drewN | apply below_drew1) | exact HB.out)) hb); clear HO251; clear HB; have HO251 := n0_; have HO255 := n1_; have HB := n2_; clear n0_ n1_ n2_; (try clear hb); (try clear hb2); (try clear hk); (try clear hi); (try clear ho0); obtain ⟨Ao35, co35, eo35⟩ := Kd.R_slice HO255.out; subst eo35) | ((with_reducible refine gate_callee (f := 46) rfl ?_); refine goesL_ (some 13) rfl rfl Try.func46 (by kernel_rfl) rfl #[.slice Ao35 t252.length co35] rfl (by (try simp only [List.map_toArray, List.map_cons, List.map_nil]); first | done | rfl | (simp only [List.length_drop, List.length_take]; rfl)) ?_; (with_reducible refine (frame_Take.calls _ _ t252 t256 t257 t258 _ ?side1 ?side2 A2.out).mono ?_); (case side1 => repeat (first | exact (Kd.R_reads' HO255.out).2.2 | (with_reducible refine Kd.C_alloc ?_ _) | (with_reducible refine Kd.C_drewN ?_ _) | (with_reducible refine Kd.C_drew ?_))); (case side2 => exact (Kd.R_reads' HO255.out).2.1); rintro e w36 ⟨v259, rfl, ho0, hb⟩; refine ⟨_, rfl, ?_⟩; have n0_ := Aside0.mk (Kd.R_elder' (by (with_reducible repeat (first | apply Kd.R_alloc | apply Kd.R_drewN | apply Kd.R_drew)); exact HO251.out) (Kd.R_base ho0) hb); have n1_ := Aside0.mk (Kd.R_elder' (by (with_reducible repeat (first | apply Kd.R_alloc | apply Kd.R_drewN | apply Kd.R_drew)); exact HO255.out) (Kd.R_base ho0) hb); have n2_ := Aside0.mk (Kd.R_lower (Kd.R_new' (Kd.R_new' ho0 (Kd.R_lt (by (with_reducible repeat (first | apply Kd.R_alloc | apply Kd.R_drewN | apply Kd.R_drew)); exact HO251.out))) (Kd.R_lt (by (with_reducible repeat (first | apply Kd.R_alloc | apply Kd.R_drewN | apply Kd.R_drew)); exact HO255.out))) (below_size (by repeat (first | (with_reducible first | exact HB.out | apply below_alloc | apply pw_below_drewN | apply below_drew1) | exact HB.out)))); have n3_ := Aside0.mk (below_step (by repeat (first | (with_reducible first | exact HB.out | apply below_alloc | apply pw_below_drewN | apply below_drew1) | exact HB.out)) hb); clear HO251; clear HO255; clear HB; have HO251 := n0_; have HO255 := n1_; have HO260 := n2_; have HB := n3_; clear n0_ n1_ n2_ n3_; (try clear hb); (try clear hb2); (try clear hk); (try clear hi); (try clear ho0); have p261 : 0 ≤ (1 : Int) := (by omega); have q261 : 1 < (t252.length : Int) := of_decide_eq_true (by first | (with_reducible assumption) | assumption); obtain ⟨ad261, e261, hx261_0⟩ := Kd.at_int (Kd.R_reads' HO255.out).2.2 1 p261 q261; cases e261; (try simp only [show (1 : Int).toNat = 1 from rfl, Nat.reduceMul, Nat.reduceEqDiff, Go.Addr.add, ↓reduceIte] at hx261_0); have qi261 : (1 < t252.length) = True := eq_true (by omega); (try rw [show ((1 : Int)).toNat = 1 from rfl] at hx261_0); replace p261 := eq_true p261; replace q261 := eq_true q261))
            go_ret
            exact ⟨by first | rfl | (simp [errW_none, errW_some] <;> rfl) | (simp [*, errW_none, errW_some] <;> rfl), by repeat (first | (with_reducible first | exact HB.out | apply below_alloc | apply pw_below_drewN | apply below_drew1) | exact HB.out)⟩
        · rw [if_neg c6] at H
          exact absurd H (by simp)
      · rw [if_neg c5] at H
        have c5b0 : ((t252.length : Int) == 3) = false := beq_eq_false_iff_ne.mpr c5
        have c5b1 : ((t252.length : Int) != 3) = true := bne_iff_ne.mpr c5
        obtain rfl := Option.some.inj H
        go_enter Try.func43, Try.ntmps43
        go_wp2_with (first | ((with_reducible refine gate_dst (N := 7) rfl ?_); (try (refine gate_guard (by rfl) ?_; dsimp only)); refine Kd.R_lit (Kd.int .u8) _ 5 ?hg (N := 7) ?hd (xs := ([7] : List Int)) (inner := [.int .u8 7]) (ok := fun _ => True) (okp := fun _ => True) ?hr ?hp (fun _ hk => hk) trivial (Below.refl _ _) (Nat.le_refl _) (by simp) ?_; (case hd => rfl); (case hg => rfl); (case hr => first | (go_simp; done) | (go_simp; rfl)); (case hp => exact (Reps.one (show Kd.M (Kd.int .u8) _ _ _ 7 [.int .u8 7] from rfl) (Reps.none _ _))); intro v250 w37 ho38 hb hg_ hnew_; clear hg_ hnew_; (first | rw [← Ny249.out] at ho38 | (simp only [Int.reduceToNat] at ho38; rw [← Ny249.out] at ho38)); have n0_ := Aside0.mk (Kd.R_lower ho38 (below_size (by repeat (first | (with_reducible first | exact HB.out | apply below_alloc | apply pw_below_drewN | apply below_drew1) | exact HB.out)))); have n1_ := Aside0.mk (below_step (by repeat (first | (with_reducible first | exact HB.out | apply below_alloc | apply pw_below_drewN | apply below_drew1) | exact HB.out)) hb); clear HB; have HO251 := n0_; have HB := n1_; clear n0_ n1_; clear hb ho38; obtain ⟨Ao39, co39, eo39⟩ := Kd.R_slice HO251.out; subst eo39) | ((with_reducible refine gate_callee (f := 44) rfl ?_); refine goesL_ (some 8) rfl rfl Try.func44 (by kernel_rfl) rfl #[.slice Ao39 y249.length co39] rfl (by (try simp only [List.map_toArray, List.map_cons, List.map_nil]); first | done | rfl | (simp only [List.length_drop, List.length_take]; rfl)) ?_; (with_reducible refine (frame_Put.calls _ _ y249 t252 t253 _ ?side1 ?side2 A1.out).mono ?_); (case side1 => repeat (first | exact (Kd.R_reads' HO251.out).2.2 | (with_reducible refine Kd.C_alloc ?_ _) | (with_reducible refine Kd.C_drewN ?_ _) | (with_reducible refine Kd.C_drew ?_))); (case side2 => exact (Kd.R_reads' HO251.out).2.1); rintro e w40 ⟨v254, rfl, ho0, hb⟩; refine ⟨_, rfl, ?_⟩; have n0_ := Aside0.mk (Kd.R_elder' (by (with_reducible repeat (first | apply Kd.R_alloc | apply Kd.R_drewN | apply Kd.R_drew)); exact HO251.out) (Kd.R_base ho0) hb); have n1_ := Aside0.mk (Kd.R_lower (Kd.R_new' ho0 (Kd.R_lt (by (with_reducible repeat (first | apply Kd.R_alloc | apply Kd.R_drewN | apply Kd.R_drew)); exact HO251.out))) (below_size (by repeat (first | (with_reducible first | exact HB.out | apply below_alloc | apply pw_below_drewN | apply below_drew1) | exact HB.out)))); have n2_ := Aside0.mk (below_step (by repeat (first | (with_reducible first | exact HB.out | apply below_alloc | apply pw_below_drewN | apply below_drew1) | exact HB.out)) hb); clear HO251; clear HB; have HO251 := n0_; have HO255 := n1_; have HB := n2_; clear n0_ n1_ n2_; (try clear hb); (try clear hb2); (try clear hk); (try clear hi); (try clear ho0); obtain ⟨Ao41, co41, eo41⟩ := Kd.R_slice HO255.out; subst eo41) | ((with_reducible refine gate_callee (f := 46) rfl ?_); refine goesL_ (some 13) rfl rfl Try.func46 (by kernel_rfl) rfl #[.slice Ao41 t252.length co41] rfl (by (try simp only [List.map_toArray, List.map_cons, List.map_nil]); first | done | rfl | (simp only [List.length_drop, List.length_take]; rfl)) ?_; (with_reducible refine (frame_Take.calls _ _ t252 t256 t257 t258 _ ?side1 ?side2 A2.out).mono ?_); (case side1 => repeat (first | exact (Kd.R_reads' HO255.out).2.2 | (with_reducible refine Kd.C_alloc ?_ _) | (with_reducible refine Kd.C_drewN ?_ _) | (with_reducible refine Kd.C_drew ?_))); (case side2 => exact (Kd.R_reads' HO255.out).2.1); rintro e w42 ⟨v259, rfl, ho0, hb⟩; refine ⟨_, rfl, ?_⟩; have n0_ := Aside0.mk (Kd.R_elder' (by (with_reducible repeat (first | apply Kd.R_alloc | apply Kd.R_drewN | apply Kd.R_drew)); exact HO251.out) (Kd.R_base ho0) hb); have n1_ := Aside0.mk (Kd.R_elder' (by (with_reducible repeat (first | apply Kd.R_alloc | apply Kd.R_drewN | apply Kd.R_drew)); exact HO255.out) (Kd.R_base ho0) hb); have n2_ := Aside0.mk (Kd.R_lower (Kd.R_new' (Kd.R_new' ho0 (Kd.R_lt (by (with_reducible repeat (first | apply Kd.R_alloc | apply Kd.R_drewN | apply Kd.R_drew)); exact HO251.out))) (Kd.R_lt (by (with_reducible repeat (first | apply Kd.R_alloc | apply Kd.R_drewN | apply Kd.R_drew)); exact HO255.out))) (below_size (by repeat (first | (with_reducible first | exact HB.out | apply below_alloc | apply pw_below_drewN | apply below_drew1) | exact HB.out)))); have n3_ := Aside0.mk (below_step (by repeat (first | (with_reducible first | exact HB.out | apply below_alloc | apply pw_below_drewN | apply below_drew1) | exact HB.out)) hb); clear HO251; clear HO255; clear HB; have HO251 := n0_; have HO255 := n1_; have HO260 := n2_; have HB := n3_; clear n0_ n1_ n2_ n3_; (try clear hb); (try clear hb2); (try clear hk); (try clear hi); (try clear ho0)))
        go_ret
        exact ⟨by first | rfl | (simp [errW_none, errW_some] <;> rfl) | (simp [*, errW_none, errW_some] <;> rfl), by repeat (first | (with_reducible first | exact HB.out | apply below_alloc | apply pw_below_drewN | apply below_drew1) | exact HB.out)⟩
    · rw [if_neg c4] at H
      have c4b0 : (t258 == 0) = false := beq_eq_false_iff_ne.mpr c4
      have c4b1 : (t258 != 0) = true := bne_iff_ne.mpr c4
      obtain rfl := Option.some.inj H
      go_enter Try.func43, Try.ntmps43
      go_wp2_with (first | ((with_reducible refine gate_dst (N := 7) rfl ?_); (try (refine gate_guard (by rfl) ?_; dsimp only)); refine Kd.R_lit (Kd.int .u8) _ 5 ?hg (N := 7) ?hd (xs := ([7] : List Int)) (inner := [.int .u8 7]) (ok := fun _ => True) (okp := fun _ => True) ?hr ?hp (fun _ hk => hk) trivial (Below.refl _ _) (Nat.le_refl _) (by simp) ?_; (case hd => rfl); (case hg => rfl); (case hr => first | (go_simp; done) | (go_simp; rfl)); (case hp => exact (Reps.one (show Kd.M (Kd.int .u8) _ _ _ 7 [.int .u8 7] from rfl) (Reps.none _ _))); intro v250 w43 ho44 hb hg_ hnew_; clear hg_ hnew_; (first | rw [← Ny249.out] at ho44 | (simp only [Int.reduceToNat] at ho44; rw [← Ny249.out] at ho44)); have n0_ := Aside0.mk (Kd.R_lower ho44 (below_size (by repeat (first | (with_reducible first | exact HB.out | apply below_alloc | apply pw_below_drewN | apply below_drew1) | exact HB.out)))); have n1_ := Aside0.mk (below_step (by repeat (first | (with_reducible first | exact HB.out | apply below_alloc | apply pw_below_drewN | apply below_drew1) | exact HB.out)) hb); clear HB; have HO251 := n0_; have HB := n1_; clear n0_ n1_; clear hb ho44; obtain ⟨Ao45, co45, eo45⟩ := Kd.R_slice HO251.out; subst eo45) | ((with_reducible refine gate_callee (f := 44) rfl ?_); refine goesL_ (some 8) rfl rfl Try.func44 (by kernel_rfl) rfl #[.slice Ao45 y249.length co45] rfl (by (try simp only [List.map_toArray, List.map_cons, List.map_nil]); first | done | rfl | (simp only [List.length_drop, List.length_take]; rfl)) ?_; (with_reducible refine (frame_Put.calls _ _ y249 t252 t253 _ ?side1 ?side2 A1.out).mono ?_); (case side1 => repeat (first | exact (Kd.R_reads' HO251.out).2.2 | (with_reducible refine Kd.C_alloc ?_ _) | (with_reducible refine Kd.C_drewN ?_ _) | (with_reducible refine Kd.C_drew ?_))); (case side2 => exact (Kd.R_reads' HO251.out).2.1); rintro e w46 ⟨v254, rfl, ho0, hb⟩; refine ⟨_, rfl, ?_⟩; have n0_ := Aside0.mk (Kd.R_elder' (by (with_reducible repeat (first | apply Kd.R_alloc | apply Kd.R_drewN | apply Kd.R_drew)); exact HO251.out) (Kd.R_base ho0) hb); have n1_ := Aside0.mk (Kd.R_lower (Kd.R_new' ho0 (Kd.R_lt (by (with_reducible repeat (first | apply Kd.R_alloc | apply Kd.R_drewN | apply Kd.R_drew)); exact HO251.out))) (below_size (by repeat (first | (with_reducible first | exact HB.out | apply below_alloc | apply pw_below_drewN | apply below_drew1) | exact HB.out)))); have n2_ := Aside0.mk (below_step (by repeat (first | (with_reducible first | exact HB.out | apply below_alloc | apply pw_below_drewN | apply below_drew1) | exact HB.out)) hb); clear HO251; clear HB; have HO251 := n0_; have HO255 := n1_; have HB := n2_; clear n0_ n1_ n2_; (try clear hb); (try clear hb2); (try clear hk); (try clear hi); (try clear ho0); obtain ⟨Ao47, co47, eo47⟩ := Kd.R_slice HO255.out; subst eo47) | ((with_reducible refine gate_callee (f := 46) rfl ?_); refine goesL_ (some 13) rfl rfl Try.func46 (by kernel_rfl) rfl #[.slice Ao47 t252.length co47] rfl (by (try simp only [List.map_toArray, List.map_cons, List.map_nil]); first | done | rfl | (simp only [List.length_drop, List.length_take]; rfl)) ?_; (with_reducible refine (frame_Take.calls _ _ t252 t256 t257 t258 _ ?side1 ?side2 A2.out).mono ?_); (case side1 => repeat (first | exact (Kd.R_reads' HO255.out).2.2 | (with_reducible refine Kd.C_alloc ?_ _) | (with_reducible refine Kd.C_drewN ?_ _) | (with_reducible refine Kd.C_drew ?_))); (case side2 => exact (Kd.R_reads' HO255.out).2.1); rintro e w48 ⟨v259, rfl, ho0, hb⟩; refine ⟨_, rfl, ?_⟩; have n0_ := Aside0.mk (Kd.R_elder' (by (with_reducible repeat (first | apply Kd.R_alloc | apply Kd.R_drewN | apply Kd.R_drew)); exact HO251.out) (Kd.R_base ho0) hb); have n1_ := Aside0.mk (Kd.R_elder' (by (with_reducible repeat (first | apply Kd.R_alloc | apply Kd.R_drewN | apply Kd.R_drew)); exact HO255.out) (Kd.R_base ho0) hb); have n2_ := Aside0.mk (Kd.R_lower (Kd.R_new' (Kd.R_new' ho0 (Kd.R_lt (by (with_reducible repeat (first | apply Kd.R_alloc | apply Kd.R_drewN | apply Kd.R_drew)); exact HO251.out))) (Kd.R_lt (by (with_reducible repeat (first | apply Kd.R_alloc | apply Kd.R_drewN | apply Kd.R_drew)); exact HO255.out))) (below_size (by repeat (first | (with_reducible first | exact HB.out | apply below_alloc | apply pw_below_drewN | apply below_drew1) | exact HB.out)))); have n3_ := Aside0.mk (below_step (by repeat (first | (with_reducible first | exact HB.out | apply below_alloc | apply pw_below_drewN | apply below_drew1) | exact HB.out)) hb); clear HO251; clear HO255; clear HB; have HO251 := n0_; have HO255 := n1_; have HO260 := n2_; have HB := n3_; clear n0_ n1_ n2_ n3_; (try clear hb); (try clear hb2); (try clear hk); (try clear hi); (try clear ho0)))
      go_ret
      exact ⟨by first | rfl | (simp [errW_none, errW_some] <;> rfl) | (simp [*, errW_none, errW_some] <;> rfl), by repeat (first | (with_reducible first | exact HB.out | apply below_alloc | apply pw_below_drewN | apply below_drew1) | exact HB.out)⟩
  · rw [if_neg c3] at H
    have c3b0 : (t253 == 0) = false := beq_eq_false_iff_ne.mpr c3
    have c3b1 : (t253 != 0) = true := bne_iff_ne.mpr c3
    obtain rfl := Option.some.inj H
    go_enter Try.func43, Try.ntmps43
    go_wp2_with (first | ((with_reducible refine gate_dst (N := 7) rfl ?_); (try (refine gate_guard (by rfl) ?_; dsimp only)); refine Kd.R_lit (Kd.int .u8) _ 5 ?hg (N := 7) ?hd (xs := ([7] : List Int)) (inner := [.int .u8 7]) (ok := fun _ => True) (okp := fun _ => True) ?hr ?hp (fun _ hk => hk) trivial (Below.refl _ _) (Nat.le_refl _) (by simp) ?_; (case hd => rfl); (case hg => rfl); (case hr => first | (go_simp; done) | (go_simp; rfl)); (case hp => exact (Reps.one (show Kd.M (Kd.int .u8) _ _ _ 7 [.int .u8 7] from rfl) (Reps.none _ _))); intro v250 w49 ho50 hb hg_ hnew_; clear hg_ hnew_; (first | rw [← Ny249.out] at ho50 | (simp only [Int.reduceToNat] at ho50; rw [← Ny249.out] at ho50)); have n0_ := Aside0.mk (Kd.R_lower ho50 (below_size (by repeat (first | (with_reducible first | exact HB.out | apply below_alloc | apply pw_below_drewN | apply below_drew1) | exact HB.out)))); have n1_ := Aside0.mk (below_step (by repeat (first | (with_reducible first | exact HB.out | apply below_alloc | apply pw_below_drewN | apply below_drew1) | exact HB.out)) hb); clear HB; have HO251 := n0_; have HB := n1_; clear n0_ n1_; clear hb ho50; obtain ⟨Ao51, co51, eo51⟩ := Kd.R_slice HO251.out; subst eo51) | ((with_reducible refine gate_callee (f := 44) rfl ?_); refine goesL_ (some 8) rfl rfl Try.func44 (by kernel_rfl) rfl #[.slice Ao51 y249.length co51] rfl (by (try simp only [List.map_toArray, List.map_cons, List.map_nil]); first | done | rfl | (simp only [List.length_drop, List.length_take]; rfl)) ?_; (with_reducible refine (frame_Put.calls _ _ y249 t252 t253 _ ?side1 ?side2 A1.out).mono ?_); (case side1 => repeat (first | exact (Kd.R_reads' HO251.out).2.2 | (with_reducible refine Kd.C_alloc ?_ _) | (with_reducible refine Kd.C_drewN ?_ _) | (with_reducible refine Kd.C_drew ?_))); (case side2 => exact (Kd.R_reads' HO251.out).2.1); rintro e w52 ⟨v254, rfl, ho0, hb⟩; refine ⟨_, rfl, ?_⟩; have n0_ := Aside0.mk (Kd.R_elder' (by (with_reducible repeat (first | apply Kd.R_alloc | apply Kd.R_drewN | apply Kd.R_drew)); exact HO251.out) (Kd.R_base ho0) hb); have n1_ := Aside0.mk (Kd.R_lower (Kd.R_new' ho0 (Kd.R_lt (by (with_reducible repeat (first | apply Kd.R_alloc | apply Kd.R_drewN | apply Kd.R_drew)); exact HO251.out))) (below_size (by repeat (first | (with_reducible first | exact HB.out | apply below_alloc | apply pw_below_drewN | apply below_drew1) | exact HB.out)))); have n2_ := Aside0.mk (below_step (by repeat (first | (with_reducible first | exact HB.out | apply below_alloc | apply pw_below_drewN | apply below_drew1) | exact HB.out)) hb); clear HO251; clear HB; have HO251 := n0_; have HO255 := n1_; have HB := n2_; clear n0_ n1_ n2_; (try clear hb); (try clear hb2); (try clear hk); (try clear hi); (try clear ho0); obtain ⟨Ao53, co53, eo53⟩ := Kd.R_slice HO255.out; subst eo53) | ((with_reducible refine gate_callee (f := 46) rfl ?_); refine goesL_ (some 13) rfl rfl Try.func46 (by kernel_rfl) rfl #[.slice Ao53 t252.length co53] rfl (by (try simp only [List.map_toArray, List.map_cons, List.map_nil]); first | done | rfl | (simp only [List.length_drop, List.length_take]; rfl)) ?_; (with_reducible refine (frame_Take.calls _ _ t252 t256 t257 t258 _ ?side1 ?side2 A2.out).mono ?_); (case side1 => repeat (first | exact (Kd.R_reads' HO255.out).2.2 | (with_reducible refine Kd.C_alloc ?_ _) | (with_reducible refine Kd.C_drewN ?_ _) | (with_reducible refine Kd.C_drew ?_))); (case side2 => exact (Kd.R_reads' HO255.out).2.1); rintro e w54 ⟨v259, rfl, ho0, hb⟩; refine ⟨_, rfl, ?_⟩; have n0_ := Aside0.mk (Kd.R_elder' (by (with_reducible repeat (first | apply Kd.R_alloc | apply Kd.R_drewN | apply Kd.R_drew)); exact HO251.out) (Kd.R_base ho0) hb); have n1_ := Aside0.mk (Kd.R_elder' (by (with_reducible repeat (first | apply Kd.R_alloc | apply Kd.R_drewN | apply Kd.R_drew)); exact HO255.out) (Kd.R_base ho0) hb); have n2_ := Aside0.mk (Kd.R_lower (Kd.R_new' (Kd.R_new' ho0 (Kd.R_lt (by (with_reducible repeat (first | apply Kd.R_alloc | apply Kd.R_drewN | apply Kd.R_drew)); exact HO251.out))) (Kd.R_lt (by (with_reducible repeat (first | apply Kd.R_alloc | apply Kd.R_drewN | apply Kd.R_drew)); exact HO255.out))) (below_size (by repeat (first | (with_reducible first | exact HB.out | apply below_alloc | apply pw_below_drewN | apply below_drew1) | exact HB.out)))); have n3_ := Aside0.mk (below_step (by repeat (first | (with_reducible first | exact HB.out | apply below_alloc | apply pw_below_drewN | apply below_drew1) | exact HB.out)) hb); clear HO251; clear HO255; clear HB; have HO251 := n0_; have HO255 := n1_; have HO260 := n2_; have HB := n3_; clear n0_ n1_ n2_ n3_; (try clear hb); (try clear hb2); (try clear hk); (try clear hi); (try clear ho0)))
    go_ret
    exact ⟨by first | rfl | (simp [errW_none, errW_some] <;> rfl) | (simp [*, errW_none, errW_some] <;> rfl), by repeat (first | (with_reducible first | exact HB.out | apply below_alloc | apply pw_below_drewN | apply below_drew1) | exact HB.out)⟩

end Go.Proofs.Ytalpemoodollpaa.P
-- Printed by hookprint.py (the session's own program, over the kit's print.py): checked by Lean like any text.
namespace Go.Proofs.Ytalpemoodollpaa.P
open Go.RowKit Go.Proofs.YtalpemoodollpaaW.PrintWords Go.Proofs.YtalpemoodollpaaW.PrintLast Go.Proofs.YtalpemoodollpaaW.PrintMore
attribute [local go_sem] max2_int min2_int max_two min_two max_three min_three max_four min_four   -- for this text's walks alone
set_option linter.unusedVariables false
set_option linter.unusedSimpArgs false

/-! ### damperref04_Put: function 45 -/
def damperref04_Put.f (k : Nat) (l0 : List Int) : Option (List Int × Int) := if (l0.length : Int) > 64 then (some (([] : List Int), 9)) else ((damperref03_Uint.f k (IntKind.u64.wrap ((l0.length : Int))) 2).bind fun t263 => (if t263.length + l0.length < 140737488355328 then (some ((t263 ++ l0), 0)) else (none)))
theorem damperref04_Put.mono : ∀ a0 k, LeO (damperref04_Put.f k a0) (damperref04_Put.f (k + 1) a0) := by
  intro a0 k
  unfold damperref04_Put.f
  repeat' first
      | (with_reducible exact damperref03_Uint.mono _ _ _)
      | (with_reducible exact LeO.refl _)
      | (with_reducible exact LeO.none _)
      | (with_reducible refine LeO.ite ?_ ?_)
      | (with_reducible refine LeO.bind ?_ (fun _ => ?_))
      | exact damperref03_Uint.mono _ _ _
      | exact LeO.none _
      | refine LeO.ite ?_ ?_
      | refine LeO.bind ?_ (fun _ => ?_)
set_option maxHeartbeats 8000000 in
set_option maxRecDepth 100000 in
theorem damperref04_Put.calls (k : Nat) (A0 : Option Addr) (c0 : Nat) (l0 : List Int) (r1 : List Int) (r2 : Int) (w : World) (hr0 : Kd.C (Kd.int .u8) w A0 l0.length l0) (hc0 : l0.length ≤ c0) (h : damperref04_Put.f k l0 = some (r1, r2)) :
    Calls Try.prog 45 #[.slice A0 l0.length c0] w fun e w' => ∃ v0_ : Value, e = .returned (.tuple #[v0_, .int .i64 r2]) ∧ Kd.R (Kd.int .u8) 5 w' w.heap.size (fun _ => True) v0_ r1 ∧ Below w.heap.size w w' := by
  have HR0 := Aside0.mk hr0
  have HC0 := Aside0.mk hc0
  clear hr0 hc0
  have HB := Aside0.mk (Below.refl w.heap.size w)
  have H : (if (l0.length : Int) > 64 then (some (([] : List Int), 9)) else ((damperref03_Uint.f k (IntKind.u64.wrap ((l0.length : Int))) 2).bind fun t263 => (if t263.length + l0.length < 140737488355328 then (some ((t263 ++ l0), 0)) else (none)))) = some (r1, r2) := h
  clear h
  by_cases c2 : (l0.length : Int) > 64
  · rw [if_pos c2] at H
    have c2b0 : decide (64 < (l0.length : Int)) = true := decide_eq_true c2
    have c2b1 : decide (64 < l0.length) = true := decide_eq_true (by omega)
    clear c2
    simp only [Option.some.injEq, Prod.mk.injEq] at H
    obtain ⟨rfl, rfl⟩ := H
    go_enter Try.func45, Try.ntmps45
    go_wp2
    go_ret2
    exact ⟨_, by first | rfl | (simp [errW_none, errW_some] <;> rfl) | (simp [*, errW_none, errW_some] <;> rfl), by first | exact Kd.R_nil _ _ _ _ _ | exact Kd.N_nil _ _ _ _ _ | exact Kd.V_nil _ _ _ _ _ | exact Kd.Q_nil _ _ _ _ _ | exact Kd.S_nil _ _ _ _ _, by repeat (first | (with_reducible first | exact HB.out | apply below_alloc | apply pw_below_drewN | apply below_drew1) | exact HB.out)⟩
  · rw [if_neg c2] at H
    have c2b0 : decide (64 < (l0.length : Int)) = false := decide_eq_false c2
    have c2b1 : decide (64 < l0.length) = false := decide_eq_false (by omega)
    clear c2
    replace H := Option.bind_eq_some_iff.mp H
    obtain ⟨t263, A30, H⟩ := H
    replace H : (if t263.length + l0.length < 140737488355328 then (some ((t263 ++ l0), 0)) else (none)) = some (r1, r2) := H
    have A3 := Aside0.mk A30
    clear A30
    by_cases c4 : t263.length + l0.length < 140737488355328
    · rw [if_pos c4] at H
      have LMc4 := Aside0.mk c4
      clear c4
      obtain ⟨y266, hy266⟩ : ∃ y_ : List Int, y_ = (t263 ++ l0) := ⟨_, rfl⟩
      replace H : (some (y266, 0)) = some (r1, r2) := by first | (rw [hy266]; with_reducible exact H) | (have H2_ := (Option.bind_some _ _).symm.trans H; rw [hy266]; with_reducible exact H2_) | (have H2_ := (Option.bind_some _ _).symm.trans H; with_reducible exact H2_) | with_reducible exact H | (rw [hy266]; exact H) | exact H
      have Ny266 := Aside0.mk hy266
      clear hy266
      simp only [Option.some.injEq, Prod.mk.injEq] at H
      obtain ⟨rfl, rfl⟩ := H
      go_enter Try.func45, Try.ntmps45
      go_wp2_with (first | ((with_reducible refine gate_callee (f := 101) rfl ?_); refine goesL_ (some 10) rfl rfl Try.func101 (by kernel_rfl) rfl #[.int .u64 (IntKind.u64.wrap ((l0.length : Int))), .int .i64 2] rfl (by (try simp only [List.map_toArray, List.map_cons, List.map_nil]); first | done | rfl | (simp only [List.length_drop, List.length_take]; rfl)) ?_; (with_reducible refine (damperref03_Uint.calls k (IntKind.u64.wrap ((l0.length : Int))) 2 t263 _ A3.out).mono ?_); rintro e w5 ⟨v264, rfl, ho0, hb⟩; refine ⟨_, rfl, ?_⟩; have n0_ := Aside0.mk (Kd.R_lower ho0 (below_size (by repeat (first | (with_reducible first | exact HB.out | apply below_alloc | apply pw_below_drewN | apply below_drew1) | exact HB.out)))); have n1_ := Aside0.mk (below_step (by repeat (first | (with_reducible first | exact HB.out | apply below_alloc | apply pw_below_drewN | apply below_drew1) | exact HB.out)) hb); clear HB; have HO265 := n0_; have HB := n1_; clear n0_ n1_; (try clear hb); (try clear hb2); (try clear hk); (try clear hi); (try clear ho0)) | ((with_reducible refine gate_builtin (b := .append) (xs := #[.tmp 10, .tmp 11]) rfl ?_); at_builtin; refine Kd.R_append_rows (Kd.int .u8) (w0 := w) w.heap.size rfl (.tmp 10) (.tmp 11) 30 5 (.int .u8 0) 1 rfl Try.underlying30 info5 rfl (by decide) (by omega) v264 t263 l0 _ _ _ (fun _ => True) (fun _ => False) rfl rfl ?aO ?aR (fun _ _ h => h) (fun _ h => h.elim) ?aF ?aB ?aS ?aL ?_; (case aR => repeat (first | exact (Kd.C_below HR0.out HB.out) | (with_reducible refine Kd.C_alloc ?_ _) | (with_reducible refine Kd.C_drewN ?_ _) | (with_reducible refine Kd.C_drew ?_))); (case aB => exact (by repeat (first | (with_reducible first | exact HB.out | apply below_alloc | apply pw_below_drewN | apply below_drew1) | exact HB.out))); (case aF => exact (fun _ _ => trivial)); (case aO => exact (by (with_reducible repeat (first | apply Kd.R_alloc | apply Kd.R_drewN | apply Kd.R_drew)); exact HO265.out)); (case aS => exact (below_size (by repeat (first | (with_reducible first | exact HB.out | apply below_alloc | apply pw_below_drewN | apply below_drew1) | exact HB.out)))); (case aL => have := LMc4.out; omega); intro v267 w6 ho hb hg hat; rw [← Ny266.out] at ho; have n0_ := Aside0.mk (hb); have n1_ := Aside0.mk (ho); clear HB; clear HO265; have HB := n0_; have HO268 := n1_; clear n0_ n1_; clear ho hb hg hat))
      go_ret2
      exact ⟨_, by first | rfl | (simp [errW_none, errW_some] <;> rfl) | (simp [*, errW_none, errW_some] <;> rfl), by (with_reducible repeat (first | apply Kd.R_alloc | apply Kd.R_drewN | apply Kd.R_drew)); exact HO268.out, by repeat (first | (with_reducible first | exact HB.out | apply below_alloc | apply pw_below_drewN | apply below_drew1) | exact HB.out)⟩
    · rw [if_neg c4] at H
      exact absurd H (by simp)

end Go.Proofs.Ytalpemoodollpaa.P
/- Frames: the walk of FrameTakes. -/
namespace Go.Proofs.Ytalpemoodollpaa.P
open Go.RowKit Go.Proofs.YtalpemoodollpaaW.PrintWords Go.Proofs.YtalpemoodollpaaW.PrintLast Go.Proofs.YtalpemoodollpaaW.PrintMore
set_option linter.unusedVariables false
set_option linter.unusedSimpArgs false
theorem refPut (l : List Int) (k : Nat) (hk : 12 ≤ k) : damperref04_Put.f k l = some (if l.length ≤ 64 then (uintForm l.length 2 ++ l, 0) else ([], 9)) := by
  unfold damperref04_Put.f
  by_cases h : l.length ≤ 64
  · have e : IntKind.u64.wrap (l.length : Int) = (l.length : Int) := by rw [wrap_u64]; omega
    rw [if_neg (by omega), if_pos h, e, refUint _ 2 (by omega) (by omega) (by omega) (by omega) k hk]
    simp only [Option.bind_some, Int.toNat_natCast, uintForm_length, show (2 : Int).toNat = 2 from rfl]
    rw [if_pos (by omega)]
  · rw [if_pos (by omega), if_neg h]
theorem alive04 : damperlaw04_alive.f = some true := by
  have h1 : frame_Put.f [7] = some ([0, 1, 7], 0) := by
    unfold frame_Put.f
    decide
  have h2 : frame_Take.f [0, 1, 7] = some ([7], 3, 0) := by
    unfold frame_Take.f
    decide
  unfold damperlaw04_alive.f
  rw [h1]
  simp only [Option.bind_some, h2]
  decide
theorem byt_bytB {l : List Int} (h : Byt l) : bytB l = true := by
  unfold bytB
  simpa [Byt] using h
theorem alive04_calls (w : World) : Calls Try.prog 43 #[] w fun e w' => e = .returned (.bool true) ∧ Below w.heap.size w w' := damperlaw04_alive.calls true w alive04
set_option maxRecDepth 100000 in
set_option maxHeartbeats 2000000 in
theorem frameTakes_calls (A0 : Option Addr) (c0 : Nat) (l0 : List Int) (A1 : Option Addr) (c1 : Nat) (l1 : List Int) (w : World) (hr0 : Kd.C (Kd.int .u8) w A0 l0.length l0) (hc0 : l0.length ≤ c0)
    (hr1 : Kd.C (Kd.int .u8) w A1 l1.length l1) (hc1 : l1.length ≤ c1) (hb : Byt l1) :
    Calls Try.prog 7 #[.slice A0 l0.length c0, .slice A1 l1.length c1] w fun e w' => e = .returned (.bool true) ∧ Below w.heap.size w w' := by
  have HR0 := Aside0.mk hr0
  have HR1 := Aside0.mk hr1
  have HC0 := Aside0.mk hc0
  have HC1 := Aside0.mk hc1
  have HB := Aside0.mk hb
  have hx := hr0.2.1
  have hy := hr1.2.1
  clear hr0 hr1 hc0 hc1 hb
  by_cases hbig : 200 < l0.length ∨ 400 < l1.length
  · have HA := Aside0.mk (alive04_calls)
    go_enter Try.func7, Try.ntmps7
    by_cases hb0 : 200 < l0.length
    · go_wp2_with fail
      refine (HA.out _).mono ?_
      rintro e w1 ⟨rfl, hb1⟩
      go_wp2
      go_ret
      exact ⟨rfl, hb1⟩
    · have hb1 : 400 < l1.length := hbig.resolve_left hb0
      go_wp2_with fail
      refine (HA.out _).mono ?_
      rintro e w1 ⟨rfl, hb1⟩
      go_wp2
      go_ret
      exact ⟨rfl, hb1⟩
  · have hs0 : l0.length ≤ 200 := by omega
    have hs1 : l1.length ≤ 400 := by omega
    clear hbig hx hy
    have HBIG := Aside0.mk hs1
    have hput : frame_Put.f l0 = some (if l0.length ≤ 64 then (uintForm l0.length 2 ++ l0, 0) else ([], 9)) := rfl
    have hrput := refPut l0 12 (by omega)
    have htake : frame_Take.f l1 = some (takeF l1) := by
      unfold frame_Take.f
      rw [if_pos ⟨byt_bytB HB.out, by omega⟩]
    have hrtake := fun w (h1 : Kd.C (Kd.int .u8) w A1 l1.length l1) => refTake_calls A1 c1 l1 w h1 HC1.out HB.out (by omega)
    revert hput hrput htake hrtake
    generalize (if l0.length ≤ 64 then (uintForm l0.length 2 ++ l0, (0 : Int)) else ([], 9)) = P
    generalize takeF l1 = T
    obtain ⟨px, pf⟩ := P
    obtain ⟨tx, tn, tf⟩ := T
    intro hput hrput htake hrtake
    have H1 := Aside0.mk hput
    have H2 := Aside0.mk hrput
    have H3 := Aside0.mk htake
    have H4 := Aside0.mk hrtake
    have HA := Aside0.mk (alive04_calls)
    clear hput hrput htake hrtake
    go_enter Try.func7, Try.ntmps7
    go_wp2_with fail
    refine (frame_Put.calls A0 c0 l0 px pf w HR0.out HC0.out H1.out).mono ?_
    rintro e w1 ⟨v1, rfl, hR, hb⟩
    obtain ⟨X1, x1, rfl, hq, hC⟩ := Kd.R_reads hR
    have CX := Aside0.mk hC
    have QX := Aside0.mk hq
    have B1 := Aside0.mk hb
    have G0 := Aside0.mk (Kd.C_below HR0.out hb)
    have G1 := Aside0.mk (Kd.C_below HR1.out hb)
    clear hR hb hC hq HR0 HR1
    go_wp2_with fail
    refine (damperref04_Put.calls 12 A0 c0 l0 px pf w1 G0.out HC0.out H2.out).mono ?_
    rintro e w2 ⟨v2, rfl, hR, hb⟩
    obtain ⟨X2, x2, rfl, hq, hC⟩ := Kd.R_reads hR
    have CY := Aside0.mk hC
    have QY := Aside0.mk hq
    have CX2 := Aside0.mk (Kd.C_below CX.out hb)
    have B2 := Aside0.mk (B1.out.trans (Below.mono hb B1.out.size))
    have G2 := Aside0.mk (Kd.C_below G1.out hb)
    clear hR hb hC hq G0 G1 CX B1 H1 H2
    go_wp2_with fail
    refine (frame_Take.calls A1 c1 l1 tx tn tf w2 G2.out HC1.out H3.out).mono ?_
    rintro e w3 ⟨v3, rfl, hR, hb⟩
    obtain ⟨X3, x3, rfl, hq, hC⟩ := Kd.R_reads hR
    have CU := Aside0.mk hC
    have QU := Aside0.mk hq
    have CX3 := Aside0.mk (Kd.C_below CX2.out hb)
    have CY3 := Aside0.mk (Kd.C_below CY.out hb)
    have B3 := Aside0.mk (B2.out.trans (Below.mono hb B2.out.size))
    have G3 := Aside0.mk (Kd.C_below G2.out hb)
    clear hR hb hC hq G2 CX2 CY B2 H3
    go_wp2_with fail
    refine (H4.out w3 G3.out).mono ?_
    rintro e w4 ⟨X4, x4, rfl, hC, hq, hb⟩
    have CV := Aside0.mk hC
    have QV := Aside0.mk hq
    have CX4 := Aside0.mk (Kd.C_below CX3.out hb)
    have CY4 := Aside0.mk (Kd.C_below CY3.out hb)
    have CU4 := Aside0.mk (Kd.C_below CU.out hb)
    have B4 := Aside0.mk (B3.out.trans (Below.mono hb B3.out.size))
    clear hb hC hq G3 CX3 CY3 CU B3 H4
    go_wp2_with fail
    refine (damperref03_Same.calls X1 x1 px X2 x2 px true w4 CX4.out QX.out CY4.out QY.out (same_of_eq px)).mono ?_
    rintro e w5 ⟨rfl, hd⟩
    have B5 := Aside0.mk (Below.trans B4.out (Below.mono hd.below B4.out.size))
    have CU5 := Aside0.mk (Kd.C_below CU4.out hd.below)
    have CV5 := Aside0.mk (Kd.C_below CV.out hd.below)
    clear hd CX4 CY4 CU4 CV B4 QX QY
    go_wp2_with fail
    refine (damperref03_Same.calls X3 x3 tx X4 x4 tx true w5 CU5.out QU.out CV5.out QV.out (same_of_eq tx)).mono ?_
    rintro e w6 ⟨rfl, hd⟩
    have B6 := Aside0.mk (Below.trans B5.out (Below.mono hd.below B5.out.size))
    clear hd CU5 CV5 B5 QU QV
    go_wp2_with fail
    refine (HA.out w6).mono ?_
    rintro e w7 ⟨rfl, hd⟩
    have B7 := Aside0.mk (Below.trans B6.out (Below.mono hd B6.out.size))
    clear hd
    go_wp2
    go_ret
    exact ⟨rfl, B7.out⟩
theorem byt_wf {l : List Int} (h : ∀ y ∈ l, (Lit.int .u8 y).wf = true) : Byt l := fun b hb => by
  have := bounds_u8 (h b hb)
  omega
end Go.Proofs.Ytalpemoodollpaa.P
/- The walk of FrameCuts. -/
namespace Go.Proofs.Ytalpemoodollpaa.P
open Go.RowKit Go.Proofs.YtalpemoodollpaaW.PrintWords Go.Proofs.YtalpemoodollpaaW.PrintLast Go.Proofs.YtalpemoodollpaaW.PrintMore
set_option linter.unusedVariables false
set_option linter.unusedSimpArgs false
attribute [local go_sem] max2_int min2_int max_two min_two
structure FC (wz wr : World) (g : Nat) (row : Option Nat) (done : List Int) (u10 : Value) : Prop where
  js : JS wr g row (joinS done).1 (joinS done).2
  hR : Kd.R (Kd.slice 5 (Kd.int .u8)) 30 wr wz.heap.size (fun k => row ≠ some k) u10 (frames done).1
  fr : Fr wz wr (fun k => k = g)
  hg : g < wz.heap.size
  rge : ∀ k, row = some k → wz.heap.size ≤ k
/-- The joiner has told; what it told is not yet appended. -/
structure FM (wz wr w3 : World) (g : Nat) (row' : Option Nat) (done x : List Int) (u10 : Value) : Prop where
  js : JS w3 g row' (joinS (done ++ x)).1 (joinS (done ++ x)).2
  hR : Kd.R (Kd.slice 5 (Kd.int .u8)) 30 w3 wz.heap.size (fun k => row' ≠ some k) u10 (frames done).1
  fr : Fr wz w3 (fun k => k = g)
  hg : g < wz.heap.size
  rge : ∀ k, row' = some k → wz.heap.size ≤ k ∧ k < w3.heap.size
  own : ∀ k, u10.ownBlock = some k → wz.heap.size ≤ k ∧ k < wr.heap.size ∧ row' ≠ some k
  sz : wr.heap.size ≤ w3.heap.size
theorem FC.add {wz wr w3 : World} {g : Nat} {row row' : Option Nat} {done x : List Int} {u10 : Value} (h : FC wz wr g row done u10) (hp : JP wr g row row' (joinS (done ++ x)) w3) : FM wz wr w3 g row' done x u10 := by
  obtain ⟨hj, hr, hf⟩ := hp
  have hb := Kd.R_bound h.hR
  have hkeep : ∀ k, (row ≠ some k ∧ wz.heap.size ≤ k ∧ k < wr.heap.size ∧ ∃ q, q ∈ 30 :: (Kd.slice 5 (Kd.int .u8)).E ∧ ∃ cells, wr.heap[k]? = some (.cells cells q (0, 0))) → row' ≠ some k := by
    rintro k ⟨h1, _, h3, _⟩ e
    rcases hr k e with e2 | e2
    · exact h1 e2
    · omega
  have hlt : ∀ k, row' = some k → k < w3.heap.size := fun k hk => by
    obtain ⟨v, _, e, ho⟩ := hj
    exact own_lt ho k (by rw [e]; exact hk)
  refine ⟨hj, Kd.R_mono (Kd.R_step hb ?_) hkeep, h.fr.trans hf ?_, h.hg, fun k hk => ⟨?_, hlt k hk⟩, fun k hk => ?_, hf.size⟩
  · rintro k ⟨h1, h2, h3, _⟩ _
    refine hf.block k h3 ?_
    rintro (e | e)
    · have := h.hg; omega
    · exact h1 e
  · rintro k hk (e | e)
    · exact e
    · have := h.rge k e; omega
  · rcases hr k hk with e | e
    · exact h.rge k e
    · exact Nat.le_trans h.fr.size e
  · have := hb.1 k hk
    exact ⟨this.2.1, this.2.2.1, hkeep k this⟩
theorem FM.next {wz wr w3 w4 : World} {g : Nat} {row' : Option Nat} {done x : List Int} {u10 v1 : Value} (h : FM wz wr w3 g row' done x u10) {out : List (List Int)} (ho : (frames done).1 ++ out = (frames (done ++ x)).1)
    (hR : Kd.R (Kd.slice 5 (Kd.int .u8)) 30 w4 wz.heap.size (fun k => row' ≠ some k) v1 ((frames done).1 ++ out)) (hg : w3.grownBy w4 u10.ownBlock) : FC wz w4 g row' (done ++ x) v1 := by
  have hfr : Fr w3 w4 (fun k => u10.ownBlock = some k) := (Fr.refl w3 _).grown hg (fun k _ e => e)
  refine ⟨h.js.fr hfr (fun e => by have := (h.own g e).1; have := h.hg; omega) (fun k hk e => (h.own k e).2.2 hk), by rw [← ho]; exact hR, h.fr.trans hfr (fun k hk e => by have := (h.own k e).1; omega), h.hg, fun k hk => (h.rge k hk).1⟩
/-- What is appended, read as it was made. -/
theorem FM.rows {w3 : World} {base : Nat} {row' : Option Nat} {v : Value} {out : List (List Int)} (hR : Kd.R (Kd.slice 5 (Kd.int .u8)) 30 w3 base (fun k => row' ≠ some k) v out) :
    ∃ X m, v = .slice X out.length m ∧ ReadsRow (fun x cs => (Kd.slice 5 (Kd.int .u8)).M w3 base (fun k => base ≤ k ∧ row' ≠ some k) x cs) 1 w3 X out.length out := by
  obtain ⟨h0, inner, ho, hr⟩ := hR
  obtain ⟨X, m, e, h⟩ := own_reads_row ho hr rfl
  exact ⟨X, m, e, ReadsRow.imp_ h (Below.refl _ _) (fun x cs hx => (Kd.slice 5 (Kd.int .u8)).M_mono (fun k hk => ⟨hk.2.1, hk.1.1⟩) ((Kd.slice 5 (Kd.int .u8)).M_bound hx))⟩
theorem putAll_snoc (l : List (List Int)) (x : List Int) : putAll (l ++ [x]) = putAll l ++ putF x := by simp [putAll]
theorem take_succL (l : List (List Int)) (i : Nat) (h : i < l.length) : l.take (i + 1) = l.take i ++ [rd_L4 l (i : Int)] := by
  rw [List.take_succ_eq_append_getElem h, rd_L4, Int.toNat_natCast, List.getD_eq_getElem?_getD, List.getElem?_eq_getElem h]
  rfl
theorem rd_memL (l : List (List Int)) (i : Nat) (h : i < l.length) : rd_L4 l (i : Int) ∈ l := by
  rw [rd_L4, Int.toNat_natCast, List.getD_eq_getElem?_getD, List.getElem?_eq_getElem h]
  exact List.getElem_mem h
/-- 'all[:n]'. -/
theorem take_ (A : Option Addr) (l : List Int) (c n : Nat) (hn : n ≤ l.length) (hc : l.length ≤ c) :
    (∀ W : World, (Instr.slice 30 (.slice A l.length c) none (some (.int .i64 (n : Int))) none).run Try.prog W = .ok (.slice A n c) W) ∧
      ∀ w, Kd.C (Kd.int .u8) w A l.length l → Kd.C (Kd.int .u8) w A n (l.take n) := by
  obtain ⟨i5, hi5⟩ : ∃ i, Try.prog.info? 5 = some i := Option.isSome_iff_exists.1 (by kernel_rfl)
  have hl : (l.take ((n : Int)).toNat).length = n := by rw [Int.toNat_natCast, List.length_take]; omega
  obtain ⟨hcut, hrd, _⟩ := print_take_int (k := .u8) 30 5 Try.underlying30 hi5 (by have h := info5; rw [hi5] at h; simp at h; exact h.2.1) A c l (n : Int) (by omega) (by omega) hc
  refine ⟨fun W => by have := hcut W; rw [hl] at this; exact this, fun w h => ?_⟩
  have := hrd w (Kd.reads_of_C (d := (0 : Int)) h)
  rw [hl, Int.toNat_natCast] at this
  exact Kd.C_of_reads (d := (0 : Int)) (h1 := fun _ => rfl) this
set_option maxRecDepth 100000 in
set_option maxHeartbeats 4000000 in
theorem frameCuts_calls (A0 : Option Addr) (c0 : Nat) (ls : List (List Int)) (A1 : Option Addr) (c1 : Nat) (cs : List Int) (w : World) (hr0 : Kd.C (Kd.slice 5 (Kd.int .u8)) w A0 ls.length ls) (hc0 : ls.length ≤ c0) (hb : ∀ l ∈ ls, Byt l) (hr1 : Kd.C (Kd.int .i64) w A1 cs.length cs) (hc1 : cs.length ≤ c1) :
    Calls Try.prog 16 #[.slice A0 ls.length c0, .slice A1 cs.length c1] w fun e w' => e = .returned (.bool true) ∧ Below w.heap.size w w' := by
  have hmx := hr0.2.1
  have hmx1 := hr1.2.1
  have HR := Aside0.mk hr0
  have HR1 := Aside0.mk hr1
  have HY := Aside0.mk hb
  obtain ⟨N, hN⟩ : ∃ N, ls.length = N := ⟨_, rfl⟩
  obtain ⟨M, hM⟩ : ∃ M, cs.length = M := ⟨_, rfl⟩
  have HN := Aside0.mk hN
  have HM := Aside0.mk hM
  rw [hN] at HR hc0 hmx ⊢
  rw [hM] at HR1 hc1 hmx1 ⊢
  clear hr0 hb hN hM hr1
  by_cases h20 : 20 < N
  · go_enter Try.func16, Try.ntmps16
    go_wp2_with fail
    refine (alive04_calls _).mono ?_
    rintro e w1 ⟨rfl, hd⟩
    have B1 := Aside0.mk hd
    clear hd
    go_wp2
    go_ret
    exact ⟨rfl, B1.out⟩
  by_cases h21 : 20 < M
  · have h20b : decide (20 < (N : Int)) = false := decide_eq_false (by omega)
    go_enter Try.func16, Try.ntmps16
    go_wp2_with fail
    refine (alive04_calls _).mono ?_
    rintro e w1 ⟨rfl, hd⟩
    have B1 := Aside0.mk hd
    clear hd
    go_wp2
    go_ret
    exact ⟨rfl, B1.out⟩
  have hN20 : N ≤ 20 := by omega
  have hN21 : (N : Int) ≤ 20 := by omega
  have hM20 : M ≤ 20 := by omega
  have hM21 : (M : Int) ≤ 20 := by omega
  clear h20 h21
  go_enter Try.func16, Try.ntmps16
  go_wp2
  go_loopw [5, 6] (fun u5 u6 wr => ∃ i : Nat, u6 = .int .i64 (i : Int) ∧ i ≤ N ∧ Aside0 (∀ l ∈ ls.take i, l.length ≤ 64) ∧ Aside0 (wr.ownsRow w.heap.size 5 1 u5 (putAll (ls.take i)).length (nums .u8 (putAll (ls.take i)))) ∧ Aside0 ((putAll (ls.take i)).length ≤ 66 * i) ∧ Aside0 (Below w.heap.size w wr)) (fun _ u6 _ => (N - (intOf u6).toNat))
  case atStart => exact ⟨0, rfl, by omega, ⟨fun l hl => by simp at hl⟩, ⟨own_nil _ _ _ _⟩, ⟨by simp [putAll]⟩, ⟨Below.refl _ _⟩⟩
  case round =>
    obtain ⟨i, rfl, hi, H64, HOW, HAL, HB⟩ := hrel
    by_cases hlt : i < N
    · obtain ⟨ad, Ax, cx, hA, e0, hlx, hCx⟩ := at_L4 HR.out (i : Int) (by omega) (by omega)
      rw [Int.toNat_natCast] at e0
      subst hA
      have HTS := Aside0.mk (take_succL ls i (by rw [HN.out]; exact hlt))
      generalize rd_L4 ls (i : Int) = x at *
      have HE0 := Aside0.mk e0
      have e1 := pw_cell_below HB.out e0
      have hput : frame_Put.f x = some (if x.length ≤ 64 then (uintForm x.length 2 ++ x, 0) else ([], 9)) := rfl
      generalize hXL : x.length = XL at *
      have HXL := Aside0.mk hXL
      have HCX := Aside0.mk hCx
      have HLX := Aside0.mk hlx
      clear hXL e0 hCx hlx
      by_cases h64 : XL ≤ 64
      · rw [if_pos h64] at hput
        have PX := frame_Put.calls Ax cx x (uintForm XL 2 ++ x) 0 wr (by rw [HXL.out]; exact Kd.C_below HCX.out HB.out) (by rw [HXL.out]; exact HLX.out) hput
        rw [HXL.out] at PX
        have PX := Aside0.mk PX
        have hpf : uintForm XL 2 ++ x = putF x := by unfold putF; rw [HXL.out]
        rw [hpf] at PX
        have HPL := Aside0.mk (putF_length x)
        have HAL2 : Aside0 ((putAll (ls.take i) ++ putF x).length ≤ 66 * (i + 1)) := ⟨by have := HAL.out; have := HPL.out; have := HXL.out; rw [List.length_append]; omega⟩
        have H642 : Aside0 (∀ l ∈ ls.take (i + 1), l.length ≤ 64) := ⟨by
          intro l hl
          rw [HTS.out] at hl
          rcases List.mem_append.1 hl with hl | hl
          · exact H64.out l hl
          · rw [List.mem_singleton.1 hl, HXL.out]; exact h64⟩
        clear hput hpf
        go_wp2_with fail
        refine PX.out.mono ?_
        rintro e w2 ⟨v, rfl, hR, hb2⟩
        obtain ⟨X, m, hv, hq, hC⟩ := Kd.R_reads hR
        subst hv
        have B2 := Aside0.mk (below_then HB.out HB.out.size hb2)
        have HRP := Aside0.mk (Kd.reads_of_C (d := (0 : Int)) hC)
        have HOW2 := Aside0.mk (pw_own_below HOW.out hb2)
        have e2 := pw_cell_below B2.out HE0.out
        have hpl : (putF x).length ≤ 66 := by have := HPL.out; have := HXL.out; omega
        clear hR hb2 hq hC PX e1
        have hal2 : (putAll (ls.take i)).length ≤ 1320 := by have := HAL.out; omega
        generalize hPX : (putF x).length = PL at *
        clear hPX
        go_wp2_with (at_builtin; go_must (refine print_append_row (w0 := w) w.heap.size rfl (.tmp 52) (.tmp 53) 30 5 .u8 1 rfl Try.underlying30 info5 (by decide) u5 (putAll (ls.take i)) (putF x) X PL m rfl rfl HOW2.out HRP.out B2.out B2.out.size (by omega) ?_); intro v1 w3 hown hbel hgrow hat; have HOW3 := Aside0.mk hown; have B3 := Aside0.mk hbel; clear hown hbel hgrow hat)
        go_roundw
        case rel => exact ⟨i + 1, by go_num, by omega, H642, ⟨by rw [HTS.out, putAll_snoc]; exact HOW3.out⟩, ⟨by rw [HTS.out, putAll_snoc]; exact HAL2.out⟩, B3⟩
        case measure => simp [intOf]; omega
      · rw [if_neg h64] at hput
        have PX := frame_Put.calls Ax cx x [] 9 wr (by rw [HXL.out]; exact Kd.C_below HCX.out HB.out) (by rw [HXL.out]; exact HLX.out) hput
        rw [HXL.out] at PX
        have PX := Aside0.mk PX
        have h65 : 64 < XL := by omega
        clear hput h64
        go_wp2_with fail
        refine PX.out.mono ?_
        rintro e w2 ⟨v, rfl, hR, hb2⟩
        obtain ⟨X, m, hv⟩ := Kd.R_slice hR
        subst hv
        have B2 := Aside0.mk (below_then HB.out HB.out.size hb2)
        have e2 := pw_cell_below B2.out HE0.out
        clear hR hb2 PX e1
        go_wp2_with fail
        refine (alive04_calls _).mono ?_
        rintro e w3 ⟨rfl, hd⟩
        have B3 := Aside0.mk (below_then B2.out B2.out.size hd)
        clear hd
        go_wp2
        go_ret
        exact ⟨rfl, B3.out⟩
    · obtain rfl : i = N := by omega
      have HTT : Aside0 (ls.take i = ls) := ⟨List.take_of_length_le (by rw [HN.out]; exact Nat.le_refl _)⟩
      rw [HTT.out] at H64 HOW HAL
      have HFP := Aside0.mk (frames_put ls H64.out)
      have HTB : Aside0 (Byt (putAll ls)) := ⟨by
        intro b hbm
        obtain ⟨p, hp, hq⟩ := List.mem_flatMap.1 hbm
        exact putF_byt (HY.out p hp) b hq⟩
      generalize putAll ls = T at *
      obtain ⟨A5, c5, hv⟩ := own_slice HOW.out
      subst hv
      have hlt5 : (T.length : Int) ≤ 1320 := by have := HAL.out; omega
      have hog : ∀ k, A5.map (·.block) = some k → k < wr.heap.size := fun k hk => own_lt HOW.out k (by rw [map_own]; exact hk)
      have HOG := Aside0.mk (fun e => Nat.lt_irrefl _ (hog wr.heap.size e))
      have BZ := Aside0.mk (below_alloc HB.out (.cells #[.slice none 0 0, .int .i64 0] 100))
      have RZ : Aside0 (RB (wr.alloc (.cells #[.slice none 0 0, .int .i64 0] 100)) A5 T c5) := ⟨⟨Kd.C_of_reads (d := (0 : Int)) (h1 := fun _ => rfl) (own_reads' (HOW.out.alloc _)), own_cap HOW.out, HTB.out, by omega⟩⟩
      have JZ : Aside0 (FC (wr.alloc (.cells #[.slice none 0 0, .int .i64 0] 100)) (wr.alloc (.cells #[.slice none 0 0, .int .i64 0] 100)) wr.heap.size none [] (.slice none 0 0)) := ⟨by
        have ej : joinS [] = ([], 0) := by unfold joinS; rw [frames_nil]; rfl
        refine ⟨?_, (by rw [frames_nil]; exact Kd.R_nil _ _ _ _ _), Fr.refl _ _, by simp, (fun k hk => by cases hk)⟩
        rw [ej]
        exact ⟨.slice none 0 0, blk_new wr _, rfl, own_nil _ _ _ _⟩⟩
      have HGE := Aside0.mk HB.out.size
      clear hog H64 HAL HOW HTT HB
      generalize hTL : T.length = TL at *
      have HTL := Aside0.mk hTL
      clear hTL
      go_wp2
      generalize (wr.alloc (.cells #[.slice none 0 0, .int .i64 0] 100)) = wz at *
      generalize wr.heap.size = g at *
      go_loopw [5, 10, 11] (fun u5 u10 u11 wx => ∃ (j : Nat) (A : Option Addr) (c : Nat) (done rest : List Int) (row : Option Nat), u5 = .slice A rest.length c ∧ u11 = .int .i64 (j : Int) ∧ j ≤ M ∧ Aside0 (done ++ rest = T) ∧ Aside0 (RB wz A rest c) ∧ Aside0 (A.map (·.block) ≠ some g) ∧ Aside0 (FC wz wx g row done u10)) (fun _ _ u11 _ => (M - (intOf u11).toNat))
      case atStart => exact ⟨0, A5, c5, [], T, none, by rw [HTL.out], rfl, by omega, ⟨rfl⟩, RZ, ⟨HOG.out⟩, JZ⟩
      case round =>
        obtain ⟨j, A, c, done, rest, row, rfl, rfl, hj, HDR, HRB, HAG, HF⟩ := hrel
        have BW := Aside0.mk (BZ.out.trans (HF.out.fr.below BZ.out.size (fun k hk => by rw [hk]; exact HGE.out)))
        have CR := Aside0.mk (HF.out.fr.C HRB.out.hC (fun k hk e => HAG.out (by rw [hk, e])))
        have HRL := Aside0.mk (show rest.length ≤ TL by rw [← HTL.out, ← HDR.out, List.length_append]; omega)
        by_cases hlt : j < M
        · obtain ⟨_, _, had⟩ := Kd.reads_of_C (d := (0 : Int)) HR1.out
          obtain ⟨ad, hA1, hcell⟩ := had (by omega)
          subst hA1
          have e0 := pw_cell_below BW.out (hcell j hlt)
          generalize cs.getD j 0 = a at *
          clear had hcell
          have TK := Aside0.mk (fun n (hn : n ≤ rest.length) => take_ A rest c n hn HRB.out.hc)
          have CUT := Aside0.mk HRB.out.cut2
          generalize hRL : rest.length = RL at *
          have HRLe := Aside0.mk hRL
          clear hRL
          have hrl : (RL : Int) ≤ 1320 := by have := HRL.out; omega
          go_upto_region 16 with fail
          obtain ⟨wv, hwv⟩ : ∃ wv, wv = wr := ⟨_, rfl⟩
          go_cut [12] (fun s12 wx => ∃ n : Nat, s12 = .int .i64 (n : Int) ∧ n ≤ RL ∧ wr = wx)
          case first =>
            clear hwv
            by_cases ha : a < 0
            · go_wp2_with fail
              go_meet
              exact ⟨0, rfl, by omega, rfl⟩
            · obtain ⟨a, rfl⟩ := Int.eq_ofNat_of_zero_le (show 0 ≤ a by omega)
              by_cases hb : (RL : Int) < (a : Int)
              · go_wp2_with fail
                go_meet
                exact ⟨RL, rfl, by omega, rfl⟩
              · go_wp2_with fail
                go_meet
                exact ⟨a, rfl, by omega, rfl⟩
          case rest =>
            clear hwv wv
            obtain ⟨n, rfl, hn, hw⟩ := hcut
            subst hw
            obtain ⟨htk, hctk⟩ := TK.out n hn
            obtain ⟨A', hcut', hrb', hab⟩ := CUT.out n hn
            have HRB' := Aside0.mk hrb'
            have HAB := Aside0.mk hab
            have lenN : (rest.take n).length = n := by rw [List.length_take, HRLe.out]; omega
            have HBX : Aside0 (Byt (done ++ rest.take n)) := ⟨by
              intro b hbm
              refine HTB.out b ?_
              rw [← HDR.out]
              rcases List.mem_append.1 hbm with h | h
              · exact List.mem_append_left _ h
              · exact List.mem_append_right _ (List.mem_of_mem_take h)⟩
            have HLX : Aside0 ((done ++ rest.take n).length ≤ 1320) := ⟨by
              have h1 := congrArg List.length HDR.out
              rw [List.length_append] at h1
              rw [List.length_append, lenN]
              have := HRLe.out
              have := HTL.out
              omega⟩
            have JX := joinStep2_calls g row done A c (rest.take n) wr HF.out.js (by rw [lenN]; exact hctk wr CR.out) (by have := HLX.out; rw [List.length_append] at this; omega) HBX.out
            rw [lenN] at JX
            have JX := Aside0.mk JX
            clear hctk hrb' hab TK CUT lenN CR
            have hnr : (n : Int) ≤ (RL : Int) := by omega
            go_wp2_with fail
            refine JX.out.mono ?_
            rintro e w3 ⟨v, out, row', rfl, hRo, hout, hp⟩
            obtain ⟨X, m, hv, hrows⟩ := FM.rows hRo
            subst hv
            have FMM := Aside0.mk (HF.out.add hp)
            have HROWS := Aside0.mk hrows
            have HSZ := Aside0.mk HF.out.fr.size
            have HOKP : Aside0 (∀ k, (wr.heap.size ≤ k ∧ row' ≠ some k) → row' ≠ some k ∧ some k ≠ u10.ownBlock) := ⟨fun k hk => ⟨hk.2, fun e => by have := (FMM.out.own k e.symm).2.1; omega⟩⟩
            have HFRESH : Aside0 (∀ k, w3.heap.size ≤ k → row' ≠ some k) := ⟨fun k hk e => by have := (FMM.out.rge k e).2; omega⟩
            have HCNT : Aside0 ((frames done).1.length + out.length ≤ 1000000) := ⟨by
              have h1 := congrArg List.length hout
              have h2 := frames_count _ _ (Nat.le_refl _) HBX.out
              have h3 := frames_end _ HBX.out
              have h4 := HLX.out
              rw [List.length_append] at h1
              omega⟩
            clear hRo hrows hp JX
            generalize out.length = LO at *
            go_upto_region 18 with (at_builtin; go_must (refine Kd.R_append_rows (Kd.slice 5 (Kd.int .u8)) (Rr := fun x cs => (Kd.slice 5 (Kd.int .u8)).M w3 wr.heap.size (fun k => wr.heap.size ≤ k ∧ row' ≠ some k) x cs) (w0 := w3) wz.heap.size rfl (.tmp 69) (.tmp 73) 62 30 _ 24 rfl Try.underlying62 info30_ (by rfl) (show 0 < 1 from by decide) (by decide) u10 (frames done).1 out X LO m (fun k => row' ≠ some k) (fun k => wr.heap.size ≤ k ∧ row' ≠ some k) rfl rfl FMM.out.hR HROWS.out (fun x cs h => (Kd.slice 5 (Kd.int .u8)).M_lower HSZ.out h) HOKP.out HFRESH.out (Below.refl _ _) FMM.out.fr.size (by have := HCNT.out; omega) ?_); intro v1 w4 hR1 _ hg1 _; have HF4 := Aside0.mk (FMM.out.next hout hR1 hg1); clear hR1 hg1)
            go_wp2
            go_roundw
            case rel => exact ⟨j + 1, A', c - n, done ++ rest.take n, rest.drop n, row', by rw [List.length_drop, HRLe.out], by go_num, by omega, ⟨by rw [List.append_assoc, List.take_append_drop]; exact HDR.out⟩, HRB', ⟨by rw [HAB.out]; exact HAG.out⟩, HF4⟩
            case measure => simp [intOf]; omega
        · obtain rfl : j = M := by omega
          have HBX : Aside0 (Byt (done ++ rest)) := ⟨by rw [HDR.out]; exact HTB.out⟩
          have HLX : Aside0 ((done ++ rest).length ≤ 1320) := ⟨by rw [HDR.out, HTL.out]; omega⟩
          have JX := Aside0.mk (joinStep2_calls g row done A c rest wr HF.out.js CR.out (by have := HLX.out; rw [List.length_append] at this; omega) HBX.out)
          have hrl : (rest.length : Int) ≤ 1320 := by have := HRL.out; omega
          generalize hRL : rest.length = RL at *
          clear hRL
          go_wp2_with fail
          refine JX.out.mono ?_
          rintro e w3 ⟨v, out, row', rfl, hRo, hout, hp⟩
          obtain ⟨X, m, hv, hrows⟩ := FM.rows hRo
          subst hv
          have FMM := Aside0.mk (HF.out.add hp)
          have HROWS := Aside0.mk hrows
          have HSZ := Aside0.mk HF.out.fr.size
          have HOKP : Aside0 (∀ k, (wr.heap.size ≤ k ∧ row' ≠ some k) → row' ≠ some k ∧ some k ≠ u10.ownBlock) := ⟨fun k hk => ⟨hk.2, fun e => by have := (FMM.out.own k e.symm).2.1; omega⟩⟩
          have HFRESH : Aside0 (∀ k, w3.heap.size ≤ k → row' ≠ some k) := ⟨fun k hk e => by have := (FMM.out.rge k e).2; omega⟩
          have HCNT : Aside0 ((frames done).1.length + out.length ≤ 1000000) := ⟨by
            have h1 := congrArg List.length hout
            have h2 := frames_count _ _ (Nat.le_refl _) HBX.out
            have h3 := frames_end _ HBX.out
            have h4 := HLX.out
            rw [List.length_append] at h1
            omega⟩
          clear hRo hrows hp JX
          generalize out.length = LO at *
          go_upto_region 20 with (at_builtin; go_must (refine Kd.R_append_rows (Kd.slice 5 (Kd.int .u8)) (Rr := fun x cs => (Kd.slice 5 (Kd.int .u8)).M w3 wr.heap.size (fun k => wr.heap.size ≤ k ∧ row' ≠ some k) x cs) (w0 := w3) wz.heap.size rfl (.tmp 78) (.tmp 80) 62 30 _ 24 rfl Try.underlying62 info30_ (by rfl) (show 0 < 1 from by decide) (by decide) u10 (frames done).1 out X LO m (fun k => row' ≠ some k) (fun k => wr.heap.size ≤ k ∧ row' ≠ some k) rfl rfl FMM.out.hR HROWS.out (fun x cs h => (Kd.slice 5 (Kd.int .u8)).M_lower HSZ.out h) HOKP.out HFRESH.out (Below.refl _ _) FMM.out.fr.size (by have := HCNT.out; omega) ?_); intro v1 w4 hR1 _ hg1 _; have HF4 := Aside0.mk (FMM.out.next hout hR1 hg1); clear hR1 hg1)
          have hR4 := HF4.out.hR
          have hj4 := HF4.out.js
          have hjs : joinS (done ++ rest) = ([], 0) := by
            unfold joinS
            rw [HDR.out, HFP.out]
            dsimp only
            rw [if_neg (by decide), List.drop_eq_nil_of_le (by rw [HTL.out]; exact Nat.le_refl _)]
          rw [hjs] at hj4
          rw [HDR.out, HFP.out] at hR4
          dsimp only at hR4
          obtain ⟨X4, m4, hv4, hq4, hC4⟩ := Kd.R_reads hR4
          subst hv4
          have BW4 := Aside0.mk (BZ.out.trans (HF4.out.fr.below BZ.out.size (fun k hk => by rw [hk]; exact HGE.out)))
          have LX := refLists_calls X4 A0 m4 c0 ls w4 (by rw [HN.out]; omega) hC4 hq4 (by rw [HN.out]; exact Kd.C_below HR.out BW4.out) (by rw [HN.out]; exact hc0)
          rw [HN.out] at LX
          have LX := Aside0.mk LX
          have HJ4 := Aside0.mk hj4
          rw [HN.out]
          clear hR4 hj4 hjs hq4 hC4
          go_wp2_with fail
          refine LX.out.mono ?_
          rintro e w5 ⟨rfl, hb5⟩
          have HJ5 := Aside0.mk (HJ4.out.below hb5)
          have BW5 := Aside0.mk (below_then BW4.out BW4.out.size hb5)
          clear hb5 LX
          go_wp2_with fail
          refine (joinWaits_calls g row' [] 0 w5 HJ5.out).mono ?_
          rintro e w6 ⟨rfl, rfl⟩
          go_wp2_with fail
          refine (joinFault_calls g row' [] 0 w5 HJ5.out).mono ?_
          rintro e w6 ⟨rfl, rfl⟩
          go_wp2_with fail
          refine (alive04_calls _).mono ?_
          rintro e w7 ⟨rfl, hd⟩
          have B7 := Aside0.mk (below_then BW5.out BW5.out.size hd)
          clear hd
          go_wp2
          go_ret
          exact ⟨rfl, B7.out⟩
end Go.Proofs.Ytalpemoodollpaa.P
/- Bytes that came in are bytes. -/
namespace Go.Proofs.Ytalpemoodollpaa.P
open Go.RowKit Go.Proofs.YtalpemoodollpaaW.PrintWords Go.Proofs.YtalpemoodollpaaW.PrintLast Go.Proofs.YtalpemoodollpaaW.PrintMore
theorem byt_wf_ {l : List Int} (h : ∀ y ∈ l, (Lit.int .u8 y).wf = true) : Byt l := fun b hb => by
  have := bounds_u8 (h b hb)
  omega
end Go.Proofs.Ytalpemoodollpaa.P
