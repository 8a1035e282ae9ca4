/- feed.Gaps. -/
import Derived.Test.YtalpemoodollpaaHMsgPure
import Derived.Test.YtalpemoodollpaaHBox
import Derived.Test.YtalpemoodollpaaP0
namespace Go.Proofs.Ytalpemoodollpaa.P
open Go.RowKit Go.Proofs.YtalpemoodollpaaW.PrintWords Go.Proofs.YtalpemoodollpaaW.PrintLast Go.Proofs.YtalpemoodollpaaW.PrintMore
set_option linter.unusedVariables false
set_option linter.unusedSimpArgs false

def gapAdd : Nat → Int → Int → List Int → List Int
  | 0, _, _, out => out
  | k + 1, n, b, out => if n < b then gapAdd k (n + 1) b (out ++ [n]) else out
def gapStep (out : List Int) (a b : Int) : List Int := gapAdd (100 - out.length) (a + 1) b out
def seqAt (l : List S29) (i : Nat) : Int := (l.getD i z29).f2
/-- What stands in the list when the messages below i are seen. -/
def gapsUpto (l : List S29) : Nat → List Int
  | 0 => []
  | i + 1 => if i = 0 then [] else gapStep (gapsUpto l i) (seqAt l (i - 1)) (seqAt l i)
theorem gapAdd_done (k : Nat) (n b : Int) (out : List Int) (h : b ≤ n) : gapAdd k n b out = out := by
  cases k with
  | zero => rfl
  | succ k => rw [gapAdd, if_neg (by omega)]
theorem gapAdd_length (k : Nat) : ∀ (n b : Int) (out : List Int), (gapAdd k n b out).length ≤ out.length + k := by
  induction k with
  | zero => intro n b out; simp [gapAdd]
  | succ k ih =>
    intro n b out
    rw [gapAdd]
    split
    · have := ih (n + 1) b (out ++ [n])
      simp at this
      omega
    · omega
theorem gapsUpto_length (l : List S29) (i : Nat) : (gapsUpto l i).length ≤ 100 := by
  induction i with
  | zero => simp [gapsUpto]
  | succ i ih =>
    rw [gapsUpto]
    split
    · simp
    · have := gapAdd_length (100 - (gapsUpto l i).length) (seqAt l (i - 1) + 1) (seqAt l i) (gapsUpto l i)
      unfold gapStep
      omega
theorem gapsUpto_full (l : List S29) (i j : Nat) (h : (gapsUpto l i).length = 100) : gapsUpto l (i + j) = gapsUpto l i := by
  induction j with
  | zero => rfl
  | succ j ih =>
    rw [show i + (j + 1) = (i + j) + 1 by omega, gapsUpto]
    have h0 : i + j ≠ 0 := by
      intro h0
      have hi : i = 0 := by omega
      rw [hi] at h
      simp [gapsUpto] at h
    rw [if_neg h0, ih, gapStep, h]
    rfl
theorem idx_wrap {m j : Nat} (h : m ≤ 9223372036854775807) (hj : j < m) : IntKind.i64.wrap (j : Int) = (j : Int) := IntWalk.i64_in _ (by omega)
theorem idx_wrap2 {m j : Nat} (h : m ≤ 9223372036854775807) (hj : j + 1 < m) : wrap64 ((j : Int) + 1 + 1) = (j : Int) + 1 + 1 := by rw [wrap64_eq]; omega
theorem seq_wrap {a b : Int} (ha : -9223372036854775808 ≤ a) (hb : b ≤ 9223372036854775807) (h : a < b) : IntKind.i64.wrap (a + 1) = a + 1 := IntWalk.i64_in _ (by omega)
theorem meas_ {m j : Nat} (h : m ≤ 9223372036854775807) (hj : j + 1 < m) : ((m : Int) - intOf (Value.int IntKind.i64 (wrap64 ((j : Int) + 1 + 1)))).toNat < ((m : Int) - intOf (Value.int IntKind.i64 ((j.succ : Nat) : Int))).toNat := by
  rw [idx_wrap2 h hj]
  show ((m : Int) - ((j : Int) + 1 + 1)).toNat < ((m : Int) - ((j + 1 : Nat) : Int)).toNat
  omega
theorem meas2_ {n b : Int} (h : wrap64 (n + 1) = n + 1) (hn : n < b) : (b - intOf (Value.int IntKind.i64 (wrap64 (n + 1)))).toNat < (b - intOf (Value.int IntKind.i64 n)).toNat := by
  rw [h]
  show (b - (n + 1)).toNat < (b - n).toNat
  omega
def seqsB (l : List S29) : Bool := l.all fun x => i64B x.f2
def feed_Gaps.f (l0 : List S29) : Option (List Int) := if seqsB l0 = true then some (gapsUpto l0 l0.length) else none
theorem seqsB_at {l : List S29} (h : seqsB l = true) (i : Nat) (hi : i < l.length) : -9223372036854775808 ≤ seqAt l i ∧ seqAt l i ≤ 9223372036854775807 := by
  have := List.all_eq_true.1 h l[i] (List.getElem_mem hi)
  have := within_iff.1 this
  simpa [seqAt, List.getD_eq_getElem?_getD, hi] using this
theorem rdT29_seq (l : List S29) (i : Nat) : (rd_T29 l (i : Int)).f2 = seqAt l i := by simp [rd_T29, seqAt]
set_option maxRecDepth 100000 in
set_option maxHeartbeats 4000000 in
theorem feed_Gaps.calls (A0 : Option Addr) (c0 : Nat) (l0 : List S29) (r : List Int) (w : World) (hr0 : Kd.C k29 w A0 l0.length l0) (hc0 : l0.length ≤ c0) (h : feed_Gaps.f l0 = some r) :
    Calls Try.prog 27 #[.slice A0 l0.length c0] w fun e w' => ∃ v0_ : Value, e = .returned (v0_) ∧ Kd.R (Kd.int .i64) 2 w' w.heap.size (fun _ => True) v0_ r ∧ Below w.heap.size w w' := by
  unfold feed_Gaps.f at h
  by_cases hs : seqsB l0 = true
  · rw [if_pos hs] at h
    have HF := Aside0.mk (Option.some.inj h)
    have HS := Aside0.mk hs
    have HR := Aside0.mk hr0
    have HC := Aside0.mk hc0
    have hmax := hr0.2.1
    have HMAX := Aside0.mk hmax
    clear hr0 hc0 h hs hmax
    go_enter Try.func27, Try.ntmps27
    go_wp2
    go_step3
    go_wp2
    go_step3
    go_wp2
    go_loopw [2, 8] (fun u2 u8 wr => ∃ (i : Nat) (xs : List Int), u8 = .int .i64 (i : Int) ∧ i ≤ l0.length ∧ Aside0 (gapsUpto l0 i = xs) ∧ Aside0 (Kd.R (Kd.int .i64) 2 wr w.heap.size (fun _ => True) u2 xs) ∧ Aside0 (Below w.heap.size w wr)) (fun _ u8 _ => (l0.length - intOf u8).toNat)
    case atStart => exact ⟨0, [], rfl, Nat.zero_le _, ⟨rfl⟩, ⟨Kd.R_nil _ _ _ _ _⟩, ⟨Below.refl _ _⟩⟩
    case round =>
      obtain ⟨i, xs, rfl, hi, HX, HO, HB⟩ := hrel
      by_cases hlt : i < l0.length
      · obtain ⟨ad, hA0, e0, e1, e2, e3, e4, e5, e6, e7, e8⟩ := at_T29 (Kd.C_below HR.out HB.out) (i : Int) (by omega) (by omega)
        subst hA0
        rw [Int.toNat_natCast] at e0 e1 e2 e3 e4 e5 e6 e7 e8
        rw [rdT29_seq] at e2
        generalize (rd_T29 l0 (i : Int)).f0 = q0 at *
        generalize (rd_T29 l0 (i : Int)).f1 = q1 at *
        generalize (rd_T29 l0 (i : Int)).f3 = q3 at *
        generalize (rd_T29 l0 (i : Int)).f4 = q4 at *
        generalize (rd_T29 l0 (i : Int)).f5 = q5 at *
        generalize (rd_T29 l0 (i : Int)).f6 = q6 at *
        generalize (rd_T29 l0 (i : Int)).f7 = q7 at *
        generalize (rd_T29 l0 (i : Int)).f8 = q8 at *
        have hb1 := below_alloc HB.out (.cells #[.int .i64 q0, .int .i64 q1, .int .i64 (seqAt l0 i), .int .i64 q3, .int .i64 q4, .int .i64 q5, .int .i64 q6, .int .i64 q7, .int .i64 q8] 29)
        have bx : Box9 (wr.alloc (.cells #[.int .i64 q0, .int .i64 q1, .int .i64 (seqAt l0 i), .int .i64 q3, .int .i64 q4, .int .i64 q5, .int .i64 q6, .int .i64 q7, .int .i64 q8] 29)) 29 wr.heap.size q0 q1 (seqAt l0 i) q3 q4 q5 q6 q7 q8 := blk_new wr _
        have ho1 := Kd.R_alloc HO.out (.cells #[.int .i64 q0, .int .i64 q1, .int .i64 (seqAt l0 i), .int .i64 q3, .int .i64 q4, .int .i64 q5, .int .i64 q6, .int .i64 q7, .int .i64 q8] 29)
        have HB1 := Aside0.mk hb1
        have BX := Aside0.mk bx
        have HO1 := Aside0.mk ho1
        clear hb1 bx ho1
        go_wp2_with fail
        by_cases hi0 : i = 0
        · subst hi0
          clear e0 e1 e2 e3 e4 e5 e6 e7 e8
          have HB1_ := Aside0.mk (HB1.out.drew)
          have HO1_ := Aside0.mk (Kd.R_drew HO1.out)
          have BX_ := Aside0.mk ((show Box9 (wr.alloc (.cells #[.int .i64 q0, .int .i64 q1, .int .i64 (seqAt l0 0), .int .i64 q3, .int .i64 q4, .int .i64 q5, .int .i64 q6, .int .i64 q7, .int .i64 q8] 29)).drew 29 wr.heap.size q0 q1 (seqAt l0 0) q3 q4 q5 q6 q7 q8 from BX.out))
          clear HB1 HO1 BX
          refine start_ (n := 13) (S := fun w' => w'.cell? ⟨wr.heap.size, 2, none⟩ = some (.int .i64 (seqAt l0 0))) (ds := []) #[false, false, false, false, false, false, false, false, false, false, false, false, false] (by kernel_rfl) rfl rfl BX_.out.cells.2.2.1 (fun hHeld => ?_)
          generalize (wr.alloc (.cells #[.int .i64 q0, .int .i64 q1, .int .i64 (seqAt l0 0), .int .i64 q3, .int .i64 q4, .int .i64 q5, .int .i64 q6, .int .i64 q7, .int .i64 q8] 29)).drew = w2 at HB1_ HO1_ BX_ hHeld ⊢
          refine pure_ (i := 0) (N := some 13) (v := ?_) (a' := ?_) #[true, false, false, false, false, false, false, false, false, false, false, false, false] rfl rfl (by kernel_rfl) (fun _ _ _ h => h) (Or.inl ⟨by rfl, ?_⟩) ?_ ?_
          rotate_left
          · intro w'
            go_simp
            with_reducible rfl
          rotate_left
          · simp only [Act.put, List.setIfInBounds_toArray, List.set_cons_zero, List.set_cons_succ, i64_w, i32_w]
            rfl
          refine pure_ (i := 1) (N := some 14) (v := ?_) (a' := ?_) #[true, true, false, false, false, false, false, false, false, false, false, false, false] rfl rfl (by kernel_rfl) (fun _ _ _ h => h) (Or.inl ⟨by rfl, ?_⟩) ?_ ?_
          rotate_left
          · intro w'
            go_simp
            with_reducible rfl
          rotate_left
          · simp only [Act.put, List.setIfInBounds_toArray, List.set_cons_zero, List.set_cons_succ, i64_w, i32_w]
            rfl
          refine pure_ (i := 2) (N := some 15) (v := ?_) (a' := ?_) #[true, true, true, false, false, false, false, false, false, false, false, false, false] rfl rfl (by kernel_rfl) (fun _ _ _ h => h) (Or.inl ⟨by rfl, ?_⟩) ?_ ?_
          rotate_left
          · intro w'
            go_simp
            with_reducible rfl
          rotate_left
          · simp only [Act.put, List.setIfInBounds_toArray, List.set_cons_zero, List.set_cons_succ, i64_w, i32_w]
            rfl
          refine pure_ (i := 3) (N := some 16) (v := undef) (a' := ?_) #[true, true, true, true, false, false, false, false, false, false, false, false, false] rfl rfl (by kernel_rfl) (fun _ _ _ h => h) (Or.inr ⟨by rfl, rfl⟩) ?_ ?_
          rotate_left
          · simp only [Act.put, List.setIfInBounds_toArray, List.set_cons_zero, List.set_cons_succ, i64_w, i32_w]
            rfl
          refine pure_ (i := 4) (N := some 17) (v := undef) (a' := ?_) #[true, true, true, true, true, false, false, false, false, false, false, false, false] rfl rfl (by kernel_rfl) (fun _ _ _ h => h) (Or.inr ⟨by rfl, rfl⟩) ?_ ?_
          rotate_left
          · simp only [Act.put, List.setIfInBounds_toArray, List.set_cons_zero, List.set_cons_succ, i64_w, i32_w]
            rfl
          refine pure_ (i := 5) (N := some 18) (v := undef) (a' := ?_) #[true, true, true, true, true, true, false, false, false, false, false, false, false] rfl rfl (by kernel_rfl) (fun _ _ _ h => h) (Or.inr ⟨by rfl, rfl⟩) ?_ ?_
          rotate_left
          · simp only [Act.put, List.setIfInBounds_toArray, List.set_cons_zero, List.set_cons_succ, i64_w, i32_w]
            rfl
          refine pure_ (i := 6) (N := some 19) (v := undef) (a' := ?_) #[true, true, true, true, true, true, true, false, false, false, false, false, false] rfl rfl (by kernel_rfl) (fun _ _ _ h => h) (Or.inr ⟨by rfl, rfl⟩) ?_ ?_
          rotate_left
          · simp only [Act.put, List.setIfInBounds_toArray, List.set_cons_zero, List.set_cons_succ, i64_w, i32_w]
            rfl
          refine pure_ (i := 7) (N := some 20) (v := undef) (a' := ?_) #[true, true, true, true, true, true, true, true, false, false, false, false, false] rfl rfl (by kernel_rfl) (fun _ _ _ h => h) (Or.inr ⟨by rfl, rfl⟩) ?_ ?_
          rotate_left
          · simp only [Act.put, List.setIfInBounds_toArray, List.set_cons_zero, List.set_cons_succ, i64_w, i32_w]
            rfl
          refine pure_ (i := 8) (N := some 21) (v := undef) (a' := ?_) #[true, true, true, true, true, true, true, true, true, false, false, false, false] rfl rfl (by kernel_rfl) (fun _ _ _ h => h) (Or.inr ⟨by rfl, rfl⟩) ?_ ?_
          rotate_left
          · simp only [Act.put, List.setIfInBounds_toArray, List.set_cons_zero, List.set_cons_succ, i64_w, i32_w]
            rfl
          refine pure_ (i := 9) (N := some 22) (v := undef) (a' := ?_) #[true, true, true, true, true, true, true, true, true, true, false, false, false] rfl rfl (by kernel_rfl) (fun _ _ _ h => h) (Or.inr ⟨by rfl, rfl⟩) ?_ ?_
          rotate_left
          · simp only [Act.put, List.setIfInBounds_toArray, List.set_cons_zero, List.set_cons_succ, i64_w, i32_w]
            rfl
          refine pure_ (i := 10) (N := some 23) (v := undef) (a' := ?_) #[true, true, true, true, true, true, true, true, true, true, true, false, false] rfl rfl (by kernel_rfl) (fun _ _ _ h => h) (Or.inr ⟨by rfl, rfl⟩) ?_ ?_
          rotate_left
          · simp only [Act.put, List.setIfInBounds_toArray, List.set_cons_zero, List.set_cons_succ, i64_w, i32_w]
            rfl
          refine pure_ (i := 11) (N := some 24) (v := undef) (a' := ?_) #[true, true, true, true, true, true, true, true, true, true, true, true, false] rfl rfl (by kernel_rfl) (fun _ _ _ h => h) (Or.inr ⟨by rfl, rfl⟩) ?_ ?_
          rotate_left
          · simp only [Act.put, List.setIfInBounds_toArray, List.set_cons_zero, List.set_cons_succ, i64_w, i32_w]
            rfl
          refine pure_ (i := 12) (N := some 25) (v := ?_) (a' := ?_) #[true, true, true, true, true, true, true, true, true, true, true, true, true] rfl rfl (by kernel_rfl) (fun _ _ _ h => h) (Or.inl ⟨by rfl, ?_⟩) ?_ ?_
          rotate_left
          · intro w'
            go_simp
            with_reducible rfl
          rotate_left
          · simp only [Act.put, List.setIfInBounds_toArray, List.set_cons_zero, List.set_cons_succ, i64_w, i32_w]
            rfl
          refine done_ (by kernel_rfl) ?_
          go_wp2
          go_roundw
          case rel => exact ⟨1, xs, rfl, by omega, ⟨HX.out⟩, HO1_, HB1_⟩
          case measure => simp [intOf]; omega
        · obtain ⟨j, rfl⟩ := Nat.exists_eq_succ_of_ne_zero hi0
          obtain ⟨ad2, hA2, f0, f1, f2, f9⟩ := at_T29 (Kd.C_below HR.out HB1.out) (j : Int) (by omega) (by omega)
          injection hA2 with hA2
          subst hA2
          rw [Int.toNat_natCast, rdT29_seq] at f2
          clear f0 f1 f9
          have hjl : (j : Int) < (l0.length : Int) := by omega
          have hwj : IntKind.i64.wrap (j : Int) = (j : Int) := idx_wrap HMAX.out (by omega)
          have hwj2 : wrap64 ((j : Int) + 1 + 1) = (j : Int) + 1 + 1 := idx_wrap2 HMAX.out (by omega)
          clear e0 e1 e2 e3 e4 e5 e6 e7 e8
          have HB1_ := Aside0.mk (HB1.out.drew)
          have HO1_ := Aside0.mk (Kd.R_drew HO1.out)
          have BX_ := Aside0.mk ((show Box9 (wr.alloc (.cells #[.int .i64 q0, .int .i64 q1, .int .i64 (seqAt l0 (j + 1)), .int .i64 q3, .int .i64 q4, .int .i64 q5, .int .i64 q6, .int .i64 q7, .int .i64 q8] 29)).drew 29 wr.heap.size q0 q1 (seqAt l0 (j + 1)) q3 q4 q5 q6 q7 q8 from BX.out))
          clear HB1 HO1 BX
          refine start_ (n := 13) (S := fun w' => w'.cell? ⟨wr.heap.size, 2, none⟩ = some (.int .i64 (seqAt l0 (j + 1))) ∧ w'.cell? ⟨(ad.add (j * 9)).block, (ad.add (j * 9)).off + 2, none⟩ = some (.int .i64 (seqAt l0 j))) (ds := []) #[false, false, false, false, false, false, false, false, false, false, false, false, false] (by kernel_rfl) rfl rfl ⟨BX_.out.cells.2.2.1, f2⟩ (fun hHeld => ?_)
          generalize (wr.alloc (.cells #[.int .i64 q0, .int .i64 q1, .int .i64 (seqAt l0 (j + 1)), .int .i64 q3, .int .i64 q4, .int .i64 q5, .int .i64 q6, .int .i64 q7, .int .i64 q8] 29)).drew = w2 at HB1_ HO1_ BX_ hHeld ⊢
          refine pure_ (i := 0) (N := some 13) (v := ?_) (a' := ?_) #[true, false, false, false, false, false, false, false, false, false, false, false, false] rfl rfl (by kernel_rfl) (fun _ _ _ h => h) (Or.inl ⟨by rfl, ?_⟩) ?_ ?_
          rotate_left
          · intro w'
            go_simp
            with_reducible rfl
          rotate_left
          · simp only [Act.put, List.setIfInBounds_toArray, List.set_cons_zero, List.set_cons_succ, i64_w, i32_w]
            rfl
          refine pure_ (i := 1) (N := some 14) (v := ?_) (a' := ?_) #[true, true, false, false, false, false, false, false, false, false, false, false, false] rfl rfl (by kernel_rfl) (fun _ _ _ h => h) (Or.inl ⟨by rfl, ?_⟩) ?_ ?_
          rotate_left
          · intro w'
            go_simp
            with_reducible rfl
          rotate_left
          · simp only [Act.put, List.setIfInBounds_toArray, List.set_cons_zero, List.set_cons_succ, i64_w, i32_w]
            rfl
          refine pure_ (i := 2) (N := some 15) (v := ?_) (a' := ?_) #[true, true, true, false, false, false, false, false, false, false, false, false, false] rfl rfl (by kernel_rfl) (fun _ _ _ h => h) (Or.inl ⟨by rfl, ?_⟩) ?_ ?_
          rotate_left
          · intro w'
            go_simp
            with_reducible rfl
          rotate_left
          · simp only [Act.put, List.setIfInBounds_toArray, List.set_cons_zero, List.set_cons_succ, i64_w, i32_w]
            rfl
          refine pure_ (i := 3) (N := some 16) (v := ?_) (a' := ?_) #[true, true, true, true, false, false, false, false, false, false, false, false, false] rfl rfl (by kernel_rfl) (fun _ _ _ h => h) (Or.inl ⟨by rfl, ?_⟩) ?_ ?_
          rotate_left
          · intro w'
            go_simp
            with_reducible rfl
          rotate_left
          · simp only [Act.put, List.setIfInBounds_toArray, List.set_cons_zero, List.set_cons_succ, i64_w, i32_w]
            rfl
          refine take_ (i := 4) (N := some 17) (v := ?_) (a' := ?_) #[true, true, true, true, true, false, false, false, false, false, false, false, false] rfl rfl (by kernel_rfl) (fun _ _ _ h => h) (Or.inl ⟨by rfl, ?_⟩) hHeld ?_ ?_
          rotate_left
          · rintro w' ⟨s0, s1⟩
            go_simp
            with_reducible rfl
          rotate_left
          · simp only [Act.put, List.setIfInBounds_toArray, List.set_cons_zero, List.set_cons_succ, i64_w, i32_w]
            rfl
          refine pure_ (i := 5) (N := some 18) (v := ?_) (a' := ?_) #[true, true, true, true, true, true, false, false, false, false, false, false, false] rfl rfl (by kernel_rfl) (fun _ _ _ h => h) (Or.inl ⟨by rfl, ?_⟩) ?_ ?_
          rotate_left
          · intro w'
            go_simp
            with_reducible rfl
          rotate_left
          · simp only [Act.put, List.setIfInBounds_toArray, List.set_cons_zero, List.set_cons_succ, i64_w, i32_w]
            rfl
          refine pure_ (i := 6) (N := some 19) (v := ?_) (a' := ?_) #[true, true, true, true, true, true, true, false, false, false, false, false, false] rfl rfl (by kernel_rfl) (fun _ _ _ h => h) (Or.inl ⟨by rfl, ?_⟩) ?_ ?_
          rotate_left
          · intro w'
            go_simp
            with_reducible rfl
          rotate_left
          · simp only [Act.put, List.setIfInBounds_toArray, List.set_cons_zero, List.set_cons_succ, i64_w, i32_w]
            rfl
          refine pure_ (i := 7) (N := some 20) (v := ?_) (a' := ?_) #[true, true, true, true, true, true, true, true, false, false, false, false, false] rfl rfl (by kernel_rfl) (fun _ _ _ h => h) (Or.inl ⟨by rfl, ?_⟩) ?_ ?_
          rotate_left
          · intro w'
            go_simp
            with_reducible rfl
          rotate_left
          · simp only [Act.put, List.setIfInBounds_toArray, List.set_cons_zero, List.set_cons_succ, i64_w, i32_w]
            rfl
          refine pure_ (i := 8) (N := some 21) (v := ?_) (a' := ?_) #[true, true, true, true, true, true, true, true, true, false, false, false, false] rfl rfl (by kernel_rfl) (fun _ _ _ h => h) (Or.inl ⟨by rfl, ?_⟩) ?_ ?_
          rotate_left
          · intro w'
            go_simp
            try rw [if_pos ⟨Int.natCast_nonneg j, hjl⟩, Int.toNat_natCast]
            with_reducible rfl
          rotate_left
          · simp only [Act.put, List.setIfInBounds_toArray, List.set_cons_zero, List.set_cons_succ, i64_w, i32_w]
            rfl
          refine pure_ (i := 9) (N := some 22) (v := ?_) (a' := ?_) #[true, true, true, true, true, true, true, true, true, true, false, false, false] rfl rfl (by kernel_rfl) (fun _ _ _ h => h) (Or.inl ⟨by rfl, ?_⟩) ?_ ?_
          rotate_left
          · intro w'
            go_simp
            with_reducible rfl
          rotate_left
          · simp only [Act.put, List.setIfInBounds_toArray, List.set_cons_zero, List.set_cons_succ, i64_w, i32_w]
            rfl
          refine take_ (i := 10) (N := some 23) (v := ?_) (a' := ?_) #[true, true, true, true, true, true, true, true, true, true, true, false, false] rfl rfl (by kernel_rfl) (fun _ _ _ h => h) (Or.inl ⟨by rfl, ?_⟩) hHeld ?_ ?_
          rotate_left
          · rintro w' ⟨s0, s1⟩
            go_simp
            with_reducible rfl
          rotate_left
          · simp only [Act.put, List.setIfInBounds_toArray, List.set_cons_zero, List.set_cons_succ, i64_w, i32_w]
            rfl
          refine pure_ (i := 11) (N := some 24) (v := ?_) (a' := ?_) #[true, true, true, true, true, true, true, true, true, true, true, true, false] rfl rfl (by kernel_rfl) (fun _ _ _ h => h) (Or.inl ⟨by rfl, ?_⟩) ?_ ?_
          rotate_left
          · intro w'
            go_simp
            with_reducible rfl
          rotate_left
          · simp only [Act.put, List.setIfInBounds_toArray, List.set_cons_zero, List.set_cons_succ, i64_w, i32_w]
            rfl
          refine pure_ (i := 12) (N := some 25) (v := ?_) (a' := ?_) #[true, true, true, true, true, true, true, true, true, true, true, true, true] rfl rfl (by kernel_rfl) (fun _ _ _ h => h) (Or.inl ⟨by rfl, ?_⟩) ?_ ?_
          rotate_left
          · intro w'
            go_simp
            with_reducible rfl
          rotate_left
          · simp only [Act.put, List.setIfInBounds_toArray, List.set_cons_zero, List.set_cons_succ, i64_w, i32_w]
            rfl
          refine done_ (by kernel_rfl) ?_
          have ha := seqsB_at HS.out j (by omega)
          have hb := seqsB_at HS.out (j + 1) (by omega)
          have hgs : gapsUpto l0 (j + 1 + 1) = gapStep xs (seqAt l0 j) (seqAt l0 (j + 1)) := by rw [gapsUpto, if_neg (by omega), HX.out]; rfl
          have HGS := Aside0.mk hgs
          have hx100 : xs.length ≤ 100 := by rw [← HX.out]; exact gapsUpto_length l0 _
          have HX100 := Aside0.mk hx100
          clear hgs hx100
          obtain ⟨c2, c3⟩ := hHeld
          by_cases hle : seqAt l0 (j + 1) ≤ seqAt l0 j
          · have HLE := Aside0.mk hle
            clear ha hb
            go_wp2
            go_roundw
            case rel => exact ⟨j + 2, xs, (congrArg (Value.int .i64) (by omega)), by omega, ⟨by rw [HGS.out, gapStep, gapAdd_done _ _ _ _ (by have := HLE.out; omega)]⟩, HO1_, HB1_⟩
            case measure => exact meas_ HMAX.out (by omega)
          · have hlt2 : seqAt l0 j < seqAt l0 (j + 1) := by omega
            have ha1 : IntKind.i64.wrap (seqAt l0 j + 1) = seqAt l0 j + 1 := seq_wrap ha.1 hb.2 hlt2
            generalize hA : seqAt l0 j = a at *
            generalize hBB : seqAt l0 (j + 1) = b at *
            have HRNG := Aside0.mk (And.intro ha (And.intro hb hlt2))
            clear ha hb hlt2
            generalize hT : gapStep xs a b = T at HGS
            have HT := Aside0.mk hT
            have hdec : decide (b ≤ a) = false := decide_eq_false hle
            clear hT
            clear f2
            generalize wr.heap.size = gB at *
            go_wp2_with fail
            · exfalso
              rcases ‹_ ∨ _› with h | h
              · simp at h
                omega
              · exact hle h
            go_loopw [2, 5] (fun v2 v5 wq => ∃ (n : Int) (ys : List Int), v5 = .int .i64 n ∧ Aside0 (a + 1 ≤ n ∧ n ≤ b) ∧ Aside0 (ys.length ≤ 100 ∧ gapAdd (100 - ys.length) n b ys = T) ∧ Aside0 (Kd.R (Kd.int .i64) 2 wq w.heap.size (fun _ => True) v2 ys) ∧ Aside0 (Below w.heap.size w wq) ∧ Aside0 (Box9 wq 29 gB q0 q1 b q3 q4 q5 q6 q7 q8)) (fun _ v5 _ => (b - intOf v5).toNat)
            case atStart => exact ⟨a + 1, xs, rfl, ⟨by have := HRNG.out; omega⟩, ⟨⟨HX100.out, HT.out⟩⟩, HO1_, HB1_, BX_⟩
            case round =>
              obtain ⟨n, ys, rfl, HN, HY, HR2, HB2, HBX⟩ := hrel
              obtain ⟨A2, c2, rfl⟩ := Kd.R_slice HR2.out
              have cb := HBX.out.cells.2.2.1
              by_cases hnb : n < b
              · by_cases hfull : ys.length = 100
                · have HFULL := Aside0.mk hfull
                  have hfi : (ys.length : Int) = 100 := by omega
                  have hty : T = ys := by have h := HY.out.2; rw [hfull] at h; exact h.symm
                  have hr : ys = r := by
                    have h1 := HF.out
                    have h2 := gapsUpto_full l0 (j + 1 + 1) (l0.length - (j + 1 + 1)) (by rw [HGS.out, hty]; exact hfull)
                    rw [show j + 1 + 1 + (l0.length - (j + 1 + 1)) = l0.length by omega] at h2
                    rw [← h1, h2, HGS.out, hty]
                  have HRR := Aside0.mk hr
                  clear hty hr
                  go_wp2
                  rw [Exit.noGoto_ret]
                  go_ret
                  exact ⟨_, rfl, by rw [← HRR.out]; exact HR2.out, HB2.out⟩
                · have hy := HY.out.1
                  have hlen : (ys.length + 1) * 8 ≤ 140737488355328 := by omega
                  have hfi : ¬ (ys.length : Int) = 100 := by omega
                  have hwn : wrap64 (n + 1) = n + 1 := by rw [wrap64_eq]; have := HRNG.out; have := HN.out; omega
                  have HLEN := Aside0.mk hlen
                  have HWN := Aside0.mk hwn
                  clear hlen hy hwn
                  go_wp2_with (at_builtin; (refine Kd.R_append (Kd.int .i64) (w0 := w) w.heap.size rfl (.tmp 42) (.tmp 44) 25 2 (.int .i64 0) 8 rfl Try.underlying25 info2 rfl (by decide) (by decide) (.slice A2 ys.length c2) ys n [.int .i64 n] (fun _ => True) (fun _ => False) rfl rfl rfl (fun _ hk => hk.elim) (fun _ _ => trivial) HR2.out HB2.out HB2.out.size HLEN.out ?_; intro v3 w3 ho hb hg hat; have HR3 := Aside0.mk ho; have HB3 := Aside0.mk hb; have HBX3 : Aside0 (Box9 w3 29 gB q0 q1 b q3 q4 q5 q6 q7 q8) := ⟨(hg.block _ (blk_lt HBX.out) (fun e => Kd.R_ne HR2.out HBX.out (by decide) e)).trans HBX.out⟩; clear ho hb hg hat))
                  go_roundw
                  case rel => exact ⟨n + 1, ys ++ [n], (congrArg (Value.int .i64) HWN.out), ⟨by have := HN.out; omega⟩, ⟨by
                    have h1 := HY.out
                    refine ⟨by rw [List.length_append, List.length_singleton]; omega, ?_⟩
                    have h2 := h1.2
                    rw [show 100 - ys.length = (100 - (ys ++ [n]).length) + 1 by rw [List.length_append, List.length_singleton]; omega, gapAdd, if_pos hnb] at h2
                    exact h2⟩, HR3, HB3, HBX3⟩
                  case measure => exact meas2_ HWN.out hnb
              · have hnb2 : decide (n < b) = false := decide_eq_false hnb
                have hend : T = ys := by have h := HY.out.2; rw [gapAdd_done _ _ _ _ (by omega)] at h; exact h.symm
                have HE := Aside0.mk hend
                clear hend
                go_wp2
                go_roundw
                case rel => exact ⟨j + 2, ys, (congrArg (Value.int .i64) (by omega)), by omega, ⟨by rw [HGS.out, HE.out]⟩, HR2, HB2⟩
                case measure => exact meas_ HMAX.out (by omega)
      · have he : gapsUpto l0 l0.length = xs := by rw [← HX.out]; congr 1; omega
        have hr : xs = r := he.symm.trans HF.out
        subst hr
        have hlt2 : ¬ (i : Int) < (l0.length : Int) := by omega
        clear he
        go_wp2
        go_ret
        exact ⟨u2, rfl, HO.out, HB.out⟩
  · rw [if_neg hs] at h
    cases h
end Go.Proofs.Ytalpemoodollpaa.P
